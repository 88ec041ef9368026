/-
  Texts joined: C7Q, C7R, C7S. Conditions: each theorem's own.
-/
import Derived.Test.YtfbdocfhgjfboaaK5
/-
  Chapter 16: the law CodeStarts holds. Conditions: each theorem's own.
-/
namespace Go.Proofs.Ytfbdocfhgjfboaa
open Go Go.RowKit
set_option linter.unusedVariables false
set_option linter.unusedSimpArgs false
set_option maxRecDepth 100000
theorem most_eq {l : List Int} (h : chk l = 0) : mostI l = gmx l := by unfold mostI; rw [h]; rfl
theorem shr_eq {d a : Int} (h0 : 0 ≤ d) (h1 : d ≤ 60) : a.fdiv (2 ^ min (IntKind.wrap IntKind.u64 (IntKind.wrap IntKind.i64 d)).toNat (IntKind.bits IntKind.i64)) = a / ((2 ^ d.toNat : Nat) : Int) := by
  rw [wr (n := d) (by omega) (by omega), wru h0 (by omega), b64, Nat.min_eq_left (by omega), fdivp (Int.le_of_lt (pow_pos' _)), ← pow_cast]
theorem starts_apart {l : List Int} (hg : Good l) {i j : Nat} (hi : i < (ordS l).length) (hj : j < (ordS l).length) (hij : i ≠ j) :
    (bI l j < bI l i → ((aI l i / wI l i : Nat) : Int) / ((2 ^ (bI l i - bI l j).toNat : Nat) : Int) ≠ ((aI l j / wI l j : Nat) : Int)) ∧
    (bI l j = bI l i → ((aI l j / wI l j : Nat) : Int) ≠ ((aI l i / wI l i : Nat) : Int)) := by
  obtain ⟨qi, hqi⟩ := aI_dvd hg hi
  obtain ⟨qj, hqj⟩ := aI_dvd hg hj
  have hwi : 0 < wI l i := wid_pos _ _
  have hwj : 0 < wI l j := wid_pos _ _
  have bi := bI_bd hg hi
  have bj := bI_bd hg hj
  have di : aI l i / wI l i = qi := by rw [hqi]; exact Nat.mul_div_cancel_left _ hwi
  have dj : aI l j / wI l j = qj := by rw [hqj]; exact Nat.mul_div_cancel_left _ hwj
  refine ⟨fun hlt he => ?_, fun heq he => ?_⟩
  · rw [← Int.natCast_ediv, Nat.div_div_eq_div_mul, dj] at he
    have hw : wI l i * 2 ^ (bI l i - bI l j).toNat = wI l j := by
      rw [wI_eq hi, wI_eq hj, ← Nat.pow_add]
      congr 1
      omega
    rw [hw] at he
    have he' : aI l i / wI l j = qj := by exact_mod_cast he
    have h1 := Nat.div_mul_le_self (aI l i) (wI l j)
    have h2 := Nat.lt_div_mul_add (a := aI l i) hwj
    rw [he', Nat.mul_comm] at h1 h2
    exact hij (place_uniq hi hj (c := aI l i) (Nat.le_refl _) (by omega) (by omega) (by omega))
  · rw [di, dj] at he
    have he' : qj = qi := by exact_mod_cast he
    have hw : wI l j = wI l i := by rw [wI_eq hi, wI_eq hj, heq]
    have : aI l j = aI l i := by rw [hqi, hqj, he', hw]
    exact hij (place_uniq hi hj (c := aI l i) (Nat.le_refl _) (by omega) (by omega) (by omega))
theorem lawSt7_v (nums : List Int) (cell : Int) : lawSt7_t nums cell := by
  unfold lawSt7_t
  obtain ⟨hc, _, h40⟩ := lensN_ok nums
  generalize lensN nums = L at hc h40 ⊢
  have hg := good hc
  have hml := most_eq hc
  have m0 := hg.m0
  have m1 := hg.m1
  have hcl := codL_len L
  have htl := tblL_len hg
  have hbig := hg.big
  have hpos : 0 < 2 ^ (gmx L).toNat := Nat.pow_pos (by omega)
  have hcell := md_bd (x := cell) (m := ((tblL L).length : Int)) (by omega)
  obtain ⟨i, hi, hi1, hi2, hic⟩ := cell_at hg (c := (md cell (tblL L).length).toNat) (by omega)
  obtain ⟨hs1, hs2, hs3⟩ := sym_eq hi
  have hb := bI_bd hg hi
  have hat := codL_at hi
  have hwi := wI_eq hi
  refine ⟨fun _ => ⟨by omega, by omega, fun _ => ⟨by omega, fun h => by simp at h, fun _ => ⟨fun h => by rw [hc] at h; simp at h, fun _ => ⟨fun h => by simp at h, fun _ => ⟨fun h => by rw [hcl] at h; simp at h, fun _ => ⟨fun h => ?_, fun _ => ⟨fun h => ?_, fun _ => ⟨?_, fun h => ?_, fun _ => ⟨?_, (i, (md cell (tblL L).length).toNat), ⟨hcell.1, hcell.2, by omega, (), ⟨hi, hi1, hi2⟩, rfl, by show _ = (((md cell (tblL L).length).toNat : Nat) : Int); omega, ?_, rfl, rfl⟩, fun _ ⟨_, _, _⟩ => ?_⟩⟩⟩⟩⟩⟩⟩⟩, fun hn => absurd hc hn⟩, fun hn => absurd hc hn⟩
  · rw [hml] at h; simp only [decide_eq_true_eq] at h; omega
  · rw [hml] at h; simp only [gt_iff_lt, decide_eq_true_eq] at h; omega
  · rw [hml, wru (by omega) (by omega)]; omega
  · exfalso
    rw [hml, wru (by omega) (by omega), shl1 (by omega) (by omega), htl, pow_cast] at h
    simp at h
  · omega
  · rw [hic]; rfl
  · dsimp only
    generalize (md cell (tblL L).length).toNat = c at *
    have hc2 : (c : Int) < (tblL L).length := by
      have := aI_mono (l := L) hi (Nat.le_refl _)
      rw [aI_end hg] at this
      omega
    simp only [toNat_cast, hcl, hat, hic, List.getD_cons_zero, List.getD_cons_succ, hml]
    refine ⟨fun h => ?_, fun _ => ⟨fun h => ?_, fun _ => ⟨by omega, by omega, by omega, fun h => ?_, fun _ => ⟨by omega, by omega, by omega, fun h => ?_, fun _ => ⟨by omega, by omega, by omega, by omega, by omega, by omega, fun h => ?_, fun _ => ⟨by omega, by omega, by omega, ?_, by omega, by omega, by omega, fun h => ?_, fun _ => ⟨i, ⟨0, ⟨hi, Nat.zero_le _⟩, by trivial, by trivial, by trivial⟩, fun k ⟨_, hk⟩ => ?_⟩⟩⟩⟩⟩⟩⟩
    · simp only [decide_eq_true_eq] at h; omega
    · simp only [ge_iff_le, decide_eq_true_eq] at h; omega
    · simp only [decide_eq_true_eq] at h; omega
    · simp only [gt_iff_lt, decide_eq_true_eq] at h; omega
    · simp at h
    · rw [wr (by omega) (by omega), wru (by omega) (by omega)]; omega
    · exfalso
      rw [shr_eq (by omega) (by omega), ← hwi] at h
      have e : ((c : Int) / (wI L i : Int)) = ((aI L i / wI L i : Nat) : Int) := by
        rw [← Int.natCast_ediv]
        congr 1
        obtain ⟨q, hq⟩ := aI_dvd hg hi
        have hw : 0 < wI L i := wid_pos _ _
        rw [hq, Nat.mul_div_cancel_left _ hw]
        refine Nat.div_eq_of_lt_le ?_ ?_
        · rw [Nat.mul_comm]; omega
        · rw [Nat.add_mul, Nat.one_mul, Nat.mul_comm]; omega
      rw [e] at h
      simp at h
    · refine ⟨fun hlt => ?_, fun _ => by trivial⟩
      simp only [decide_eq_true_eq] at hlt
      have hk' : k < L.length := by omega
      have step : ∃ y : Nat, (i < nI L ∧ y ≤ L.length) ∧ Nat.sub L.length y < Nat.sub L.length k ∧ True ∧ IntKind.wrap IntKind.i64 ((k : Int) + 1) = (y : Int) ∧ True :=
        ⟨k + 1, ⟨hi, by omega⟩, by show L.length - (k + 1) < L.length - k; omega, by trivial, by rw [wr (by omega) (by omega)]; simp, by trivial⟩
      refine ⟨fun he => step, fun hne => ⟨by omega, by omega, by omega, fun h0 => step, fun h0 => ?_⟩⟩
      by_cases hp : 0 < L.getD k 0
      · obtain ⟨j, hj, hje⟩ := ord_has hk' hp
        have hij : i ≠ j := fun e => by
          rw [e, hje] at hne
          simp at hne
        obtain ⟨e1, e2⟩ := starts_apart hg hi hj hij
        have hbj := bI_bd hg hj
        have haj := codL_at hj
        rw [hje] at haj
        simp only [toNat_cast, haj, hat, List.getD_cons_zero, List.getD_cons_succ]
        refine ⟨by omega, by omega, by omega, by omega, by omega, by omega, fun hl => ?_, fun hl => ?_⟩
        · simp only [decide_eq_true_eq] at hl
          rw [shr_eq (by omega) (by omega)]
          refine ⟨by omega, by omega, by omega, by omega, by omega, by omega, by omega, by omega, by omega, ?_, by omega, by omega, by omega, fun h => ?_, fun _ => ⟨by omega, by omega, by omega, by omega, by omega, by omega, fun h => ?_, fun _ => step⟩⟩
          · rw [wr (by omega) (by omega), wru (by omega) (by omega)]; omega
          · exact absurd (eq_of_beq h) (e1 hl)
          · simp only [beq_iff_eq] at h; omega
        · refine ⟨by omega, by omega, by omega, by omega, by omega, by omega, fun h => ⟨by omega, by omega, by omega, by omega, by omega, by omega, fun h2 => ?_, fun _ => step⟩, fun _ => step⟩
          exact absurd (eq_of_beq h2) (e2 (eq_of_beq h))
      · rw [codL_none hk' hp] at h0
        simp at h0
end Go.Proofs.Ytfbdocfhgjfboaa
/-
  Chapter 16: the law CodeCells holds. Conditions: each theorem's own.
-/
namespace Go.Proofs.Ytfbdocfhgjfboaa
open Go Go.RowKit
set_option linter.unusedVariables false
set_option linter.unusedSimpArgs false
set_option maxRecDepth 100000
theorem shl_eq {d : Int} (h0 : 0 ≤ d) (h1 : d ≤ 60) : IntKind.wrap IntKind.i64 ((1 : Int) * (2 : Int) ^ min (IntKind.wrap IntKind.u64 (IntKind.wrap IntKind.i64 d)).toNat (IntKind.bits IntKind.i64)) = ((2 ^ d.toNat : Nat) : Int) := by
  rw [wr (n := d) (by omega) (by omega), wru h0 (by omega), shl1 h0 (by omega), pow_cast]
theorem lawCe7_v (nums : List Int) : lawCe7_t nums := by
  unfold lawCe7_t
  obtain ⟨hc, _, h40⟩ := lensN_ok nums
  generalize lensN nums = L at hc h40 ⊢
  have hg := good hc
  have hml := most_eq hc
  have m0 := hg.m0
  have m1 := hg.m1
  have hcl := codL_len L
  have htl := tblL_len hg
  have hbig := hg.big
  have hend := aI_end hg
  have hn : nI L = (ordS L).length := rfl
  refine ⟨fun _ => ⟨by omega, fun _ => ⟨by omega, by omega, fun h => by simp at h, fun _ => ⟨fun h => by simp at h, fun _ => ⟨fun h => by rw [hc] at h; simp at h, fun _ => ⟨fun h => by rw [hcl] at h; simp at h, fun _ => ⟨fun h => ?_, fun _ => ⟨fun h => ?_, fun _ => ⟨⟨0, by rw [nle]; omega, rfl, rfl, rfl, rfl, rfl⟩, fun r hr => ⟨fun hlt => ?_, fun _ => rfl⟩⟩⟩⟩⟩⟩⟩⟩, fun hn => absurd hc hn⟩, fun hn => absurd hc hn⟩
  · rw [hml] at h; simp only [decide_eq_true_eq] at h; omega
  · rw [hml] at h; simp only [gt_iff_lt, decide_eq_true_eq] at h; omega
  · rw [nle] at hr
    simp only [decide_eq_true_eq] at hlt
    have hr' : r < (ordS L).length := by
      rcases Nat.lt_or_ge r (ordS L).length with h | h
      · exact h
      · have : r = (ordS L).length := by omega
        rw [this] at hlt
        omega
    obtain ⟨hs1, hs2, hs3⟩ := sym_eq hr'
    have hb := bI_bd hg hr'
    have hat := codL_at hr'
    have hwi := wI_eq hr'
    have hwp : 0 < wI L r := wid_pos _ _
    have hsu := aI_succ hr'
    have hmo := aI_mono (l := L) hr' (Nat.le_refl _)
    have hce : ∀ k, k < wI L r → (tblL L).getD (aI L r + k) [] = [(kI L r : Int), bI L r, 0] := fun k hk => cell_of hg hr' (by omega) (by omega)
    have hce0 := hce 0 hwp
    rw [Nat.add_zero] at hce0
    have hbe : L.getD (kI L r) 0 = bI L r := rfl
    refine ⟨r, ⟨by omega, by omega, by omega, (), by rw [nle]; omega, rfl, rfl, by rw [toNat_cast, hce0]; rfl, rfl, rfl, rfl⟩, fun _ _ => ?_⟩
    simp only [toNat_cast, hce0, hbe, List.getD_cons_zero, List.getD_cons_succ, hml]
    refine ⟨fun h => ?_, fun _ => ⟨fun h => ?_, fun _ => ⟨by omega, by omega, by omega, fun h => ?_, fun _ => ⟨by omega, by omega, by omega, fun h => ?_, fun _ => ⟨by omega, by omega, by omega, fun h => by simp at h, fun _ => ⟨by omega, by omega, by omega, ?_, r, ⟨0, ⟨by omega, Nat.zero_le _⟩, by trivial, by trivial, by trivial, ?_, by trivial, by trivial, by trivial, by trivial⟩, fun k ⟨_, hk⟩ => ⟨fun hlt2 => ?_, fun hge2 => ?_⟩⟩⟩⟩⟩⟩⟩
    · simp only [decide_eq_true_eq] at h; omega
    · simp only [ge_iff_le, decide_eq_true_eq] at h; omega
    · simp only [decide_eq_true_eq] at h; omega
    · simp only [gt_iff_lt, decide_eq_true_eq] at h; omega
    · rw [wr (by omega) (by omega), wru (by omega) (by omega)]; omega
    · rw [shl_eq (by omega) (by omega), hwi]
    · simp only [decide_eq_true_eq] at hlt2
      have hk' : k < wI L r := by omega
      have e : IntKind.wrap IntKind.i64 ((aI L r : Int) + (k : Int)) = ((aI L r + k : Nat) : Int) := by rw [wr (by omega) (by omega)]; simp
      simp only [e, toNat_cast, hce k hk', hce0, List.getD_cons_zero, List.getD_cons_succ]
      refine ⟨fun h => ?_, fun _ => ⟨by omega, by omega, by omega, by omega, by omega, by omega, fun h => by simp at h, fun _ => ⟨k + 1, ⟨by omega, by omega⟩, by show wI L r - (k + 1) < wI L r - k; omega, by trivial, by trivial, by trivial, by trivial, by rw [wr (by omega) (by omega)]; simp, by trivial, by trivial, by trivial⟩⟩⟩
      simp only [ge_iff_le, decide_eq_true_eq] at h
      omega
    · have e : IntKind.wrap IntKind.i64 ((aI L r : Int) + (wI L r : Int)) = (aI L (r + 1) : Int) := by rw [wr (by omega) (by omega), hsu]; simp
      simp only [e, toNat_cast]
      refine ⟨fun hlt3 => ?_, fun _ => ⟨r + 1, by rw [nle]; omega, by show nI L - (r + 1) < nI L - r; omega, by trivial, by trivial, by trivial, by trivial, by trivial⟩⟩
      simp only [decide_eq_true_eq] at hlt3
      have hr2 : r + 1 < (ordS L).length := by
        rcases Nat.lt_or_ge (r + 1) (ordS L).length with h | h
        · exact h
        · have : r + 1 = (ordS L).length := by omega
          rw [this] at hlt3
          omega
      obtain ⟨hs1', hs2', hs3'⟩ := sym_eq hr2
      have hb' := bI_bd hg hr2
      have hat' := codL_at hr2
      have hcmp := ord_cmp (l := L) (show r < r + 1 by omega) hr2
      have hwp' : 0 < wI L (r + 1) := wid_pos _ _
      have hce' := cell_of hg hr2 (c := aI L (r + 1)) (Nat.le_refl _) (by omega)
      have hbe' : L.getD (kI L (r + 1)) 0 = bI L (r + 1) := rfl
      have step : ∃ y : Nat, Nat.le y (nI L) ∧ Nat.sub (nI L) y < Nat.sub (nI L) r ∧ True ∧ ((aI L (r + 1) : Nat) : Int) = ((aI L y : Nat) : Int) ∧ True ∧ True ∧ True :=
        ⟨r + 1, by rw [nle]; omega, by show nI L - (r + 1) < nI L - r; omega, by trivial, by trivial, by trivial, by trivial, by trivial⟩
      refine ⟨r, ⟨by omega, by omega, by omega, (), by rw [nle]; omega, by trivial, by trivial, by trivial, ?_, by trivial, by trivial, by trivial⟩, fun _ _ => ?_⟩
      · rw [hce']; rfl
      · simp only [toNat_cast, hbe, hbe', hat, hat', hcl, List.getD_cons_zero, List.getD_cons_succ]
        refine ⟨fun h => ?_, fun _ => ⟨fun h => ?_, fun _ => ⟨by omega, by omega, by omega, by omega, by omega, by omega, fun h => ?_, fun _ => ⟨by omega, by omega, by omega, by omega, by omega, by omega, fun h => ⟨fun h2 => ?_, fun _ => ⟨by omega, by omega, by omega, by omega, by omega, by omega, fun h2 => ?_, fun _ => step⟩⟩, fun _ => step⟩⟩⟩⟩
        · simp only [decide_eq_true_eq] at h; omega
        · simp only [ge_iff_le, decide_eq_true_eq] at h; omega
        · simp only [gt_iff_lt, decide_eq_true_eq] at h; omega
        · have h := eq_of_beq h
          simp only [decide_eq_true_eq] at h2
          omega
        · exfalso
          have h := eq_of_beq h
          have hw : wI L (r + 1) = wI L r := by rw [wI_eq hr2, wI_eq hr', h]
          rw [hw, hsu, Nat.add_div_right _ hwp] at h2
          have hd := Nat.div_le_self (aI L r) (wI L r)
          generalize aI L r / wI L r = q at h2 hd
          rw [wr (by omega) (by omega)] at h2
          simp at h2
end Go.Proofs.Ytfbdocfhgjfboaa
/-
  Chapter 16: the laws CodeStarts, CodeCells, CodeAdds hold. Conditions: each theorem's own.
-/
namespace Go.Proofs.Ytfbdocfhgjfboaa
open Go Go.RowKit
set_option linter.unusedVariables false
set_option linter.unusedSimpArgs false
set_option maxRecDepth 100000
theorem G7g_ok : AllOk Try.prog G7g := .cons lens7_sound <| .cons md7_sound <| .cons at7_sound G6l_ok
theorem starts7_any (A : Option Addr) (n cap : Nat) (zs : List Int) (v : Int) (W : World) (hI : IntsIn W A n cap zs) (hv : InR v) :
    Calls Try.prog 3 #[.slice A n cap, .int .i64 v] W fun e w' => e = .returned (.bool true) ∧ Below W.heap.size W w' := by
  refine law_true (us := [.slice A n cap, .int .i64 v]) (satG G7g_ok mixed Try.func3 (lawSt7_e (zs.take n) v) (lawSt7_v _ v)) (.inr rfl) ?_
  simp only [Reps]
  exact ⟨_, _, rfl, dat_ints hI, _, _, rfl, rfl, rfl⟩
theorem cells7_any (A : Option Addr) (n cap : Nat) (zs : List Int) (W : World) (hI : IntsIn W A n cap zs) :
    Calls Try.prog 4 #[.slice A n cap] W fun e w' => e = .returned (.bool true) ∧ Below W.heap.size W w' := by
  refine law_true (us := [.slice A n cap]) (satG G7g_ok mixed Try.func4 (lawCe7_e (zs.take n)) (lawCe7_v _)) (.inr rfl) ?_
  simp only [Reps]
  exact ⟨_, _, rfl, dat_ints hI, rfl⟩
theorem adds7_any (A : Option Addr) (n cap : Nat) (zs : List Int) (A2 : Option Addr) (n2 cap2 : Nat) (zs2 : List Int) (A3 : Option Addr) (n3 cap3 : Nat) (zs3 : List Int) (W : World) (hI : IntsIn W A n cap zs) (hI2 : IntsIn W A2 n2 cap2 zs2) (hI3 : IntsIn W A3 n3 cap3 zs3) :
    Calls Try.prog 7 #[.slice A n cap, .slice A2 n2 cap2, .slice A3 n3 cap3] W fun e w' => e = .returned (.bool true) ∧ Below W.heap.size W w' := by
  refine law_true (us := [.slice A n cap, .slice A2 n2 cap2, .slice A3 n3 cap3]) (satG G7g_ok mixed Try.func7 (lawAd7_e (zs.take n) (zs2.take n2) (zs3.take n3)) (lawAd7_v _ _ _)) (.inr rfl) ?_
  simp only [Reps]
  exact ⟨_, _, rfl, dat_ints hI, _, _, rfl, dat_ints hI2, _, _, rfl, dat_ints hI3, rfl⟩
end Go.Proofs.Ytfbdocfhgjfboaa

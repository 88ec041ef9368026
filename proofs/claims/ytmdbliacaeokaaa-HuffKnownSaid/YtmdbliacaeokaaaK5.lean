/-
  Texts joined: UC, UD, UE, UJf, UK, UJ, UJt, UL, UM, UNf, UN, UNt, UO, UP, UQ. Conditions: each theorem's own.
-/
import Derived.Test.YtmdbliacaeokaaaK4
import Derived.Test.YtmdbliacaeokaaaK3
import Derived.Test.YtmdbliacaeokaaaK1
namespace Go.Proofs.Ytmdbliacaeokaaa
open Go Go.RowKit
set_option linter.unusedVariables false
set_option linter.unusedSimpArgs false
set_option maxRecDepth 100000
theorem look_app {c : Ctr} : ∀ (A B : List (Nat × Ctr)) (f : Nat), lookupL (A ++ B) f = some c → lookupL A f = some c ∨ lookupL B f = some c
  | [], _, _, h => .inr h
  | (i, y) :: r, B, f, h => by
    simp only [List.cons_append, lookupL] at h ⊢
    cases hb : Nat.beq f i
    · rw [hb] at h; exact look_app r B f h
    · rw [hb] at h; exact .inl h
theorem all_app {P : Program} {A B : List (Nat × Ctr)} (hA : AllOk P A) (hB : AllOk P B) : AllOk P (A ++ B) := fun f c h => (look_app A B f h).elim (hA f c) (hB f c)
theorem mapB (s : ByteArray) : List.map (fun (b : UInt8) => (↑(UInt8.toNat b) : Int)) s.data.toList = bytesN s := rfl
theorem byte_at {s : ByteArray} {i : Nat} (h : i < s.size) : (bytesN s).getD i 0 = byI s i ∧ 0 ≤ byI s i ∧ byI s i < 256 := by
  have hr := byI_rng s i
  refine ⟨?_, hr.1, hr.2⟩
  unfold byI bytesN
  have hl : i < s.data.toList.length := h
  rw [List.getD_eq_getElem?_getD, List.getD_eq_getElem?_getD, List.getElem?_map, List.getElem?_eq_getElem hl]
  rfl
theorem any_snoc {f : Int → Bool} {l : List Int} {i : Nat} (h : i < l.length) : (l.take (i + 1)).any f = ((l.take i).any f || f (l.getD i 0)) := by
  rw [take_succ l 0 h, List.any_append]
  simp
theorem any_here {f : Int → Bool} {l : List Int} {i : Nat} (h : i < l.length) (hf : f (l.getD i 0) = true) : l.any f = true := List.any_eq_true.2 ⟨_, getD_mem' h, hf⟩
theorem noC_big {l : List Int} {x : Int} (h : (l.length : Int) ≤ x) : noC l x = true := by unfold noC; rw [decide_eq_true h]; rfl
theorem noC_zero {l : List Int} {x : Int} (h : l.getD x.toNat 0 = 0) : noC l x = true := by
  unfold noC
  rw [h]
  simp
theorem noC_not {l : List Int} {x : Int} (h : ¬ (l.length : Int) ≤ x) (h2 : l.getD x.toNat 0 ≠ 0) : noC l x = false := by
  unfold noC
  rw [decide_eq_false h, beq_eq_false_iff_ne.2 h2]
  rfl
theorem tx_err {l : List Int} {s : ByteArray} (h : lchk l ≠ 0) : txE l s = lchk l := by
  unfold txE
  rw [beq_eq_false_iff_ne.2 h]
  rfl
theorem tx_long {l : List Int} {s : ByteArray} (h : lchk l = 0) (h2 : 131072 < s.size) : txE l s = 4 := by
  unfold txE
  rw [h, decide_eq_true h2]
  rfl
theorem tx_any {l : List Int} {s : ByteArray} (h : lchk l = 0) (h2 : ¬ 131072 < s.size) : txE l s = cond ((bytesN s).any (noC l)) 7 0 := by
  unfold txE
  rw [h, decide_eq_false h2]
  rfl
theorem txU_v (l : List Int) (s : ByteArray) (h0 : l.length ≤ 4294967296) (h1 : s.size ≤ 4294967296) : txU_t l s := by
  unfold txU_t
  rw [mapB]
  have hl := bytes_len s
  simp only [gt_iff_lt, ge_iff_le, decide_eq_true_eq, decide_eq_false_iff_not]
  refine ⟨h0, fun h => (tx_err (nz h)).symm, fun h => ⟨fun h2 => (tx_long (eq0 h) (by omega)).symm, fun h2 => ⟨by omega, ⟨0, ⟨by omega, eq0 h, by omega, rfl⟩, (by first | rfl | trivial), (by first | rfl | trivial), (by first | rfl | trivial), (by first | rfl | trivial)⟩, fun i ⟨hi, hc, hs, hal⟩ => ⟨fun hlt => ?_, fun hge => ?_⟩⟩⟩⟩
  · have hi' : i < (bytesN s).length := by omega
    obtain ⟨b1, b2, b3⟩ := byte_at (s := s) (i := i) (by omega)
    simp only [toNat_cast]
    have bad : noC l ((bytesN s).getD i 0) = true → 7 = txE l s := fun hb => by
      rw [tx_any hc (by omega), any_here hi' hb]; rfl
    rw [wr (n := (bytesN s).getD i 0) (by omega) (by omega)]
    refine ⟨by omega, by omega, hi', fun h3 => bad (noC_big h3), fun h3 => ⟨by omega, by omega, fun h4 => bad (noC_zero (by simpa using h4)), fun h4 => ⟨i + 1, ⟨by omega, hc, hs, ?_⟩, by show s.size - (i + 1) < s.size - i; omega, (by first | rfl | trivial), (by first | rfl | trivial), by rw [wr (by omega) (by omega)]; push_cast; rfl, (by first | rfl | trivial)⟩⟩⟩
    rw [any_snoc hi', hal, noC_not h3 (by simpa using h4)]
    rfl
  · rw [tx_any hc (by omega)]
    rw [List.take_of_length_le (by omega)] at hal
    rw [hal]
    rfl
theorem tx_ok {l : List Int} {s : ByteArray} (h : txE l s = 0) : chk l = 0 ∧ lchk l = 0 ∧ s.size ≤ 131072 ∧ txOk l s := by
  by_cases h1 : lchk l = 0
  · by_cases h2 : 131072 < s.size
    · rw [tx_long h1 h2] at h; cases h
    · rw [tx_any h1 h2] at h
      cases h3 : (bytesN s).any (noC l)
      · have hg := good (lchk_0 h1)
        refine ⟨lchk_0 h1, h1, by omega, fun x hx => ?_⟩
        have hr := bytesN_rng s x hx
        have hn := List.any_eq_false.1 h3 x hx
        have hn' : noC l x = false := by simpa using hn
        unfold noC at hn'
        rw [Bool.or_eq_false_iff] at hn'
        have e1 : ¬ (l.length : Int) ≤ x := by simpa using hn'.1
        have e2 : l.getD x.toNat 0 ≠ 0 := by simpa using hn'.2
        have e3 := hg.lens _ (getD_mem' (show x.toNat < l.length by omega))
        exact ⟨hr.1, by omega, by omega⟩
      · rw [h3] at h; cases h
  · rw [tx_err h1] at h
    exact absurd h h1
theorem ok_tx {l : List Int} {s : ByteArray} (h : lchk l = 0) (hs : s.size ≤ 131072) (ht : txOk l s) : txE l s = 0 := by
  rw [tx_any h (by omega)]
  have : (bytesN s).any (noC l) = false := by
    rw [List.any_eq_false]
    intro x hx
    obtain ⟨a, b, c⟩ := ht x hx
    rw [noC_not (by omega) (by omega)]
    simp
  rw [this]
  rfl
theorem codL_len (l : List Int) : (codL l).length = l.length := by unfold codL; rw [codF_len]; simp
theorem cdRow {l : List Int} {i : Nat} : ((codL l).getD i []).getD 0 0 = hB l i ∧ ((codL l).getD i []).getD 1 0 = hV l i := ⟨rfl, rfl⟩
theorem tabsU_v (l : List Int) (hc : chk l = 0) : tabsU_t l := by
  unfold tabsU_t
  have hg := good hc
  have hL := hg.len
  refine ⟨fun _ => ⟨by omega, ⟨0, Nat.zero_le _, (by first | rfl | trivial), (by first | rfl | trivial), fun _ => rfl, fun _ => rfl, (by first | rfl | trivial)⟩, fun i hi => ⟨fun hlt => ?_, fun hge => ?_⟩⟩, fun hn => absurd hc hn⟩
  · rw [nle] at hi
    rw [codL_len] at hlt ⊢
    simp only [gt_iff_lt, decide_eq_true_eq, decide_eq_false_iff_not, toNat_cast] at hlt ⊢
    rw [(cdRow (l := l) (i := i)).1, (cdRow (l := l) (i := i)).2]
    have e8 : IntKind.wrap IntKind.u8 (i : Int) = (i : Int) := by rw [wrap8]; omega
    rw [e8]
    refine ⟨by omega, by omega, by omega, fun hp => ⟨i + 1, by rw [nle]; omega, by show l.length - (i + 1) < l.length - i; omega, (by first | rfl | trivial), by rw [wr (by omega) (by omega)]; push_cast; rfl, fun q => ?_, fun q => ?_, (by first | rfl | trivial)⟩, fun hp => ⟨i + 1, by rw [nle]; omega, by show l.length - (i + 1) < l.length - i; omega, (by first | rfl | trivial), by rw [wr (by omega) (by omega)]; push_cast; rfl, fun q => ?_, fun q => ?_, (by first | rfl | trivial)⟩⟩
    · show _ = mget (cond (decide (0 < hB l i)) (([(i : Int)], [hB l i, hV l i]) :: mC l i) (mC l i)) q
      rw [decide_eq_true hp]; rfl
    · show _ = mget (cond (decide (0 < hB l i)) (([hB l i, hV l i], [(i : Int)]) :: mB l i) (mB l i)) q
      rw [decide_eq_true hp]; rfl
    · show _ = mget (cond (decide (0 < hB l i)) (([(i : Int)], [hB l i, hV l i]) :: mC l i) (mC l i)) q
      rw [decide_eq_false hp]; rfl
    · show _ = mget (cond (decide (0 < hB l i)) (([hB l i, hV l i], [(i : Int)]) :: mB l i) (mB l i)) q
      rw [decide_eq_false hp]; rfl
  · rw [nle] at hi
    rw [codL_len] at hge
    have : i = l.length := by
      have : ¬ ((i : Int) < l.length) := by simpa using hge
      omega
    subst this
    exact ⟨fun _ => rfl, fun _ => rfl⟩
theorem bkuU_v (xs : List Int) : bkuU_t xs := rfl
theorem itBkU_len (l : List Int) : (itBkU l).length = l.length := by unfold itBkU; rw [List.length_map, List.length_range]
theorem itBkU_at {l : List Int} {k : Nat} (h : k < l.length) : (itBkU l)[k]? = some [.int .i64 (nthI l k : Nat), .int .u8 (nthS l k)] := by
  unfold itBkU
  rw [List.getElem?_map, List.getElem?_range h]
  rfl
theorem bkuI_v (l : List Int) (h0 : l.length ≤ 4294967296) (l0 : Nat) : bkuI_t l l0 := by
  unfold bkuI_t
  refine ⟨(), 0, Nat.zero_le _, rfl, ⟨(by first | rfl | trivial), by rw [wr (by omega) (by omega)]; simp, (by first | rfl | trivial)⟩, fun k hk => ⟨fun hlt => ?_, fun hge => ?_⟩⟩
  · have hlt : (l.length : Int) - 1 - k ≥ 0 := by simpa using hlt
    have e1 : ((l.length : Int) - 1 - k).toNat = nthI l k := by unfold nthI; omega
    have e2 : (l.length : Int) - 1 - k = (nthI l k : Nat) := by unfold nthI; omega
    rw [nle] at hk
    refine ⟨by omega, by omega, by omega, (by first | rfl | trivial), ?_, ⟨k + 1, by rw [nle]; omega, rfl, by rw [Nat.sub_eq, Nat.sub_eq]; omega, (by first | rfl | trivial), ?_, (by first | rfl | trivial)⟩, trivial⟩
    · rw [e1, e2]
      exact itBkU_at (by omega)
    · rw [wr (by omega) (by omega)]; push_cast; omega
  · have hge : ¬ (l.length : Int) - 1 - k ≥ 0 := by simpa using hge
    rw [nle] at hk
    rw [itBkU_len]
    omega
theorem bku_isat (l : List Int) (h0 : l.length ≤ 4294967296) : ISat Try.prog 77 [.p 400016 0 0] [(400016, .cells 46 [.o 400008]), (400008, .row 5 (.ints .u8 l))] (itBkU l) := by
  have h0 : ISat Try.prog 77 [.p 0 0 0] [(0, .cells 46 [.o 1]), (1, .row 5 (.ints .u8 l))] (itBkU l) :=
    isat_of_vcI (Ωi := fun l0 => oBkuF l0 l) AllOk.nil mixed Try.func77 (by kernel_rfl) fun l0 => by
      have := bkuI_v l h0 l0
      rw [bkuI_e] at this
      exact this
  exact h0.ren (fun i => 400016 - 8 * i) (by
    intro a b ha hb e
    simp at ha hb
    rcases ha with rfl | rfl <;> rcases hb with rfl | rfl <;> simp_all) rfl rfl
theorem mval_C {l : List Int} (hg : Good l) {x : Int} (h : codd l x) : mval 2 (mC l l.length) [x] = [hB l x.toNat, hV l x.toNat] := by
  obtain ⟨h0, h1, h2⟩ := h
  have hb := codd_bd hg ⟨h0, h1, h2⟩
  have b0 := hb.b0
  have : (decide (0 ≤ x) && decide (x < (l.length : Nat)) && decide (0 < hB l x.toNat)) = true := by
    simp only [Bool.and_eq_true, decide_eq_true_eq]
    omega
  unfold mval
  rw [mC_get, this]
  rfl
theorem v_u64 {x : Int} {n : Nat} (h0 : 0 ≤ x) (h1 : x < 2 ^ n) (hn : n ≤ 32) : IntKind.wrap IntKind.u64 x = x := wru h0 (by have := pow_mono hn; simp at this; omega)
theorem hw_S (l : List Int) (s : ByteArray) (k : Nat) : hwS l s (k + 1) = wS (hwS l s k) (hwP l s k) (hwN l s k) (hB l (byK s k).toNat) (hV l (byK s k).toNat) := rfl
theorem hw_P (l : List Int) (s : ByteArray) (k : Nat) : hwP l s (k + 1) = wP (hwP l s k) (hwN l s k) (hB l (byK s k).toNat) (hV l (byK s k).toNat) := rfl
theorem hw_N (l : List Int) (s : ByteArray) (k : Nat) : hwN l s (k + 1) = wN (hwN l s k) (hB l (byK s k).toNat) := rfl
theorem wrU_v (l : List Int) (s : ByteArray) (hc : chk l = 0) (hx : txE l s = 0) (hs : s.size ≤ 100000) : wrU_t l s := by
  unfold wrU_t
  rw [mapB]
  have hl := bytes_len s
  have hg := good hc
  obtain ⟨_, _, _, ht⟩ := tx_ok hx
  have hit : (List.map (fun (k : Nat) => [Value.int IntKind.i64 (↑(nthI (bytesN s) k) : Int), Value.int IntKind.u8 (nthS (bytesN s) k)]) (List.range (List.length (bytesN s)))) = itBkU (bytesN s) := rfl
  rw [hit, itBkU_len]
  have ho := hw_ok hg ht s.size (Nat.le_refl _)
  refine ⟨hc, by omega, by omega, 0, bku_isat (bytesN s) (by omega), (by first | rfl | trivial), trivial, ⟨rfl, rfl, rfl, fun _ => rfl⟩, fun i hi _ => ?_, fun _ => ?_⟩
  · have hi' : i < s.size := by omega
    have hm := mval_C hg (ht _ (byK_mem (s := s) (k := i) hi'))
    have hk := hw_put hg ht hi'
    have h2 := hw_ok hg ht i (by omega)
    have hb := codd_bd hg (ht _ (byK_mem (s := s) (k := i) hi'))
    have hu : IntKind.wrap IntKind.u64 (hV l (byK s i).toNat) = hV l (byK s i).toNat := v_u64 hb.v0 hb.v1 (by have := hb.b1; omega)
    rw [hm]
    simp only [List.headD_cons, List.tail_cons]
    rw [hu]
    have hsz := h2.sz
    refine ⟨itBkU_at (by omega), (by first | rfl | trivial), hk.n0, hk.n7, hk.p0, hk.p1, hk.k0, hk.k1, hk.v0, hk.v1, by omega, trivial, (hw_S l s i).symm, (hw_P l s i).symm, (hw_N l s i).symm, (by intro _; first | rfl | trivial)⟩
  · rw [hl]
    have hsz := ho.sz
    exact ⟨ho.n0, ho.n7, ho.p0, ho.p1, by omega, rfl⟩
end Go.Proofs.Ytmdbliacaeokaaa
namespace Go.Proofs.Ytmdbliacaeokaaa
open Go Go.RowKit
set_option linter.unusedVariables false
set_option linter.unusedSimpArgs false
set_option maxRecDepth 100000
theorem rd_none {l : List Int} {s : ByteArray} {n : Int} {x : RdS} (h : RdP l s n x) (hn : ¬ n ≤ x.out.length) (hd : x.L = 0 ∨ 11 ≤ x.b) : rdX l s n = none := by
  obtain ⟨L, b, v, out⟩ := x
  rw [← h.is]
  simp only at hn hd ⊢
  cases L with
  | zero => simp only [hrd]; rw [decide_eq_false hn]; rfl
  | succ L =>
    have : 11 ≤ b := by omega
    simp only [hrd]
    rw [decide_eq_false hn, decide_eq_true this]
    rfl
theorem rd_done {l : List Int} {s : ByteArray} {n : Int} {x : RdS} (h : RdP l s n x) (hn : n ≤ x.out.length) (h0 : x.L = 0) : rdX l s n = some x.out := by
  obtain ⟨L, b, v, out⟩ := x
  rw [← h.is]
  simp only at hn h0 ⊢
  subst h0
  simp only [hrd]
  rw [decide_eq_true hn]
  rfl
theorem rd_over {l : List Int} {s : ByteArray} {n : Int} {x : RdS} (h : RdP l s n x) (hn : n ≤ x.out.length) (h0 : x.L ≠ 0) : rdX l s n = none := by
  obtain ⟨L, b, v, out⟩ := x
  rw [← h.is]
  simp only at hn h0 ⊢
  cases L with
  | zero => exact absurd rfl h0
  | succ L =>
    simp only [hrd]
    rw [decide_eq_true hn]
    rfl
theorem rd_nn {l : List Int} {s : ByteArray} {n : Int} (h : rdX l s n = none) : ByteArray.empty = rdS l s n ∧ (22 : Int) = rdE l s n := by
  unfold rdS rdE
  rw [h]
  exact ⟨rfl, rfl⟩
theorem rd_ss {l : List Int} {s : ByteArray} {n : Int} {o : List Int} (h : rdX l s n = some o) : strOfNums o = rdS l s n ∧ (0 : Int) = rdE l s n := by
  unfold rdS rdE
  rw [h]
  exact ⟨rfl, rfl⟩
theorem pw_double {b : Int} (h : 0 ≤ b) : (2 : Int) ^ (b + 1).toNat = 2 * 2 ^ b.toNat := by
  rw [show (b + 1).toNat = b.toNat + 1 by omega, Int.pow_succ]
  omega
theorem rd_more {l : List Int} {s : ByteArray} {n : Int} {L : Nat} {b v : Int} {out : List Int} (h : RdP l s n ⟨L + 1, b, v, out⟩) (hn : ¬ n ≤ out.length) (hb : b < 11) (hf : fLc l (b + 1) (2 * v + bkBit s (L : Nat)) < 0) :
    RdP l s n ⟨L, b + 1, 2 * v + bkBit s (L : Nat), out⟩ := by
  obtain ⟨e, le, b0, b1, v0, v1, o1, is⟩ := h
  simp only at le b0 b1 v0 v1 o1 is
  have h01 := bkBit_01 s (L : Nat)
  have h2 := pw_double b0
  have a0 := v0 (by omega)
  have a1 := v1 (by omega)
  refine ⟨e, by show (L : Int) ≤ _; omega, by show 0 ≤ b + 1; omega, by show b + 1 + (L : Int) ≤ _; omega, fun _ => by show 0 ≤ 2 * v + bkBit s L; omega, fun _ => by show 2 * v + bkBit s L < 2 ^ (b + 1).toNat; omega, o1, ?_⟩
  rw [← is]
  simp only [hrd]
  rw [decide_eq_false hn, decide_eq_false (by omega), decide_eq_true hf]
  rfl
theorem rd_code {l : List Int} {s : ByteArray} {n : Int} {L : Nat} {b v : Int} {out : List Int} (h : RdP l s n ⟨L + 1, b, v, out⟩) (hn : ¬ n ≤ out.length) (hb : b < 11) (hf : ¬ fLc l (b + 1) (2 * v + bkBit s (L : Nat)) < 0) :
    RdP l s n ⟨L, 0, 0, out ++ [fLc l (b + 1) (2 * v + bkBit s (L : Nat))]⟩ := by
  obtain ⟨e, le, b0, b1, v0, v1, o1, is⟩ := h
  simp only at le b0 b1 v0 v1 o1 is
  refine ⟨e, by show (L : Int) ≤ _; omega, Int.le_refl 0, by show 0 + (L : Int) ≤ _; omega, fun _ => Int.le_refl 0, fun _ => by show (0 : Int) < 2 ^ (0 : Int).toNat; decide, by simp only [List.length_append, List.length_singleton]; omega, ?_⟩
  rw [← is]
  simp only [hrd]
  rw [decide_eq_false hn, decide_eq_false (by omega), decide_eq_false hf]
  rfl
theorem rd_dead {l : List Int} {s : ByteArray} {n : Int} {L : Nat} {b v w : Int} {out : List Int} (h : RdP l s n ⟨L + 1, b, v, out⟩) (hn : ¬ n ≤ out.length) (hb : 11 ≤ b) : RdP l s n ⟨L, b + 1, w, out⟩ := by
  have hX := rd_none h hn (.inr hb)
  obtain ⟨e, le, b0, b1, v0, v1, o1, is⟩ := h
  simp only at le b0 b1 o1
  refine ⟨e, by show (L : Int) ≤ _; omega, by show 0 ≤ b + 1; omega, by show b + 1 + (L : Int) ≤ _; omega, fun h => by have h' : b + 1 ≤ 11 := h; omega, fun h => by have h' : b + 1 ≤ 11 := h; omega, o1, ?_⟩
  rw [hX]
  cases L with
  | zero => simp only [hrd]; rw [decide_eq_false hn]; rfl
  | succ L => simp only [hrd]; rw [decide_eq_false hn, decide_eq_true (show (11 : Int) ≤ b + 1 by omega)]; rfl
theorem take_bit {s : ByteArray} {L : Nat} (hb : bkE s = 0) (hl : (L : Int) ≤ bkN s) (h0 : L ≠ 0) : tkE s (L : Int) 1 = 0 ∧ tkS s (L : Int) 1 = s ∧ tkL s (L : Int) 1 = ((L - 1 : Nat) : Int) ∧ tkV s (L : Int) 1 = bkBit s ((L - 1 : Nat) : Int) := by
  have h := (tk_iff hb (l := (L : Int)) (n := 1) (by omega) hl (by omega) (by omega)).1 (by omega)
  obtain ⟨v1, v2, v3, _, _⟩ := tk_vals h
  refine ⟨h, v1.symm, by omega, ?_⟩
  rw [← v3]
  show 2 * pkF s L 0 + bkBit s ((L : Int) - 1 - (0 : Nat)) = _
  show 2 * 0 + bkBit s ((L : Int) - 1 - (0 : Nat)) = _
  rw [show (L : Int) - 1 - ((0 : Nat) : Int) = ((L - 1 : Nat) : Int) by omega]
  omega
theorem take_no {s : ByteArray} (hb : bkE s = 0) : tkE s ((0 : Nat) : Int) 1 = 5 := by
  have hr := bkN_rng (bkE_0 hb).1
  exact (tk_iff hb (l := ((0 : Nat) : Int)) (n := 1) (by omega) (by omega) (by omega) (by omega)).2 (by omega)
theorem or1_i64 (a b : Nat) (hb : b < 2) (h : 2 * a + b < 4294967296) : bits .or .i64 ((2 * a : Nat) : Int) (b : Int) = ((2 * a + b : Nat) : Int) := by
  have hx : ∀ a : Nat, a < 4294967296 → (BitVec.ofInt 64 (a : Int)).toNat = a := fun a ha => by
    rw [BitVec.ofInt_natCast, BitVec.toNat_ofNat]; exact Nat.mod_eq_of_lt (by omega)
  show IntKind.i64.wrap ((BitVec.ofInt 64 ((2 * a : Nat) : Int) ||| BitVec.ofInt 64 (b : Int)).toNat : Int) = _
  rw [BitVec.toNat_or, hx _ (by omega), hx _ (by omega)]
  have := Nat.two_pow_add_eq_or_of_lt (i := 1) (b := b) (by omega) a
  rw [Nat.pow_one] at this
  rw [← this]
  exact wr (by omega) (by omega)
theorem next_val {s : ByteArray} {v : Int} {k : Nat} (h0 : 0 ≤ v) (h1 : v < 4096) :
    bits BinOp.or IntKind.i64 (IntKind.wrap IntKind.i64 (v * (2 : Int) ^ min (Int.toNat (1 : Int)) (IntKind.bits IntKind.i64))) (IntKind.wrap IntKind.i64 (bkBit s (k : Nat))) = 2 * v + bkBit s (k : Nat) := by
  have hb := bkBit_01 s (k : Nat)
  have e : min (Int.toNat (1 : Int)) (IntKind.bits IntKind.i64) = 1 := rfl
  rw [e, show (2 : Int) ^ 1 = 2 from rfl, wr (n := v * 2) (by omega) (by omega), wr (n := bkBit s (k : Nat)) (by omega) (by omega)]
  obtain ⟨a, rfl⟩ := Int.eq_ofNat_of_zero_le h0
  obtain ⟨c, hc⟩ := Int.eq_ofNat_of_zero_le (show 0 ≤ bkBit s (k : Nat) by omega)
  rw [hc] at hb ⊢
  have := or1_i64 a c (by omega) (by omega)
  rw [show (a : Int) * 2 = ((2 * a : Nat) : Int) by omega, this]
  omega
theorem rd_start {l : List Int} {s : ByteArray} {n : Int} (hb : bkE s = 0) (hn : 0 ≤ n) : RdP l s n ⟨(bkN s).toNat, 0, 0, []⟩ := by
  have hr := bkN_rng (bkE_0 hb).1
  refine ⟨hb, by show (((bkN s).toNat : Nat) : Int) ≤ _; omega, Int.le_refl 0, by show (0 : Int) + (((bkN s).toNat : Nat) : Int) ≤ _; omega, fun _ => Int.le_refl 0, fun _ => by show (0 : Int) < 2 ^ (0 : Int).toNat; decide, by simpa using hn, ?_⟩
  unfold rdX
  rw [beq0 hb]
  rfl
theorem mhas_B {l : List Int} {b v : Int} (hb : 0 < b) : mhas (mB l l.length) [b, v] = !decide (fLc l b v < 0) := by
  rw [mhas_mget, mB_get l b v hb]
  show _ = !decide (fnd l b v l.length < 0)
  cases decide (fnd l b v l.length < 0) <;> rfl
theorem mval_B {l : List Int} {b v : Int} (hb : 0 < b) (h : ¬ fLc l b v < 0) : mval 1 (mB l l.length) [b, v] = [fLc l b v] := by
  unfold mval
  rw [mB_get l b v hb, decide_eq_false (show ¬ fnd l b v l.length < 0 from h)]
  rfl
theorem rdU_v (l : List Int) (s : ByteArray) (n : Int) (hc : chk l = 0) (h1 : s.size ≤ 4294967296) (hn0 : 0 ≤ n) (hn1 : n ≤ 131072) : rdU_t l s n := by
  unfold rdU_t
  have hg := good hc
  refine ⟨h1, fun h => rd_nn (by unfold rdX; rw [nez0 h]; rfl), fun h => ?_⟩
  have hb := eq0 h
  obtain ⟨k1, k2, k3, k4⟩ := bkE_0 hb
  have hr := bkN_rng k1
  refine ⟨hc, by omega, by omega, by omega, by omega, ⟨_, rd_start hb hn0, (by first | rfl | trivial), k4, by rw [k3]; show bkN s = (((bkN s).toNat : Nat) : Int); omega, fun _ => rfl, rfl, rfl, rfl⟩, fun x hx => ⟨fun hlt => ?_, fun hge => ?_⟩⟩
  · have hlt' : ¬ n ≤ x.out.length := by
      have : (x.out.length : Int) < n := by simpa using hlt
      omega
    clear hlt
    have hlt := hlt'
    refine ⟨h1, fun ht => ?_, fun ht => ?_⟩
    · refine rd_nn (rd_none hx hlt (.inl ?_))
      by_cases h0 : x.L = 0
      · exact h0
      · exact absurd (take_bit hb hx.le h0).1 (nz ht)
    · have h0 : x.L ≠ 0 := fun h0 => by
        have := take_no hb
        rw [h0] at ht
        have := eq0 ht
        omega
      obtain ⟨t1, t2, t3, t4⟩ := take_bit hb hx.le h0
      obtain ⟨L, b, v, out⟩ := x
      simp only at hlt h0 t1 t2 t3 t4 ⊢
      have hb0 := hx.b0
      have hb1 := hx.b1
      have hle := hx.le
      have ho1 := hx.o1
      simp only at hb0 hb1 hle ho1
      have ew : IntKind.wrap IntKind.i64 (b + 1) = b + 1 := wr (by omega) (by omega)
      rw [t2, t3, t4, ew]
      obtain ⟨L', rfl⟩ : ∃ L', L = L' + 1 := ⟨L - 1, by omega⟩
      simp only [Nat.add_sub_cancel]
      rw [mhas_B (by omega)]
      by_cases hd : 11 ≤ b
      · have hf := fLc_11 hg (b := b + 1) (v := bits BinOp.or IntKind.i64 (IntKind.wrap IntKind.i64 (v * (2 : Int) ^ min (Int.toNat (1 : Int)) (IntKind.bits IntKind.i64))) (IntKind.wrap IntKind.i64 (bkBit s (L' : Nat)))) (by omega)
        rw [hf]
        refine ⟨by omega, fun _ => ⟨⟨L', b + 1, _, out⟩, rd_dead hx hlt hd, by show L' < L' + 1; omega, (by first | rfl | trivial), (by first | rfl | trivial), (by first | rfl | trivial), (by intro _; first | rfl | trivial), (by first | rfl | trivial), (by first | rfl | trivial), (by first | rfl | trivial)⟩, fun hh => by simp at hh⟩
      · have hv0 := hx.v0 (by show b ≤ 11; omega)
        have hv1 := hx.v1 (by show b ≤ 11; omega)
        simp only at hv0 hv1
        have hp := pow_mono (show b.toNat ≤ 11 by omega)
        have hv2 : v < 4096 := by
          have : (2 : Int) ^ 11 = 2048 := rfl
          omega
        rw [next_val hv0 hv2]
        refine ⟨by omega, fun hh => ?_, fun hh => ?_⟩
        · have hf : fLc l (b + 1) (2 * v + bkBit s (L' : Nat)) < 0 := by simpa using hh
          exact ⟨⟨L', b + 1, _, out⟩, rd_more hx hlt (by omega) hf, by show L' < L' + 1; omega, (by first | rfl | trivial), (by first | rfl | trivial), (by first | rfl | trivial), (by intro _; first | rfl | trivial), (by first | rfl | trivial), (by first | rfl | trivial), (by first | rfl | trivial)⟩
        · have hf : ¬ fLc l (b + 1) (2 * v + bkBit s (L' : Nat)) < 0 := by simpa using hh
          rw [mval_B (by omega) hf]
          refine ⟨by omega, ⟨L', 0, 0, _⟩, rd_code hx hlt (by omega) hf, by show L' < L' + 1; omega, (by first | rfl | trivial), (by first | rfl | trivial), (by first | rfl | trivial), (by intro _; first | rfl | trivial), (by first | rfl | trivial), (by first | rfl | trivial), (by first | rfl | trivial)⟩
  · have hge : n ≤ x.out.length := by
      have : ¬ (x.out.length : Int) < n := by simpa using hge
      omega
    refine ⟨fun hL => rd_nn (rd_over hx hge ?_), fun hL => rd_ss (rd_done hx hge ?_)⟩
    · have : (x.L : Int) > 0 := by simpa using hL
      omega
    · have : ¬ (x.L : Int) > 0 := by simpa using hL
      omega
end Go.Proofs.Ytmdbliacaeokaaa
namespace Go.Proofs.Ytmdbliacaeokaaa
open Go Go.RowKit
set_option linter.unusedVariables false
set_option linter.unusedSimpArgs false
set_option maxRecDepth 100000
theorem roomU_sound : Sound Try.prog 63 sRoomL.ctr := sRoomL.sound (by kernel_rfl) sRoomL_enc fun l hc => by
  have h0 := hc _ (.head _)
  exact satG AllOk.nil mixed Try.func63 (roomU_e l) (roomU_v l h0)
theorem codedU_sound : Sound Try.prog 64 sCoded.ctr := sCoded.sound (by kernel_rfl) sCoded_enc fun l hc => by
  have h0 := hc _ (.head _)
  exact satG AllOk.nil mixed Try.func64 (codedU_e l) (codedU_v l h0)
theorem bkuU_sound : Sound Try.prog 55 sBackU.ctr := sBackU.sound (by kernel_rfl) sBackU_enc fun xs hc => by
  have h0 := hc _ (.head _)
  exact satG AllOk.nil mixed Try.func55 (bkuU_e xs) (bkuU_v xs)
theorem GUa_ok : AllOk Try.prog GUa := .cons roomU_sound <| .cons codedU_sound <| .cons bkuU_sound <| all_app GBe_ok G6i_ok
theorem lchkU_sound : Sound Try.prog 46 sLchk.ctr := sLchk.sound (by kernel_rfl) sLchk_enc fun l hc => by
  have h0 := hc _ (.head _)
  exact satG GUa_ok mixed Try.func46 (lchkU_e l) (lchkU_v l h0)
theorem tabsU_sound : Sound Try.prog 48 sTabs.ctr := sTabs.sound (by kernel_rfl) sTabs_enc fun l hc => by
  have h0 := hc _ (.head _)
  exact satG GUa_ok mixed Try.func48 (tabsU_e l) (tabsU_v l h0)
theorem GUb_ok : AllOk Try.prog GUb := .cons lchkU_sound <| .cons tabsU_sound <| GUa_ok
theorem txU_sound : Sound Try.prog 37 sTxE.ctr := sTxE.sound (by kernel_rfl) sTxE_enc fun ⟨l, s⟩ hc => by
  have h0 := hc _ (.head _)
  have h1 := hc _ (.tail _ (.head _))
  exact satG GUb_ok mixed Try.func37 (txU_e l s) (txU_v l s h0 h1)
theorem nuU_sound : Sound Try.prog 29 sNuE.ctr := sNuE.sound (by kernel_rfl) sNuE_enc fun ⟨l, n⟩ hc => by
  have h0 := hc _ (.head _)
  exact satG GUb_ok mixed Try.func29 (nuU_e l n) (nuU_v l n h0)
theorem wrU_sound : Sound Try.prog 38 sWrH.ctr := sWrH.sound (by kernel_rfl) sWrH_enc fun ⟨l, s⟩ hc => by
  have h0 := hc _ (.head _)
  have h1 := hc _ (.tail _ (.head _))
  have h2 := hc _ (.tail _ (.tail _ (.head _)))
  exact satG GUb_ok mixed Try.func38 (wrU_e l s) (wrU_v l s h0 h1 h2)
theorem rdU_sound : Sound Try.prog 30 sRdH.ctr := sRdH.sound (by kernel_rfl) sRdH_enc fun ⟨l, b, n⟩ hc => by
  have h0 := hc _ (.head _)
  have h1 := hc _ (.tail _ (.head _))
  have h2 := hc _ (.tail _ (.tail _ (.head _)))
  have h3 := hc _ (.tail _ (.tail _ (.tail _ (.head _))))
  exact satG GUb_ok mixed Try.func30 (rdU_e l b n) (rdU_v l b n h0 h1 h2 h3)
theorem GUc_ok : AllOk Try.prog GUc := .cons txU_sound <| .cons nuU_sound <| .cons wrU_sound <| .cons rdU_sound <| GUb_ok
end Go.Proofs.Ytmdbliacaeokaaa
namespace Go.Proofs.Ytmdbliacaeokaaa
open Go Go.RowKit
set_option linter.unusedVariables false
set_option maxRecDepth 100000
def DvOk (s : ByteArray) (p : List Int) : Prop := p.length = 4 ∧ ∀ i, i < 4 → 0 ≤ p.getD i 0 ∧ p.getD i 0 ≤ (rsS s p i).size
def q4P (b : ByteArray) : Nat → List Int
  | 0 => [0, 0, 0, b.size - 6]
  | 1 => [z4 b 0, 0, 0, b.size - 6 - z4 b 0]
  | 2 => [z4 b 0, z4 b 1, 0, b.size - 6 - z4 b 0 - z4 b 1]
  | _ => q4 b
def lit2P (n : Int) : Nat → List Int
  | 0 => []
  | 1 => [n % 256]
  | _ => [n % 256, n / 256 % 256]
def lit2N (n : Int) : Nat → Int
  | 0 => n
  | 1 => n / 256
  | _ => n / 256 / 256
def le16P (b : ByteArray) (i : Nat) : Nat → Int
  | 0 => 0
  | 1 => byI b i
  | _ => le16 b i
end Go.Proofs.Ytmdbliacaeokaaa
namespace Go.Proofs.Ytmdbliacaeokaaa
open Go Go.RowKit
set_option linter.unusedVariables false
set_option linter.unusedSimpArgs false
set_option maxRecDepth 100000
theorem bytes_inj {a b : ByteArray} (h : bytesN a = bytesN b) : a = b := by rw [← str_bytes a, ← str_bytes b, h]
theorem ext_bytes (s : ByteArray) (a b : Nat) : bytesN (s.extract a b) = ((bytesN s).drop a).take (b - a) := by
  unfold bytesN
  rw [ByteArray.data_extract, Array.toList_extract, List.extract_eq_take_drop, List.map_take, List.map_drop]
theorem ext_size {s : ByteArray} {a b : Nat} (h : b ≤ s.size) : (s.extract a b).size = b - a := by
  rw [ByteArray.size_extract, Nat.min_eq_left h]
def offP (p : List Int) : Nat → Nat
  | 0 => 0
  | i + 1 => offP p i + (p.getD i 0).toNat
theorem rs_bytes (s : ByteArray) (p : List Int) : ∀ i, bytesN (rsS s p i) = (bytesN s).drop (offP p i)
  | 0 => rfl
  | i + 1 => by
    have hl := bytes_len (rsS s p i)
    show bytesN ((rsS s p i).extract (p.getD i 0).toNat (rsS s p i).size) = _
    rw [ext_bytes, List.take_of_length_le (by rw [List.length_drop, hl]; omega), rs_bytes s p i, List.drop_drop]
    rfl
theorem rs_size (s : ByteArray) (p : List Int) (i : Nat) : (rsS s p i).size = s.size - offP p i := by
  have := congrArg List.length (rs_bytes s p i)
  rw [bytes_len, List.length_drop, bytes_len] at this
  exact this
theorem pc_bytes (s : ByteArray) (p : List Int) (i : Nat) : bytesN (pcS s p i) = ((bytesN s).drop (offP p i)).take (p.getD i 0).toNat := by
  unfold pcS
  rw [ext_bytes, rs_bytes, List.drop_zero, Nat.sub_zero]
theorem pc_le (s : ByteArray) (p : List Int) (i : Nat) : (pcS s p i).size ≤ s.size := by
  have := congrArg List.length (pc_bytes s p i)
  rw [bytes_len, List.length_take, List.length_drop, bytes_len] at this
  omega
theorem pc_ok {l : List Int} {s : ByteArray} (h : txOk l s) (p : List Int) (i : Nat) : txOk l (pcS s p i) := fun x hx => by
  rw [pc_bytes] at hx
  exact h x (List.mem_of_mem_drop (List.mem_of_mem_take hx))
structure PtS (n : Int) : Prop where
  k0 : 0 ≤ ptK n
  k1 : 3 * ptK n ≤ n
  k2 : ptK n ≤ n
theorem pt_ok {n : Int} (h : 6 ≤ n) : PtS n := by
  constructor <;> (show _ ≤ _; unfold ptK; omega)
theorem ptL_0 (n : Int) : (ptL n).getD 0 0 = ptK n := rfl
theorem ptL_1 (n : Int) : (ptL n).getD 1 0 = ptK n := rfl
theorem ptL_2 (n : Int) : (ptL n).getD 2 0 = ptK n := rfl
theorem ptL_3 (n : Int) : (ptL n).getD 3 0 = n - 3 * ptK n := rfl
theorem ptL_bd {n : Int} (h : 6 ≤ n) {i : Nat} (hi : i < 4) : 0 ≤ (ptL n).getD i 0 ∧ (ptL n).getD i 0 ≤ n := by
  obtain ⟨k0, k1, k2⟩ := pt_ok h
  have : i = 0 ∨ i = 1 ∨ i = 2 ∨ i = 3 := by omega
  rcases this with rfl | rfl | rfl | rfl
  · rw [ptL_0]; omega
  · rw [ptL_1]; omega
  · rw [ptL_2]; omega
  · rw [ptL_3]; omega
theorem off4 (p : List Int) : offP p 1 = (p.getD 0 0).toNat ∧ offP p 2 = (p.getD 0 0).toNat + (p.getD 1 0).toNat ∧ offP p 3 = (p.getD 0 0).toNat + (p.getD 1 0).toNat + (p.getD 2 0).toNat ∧
    offP p 4 = (p.getD 0 0).toNat + (p.getD 1 0).toNat + (p.getD 2 0).toNat + (p.getD 3 0).toNat := by
  refine ⟨?_, ?_, ?_, ?_⟩ <;> simp only [offP] <;> omega
theorem offP_le {p : List Int} : ∀ {i j : Nat}, i ≤ j → offP p i ≤ offP p j := by
  intro i j h
  induction j with
  | zero => have : i = 0 := by omega
            subst this; exact Nat.le_refl _
  | succ j ih =>
    by_cases e : i = j + 1
    · subst e; exact Nat.le_refl _
    · have := ih (by omega)
      simp only [offP]
      omega
theorem dv_of {s : ByteArray} {p : List Int} (h4 : p.length = 4) (h0 : ∀ i, i < 4 → 0 ≤ p.getD i 0) (hs : offP p 4 = s.size) : DvOk s p := by
  refine ⟨h4, fun i hi => ⟨h0 i hi, ?_⟩⟩
  have := offP_le (p := p) (show i + 1 ≤ 4 by omega)
  simp only [offP] at this hs
  have h := h0 i hi
  rw [rs_size]
  omega
theorem pt_off {n : Int} (h : 6 ≤ n) : offP (ptL n) 4 = n.toNat := by
  obtain ⟨k0, k1, k2⟩ := pt_ok h
  rw [(off4 (ptL n)).2.2.2, ptL_0, ptL_1, ptL_2, ptL_3]
  omega
theorem pt_dv {s : ByteArray} (h : 6 ≤ s.size) : DvOk s (ptL s.size) :=
  dv_of rfl (fun i hi => (ptL_bd (by omega) hi).1) (by rw [pt_off (by omega)]; omega)
theorem jn_snoc (xs : List ByteArray) (x : ByteArray) : jn (xs ++ [x]) = jn xs ++ x := by unfold jn; rw [List.foldl_append]; rfl
theorem jn_two (a b : ByteArray) : jn [a, b] = a ++ b := by
  show ByteArray.empty ++ a ++ b = a ++ b
  rw [ByteArray.empty_append]
theorem strs_succ (l : List Int) (s : ByteArray) (i : Nat) : strs4 l s (i + 1) = strs4 l s i ++ [stH l s i] := by
  unfold strs4
  rw [List.range_succ, List.map_append]
  rfl
theorem heads_succ (l : List Int) (s : ByteArray) {i : Nat} (h : i < 3) : heads4 l s (i + 1) = heads4 l s i ++ [lit2 (stH l s i).size] := by
  unfold heads4
  rw [Nat.min_eq_left (show i + 1 ≤ 3 by omega), Nat.min_eq_left (show i ≤ 3 by omega), List.range_succ, List.map_append]
  rfl
theorem heads_all (l : List Int) (s : ByteArray) {i : Nat} (h : 3 ≤ i) : heads4 l s (i + 1) = heads4 l s i := by
  unfold heads4
  rw [Nat.min_eq_right (show 3 ≤ i + 1 by omega), Nat.min_eq_right h]
theorem strs_len (l : List Int) (s : ByteArray) (i : Nat) : (strs4 l s i).length = i := by unfold strs4; rw [List.length_map, List.length_range]
theorem heads_len (l : List Int) (s : ByteArray) (i : Nat) : (heads4 l s i).length ≤ 3 := by unfold heads4; rw [List.length_map, List.length_range]; omega
theorem wr_size {l : List Int} {s : ByteArray} (hg : Good l) (ht : txOk l s) (hs : s.size ≤ 40000) : (wrH l s).size ≤ 55001 := by
  obtain ⟨w1, w2, w3, w4⟩ := wrt_ok hg ht
  obtain ⟨i0, i1, i2, i3⟩ := vLn_rng hg (bytesN s) ht
  have := bytes_len s
  rw [w4]
  omega
theorem st_size {l : List Int} {s : ByteArray} (hg : Good l) (ht : txOk l s) (hs : s.size ≤ 40000) (i : Nat) : (stH l s i).size ≤ 55001 :=
  wr_size hg (pc_ok ht _ i) (Nat.le_trans (pc_le _ _ _) hs)
theorem lit2_size (n : Int) : (lit2 n).size = 2 := by unfold lit2; rw [strOfNums_size]; rfl
theorem strs_size {l : List Int} {s : ByteArray} (hg : Good l) (ht : txOk l s) (hs : s.size ≤ 40000) : ∀ i, (jn (strs4 l s i)).size ≤ i * 55001
  | 0 => Nat.zero_le _
  | i + 1 => by
    have ih := strs_size hg ht hs i
    have := st_size hg ht hs i
    rw [strs_succ, jn_snoc, app_size]
    omega
theorem heads_size (l : List Int) (s : ByteArray) : ∀ i, (jn (heads4 l s i)).size ≤ 2 * i
  | 0 => by show (0 : Nat) ≤ _; omega
  | i + 1 => by
    have ih := heads_size l s i
    by_cases h : i < 3
    · rw [heads_succ l s h, jn_snoc, app_size, lit2_size]
      omega
    · rw [heads_all l s (by omega)]
      omega
theorem w4E_err {l : List Int} {s : ByteArray} (h : txE l s ≠ 0) : w4E l s = txE l s ∧ w4O l s = ByteArray.empty := by
  have : w4E l s = txE l s := by unfold w4E; rw [beq_eq_false_iff_ne.2 h]; rfl
  exact ⟨this, by unfold w4O; rw [this, beq_eq_false_iff_ne.2 h]; rfl⟩
theorem w4E_few {l : List Int} {s : ByteArray} (h : txE l s = 0) (h2 : s.size < 6) : w4E l s = 20 ∧ w4O l s = ByteArray.empty := by
  have : w4E l s = 20 := by unfold w4E; rw [h, decide_eq_true h2]; rfl
  exact ⟨this, by unfold w4O; rw [this]; rfl⟩
theorem w4E_ok {l : List Int} {s : ByteArray} (h : txE l s = 0) (h2 : ¬ s.size < 6) : w4E l s = 0 ∧ w4O l s = w4H l s := by
  have : w4E l s = 0 := by unfold w4E; rw [h, decide_eq_false h2]; rfl
  exact ⟨this, by unfold w4O; rw [this]; rfl⟩
theorem w4E_0 {l : List Int} {s : ByteArray} (h : w4E l s = 0) : txE l s = 0 ∧ ¬ s.size < 6 ∧ w4O l s = w4H l s := by
  by_cases h1 : txE l s = 0
  · by_cases h2 : s.size < 6
    · rw [(w4E_few h1 h2).1] at h; cases h
    · exact ⟨h1, h2, (w4E_ok h1 h2).2⟩
  · rw [(w4E_err h1).1] at h
    exact absurd h h1
end Go.Proofs.Ytmdbliacaeokaaa
namespace Go.Proofs.Ytmdbliacaeokaaa
open Go Go.RowKit
set_option linter.unusedVariables false
set_option linter.unusedSimpArgs false
set_option maxRecDepth 100000
def sFld2 : Spec where
  ι := Int
  dec l H := match l with
    | [.v (.int .u64 n), .v (.int .i64 2)] => some (n, [])
    | _ => none
  args := fun n => [.v (.int .u64 n), .v (.int .i64 2)]
  pre := fun n => [⟨0 ≤ n, inferInstance⟩, ⟨n < 65536, inferInstance⟩]
  out := fun n => .leaf (.v (.string (lit2 n))) []
theorem sFld2_enc : ∀ l H n i ls, sFld2.dec l H = some (i, ls) → l = renL (rho ls n) (sFld2.args i) ∧ givenHp H ls = renH (rho ls n) (sFld2.hp i) := by
  intro l H n i ls h
  simp only [sFld2] at h
  repeat' split at h
  all_goals first
    | (cases h; done)
    | (cases h; exact ⟨rfl, rfl⟩)
def sLit2 : Spec where
  ι := Int
  dec l H := match l with
    | [.v (.int .u64 n), .v (.int .i64 2)] => some (n, [])
    | _ => none
  args := fun n => [.v (.int .u64 n), .v (.int .i64 2)]
  pre := fun n => [⟨0 ≤ n, inferInstance⟩, ⟨n < 65536, inferInstance⟩]
  out := fun n => .leaf (.tu [.v (.string (lit2 n)), .v (.int .i64 0)]) []
theorem sLit2_enc : ∀ l H n i ls, sLit2.dec l H = some (i, ls) → l = renL (rho ls n) (sLit2.args i) ∧ givenHp H ls = renH (rho ls n) (sLit2.hp i) := by
  intro l H n i ls h
  simp only [sLit2] at h
  repeat' split at h
  all_goals first
    | (cases h; done)
    | (cases h; exact ⟨rfl, rfl⟩)
def sRd16 : Spec where
  ι := ByteArray × Int
  dec l H := match l with
    | [.v (.string b), .v (.int .i64 i), .v (.int .i64 2)] => some ((b, i), [])
    | _ => none
  args := fun (b, i) => [.v (.string b), .v (.int .i64 i), .v (.int .i64 2)]
  pre := fun (b, i) => [⟨0 ≤ i, inferInstance⟩, ⟨i + 2 ≤ b.size, inferInstance⟩, ⟨b.size ≤ 4294967296, inferInstance⟩]
  out := fun (b, i) => .leaf (.tu [.v (.int .u64 (le16 b i.toNat)), .v (.int .i64 (i + 2)), .ag [.v (.int .i64 0), .v (.int .i64 0)]]) []
theorem sRd16_enc : ∀ l H n i ls, sRd16.dec l H = some (i, ls) → l = renL (rho ls n) (sRd16.args i) ∧ givenHp H ls = renH (rho ls n) (sRd16.hp i) := by
  intro l H n i ls h
  simp only [sRd16] at h
  repeat' split at h
  all_goals first
    | (cases h; done)
    | (cases h; exact ⟨rfl, rfl⟩)
def sPtL : Spec where
  ι := Int
  dec l H := match l with
    | [.v (.int .i64 n)] => some (n, [])
    | _ => none
  args := fun n => [.v (.int .i64 n)]
  pre := fun n => [⟨0 ≤ n, inferInstance⟩, ⟨n ≤ 131072, inferInstance⟩]
  out := fun n => .leaf (.av (.ints .i64 (ptL n))) []
theorem sPtL_enc : ∀ l H n i ls, sPtL.dec l H = some (i, ls) → l = renL (rho ls n) (sPtL.args i) ∧ givenHp H ls = renH (rho ls n) (sPtL.hp i) := by
  intro l H n i ls h
  simp only [sPtL] at h
  repeat' split at h
  all_goals first
    | (cases h; done)
    | (cases h; exact ⟨rfl, rfl⟩)
def sPtV : Spec where
  ι := Int
  dec l H := match l with
    | [.v (.int .i64 n)] => some (n, [])
    | _ => none
  args := fun n => [.v (.int .i64 n)]
  out := fun n => .leaf (.tu [.av (.ints .i64 (ptV n)), .v (.int .i64 (ptE n))]) []
theorem sPtV_enc : ∀ l H n i ls, sPtV.dec l H = some (i, ls) → l = renL (rho ls n) (sPtV.args i) ∧ givenHp H ls = renH (rho ls n) (sPtV.hp i) := by
  intro l H n i ls h
  simp only [sPtV] at h
  repeat' split at h
  all_goals first
    | (cases h; done)
    | (cases h; exact ⟨rfl, rfl⟩)
def sDivd : Spec where
  ι := ByteArray × List Int
  dec l H := match l with
    | [.v (.string s), .av (.ints .i64 p)] => some ((s, p), [])
    | _ => none
  args := fun (s, p) => [.v (.string s), .av (.ints .i64 p)]
  pre := fun (s, p) => [⟨p.length = 4, inferInstance⟩]
  out := fun (s, p) => .leaf (.fn (.func 54) [] [.p 2000 0 0, .p 2001 0 0]) [(2000, .arr 36 (.ints .i64 p)), (2001, .cells 9 [.v (.string s)])]
theorem sDivd_enc : ∀ l H n i ls, sDivd.dec l H = some (i, ls) → l = renL (rho ls n) (sDivd.args i) ∧ givenHp H ls = renH (rho ls n) (sDivd.hp i) := by
  intro l H n i ls h
  simp only [sDivd] at h
  repeat' split at h
  all_goals first
    | (cases h; done)
    | (cases h; exact ⟨rfl, rfl⟩)
def sJoin : Spec where
  ι := List ByteArray
  dec l H := match l with
    | [.dat (.strs xs)] => some (xs, [])
    | _ => none
  args := fun xs => [.dat (.strs xs)]
  pre := fun xs => [⟨xs.length ≤ 4294967296, inferInstance⟩, ⟨(jn xs).size ≤ 4294967296, inferInstance⟩]
  out := fun xs => .leaf (.v (.string (jn xs))) []
theorem sJoin_enc : ∀ l H n i ls, sJoin.dec l H = some (i, ls) → l = renL (rho ls n) (sJoin.args i) ∧ givenHp H ls = renH (rho ls n) (sJoin.hp i) := by
  intro l H n i ls h
  simp only [sJoin] at h
  repeat' split at h
  all_goals first
    | (cases h; done)
    | (cases h; exact ⟨rfl, rfl⟩)
def sWrO : Spec where
  ι := List Int × ByteArray
  dec l H := match l with
    | [.dat (.ints .i64 l), .v (.string s)] => some ((l, s), [])
    | _ => none
  args := fun (l, s) => [.dat (.ints .i64 l), .v (.string s)]
  pre := fun (l, s) => [⟨l.length ≤ 4294967296, inferInstance⟩, ⟨s.size ≤ 40000, inferInstance⟩]
  out := fun (l, s) => .leaf (.tu [.v (.string (wrO l s)), .v (.int .i64 (txE l s))]) []
theorem sWrO_enc : ∀ l H n i ls, sWrO.dec l H = some (i, ls) → l = renL (rho ls n) (sWrO.args i) ∧ givenHp H ls = renH (rho ls n) (sWrO.hp i) := by
  intro l H n i ls h
  simp only [sWrO] at h
  repeat' split at h
  all_goals first
    | (cases h; done)
    | (cases h; exact ⟨rfl, rfl⟩)
def sSzO : Spec where
  ι := List Int × ByteArray
  dec l H := match l with
    | [.dat (.ints .i64 l), .v (.string s)] => some ((l, s), [])
    | _ => none
  args := fun (l, s) => [.dat (.ints .i64 l), .v (.string s)]
  pre := fun (l, s) => [⟨l.length ≤ 4294967296, inferInstance⟩, ⟨s.size ≤ 40000, inferInstance⟩]
  out := fun (l, s) => .leaf (.tu [.v (.int .i64 (szO l s)), .v (.int .i64 (txE l s))]) []
theorem sSzO_enc : ∀ l H n i ls, sSzO.dec l H = some (i, ls) → l = renL (rho ls n) (sSzO.args i) ∧ givenHp H ls = renH (rho ls n) (sSzO.hp i) := by
  intro l H n i ls h
  simp only [sSzO] at h
  repeat' split at h
  all_goals first
    | (cases h; done)
    | (cases h; exact ⟨rfl, rfl⟩)
def sRdO : Spec where
  ι := List Int × ByteArray × Int
  dec l H := match l with
    | [.dat (.ints .i64 l), .v (.string b), .v (.int .i64 n)] => some ((l, b, n), [])
    | _ => none
  args := fun (l, b, n) => [.dat (.ints .i64 l), .v (.string b), .v (.int .i64 n)]
  pre := fun (l, b, n) => [⟨l.length ≤ 4294967296, inferInstance⟩, ⟨b.size ≤ 4294967296, inferInstance⟩]
  out := fun (l, b, n) => .leaf (.tu [.v (.string (rO l b n)), .v (.int .i64 (rE l b n))]) []
theorem sRdO_enc : ∀ l H n i ls, sRdO.dec l H = some (i, ls) → l = renL (rho ls n) (sRdO.args i) ∧ givenHp H ls = renH (rho ls n) (sRdO.hp i) := by
  intro l H n i ls h
  simp only [sRdO] at h
  repeat' split at h
  all_goals first
    | (cases h; done)
    | (cases h; exact ⟨rfl, rfl⟩)
def sW4 : Spec where
  ι := List Int × ByteArray
  dec l H := match l with
    | [.dat (.ints .i64 l), .v (.string s)] => some ((l, s), [])
    | _ => none
  args := fun (l, s) => [.dat (.ints .i64 l), .v (.string s)]
  pre := fun (l, s) => [⟨l.length ≤ 4294967296, inferInstance⟩, ⟨s.size ≤ 40000, inferInstance⟩]
  out := fun (l, s) => .leaf (.tu [.v (.string (w4O l s)), .v (.int .i64 (w4E l s))]) []
theorem sW4_enc : ∀ l H n i ls, sW4.dec l H = some (i, ls) → l = renL (rho ls n) (sW4.args i) ∧ givenHp H ls = renH (rho ls n) (sW4.hp i) := by
  intro l H n i ls h
  simp only [sW4] at h
  repeat' split at h
  all_goals first
    | (cases h; done)
    | (cases h; exact ⟨rfl, rfl⟩)
def sR4 : Spec where
  ι := List Int × ByteArray × Int
  dec l H := match l with
    | [.dat (.ints .i64 l), .v (.string b), .v (.int .i64 n)] => some ((l, b, n), [])
    | _ => none
  args := fun (l, b, n) => [.dat (.ints .i64 l), .v (.string b), .v (.int .i64 n)]
  pre := fun (l, b, n) => [⟨l.length ≤ 4294967296, inferInstance⟩, ⟨b.size ≤ 4294967296, inferInstance⟩]
  out := fun (l, b, n) => .leaf (.tu [.v (.string (r4O l b n)), .v (.int .i64 (r4P l b n)), .v (.int .i64 (r4E l b n))]) []
theorem sR4_enc : ∀ l H n i ls, sR4.dec l H = some (i, ls) → l = renL (rho ls n) (sR4.args i) ∧ givenHp H ls = renH (rho ls n) (sR4.hp i) := by
  intro l H n i ls h
  simp only [sR4] at h
  repeat' split at h
  all_goals first
    | (cases h; done)
    | (cases h; exact ⟨rfl, rfl⟩)
def oFld2 (n : Int) : LoopInv := { ι := Nat, p := fun i => i ≤ 2, tm := fun i => [(0, .v (.int .u64 (lit2N n i))), (5, .o 5000), (7, .v (.int .i64 2)), (8, .v (.int .i64 (i : Nat)))], hp := fun i => [(5000, .row 5 (.ints .u8 (lit2P n i)))], μ := fun i => 2 - i }
def oRd16 (b : ByteArray) (i : Int) : LoopInv := { ι := Nat, p := fun k => k ≤ 2, tm := fun k => [(0, .v (.string b)), (1, .v (.int .i64 i)), (2, .v (.int .i64 2)), (6, .v (.int .u64 (le16P b i.toNat k))), (8, .p 5000 0 0), (38, .v (.int .i64 2)), (39, .v (.int .i64 (k : Nat)))], hp := fun _ => [(5000, .cells 51 [.v (.int .i64 0), .v (.int .i64 0)])], μ := fun k => 2 - k }
def oJoin (xs : List ByteArray) : LoopInv := { ι := Nat, p := fun i => i ≤ xs.length, tm := fun i => [(3, .v (.string (jn (xs.take i)))), (6, .dat (.strs xs)), (7, .v (.int .i64 xs.length)), (8, .v (.int .i64 (i : Nat)))], hp := fun _ => [], μ := fun i => xs.length - i }
def oDvI (l0 : Nat) (s : ByteArray) (p : List Int) : LoopInvI := { ι := Nat, p := fun i => i ≤ 4, tm := fun i => [(0, .v (.func (.yield l0) #[] #[])), (1, .p 0 0 0), (2, .p 1 0 0), (6, .av (.ints .i64 p)), (7, .v (.int .i64 (i : Nat)))], hp := fun i => [(0, .arr 36 (.ints .i64 p)), (1, .cells 9 [.v (.string (rsS s p i))])], μ := fun i => 4 - i, y := fun i => i }
def oDvF (l0 : Nat) (s : ByteArray) (p : List Int) : Nat → Option LoopFamI := fun k => cond (Nat.beq k 0) (some ⟨Unit, fun _ => oDvI l0 s p⟩) none
def rW4 (l : List Int) (s : ByteArray) : RngInv := { f := 54, cap := [.p 800032 0 0, .p 800033 0 0], hpI := [(800032, .arr 36 (.ints .i64 (ptL s.size))), (800033, .cells 9 [.v (.string s)])], xs := itDv s (ptL s.size), it := fun i => [.int .i64 (i : Nat), .string (pcS s (ptL s.size) i)], tm := [(2, .p 1000 0 0), (4, .p 1001 0 0), (5, .p 1002 0 0), (7, .p 1003 0 0), (8, .p 1004 0 0)], hp := fun i => [(1000, .cells 22 [.dat (.ints .i64 l)]), (1001, .cells 9 [.v (.string ByteArray.empty)]), (1002, .cells 26 [.v (.int .i64 0)]), (1003, .cells 60 [.o 5005]), (1004, .cells 60 [.o 5006]), (5005, .row 9 (.strs (heads4 l s i))), (5006, .row 9 (.strs (strs4 l s i)))] }
def oW4C (l : List Int) (s : ByteArray) : LoopInv := { ι := Unit, p := fun _ => True, tm := fun _ => [(1, .v (.string s)), (2, .p 5000 0 0), (4, .p 5001 0 0), (5, .p 5002 0 0), (6, .v (.int .i64 (w4E l s)))], hp := fun _ => [(5000, .cells 22 [.dat (.ints .i64 l)]), (5001, .cells 9 [.v (.string ByteArray.empty)]), (5002, .cells 26 [.v (.int .i64 0)])], μ := fun _ => 0 }
def oW4 (l : List Int) (s : ByteArray) : Nat → Option LoopFam := fun k => cond (Nat.beq k 0) (some (.rng Nat fun _ => rW4 l s)) (cond (Nat.beq k 1004) (some (.one (oW4C l s))) none)
def hpR4 (l : List Int) : List (Nat × SBlk) := [(1000, .cells 22 [.dat (.ints .i64 l)]), (1001, .cells 9 [.v (.string ByteArray.empty)]), (1002, .cells 3 [.v (.int .i64 0)]), (1003, .cells 26 [.v (.int .i64 0)])]
def oR4A (l : List Int) (b : ByteArray) (n : Int) : LoopInv := { ι := Nat, p := fun i => i ≤ 3 ∧ nuE l n = 0 ∧ 6 ≤ n ∧ 6 ≤ b.size, tm := fun i => [(1, .v (.string b)), (2, .v (.int .i64 n)), (3, .p 1000 0 0), (6, .p 1001 0 0), (7, .p 1002 0 0), (8, .p 1003 0 0), (10, .p 1004 0 0), (40, .v (.int .i64 (i : Nat)))], hp := fun i => hpR4 l ++ [(1004, .arr 36 (.ints .i64 (q4P b i)))], μ := fun i => 3 - i }
def rR4 (l : List Int) (b : ByteArray) (n : Int) : RngInv := { f := 54, cap := [.p 2200024 0 0, .p 2200025 0 0], hpI := [(2200024, .arr 36 (.ints .i64 (q4 b))), (2200025, .cells 9 [.v (.string (b.extract 6 b.size))])], xs := itDv (b.extract 6 b.size) (q4 b), it := fun i => [.int .i64 (i : Nat), .string (p4 b i)], tm := [(3, .p 1000 0 0), (6, .p 1001 0 0), (7, .p 1002 0 0), (8, .p 1003 0 0), (15, .p 1004 0 0), (16, .p 1005 0 0), (17, .p 1006 0 0)], hp := fun i => hpR4 l ++ [(1004, .cells 9 [.v (.string (out4 l b n i))]), (1005, .cells 3 [.v (.int .i64 (at4 b i))]), (1006, .arr 36 (.ints .i64 (ptL n)))], p := fun i => ok4 l b n i = true }
def oR4 (l : List Int) (b : ByteArray) (n : Int) : Nat → Option LoopFam := fun k => cond (Nat.beq k 0) (some (.one (oR4A l b n))) (cond (Nat.beq k 1) (some (.rng Nat fun _ => rR4 l b n)) none)
def GUd : List (Nat × Ctr) := (60, sFld2.ctr) :: (33, sRd16.ctr) :: (34, sPtL.ctr) :: (35, sDivd.ctr) :: (42, sJoin.ctr) :: (16, sWrO.ctr) :: (20, sSzO.ctr) :: (11, sRdO.ctr) :: GUc
def GUe : List (Nat × Ctr) := (41, sLit2.ctr) :: (22, sPtV.ctr) :: (13, sR4.ctr) :: GUd
def GUf : List (Nat × Ctr) := (18, sW4.ctr) :: GUe
end Go.Proofs.Ytmdbliacaeokaaa
namespace Go.Proofs.Ytmdbliacaeokaaa
open Go Go.RowKit
set_option linter.unusedVariables false
set_option maxRecDepth 100000
def fldJ_t (n : Int) : Prop :=
 (0 : Int) ≤ (0 : Int) ∧
 (0 : Int) ≤ (8 : Int) ∧
 (↑((1 : Nat)) : Int) * (8 : Int) ≤ (281474976710656 : Int) ∧
 (8 : Int) ≤ (9223372036854775807 : Int) ∧
 (∃ (x0 : Nat), Nat.le x0 (2 : Nat) ∧ n = lit2N n x0 ∧ (2 : Int) = (2 : Int) ∧ (0 : Int) = (↑x0 : Int) ∧ List.replicate (Int.toNat (0 : Int)) (0 : Int) = lit2P n x0) ∧
 ∀ (x1 : Nat),
 Nat.le x1 (2 : Nat) →
 (decide ((↑x1 : Int) < (2 : Int)) = true →
 (List.length (lit2P n x1) + (1 : Nat)) * (1 : Nat) ≤ (140737488355328 : Nat) ∧
 (0 : Int) ≤ (8 : Int) ∧
 ∃ (y2 : Nat),
 Nat.le y2 (2 : Nat) ∧
 Nat.sub (2 : Nat) y2 < Nat.sub (2 : Nat) x1 ∧
 Int.fdiv (lit2N n x1) ((2 : Int) ^ min (Int.toNat (8 : Int)) (IntKind.bits IntKind.u64)) = lit2N n y2 ∧
 (2 : Int) = (2 : Int) ∧ IntKind.wrap IntKind.i64 ((↑x1 : Int) + (1 : Int)) = (↑y2 : Int) ∧ lit2P n x1 ++ [IntKind.wrap IntKind.u8 (lit2N n x1)] = lit2P n y2) ∧
 (decide ((↑x1 : Int) < (2 : Int)) = false → strOfNums (lit2P n x1) = lit2 n)
theorem fldJ_e (n : Int) : fldJ_t n = vcG Try.prog (Gof []) (one (oFld2 n)) Try.f60 [.v (.int .u64 n), .v (.int .i64 2)] [] (.leaf ((.v (.string (lit2 n)))) ([])) := by kernel_rfl
def rd16J_t (b : ByteArray) (i : Int) : Prop :=
 (decide ((2 : Int) < (1 : Int)) = true → (0 : Int) = le16 b (Int.toNat i) ∧ (0 : Int) = i + (2 : Int) ∧ (2 : Int) = (0 : Int) ∧ (0 : Int) = (0 : Int)) ∧
 (decide ((2 : Int) < (1 : Int)) = false →
 (decide ((2 : Int) > (8 : Int)) = true → (0 : Int) = le16 b (Int.toNat i) ∧ (0 : Int) = i + (2 : Int) ∧ (2 : Int) = (0 : Int) ∧ (0 : Int) = (0 : Int)) ∧
 (decide ((2 : Int) > (8 : Int)) = false →
 (decide (i < (0 : Int)) = true → (0 : Int) = le16 b (Int.toNat i) ∧ (0 : Int) = i + (2 : Int) ∧ (2 : Int) = (0 : Int) ∧ (0 : Int) = (0 : Int)) ∧
 (decide (i < (0 : Int)) = false →
 (decide (i > (↑(ByteArray.size b) : Int)) = true → (0 : Int) = le16 b (Int.toNat i) ∧ (0 : Int) = i + (2 : Int) ∧ (2 : Int) = (0 : Int) ∧ (0 : Int) = (0 : Int)) ∧
 (decide (i > (↑(ByteArray.size b) : Int)) = false →
 (decide ((2 : Int) > IntKind.wrap IntKind.i64 ((↑(ByteArray.size b) : Int) - i)) = true →
 (0 : Int) = le16 b (Int.toNat i) ∧ (0 : Int) = i + (2 : Int) ∧ (5 : Int) = (0 : Int) ∧ (↑(ByteArray.size b) : Int) = (0 : Int)) ∧
 (decide ((2 : Int) > IntKind.wrap IntKind.i64 ((↑(ByteArray.size b) : Int) - i)) = false →
 (∃ (x0 : Nat),
 Nat.le x0 (2 : Nat) ∧
 b = b ∧
 i = i ∧ (2 : Int) = (2 : Int) ∧ (0 : Int) = le16P b (Int.toNat i) x0 ∧ (2 : Int) = (2 : Int) ∧ (0 : Int) = (↑x0 : Int) ∧ (0 : Int) = (0 : Int) ∧ (0 : Int) = (0 : Int)) ∧
 ∀ (x1 : Nat),
 Nat.le x1 (2 : Nat) →
 (decide ((↑x1 : Int) < (2 : Int)) = true →
 (0 : Int) ≤ IntKind.wrap IntKind.i64 (i + (↑x1 : Int)) ∧
 IntKind.wrap IntKind.i64 (i + (↑x1 : Int)) < (↑(ByteArray.size b) : Int) ∧
 (0 : Int) ≤ IntKind.wrap IntKind.i64 ((8 : Int) * (↑x1 : Int)) ∧
 ∃ (y2 : Nat),
 Nat.le y2 (2 : Nat) ∧
 Nat.sub (2 : Nat) y2 < Nat.sub (2 : Nat) x1 ∧
 b = b ∧
 i = i ∧
 (2 : Int) = (2 : Int) ∧
 bits BinOp.or IntKind.u64 (le16P b (Int.toNat i) x1)
 (IntKind.wrap IntKind.u64
 (IntKind.wrap IntKind.u64
 (↑(UInt8.toNat (List.getD b.data.toList (Int.toNat (IntKind.wrap IntKind.i64 (i + (↑x1 : Int)))) (0 : UInt8))) : Int) *
 (2 : Int) ^ min (Int.toNat (IntKind.wrap IntKind.i64 ((8 : Int) * (↑x1 : Int)))) (IntKind.bits IntKind.u64))) =
 le16P b (Int.toNat i) y2 ∧
 (2 : Int) = (2 : Int) ∧ IntKind.wrap IntKind.i64 ((↑x1 : Int) + (1 : Int)) = (↑y2 : Int) ∧ (0 : Int) = (0 : Int) ∧ (0 : Int) = (0 : Int)) ∧
 (decide ((↑x1 : Int) < (2 : Int)) = false →
 le16P b (Int.toNat i) x1 = le16 b (Int.toNat i) ∧ IntKind.wrap IntKind.i64 (i + (2 : Int)) = i + (2 : Int) ∧ (0 : Int) = (0 : Int) ∧ (0 : Int) = (0 : Int)))))))
theorem rd16J_e (b : ByteArray) (i : Int) : rd16J_t b i = vcG Try.prog (Gof []) (one (oRd16 b i)) Try.f33 [.v (.string b), .v (.int .i64 i), .v (.int .i64 2)] [] (.leaf ((.tu [.v (.int .u64 (le16 b i.toNat)), .v (.int .i64 (i + 2)), .ag [.v (.int .i64 0), .v (.int .i64 0)]])) ([])) := by kernel_rfl
def ptlJ_t (n : Int) : Prop :=
 (4 : Int) ≠ (0 : Int) ∧
 List.length
 [IntKind.wrap IntKind.i64 (Int.tdiv (IntKind.wrap IntKind.i64 (n + (3 : Int))) (4 : Int)), IntKind.wrap IntKind.i64 (Int.tdiv (IntKind.wrap IntKind.i64 (n + (3 : Int))) (4 : Int)),
 IntKind.wrap IntKind.i64 (Int.tdiv (IntKind.wrap IntKind.i64 (n + (3 : Int))) (4 : Int)),
 IntKind.wrap IntKind.i64 (n - IntKind.wrap IntKind.i64 ((3 : Int) * IntKind.wrap IntKind.i64 (Int.tdiv (IntKind.wrap IntKind.i64 (n + (3 : Int))) (4 : Int))))] =
 List.length (List.replicate (4 : Nat) (0 : Int)) ∧
 (4 : Nat) =
 Nat.succ
 (Nat.add
 (List.length
 [IntKind.wrap IntKind.i64 (Int.tdiv (IntKind.wrap IntKind.i64 (n + (3 : Int))) (4 : Int)), IntKind.wrap IntKind.i64 (Int.tdiv (IntKind.wrap IntKind.i64 (n + (3 : Int))) (4 : Int)),
 IntKind.wrap IntKind.i64 (n - IntKind.wrap IntKind.i64 ((3 : Int) * IntKind.wrap IntKind.i64 (Int.tdiv (IntKind.wrap IntKind.i64 (n + (3 : Int))) (4 : Int))))])
 ((0 : Nat))) ∧
 [IntKind.wrap IntKind.i64 (Int.tdiv (IntKind.wrap IntKind.i64 (n + (3 : Int))) (4 : Int)), IntKind.wrap IntKind.i64 (Int.tdiv (IntKind.wrap IntKind.i64 (n + (3 : Int))) (4 : Int)),
 IntKind.wrap IntKind.i64 (Int.tdiv (IntKind.wrap IntKind.i64 (n + (3 : Int))) (4 : Int)),
 IntKind.wrap IntKind.i64 (n - IntKind.wrap IntKind.i64 ((3 : Int) * IntKind.wrap IntKind.i64 (Int.tdiv (IntKind.wrap IntKind.i64 (n + (3 : Int))) (4 : Int))))] =
 ptL n
theorem ptlJ_e (n : Int) : ptlJ_t n = vcG Try.prog (Gof []) (fun _ => none) Try.f34 [.v (.int .i64 n)] [] (.leaf ((.av (.ints .i64 (ptL n)))) ([])) := by kernel_rfl
def divJ_t (s : ByteArray) (p : List Int) : Prop :=
 p = p ∧ s = s
theorem divJ_e (s : ByteArray) (p : List Int) : divJ_t s p = vcG Try.prog (Gof []) (fun _ => none) Try.f35 [.v (.string s), .av (.ints .i64 p)] [] (.leaf ((.fn (.func 54) [] [.p 2000 0 0, .p 2001 0 0])) ([(2000, .arr 36 (.ints .i64 p)), (2001, .cells 9 [.v (.string s)])])) := by kernel_rfl
def joinJ_t (xs : List ByteArray) : Prop :=
 (∃ (x0 : Nat), Nat.le x0 (List.length xs) ∧ ByteArray.empty = jn (List.take x0 xs) ∧ xs = xs ∧ (↑(List.length xs) : Int) = (↑(List.length xs) : Int) ∧ (0 : Int) = (↑x0 : Int)) ∧
 ∀ (x1 : Nat),
 Nat.le x1 (List.length xs) →
 (decide ((↑x1 : Int) < (↑(List.length xs) : Int)) = true →
 (0 : Int) ≤ (↑x1 : Int) ∧
 (↑x1 : Int) < (↑(List.length xs) : Int) ∧
 ByteArray.size (jn (List.take x1 xs)) + ByteArray.size (List.getD xs (Int.toNat (↑x1 : Int)) ByteArray.empty) ≤ (9223372036854775807 : Nat) ∧
 ∃ (y2 : Nat),
 Nat.le y2 (List.length xs) ∧
 Nat.sub (List.length xs) y2 < Nat.sub (List.length xs) x1 ∧
 jn (List.take x1 xs) ++ List.getD xs (Int.toNat (↑x1 : Int)) ByteArray.empty = jn (List.take y2 xs) ∧
 xs = xs ∧ (↑(List.length xs) : Int) = (↑(List.length xs) : Int) ∧ IntKind.wrap IntKind.i64 ((↑x1 : Int) + (1 : Int)) = (↑y2 : Int)) ∧
 (decide ((↑x1 : Int) < (↑(List.length xs) : Int)) = false → jn (List.take x1 xs) = jn xs)
theorem joinJ_e (xs : List ByteArray) : joinJ_t xs = vcG Try.prog (Gof []) (one (oJoin xs)) Try.f42 [.dat (.strs xs)] [] (.leaf ((.v (.string (jn xs)))) ([])) := by kernel_rfl
def wroJ_t (l : List Int) (s : ByteArray) : Prop :=
 List.length l ≤ (4294967296 : Nat) ∧
 ByteArray.size s ≤ (4294967296 : Nat) ∧
 ((txE l s != (0 : Int)) = true → ByteArray.empty = wrO l s ∧ txE l s = txE l s) ∧
 ((txE l s != (0 : Int)) = false → chk l = (0 : Int) ∧ txE l s = (0 : Int) ∧ ByteArray.size s ≤ (100000 : Nat) ∧ wrH l s = wrO l s ∧ (0 : Int) = txE l s)
theorem wroJ_e (l : List Int) (s : ByteArray) : wroJ_t l s = vcG Try.prog (Gof GUc) (fun _ => none) Try.f16 [.dat (.ints .i64 l), .v (.string s)] [] (.leaf ((.tu [.v (.string (wrO l s)), .v (.int .i64 (txE l s))])) ([])) := by kernel_rfl
def szoJ_t (l : List Int) (s : ByteArray) : Prop :=
 List.length l ≤ (4294967296 : Nat) ∧
 ByteArray.size s ≤ (4294967296 : Nat) ∧
 ((txE l s != (0 : Int)) = true → (0 : Int) = szO l s ∧ txE l s = txE l s) ∧
 ((txE l s != (0 : Int)) = false → chk l = (0 : Int) ∧ txE l s = (0 : Int) ∧ ByteArray.size s ≤ (100000 : Nat) ∧ (↑(ByteArray.size (wrH l s)) : Int) = szO l s ∧ (0 : Int) = txE l s)
theorem szoJ_e (l : List Int) (s : ByteArray) : szoJ_t l s = vcG Try.prog (Gof GUc) (fun _ => none) Try.f20 [.dat (.ints .i64 l), .v (.string s)] [] (.leaf ((.tu [.v (.int .i64 (szO l s)), .v (.int .i64 (txE l s))])) ([])) := by kernel_rfl
def rdoJ_t (l : List Int) (b : ByteArray) (n : Int) : Prop :=
 List.length l ≤ (4294967296 : Nat) ∧
 ((nuE l n != (0 : Int)) = true → ByteArray.empty = rO l b n ∧ nuE l n = rE l b n) ∧
 ((nuE l n != (0 : Int)) = false → chk l = (0 : Int) ∧ ByteArray.size b ≤ (4294967296 : Nat) ∧ (0 : Int) ≤ n ∧ n ≤ (131072 : Int) ∧ rdS l b n = rO l b n ∧ rdE l b n = rE l b n)
theorem rdoJ_e (l : List Int) (b : ByteArray) (n : Int) : rdoJ_t l b n = vcG Try.prog (Gof GUc) (fun _ => none) Try.f11 [.dat (.ints .i64 l), .v (.string b), .v (.int .i64 n)] [] (.leaf ((.tu [.v (.string (rO l b n)), .v (.int .i64 (rE l b n))])) ([])) := by kernel_rfl
def litJ_t (n : Int) : Prop :=
 (decide ((2 : Int) < (1 : Int)) = true → ByteArray.empty = lit2 n ∧ (2 : Int) = (0 : Int)) ∧
 (decide ((2 : Int) < (1 : Int)) = false →
 (decide ((2 : Int) > (8 : Int)) = true → ByteArray.empty = lit2 n ∧ (2 : Int) = (0 : Int)) ∧
 (decide ((2 : Int) > (8 : Int)) = false →
 (decide ((2 : Int) < (8 : Int)) = true →
 (0 : Int) ≤ IntKind.wrap IntKind.i64 ((8 : Int) * (2 : Int)) ∧
 ((Int.fdiv n ((2 : Int) ^ min (Int.toNat (IntKind.wrap IntKind.i64 ((8 : Int) * (2 : Int)))) (IntKind.bits IntKind.u64)) != (0 : Int)) = true →
 ByteArray.empty = lit2 n ∧ (2 : Int) = (0 : Int)) ∧
 ((Int.fdiv n ((2 : Int) ^ min (Int.toNat (IntKind.wrap IntKind.i64 ((8 : Int) * (2 : Int)))) (IntKind.bits IntKind.u64)) != (0 : Int)) = false →
 (0 : Int) ≤ n ∧ n < (65536 : Int) ∧ lit2 n = lit2 n ∧ (0 : Int) = (0 : Int))) ∧
 (decide ((2 : Int) < (8 : Int)) = false → (0 : Int) ≤ n ∧ n < (65536 : Int) ∧ lit2 n = lit2 n ∧ (0 : Int) = (0 : Int))))
theorem litJ_e (n : Int) : litJ_t n = vcG Try.prog (Gof GUd) (fun _ => none) Try.f41 [.v (.int .u64 n), .v (.int .i64 2)] [] (.leaf ((.tu [.v (.string (lit2 n)), .v (.int .i64 0)])) ([])) := by kernel_rfl
def ptvJ_t (n : Int) : Prop :=
 (decide (n < (0 : Int)) = true →
 List.length [(0 : Int), (0 : Int), (0 : Int), (0 : Int)] = List.length (List.replicate (4 : Nat) (0 : Int)) ∧
 (4 : Nat) = (4 : Nat) ∧ [(0 : Int), (0 : Int), (0 : Int), (0 : Int)] = ptV n ∧ (2 : Int) = ptE n) ∧
 (decide (n < (0 : Int)) = false →
 (decide (n > (131072 : Int)) = true →
 List.length [(0 : Int), (0 : Int), (0 : Int), (0 : Int)] = List.length (List.replicate (4 : Nat) (0 : Int)) ∧
 (4 : Nat) = (4 : Nat) ∧ [(0 : Int), (0 : Int), (0 : Int), (0 : Int)] = ptV n ∧ (2 : Int) = ptE n) ∧
 (decide (n > (131072 : Int)) = false →
 (decide (n < (6 : Int)) = true →
 List.length [(0 : Int), (0 : Int), (0 : Int), (0 : Int)] = List.length (List.replicate (4 : Nat) (0 : Int)) ∧
 (4 : Nat) = (4 : Nat) ∧ [(0 : Int), (0 : Int), (0 : Int), (0 : Int)] = ptV n ∧ (20 : Int) = ptE n) ∧
 (decide (n < (6 : Int)) = false →
 (0 : Int) ≤ n ∧
 n ≤ (131072 : Int) ∧
 List.length (ptL n) = (4 : Nat) ∧
 List.length (ptL n) = List.length (List.replicate (4 : Nat) (0 : Int)) ∧
 (4 : Nat) = Nat.succ (Nat.add (List.length [ptK n, ptK n, n - (3 : Int) * ptK n]) ((0 : Nat))) ∧ ptL n = ptV n ∧ (0 : Int) = ptE n)))
theorem ptvJ_e (n : Int) : ptvJ_t n = vcG Try.prog (Gof GUd) (fun _ => none) Try.f22 [.v (.int .i64 n)] [] (.leaf ((.tu [.av (.ints .i64 (ptV n)), .v (.int .i64 (ptE n))])) ([])) := by kernel_rfl
def r4J_t (l : List Int) (b : ByteArray) (n : Int) : Prop :=
 List.length l ≤ (4294967296 : Nat) ∧
 ((nuE l n != (0 : Int)) = true → ByteArray.empty = r4O l b n ∧ (0 : Int) = r4P l b n ∧ nuE l n = r4E l b n) ∧
 ((nuE l n != (0 : Int)) = false →
 (decide (n < (6 : Int)) = true → ByteArray.empty = r4O l b n ∧ (0 : Int) = r4P l b n ∧ (20 : Int) = r4E l b n) ∧
 (decide (n < (6 : Int)) = false →
 (decide ((↑(ByteArray.size b) : Int) < (6 : Int)) = true → ByteArray.empty = r4O l b n ∧ (0 : Int) = r4P l b n ∧ (22 : Int) = r4E l b n) ∧
 (decide ((↑(ByteArray.size b) : Int) < (6 : Int)) = false →
 (0 : Int) ≤ (3 : Int) ∧
 (3 : Int) < (↑(4 : Nat) : Int) ∧
 Int.toNat (3 : Int) < (4 : Nat) ∧
 (∃ (x0 : Nat),
 (x0 ≤ (3 : Nat) ∧ nuE l n = (0 : Int) ∧ (6 : Int) ≤ n ∧ (6 : Nat) ≤ ByteArray.size b) ∧
 b = b ∧
 n = n ∧
 (0 : Int) = (↑x0 : Int) ∧
 l = l ∧
 ByteArray.empty = ByteArray.empty ∧
 (0 : Int) = (0 : Int) ∧
 (0 : Int) = (0 : Int) ∧
 List.set (List.replicate (4 : Nat) (0 : Int)) (Int.toNat (3 : Int)) (IntKind.wrap IntKind.i64 ((↑(ByteArray.size b) : Int) - (6 : Int))) = q4P b x0) ∧
 ∀ (x1 : Nat),
 x1 ≤ (3 : Nat) ∧ nuE l n = (0 : Int) ∧ (6 : Int) ≤ n ∧ (6 : Nat) ≤ ByteArray.size b →
 (decide ((↑x1 : Int) < (3 : Int)) = true →
 (0 : Int) ≤ IntKind.wrap IntKind.i64 ((2 : Int) * (↑x1 : Int)) ∧
 IntKind.wrap IntKind.i64 ((2 : Int) * (↑x1 : Int)) + (2 : Int) ≤ (↑(ByteArray.size b) : Int) ∧
 ByteArray.size b ≤ (4294967296 : Nat) ∧
 (0 : Int) ≤ (↑x1 : Int) ∧
 (↑x1 : Int) < (↑(4 : Nat) : Int) ∧
 Int.toNat (↑x1 : Int) < List.length (q4P b x1) ∧
 (0 : Int) ≤ (3 : Int) ∧
 (3 : Int) < (↑(4 : Nat) : Int) ∧
 Int.toNat (3 : Int) <
 List.length
 (List.set (q4P b x1) (Int.toNat (↑x1 : Int)) (IntKind.wrap IntKind.i64 (le16 b (Int.toNat (IntKind.wrap IntKind.i64 ((2 : Int) * (↑x1 : Int))))))) ∧
 (0 : Int) ≤ (↑x1 : Int) ∧
 (↑x1 : Int) < (↑(4 : Nat) : Int) ∧
 Int.toNat (↑x1 : Int) <
 List.length
 (List.set (q4P b x1) (Int.toNat (↑x1 : Int))
 (IntKind.wrap IntKind.i64 (le16 b (Int.toNat (IntKind.wrap IntKind.i64 ((2 : Int) * (↑x1 : Int))))))) ∧
 (0 : Int) ≤ (3 : Int) ∧
 (3 : Int) < (↑(4 : Nat) : Int) ∧
 Int.toNat (3 : Int) <
 List.length
 (List.set (q4P b x1) (Int.toNat (↑x1 : Int))
 (IntKind.wrap IntKind.i64 (le16 b (Int.toNat (IntKind.wrap IntKind.i64 ((2 : Int) * (↑x1 : Int))))))) ∧
 ∃ (y2 : Nat),
 (y2 ≤ (3 : Nat) ∧ nuE l n = (0 : Int) ∧ (6 : Int) ≤ n ∧ (6 : Nat) ≤ ByteArray.size b) ∧
 Nat.sub (3 : Nat) y2 < Nat.sub (3 : Nat) x1 ∧
 b = b ∧
 n = n ∧
 IntKind.wrap IntKind.i64 ((↑x1 : Int) + (1 : Int)) = (↑y2 : Int) ∧
 l = l ∧
 ByteArray.empty = ByteArray.empty ∧
 (0 : Int) = (0 : Int) ∧
 (0 : Int) = (0 : Int) ∧
 List.set
 (List.set (q4P b x1) (Int.toNat (↑x1 : Int))
 (IntKind.wrap IntKind.i64 (le16 b (Int.toNat (IntKind.wrap IntKind.i64 ((2 : Int) * (↑x1 : Int)))))))
 (Int.toNat (3 : Int))
 (IntKind.wrap IntKind.i64
 (List.getD
 (List.set (q4P b x1) (Int.toNat (↑x1 : Int))
 (IntKind.wrap IntKind.i64 (le16 b (Int.toNat (IntKind.wrap IntKind.i64 ((2 : Int) * (↑x1 : Int)))))))
 (Int.toNat (3 : Int)) (0 : Int) -
 List.getD
 (List.set (q4P b x1) (Int.toNat (↑x1 : Int))
 (IntKind.wrap IntKind.i64 (le16 b (Int.toNat (IntKind.wrap IntKind.i64 ((2 : Int) * (↑x1 : Int)))))))
 (Int.toNat (↑x1 : Int)) (0 : Int))) =
 q4P b y2) ∧
 (decide ((↑x1 : Int) < (3 : Int)) = false →
 (0 : Int) ≤ (3 : Int) ∧
 (3 : Int) < (↑(4 : Nat) : Int) ∧
 Int.toNat (3 : Int) < List.length (q4P b x1) ∧
 (decide (List.getD (q4P b x1) (Int.toNat (3 : Int)) (0 : Int) < (0 : Int)) = true → ByteArray.empty = r4O l b n ∧ (0 : Int) = r4P l b n ∧ (22 : Int) = r4E l b n) ∧
 (decide (List.getD (q4P b x1) (Int.toNat (3 : Int)) (0 : Int) < (0 : Int)) = false →
 (0 : Int) ≤ n ∧
 n ≤ (131072 : Int) ∧
 List.length (ptL n) = (4 : Nat) ∧
 List.length (ptL n) = List.length (List.replicate (4 : Nat) (0 : Int)) ∧
 (0 : Int) ≤ (6 : Int) ∧
 (6 : Int) ≤ (↑(ByteArray.size b) : Int) ∧
 (↑(ByteArray.size b) : Int) ≤ (↑(ByteArray.size b) : Int) ∧
 (4 : Nat) = List.length (q4P b x1) ∧
 List.length (q4P b x1) = (4 : Nat) ∧
 ∃ (y3 : Nat),
 (ISatE Try.prog ((54 : Nat)) [SV.p (2200024 : Nat) (0 : Nat) (0 : Nat), SV.p (2200025 : Nat) (0 : Nat) (0 : Nat)]
 [((2200024 : Nat), SBlk.arr (36 : TypeId) (Dat.ints IntKind.i64 (q4 b))),
 ((2200025 : Nat), SBlk.cells (9 : TypeId) [SV.v (Value.string (ByteArray.extract b (6 : Nat) (ByteArray.size b)))])]
 ([Value.int IntKind.i64 (↑((0 : Nat)) : Int),
 Value.string (pcS (ByteArray.extract b (6 : Nat) (ByteArray.size b)) (q4 b) ((0 : Nat)))] ::
 List.map
 (fun (i : Nat) =>
 [Value.int IntKind.i64 (↑i : Int), Value.string (pcS (ByteArray.extract b (6 : Nat) (ByteArray.size b)) (q4 b) i)])
 [(1 : Nat), (2 : Nat), (3 : Nat)])
 fun (x : Nat) => []) ∧
 (q4P b x1 = q4 b ∧
 ByteArray.extract b (Int.toNat (6 : Int)) (Int.toNat (↑(ByteArray.size b) : Int)) =
 ByteArray.extract b (6 : Nat) (ByteArray.size b)) ∧
 ok4 l b n (0 : Nat) = true ∧
 (l = l ∧
 ByteArray.empty = ByteArray.empty ∧
 (0 : Int) = (0 : Int) ∧
 (0 : Int) = (0 : Int) ∧ ByteArray.empty = out4 l b n (0 : Nat) ∧ (6 : Int) = at4 b (0 : Nat) ∧ ptL n = ptL n) ∧
 (∀ (i4 : Nat),
 i4 <
 List.length
 ([Value.int IntKind.i64 (↑((0 : Nat)) : Int),
 Value.string (pcS (ByteArray.extract b (6 : Nat) (ByteArray.size b)) (q4 b) ((0 : Nat)))] ::
 List.map
 (fun (i : Nat) =>
 [Value.int IntKind.i64 (↑i : Int), Value.string (pcS (ByteArray.extract b (6 : Nat) (ByteArray.size b)) (q4 b) i)])
 [(1 : Nat), (2 : Nat), (3 : Nat)]) →
 ok4 l b n i4 = true →
 ([Value.int IntKind.i64 (↑((0 : Nat)) : Int),
 Value.string (pcS (ByteArray.extract b (6 : Nat) (ByteArray.size b)) (q4 b) ((0 : Nat)))] ::
 List.map
 (fun (i : Nat) =>
 [Value.int IntKind.i64 (↑i : Int),
 Value.string (pcS (ByteArray.extract b (6 : Nat) (ByteArray.size b)) (q4 b) i)])
 [(1 : Nat), (2 : Nat), (3 : Nat)])[i4]? =
 some [Value.int IntKind.i64 (↑i4 : Int), Value.string (p4 b i4)] ∧
 List.length [Value.int IntKind.i64 (↑i4 : Int), Value.string (p4 b i4)] = List.length #[(72 : Nat), (73 : Nat)].toList ∧
 (0 : Int) ≤ (↑i4 : Int) ∧
 (↑i4 : Int) < (↑(4 : Nat) : Int) ∧
 Int.toNat (↑i4 : Int) < Nat.succ (Nat.add (List.length [ptK n, ptK n, n - (3 : Int) * ptK n]) ((0 : Nat))) ∧
 chk l = (0 : Int) ∧
 ByteArray.size (p4 b i4) ≤ (4294967296 : Nat) ∧
 (0 : Int) ≤ List.getD (ptL n) (Int.toNat (↑i4 : Int)) (0 : Int) ∧
 List.getD (ptL n) (Int.toNat (↑i4 : Int)) (0 : Int) ≤ (131072 : Int) ∧
 ((rdE l (p4 b i4) (List.getD (ptL n) (Int.toNat (↑i4 : Int)) (0 : Int)) != (0 : Int)) = true →
 ByteArray.empty = r4O l b n ∧ at4 b i4 = r4P l b n ∧ (22 : Int) = r4E l b n) ∧
 ((rdE l (p4 b i4) (List.getD (ptL n) (Int.toNat (↑i4 : Int)) (0 : Int)) != (0 : Int)) = false →
 ByteArray.size (out4 l b n i4) +
 ByteArray.size (rdS l (p4 b i4) (List.getD (ptL n) (Int.toNat (↑i4 : Int)) (0 : Int))) ≤
 (9223372036854775807 : Nat) ∧
 ok4 l b n (i4 + (1 : Nat)) = true ∧
 l = l ∧
 ByteArray.empty = ByteArray.empty ∧
 (0 : Int) = (0 : Int) ∧
 (0 : Int) = (0 : Int) ∧
 out4 l b n i4 ++ rdS l (p4 b i4) (List.getD (ptL n) (Int.toNat (↑i4 : Int)) (0 : Int)) =
 out4 l b n (i4 + (1 : Nat)) ∧
 IntKind.wrap IntKind.i64 (at4 b i4 + (↑(ByteArray.size (p4 b i4)) : Int)) =
 at4 b (i4 + (1 : Nat)) ∧
 ptL n = ptL n)) ∧
 (ok4 l b n
 (List.length
 ([Value.int IntKind.i64 (↑((0 : Nat)) : Int),
 Value.string (pcS (ByteArray.extract b (6 : Nat) (ByteArray.size b)) (q4 b) ((0 : Nat)))] ::
 List.map
 (fun (i : Nat) =>
 [Value.int IntKind.i64 (↑i : Int), Value.string (pcS (ByteArray.extract b (6 : Nat) (ByteArray.size b)) (q4 b) i)])
 [(1 : Nat), (2 : Nat), (3 : Nat)])) =
 true →
 out4 l b n
 (List.length
 ([Value.int IntKind.i64 (↑((0 : Nat)) : Int),
 Value.string (pcS (ByteArray.extract b (6 : Nat) (ByteArray.size b)) (q4 b) ((0 : Nat)))] ::
 List.map
 (fun (i : Nat) =>
 [Value.int IntKind.i64 (↑i : Int),
 Value.string (pcS (ByteArray.extract b (6 : Nat) (ByteArray.size b)) (q4 b) i)])
 [(1 : Nat), (2 : Nat), (3 : Nat)])) =
 r4O l b n ∧
 (0 : Int) = r4P l b n ∧ (0 : Int) = r4E l b n))))))
theorem r4J_e (l : List Int) (b : ByteArray) (n : Int) : r4J_t l b n = vcG Try.prog (Gof GUd) (oR4 l b n) Try.f13 [.dat (.ints .i64 l), .v (.string b), .v (.int .i64 n)] [] (.leaf ((.tu [.v (.string (r4O l b n)), .v (.int .i64 (r4P l b n)), .v (.int .i64 (r4E l b n))])) ([])) := by kernel_rfl
def w4J_t (l : List Int) (s : ByteArray) : Prop :=
 List.length l ≤ (4294967296 : Nat) ∧
 ByteArray.size s ≤ (4294967296 : Nat) ∧
 (((txE l s == (0 : Int)) = true →
 (decide ((↑(ByteArray.size s) : Int) < (6 : Int)) = true → ∃ (x0 : Unit), True ∧ s = s ∧ (20 : Int) = w4E l s ∧ l = l ∧ ByteArray.empty = ByteArray.empty ∧ (0 : Int) = (0 : Int)) ∧
 (decide ((↑(ByteArray.size s) : Int) < (6 : Int)) = false → ∃ (x1 : Unit), True ∧ s = s ∧ txE l s = w4E l s ∧ l = l ∧ ByteArray.empty = ByteArray.empty ∧ (0 : Int) = (0 : Int))) ∧
 ((txE l s == (0 : Int)) = false → ∃ (x2 : Unit), True ∧ s = s ∧ txE l s = w4E l s ∧ l = l ∧ ByteArray.empty = ByteArray.empty ∧ (0 : Int) = (0 : Int))) ∧
 ∀ (x3 : Unit),
 True →
 ((w4E l s != (0 : Int)) = true → ByteArray.empty = w4O l s ∧ w4E l s = w4E l s) ∧
 ((w4E l s != (0 : Int)) = false →
 (0 : Int) ≤ (↑(ByteArray.size s) : Int) ∧
 (↑(ByteArray.size s) : Int) ≤ (131072 : Int) ∧
 List.length (ptL (↑(ByteArray.size s) : Int)) = (4 : Nat) ∧
 ∃ (y4 : Nat),
 (ISatE Try.prog ((54 : Nat)) [SV.p (800032 : Nat) (0 : Nat) (0 : Nat), SV.p (800033 : Nat) (0 : Nat) (0 : Nat)]
 [((800032 : Nat), SBlk.arr (36 : TypeId) (Dat.ints IntKind.i64 (ptL (↑(ByteArray.size s) : Int)))), ((800033 : Nat), SBlk.cells (9 : TypeId) [SV.v (Value.string s)])]
 ([Value.int IntKind.i64 (↑((0 : Nat)) : Int), Value.string (pcS s (ptL (↑(ByteArray.size s) : Int)) ((0 : Nat)))] ::
 List.map (fun (i : Nat) => [Value.int IntKind.i64 (↑i : Int), Value.string (pcS s (ptL (↑(ByteArray.size s) : Int)) i)]) [(1 : Nat), (2 : Nat), (3 : Nat)])
 fun (x : Nat) => []) ∧
 (ptL (↑(ByteArray.size s) : Int) = ptL (↑(ByteArray.size s) : Int) ∧ s = s) ∧
 True ∧
 (l = l ∧ ByteArray.empty = ByteArray.empty ∧ (0 : Int) = (0 : Int) ∧ (0 : Nat) = (0 : Nat) ∧ (0 : Nat) = (0 : Nat)) ∧
 (∀ (i5 : Nat),
 i5 <
 List.length
 ([Value.int IntKind.i64 (↑((0 : Nat)) : Int), Value.string (pcS s (ptL (↑(ByteArray.size s) : Int)) ((0 : Nat)))] ::
 List.map (fun (i : Nat) => [Value.int IntKind.i64 (↑i : Int), Value.string (pcS s (ptL (↑(ByteArray.size s) : Int)) i)]) [(1 : Nat), (2 : Nat), (3 : Nat)]) →
 True →
 ([Value.int IntKind.i64 (↑((0 : Nat)) : Int), Value.string (pcS s (ptL (↑(ByteArray.size s) : Int)) ((0 : Nat)))] ::
 List.map (fun (i : Nat) => [Value.int IntKind.i64 (↑i : Int), Value.string (pcS s (ptL (↑(ByteArray.size s) : Int)) i)])
 [(1 : Nat), (2 : Nat), (3 : Nat)])[i5]? =
 some [Value.int IntKind.i64 (↑i5 : Int), Value.string (pcS s (ptL (↑(ByteArray.size s) : Int)) i5)] ∧
 List.length [Value.int IntKind.i64 (↑i5 : Int), Value.string (pcS s (ptL (↑(ByteArray.size s) : Int)) i5)] = List.length #[(32 : Nat), (33 : Nat)].toList ∧
 chk l = (0 : Int) ∧
 txE l (pcS s (ptL (↑(ByteArray.size s) : Int)) i5) = (0 : Int) ∧
 ByteArray.size (pcS s (ptL (↑(ByteArray.size s) : Int)) i5) ≤ (100000 : Nat) ∧
 (decide ((↑i5 : Int) < (3 : Int)) = true →
 (decide ((↑(ByteArray.size (wrH l (pcS s (ptL (↑(ByteArray.size s) : Int)) i5))) : Int) > (65535 : Int)) = true →
 ByteArray.empty = w4O l s ∧ (4 : Int) = w4E l s) ∧
 (decide ((↑(ByteArray.size (wrH l (pcS s (ptL (↑(ByteArray.size s) : Int)) i5))) : Int) > (65535 : Int)) = false →
 (0 : Int) ≤ IntKind.wrap IntKind.u64 (↑(ByteArray.size (wrH l (pcS s (ptL (↑(ByteArray.size s) : Int)) i5))) : Int) ∧
 IntKind.wrap IntKind.u64 (↑(ByteArray.size (wrH l (pcS s (ptL (↑(ByteArray.size s) : Int)) i5))) : Int) < (65536 : Int) ∧
 (List.length (heads4 l s i5) + (1 : Nat)) * (16 : Nat) ≤ (140737488355328 : Nat) ∧
 (List.length (strs4 l s i5) + (1 : Nat)) * (16 : Nat) ≤ (140737488355328 : Nat) ∧
 True ∧
 l = l ∧
 ByteArray.empty = ByteArray.empty ∧
 (0 : Int) = (0 : Int) ∧
 heads4 l s i5 ++
 [lit2 (IntKind.wrap IntKind.u64 (↑(ByteArray.size (wrH l (pcS s (ptL (↑(ByteArray.size s) : Int)) i5))) : Int))] =
 heads4 l s (i5 + (1 : Nat)) ∧
 strs4 l s i5 ++ [wrH l (pcS s (ptL (↑(ByteArray.size s) : Int)) i5)] = strs4 l s (i5 + (1 : Nat)))) ∧
 (decide ((↑i5 : Int) < (3 : Int)) = false →
 (List.length (strs4 l s i5) + (1 : Nat)) * (16 : Nat) ≤ (140737488355328 : Nat) ∧
 True ∧
 l = l ∧
 ByteArray.empty = ByteArray.empty ∧
 (0 : Int) = (0 : Int) ∧
 heads4 l s i5 = heads4 l s (i5 + (1 : Nat)) ∧
 strs4 l s i5 ++ [wrH l (pcS s (ptL (↑(ByteArray.size s) : Int)) i5)] = strs4 l s (i5 + (1 : Nat)))) ∧
 (True →
 List.length
 (heads4 l s
 (List.length
 ([Value.int IntKind.i64 (↑((0 : Nat)) : Int), Value.string (pcS s (ptL (↑(ByteArray.size s) : Int)) ((0 : Nat)))] ::
 List.map (fun (i : Nat) => [Value.int IntKind.i64 (↑i : Int), Value.string (pcS s (ptL (↑(ByteArray.size s) : Int)) i)])
 [(1 : Nat), (2 : Nat), (3 : Nat)]))) ≤
 (4294967296 : Nat) ∧
 ByteArray.size
 (jn
 (heads4 l s
 (List.length
 ([Value.int IntKind.i64 (↑((0 : Nat)) : Int), Value.string (pcS s (ptL (↑(ByteArray.size s) : Int)) ((0 : Nat)))] ::
 List.map (fun (i : Nat) => [Value.int IntKind.i64 (↑i : Int), Value.string (pcS s (ptL (↑(ByteArray.size s) : Int)) i)])
 [(1 : Nat), (2 : Nat), (3 : Nat)])))) ≤
 (4294967296 : Nat) ∧
 List.length
 (strs4 l s
 (List.length
 ([Value.int IntKind.i64 (↑((0 : Nat)) : Int), Value.string (pcS s (ptL (↑(ByteArray.size s) : Int)) ((0 : Nat)))] ::
 List.map (fun (i : Nat) => [Value.int IntKind.i64 (↑i : Int), Value.string (pcS s (ptL (↑(ByteArray.size s) : Int)) i)])
 [(1 : Nat), (2 : Nat), (3 : Nat)]))) ≤
 (4294967296 : Nat) ∧
 ByteArray.size
 (jn
 (strs4 l s
 (List.length
 ([Value.int IntKind.i64 (↑((0 : Nat)) : Int), Value.string (pcS s (ptL (↑(ByteArray.size s) : Int)) ((0 : Nat)))] ::
 List.map (fun (i : Nat) => [Value.int IntKind.i64 (↑i : Int), Value.string (pcS s (ptL (↑(ByteArray.size s) : Int)) i)])
 [(1 : Nat), (2 : Nat), (3 : Nat)])))) ≤
 (4294967296 : Nat) ∧
 List.length
 [jn
 (heads4 l s
 (List.length
 ([Value.int IntKind.i64 (↑((0 : Nat)) : Int), Value.string (pcS s (ptL (↑(ByteArray.size s) : Int)) ((0 : Nat)))] ::
 List.map (fun (i : Nat) => [Value.int IntKind.i64 (↑i : Int), Value.string (pcS s (ptL (↑(ByteArray.size s) : Int)) i)])
 [(1 : Nat), (2 : Nat), (3 : Nat)]))),
 jn
 (strs4 l s
 (List.length
 ([Value.int IntKind.i64 (↑((0 : Nat)) : Int), Value.string (pcS s (ptL (↑(ByteArray.size s) : Int)) ((0 : Nat)))] ::
 List.map (fun (i : Nat) => [Value.int IntKind.i64 (↑i : Int), Value.string (pcS s (ptL (↑(ByteArray.size s) : Int)) i)])
 [(1 : Nat), (2 : Nat), (3 : Nat)])))] ≤
 (4294967296 : Nat) ∧
 ByteArray.size
 (jn
 [jn
 (heads4 l s
 (List.length
 ([Value.int IntKind.i64 (↑((0 : Nat)) : Int), Value.string (pcS s (ptL (↑(ByteArray.size s) : Int)) ((0 : Nat)))] ::
 List.map (fun (i : Nat) => [Value.int IntKind.i64 (↑i : Int), Value.string (pcS s (ptL (↑(ByteArray.size s) : Int)) i)])
 [(1 : Nat), (2 : Nat), (3 : Nat)]))),
 jn
 (strs4 l s
 (List.length
 ([Value.int IntKind.i64 (↑((0 : Nat)) : Int), Value.string (pcS s (ptL (↑(ByteArray.size s) : Int)) ((0 : Nat)))] ::
 List.map (fun (i : Nat) => [Value.int IntKind.i64 (↑i : Int), Value.string (pcS s (ptL (↑(ByteArray.size s) : Int)) i)])
 [(1 : Nat), (2 : Nat), (3 : Nat)])))]) ≤
 (4294967296 : Nat) ∧
 jn
 [jn
 (heads4 l s
 (List.length
 ([Value.int IntKind.i64 (↑((0 : Nat)) : Int), Value.string (pcS s (ptL (↑(ByteArray.size s) : Int)) ((0 : Nat)))] ::
 List.map (fun (i : Nat) => [Value.int IntKind.i64 (↑i : Int), Value.string (pcS s (ptL (↑(ByteArray.size s) : Int)) i)])
 [(1 : Nat), (2 : Nat), (3 : Nat)]))),
 jn
 (strs4 l s
 (List.length
 ([Value.int IntKind.i64 (↑((0 : Nat)) : Int), Value.string (pcS s (ptL (↑(ByteArray.size s) : Int)) ((0 : Nat)))] ::
 List.map (fun (i : Nat) => [Value.int IntKind.i64 (↑i : Int), Value.string (pcS s (ptL (↑(ByteArray.size s) : Int)) i)])
 [(1 : Nat), (2 : Nat), (3 : Nat)])))] =
 w4O l s ∧
 (0 : Int) = w4E l s))
theorem w4J_e (l : List Int) (s : ByteArray) : w4J_t l s = vcG Try.prog (Gof GUe) (oW4 l s) Try.f18 [.dat (.ints .i64 l), .v (.string s)] [] (.leaf ((.tu [.v (.string (w4O l s)), .v (.int .i64 (w4E l s))])) ([])) := by kernel_rfl
def dvJ_t (s : ByteArray) (p : List Int) (l0 : Nat) : Prop :=
 (4 : Nat) = List.length p ∧
 ∃ (g0 : Unit),
 ∃ (x1 : Nat),
 Nat.le x1 (4 : Nat) ∧
 ((0 : Nat), true) = (x1, true) ∧
 (Value.func (Fn.yield l0) #[] #[] = Value.func (Fn.yield l0) #[] #[] ∧ p = p ∧ (0 : Int) = (↑x1 : Int) ∧ p = p ∧ s = rsS s p x1) ∧
 ∀ (x2 : Nat),
 Nat.le x2 (4 : Nat) →
 (decide ((↑x2 : Int) < (4 : Int)) = true →
 (0 : Int) ≤ (↑x2 : Int) ∧
 (↑x2 : Int) < (↑(4 : Nat) : Int) ∧
 (4 : Nat) = List.length p ∧
 (0 : Int) ≤ (0 : Int) ∧
 (0 : Int) ≤ List.getD p (Int.toNat (↑x2 : Int)) (0 : Int) ∧
 List.getD p (Int.toNat (↑x2 : Int)) (0 : Int) ≤ (↑(ByteArray.size (rsS s p x2)) : Int) ∧
 l0 = l0 ∧
 (itDv s p)[x2]? =
 some
 [Value.int IntKind.i64 (↑x2 : Int),
 Value.string (ByteArray.extract (rsS s p x2) (Int.toNat (0 : Int)) (Int.toNat (List.getD p (Int.toNat (↑x2 : Int)) (0 : Int))))] ∧
 ((0 : Int) ≤ List.getD p (Int.toNat (↑x2 : Int)) (0 : Int) ∧
 List.getD p (Int.toNat (↑x2 : Int)) (0 : Int) ≤ (↑(ByteArray.size (rsS s p x2)) : Int) ∧
 (↑(ByteArray.size (rsS s p x2)) : Int) ≤ (↑(ByteArray.size (rsS s p x2)) : Int) ∧
 ∃ (y3 : Nat),
 Nat.le y3 (4 : Nat) ∧
 (x2 + (1 : Nat), true) = (y3, true) ∧
 Nat.sub (4 : Nat) y3 < Nat.sub (4 : Nat) x2 ∧
 Value.func (Fn.yield l0) #[] #[] = Value.func (Fn.yield l0) #[] #[] ∧
 p = p ∧
 IntKind.wrap IntKind.i64 ((↑x2 : Int) + (1 : Int)) = (↑y3 : Int) ∧
 p = p ∧
 ByteArray.extract (rsS s p x2) (Int.toNat (List.getD p (Int.toNat (↑x2 : Int)) (0 : Int)))
 (Int.toNat (↑(ByteArray.size (rsS s p x2)) : Int)) =
 rsS s p y3) ∧
 True) ∧
 (decide ((↑x2 : Int) < (4 : Int)) = false → x2 = List.length (itDv s p))
theorem dvJ_e (s : ByteArray) (p : List Int) (l0 : Nat) : dvJ_t s p l0 = vcFI Try.prog (Gof []) l0 (itDv s p) (oDvF l0 s p) Try.f54 [.p 0 0 0, .p 1 0 0] [(0, .arr 36 (.ints .i64 p)), (1, .cells 9 [.v (.string s)])]  := by kernel_rfl
end Go.Proofs.Ytmdbliacaeokaaa
namespace Go.Proofs.Ytmdbliacaeokaaa
open Go Go.RowKit
set_option linter.unusedVariables false
set_option linter.unusedSimpArgs false
set_option maxRecDepth 100000
theorem fldJ_v (n : Int) (h0 : 0 ≤ n) (h1 : n < 65536) : fldJ_t n := by
  unfold fldJ_t
  refine ⟨by omega, by omega, by decide, by omega, ⟨0, Nat.zero_le _, rfl, (by first | rfl | trivial), rfl, rfl⟩, fun i hi => ⟨fun hlt => ?_, fun hge => ?_⟩⟩
  · have hlt : (i : Int) < 2 := by simpa using hlt
    have hi' : i = 0 ∨ i = 1 := by omega
    have e8 : min (Int.toNat (8 : Int)) (IntKind.bits IntKind.u64) = 8 := rfl
    rcases hi' with rfl | rfl
    · refine ⟨by show (0 + 1) * 1 ≤ _; omega, by omega, 1, by rw [nle]; omega, by show 2 - 1 < 2 - 0; omega, ?_, (by first | rfl | trivial), by rw [wr (by omega) (by omega)]; rfl, ?_⟩
      · show Int.fdiv n _ = n / 256
        rw [e8, fdivp (by decide)]
        rfl
      · show [] ++ [IntKind.wrap IntKind.u8 n] = [n % 256]
        rw [wrap8]; rfl
    · refine ⟨by show (1 + 1) * 1 ≤ _; omega, by omega, 2, by rw [nle]; omega, by show 2 - 2 < 2 - 1; omega, ?_, (by first | rfl | trivial), by rw [wr (by omega) (by omega)]; rfl, ?_⟩
      · show Int.fdiv (n / 256) _ = n / 256 / 256
        rw [e8, fdivp (by decide)]
        rfl
      · show [n % 256] ++ [IntKind.wrap IntKind.u8 (n / 256)] = [n % 256, n / 256 % 256]
        rw [wrap8]; rfl
  · rw [nle] at hi
    have hge : ¬ (i : Int) < 2 := by simpa using hge
    have : i = 2 := by omega
    subst this
    rfl
theorem or16 {a b : Int} (h0 : 0 ≤ a) (h1 : a < 256) (h2 : 0 ≤ b) (h3 : b < 256) : bits .or .u64 a (b * 256) = a + 256 * b := by
  obtain ⟨x, rfl⟩ := Int.eq_ofNat_of_zero_le h0
  obtain ⟨y, rfl⟩ := Int.eq_ofNat_of_zero_le h2
  have := or_u64 x y 8 (by omega) (by omega)
  rw [show ((y : Int) * 256) = ((y * 2 ^ 8 : Nat) : Int) by omega, this]
  omega
theorem or0 {b : Int} (h2 : 0 ≤ b) (h3 : b < 256) : bits .or .u64 0 b = b := by
  obtain ⟨y, rfl⟩ := Int.eq_ofNat_of_zero_le h2
  have := or_u64 0 y 0 (by omega) (by omega)
  simpa using this
theorem rd16J_v (b : ByteArray) (i : Int) (h0 : 0 ≤ i) (h1 : i + 2 ≤ b.size) (h2 : b.size ≤ 4294967296) : rd16J_t b i := by
  unfold rd16J_t
  refine ⟨fun h => by simp at h, fun _ => ⟨fun h => by simp at h, fun _ => ⟨fun h => ?_, fun _ => ⟨fun h => ?_, fun _ => ⟨fun h => ?_, fun _ => ⟨⟨0, Nat.zero_le _, (by first | rfl | trivial), (by first | rfl | trivial), (by first | rfl | trivial), rfl, (by first | rfl | trivial), (by first | rfl | trivial), (by first | rfl | trivial), (by first | rfl | trivial)⟩, fun k hk => ⟨fun hlt => ?_, fun hge => ?_⟩⟩⟩⟩⟩⟩⟩
  · have : i < 0 := by simpa using h
    omega
  · have : i > b.size := by simpa using h
    omega
  · rw [wr (by omega) (by omega)] at h
    have : (2 : Int) > b.size - i := by simpa using h
    omega
  · have hlt : (k : Int) < 2 := by simpa using hlt
    have hk' : k = 0 ∨ k = 1 := by omega
    rw [wr (n := i + (k : Int)) (by omega) (by omega), wr (n := 8 * (k : Int)) (by omega) (by omega)]
    rcases hk' with rfl | rfl
    · have hr := byI_rng b i.toNat
      have e : (((b.data.toList.getD (i + ((0 : Nat) : Int)).toNat 0).toNat : Nat) : Int) = byI b i.toNat := by
        rw [show i + ((0 : Nat) : Int) = i by omega]; rfl
      rw [e]
      refine ⟨by omega, by omega, by omega, 1, by rw [nle]; omega, by show 2 - 1 < 2 - 0; omega, (by first | rfl | trivial), (by first | rfl | trivial), (by first | rfl | trivial), ?_, (by first | rfl | trivial), by rw [wr (by omega) (by omega)]; rfl, (by first | rfl | trivial), (by first | rfl | trivial)⟩
      have e0 : (2 : Int) ^ min (Int.toNat (8 * ((0 : Nat) : Int))) (IntKind.bits IntKind.u64) = 1 := rfl
      rw [e0, wru (n := byI b i.toNat) (by omega) (by omega), Int.mul_one, wru (n := byI b i.toNat) (by omega) (by omega)]
      exact or0 hr.1 hr.2
    · have hr := byI_rng b (i.toNat + 1)
      have hr0 := byI_rng b i.toNat
      have e : (((b.data.toList.getD (i + ((1 : Nat) : Int)).toNat 0).toNat : Nat) : Int) = byI b (i.toNat + 1) := by
        rw [show (i + ((1 : Nat) : Int)).toNat = i.toNat + 1 by omega]; rfl
      rw [e]
      refine ⟨by omega, by omega, by omega, 2, by rw [nle]; omega, by show 2 - 2 < 2 - 1; omega, (by first | rfl | trivial), (by first | rfl | trivial), (by first | rfl | trivial), ?_, (by first | rfl | trivial), by rw [wr (by omega) (by omega)]; rfl, (by first | rfl | trivial), (by first | rfl | trivial)⟩
      have e0 : (2 : Int) ^ min (Int.toNat (8 * ((1 : Nat) : Int))) (IntKind.bits IntKind.u64) = 256 := rfl
      rw [e0, wru (n := byI b (i.toNat + 1)) (by omega) (by omega), wru (n := byI b (i.toNat + 1) * 256) (by omega) (by omega)]
      exact or16 hr0.1 hr0.2 hr.1 hr.2
  · rw [nle] at hk
    have hge : ¬ (k : Int) < 2 := by simpa using hge
    have : k = 2 := by omega
    subst this
    exact ⟨rfl, wr (by omega) (by omega), rfl, rfl⟩
theorem litJ_v (n : Int) (h0 : 0 ≤ n) (h1 : n < 65536) : litJ_t n := by
  unfold litJ_t
  refine ⟨fun h => by simp at h, fun _ => ⟨fun h => by simp at h, fun _ => ⟨fun _ => ⟨by decide, fun h => ?_, fun _ => ⟨h0, h1, (by first | rfl | trivial), (by first | rfl | trivial)⟩⟩, fun h => by simp at h⟩⟩⟩
  have e : (2 : Int) ^ min (Int.toNat (IntKind.wrap IntKind.i64 (8 * 2))) (IntKind.bits IntKind.u64) = 65536 := by decide
  rw [e, fdivp (by decide), Int.ediv_eq_zero_of_lt h0 h1] at h
  cases h
theorem ptl_eq {n : Int} (h0 : 0 ≤ n) (h1 : n ≤ 131072) :
    IntKind.wrap IntKind.i64 (Int.tdiv (IntKind.wrap IntKind.i64 (n + 3)) 4) = ptK n ∧ IntKind.wrap IntKind.i64 (n - IntKind.wrap IntKind.i64 (3 * ptK n)) = n - 3 * ptK n := by
  have e1 : IntKind.wrap IntKind.i64 (n + 3) = n + 3 := wr (by omega) (by omega)
  have e2 : Int.tdiv (n + 3) 4 = (n + 3) / 4 := Int.tdiv_eq_ediv_of_nonneg (by omega)
  have ek : ptK n = (n + 3) / 4 := rfl
  refine ⟨by rw [e1, e2]; exact wr (by omega) (by omega), ?_⟩
  rw [wr (n := 3 * ptK n) (by omega) (by omega), wr (by omega) (by omega)]
theorem ptlJ_v (n : Int) (h0 : 0 ≤ n) (h1 : n ≤ 131072) : ptlJ_t n := by
  unfold ptlJ_t
  obtain ⟨e1, e2⟩ := ptl_eq h0 h1
  rw [e1, e2]
  exact ⟨by omega, rfl, rfl, rfl⟩
theorem pt_neg' {n : Int} (h : n < 0) : ptE n = 2 ∧ ptV n = [0, 0, 0, 0] := by
  have : ptE n = 2 := by unfold ptE; rw [decide_eq_true h]; rfl
  exact ⟨this, by unfold ptV; rw [this]; rfl⟩
theorem pt_big {n : Int} (h : 131072 < n) : ptE n = 2 ∧ ptV n = [0, 0, 0, 0] := by
  have : ptE n = 2 := by unfold ptE; rw [decide_eq_true h, Bool.or_true]; rfl
  exact ⟨this, by unfold ptV; rw [this]; rfl⟩
theorem pt_few {n : Int} (h0 : 0 ≤ n) (h : n < 6) : ptE n = 20 ∧ ptV n = [0, 0, 0, 0] := by
  have : ptE n = 20 := by unfold ptE; rw [decide_eq_false (by omega), decide_eq_false (by omega), decide_eq_true h]; rfl
  exact ⟨this, by unfold ptV; rw [this]; rfl⟩
theorem pt_fine {n : Int} (h0 : 6 ≤ n) (h : n ≤ 131072) : ptE n = 0 ∧ ptV n = ptL n := by
  have : ptE n = 0 := by unfold ptE; rw [decide_eq_false (by omega), decide_eq_false (by omega), decide_eq_false (by omega)]; rfl
  exact ⟨this, by unfold ptV; rw [this]; rfl⟩
theorem ptvJ_v (n : Int) : ptvJ_t n := by
  unfold ptvJ_t
  simp only [gt_iff_lt, decide_eq_true_eq, decide_eq_false_iff_not]
  refine ⟨fun h => ?_, fun h => ⟨fun h2 => ?_, fun h2 => ⟨fun h3 => ?_, fun h3 => ?_⟩⟩⟩
  · obtain ⟨e1, e2⟩ := pt_neg' h
    exact ⟨rfl, (by first | rfl | trivial), e2.symm, e1.symm⟩
  · obtain ⟨e1, e2⟩ := pt_big h2
    exact ⟨rfl, (by first | rfl | trivial), e2.symm, e1.symm⟩
  · obtain ⟨e1, e2⟩ := pt_few (by omega) h3
    exact ⟨rfl, (by first | rfl | trivial), e2.symm, e1.symm⟩
  · obtain ⟨e1, e2⟩ := pt_fine (n := n) (by omega) (by omega)
    exact ⟨by omega, by omega, rfl, rfl, rfl, e2.symm, e1.symm⟩
theorem divJ_v (s : ByteArray) (p : List Int) (h : p.length = 4) : divJ_t s p := ⟨rfl, rfl⟩
theorem itDv_at {s : ByteArray} {p : List Int} {i : Nat} (h : i < 4) : (itDv s p)[i]? = some [.int .i64 (i : Nat), .string (pcS s p i)] := by
  unfold itDv
  rw [List.getElem?_map, List.getElem?_range h]
  rfl
theorem dvJ_v (s : ByteArray) (p : List Int) (hd : DvOk s p) (l0 : Nat) : dvJ_t s p l0 := by
  unfold dvJ_t
  refine ⟨hd.1.symm, (), 0, Nat.zero_le _, rfl, ⟨(by first | rfl | trivial), (by first | rfl | trivial), (by first | rfl | trivial), (by first | rfl | trivial), rfl⟩, fun i hi => ⟨fun hlt => ?_, fun hge => ?_⟩⟩
  · have hlt : (i : Int) < 4 := by simpa using hlt
    obtain ⟨p0, p1⟩ := hd.2 i (by omega)
    simp only [toNat_cast]
    refine ⟨by omega, by omega, hd.1.symm, by omega, p0, p1, (by first | rfl | trivial), itDv_at (by omega), ⟨p0, p1, by omega, i + 1, by rw [nle]; omega, rfl, by show 4 - (i + 1) < 4 - i; omega, (by first | rfl | trivial), (by first | rfl | trivial), by rw [wr (by omega) (by omega)]; push_cast; rfl, (by first | rfl | trivial), rfl⟩, trivial⟩
  · rw [nle] at hi
    have hge : ¬ (i : Int) < 4 := by simpa using hge
    show i = 4
    omega
theorem dv_isat (s : ByteArray) (p : List Int) (hd : DvOk s p) (k : Nat) : ISat Try.prog 54 [.p k 0 0, .p (k + 1) 0 0] [(k, .arr 36 (.ints .i64 p)), (k + 1, .cells 9 [.v (.string s)])] (itDv s p) := by
  have h0 : ISat Try.prog 54 [.p 0 0 0, .p 1 0 0] [(0, .arr 36 (.ints .i64 p)), (1, .cells 9 [.v (.string s)])] (itDv s p) :=
    isat_of_vcI (Ωi := fun l0 => oDvF l0 s p) AllOk.nil mixed Try.func54 (by kernel_rfl) fun l0 => by
      have := dvJ_v s p hd l0
      rw [dvJ_e] at this
      exact this
  exact h0.ren (fun i => k + i) (by intro a b _ _ e; omega) rfl rfl
theorem jn_app : ∀ (xs : List ByteArray) (a : ByteArray), xs.foldl (· ++ ·) a = a ++ jn xs
  | [], a => by show a = a ++ ByteArray.empty; rw [ByteArray.append_empty]
  | x :: r, a => by
    show r.foldl (· ++ ·) (a ++ x) = a ++ r.foldl (· ++ ·) (ByteArray.empty ++ x)
    rw [jn_app r (a ++ x), jn_app r (ByteArray.empty ++ x), ByteArray.empty_append, ByteArray.append_assoc]
theorem take_snocB {xs : List ByteArray} {i : Nat} (h : i < xs.length) : xs.take (i + 1) = xs.take i ++ [xs.getD i ByteArray.empty] := by
  rw [List.take_add_one, List.getElem?_eq_getElem h, List.getD_eq_getElem?_getD, List.getElem?_eq_getElem h]
  rfl
theorem jn_apd (a b : List ByteArray) : jn (a ++ b) = jn a ++ jn b := by
  show (a ++ b).foldl (· ++ ·) ByteArray.empty = _
  rw [List.foldl_append]
  exact jn_app b _
theorem jn_take (xs : List ByteArray) (i : Nat) : (jn (xs.take i)).size ≤ (jn xs).size := by
  conv => rhs; rw [← List.take_append_drop i xs, jn_apd, app_size]
  omega
theorem joinJ_v (xs : List ByteArray) (h0 : xs.length ≤ 4294967296) (h1 : (jn xs).size ≤ 4294967296) : joinJ_t xs := by
  unfold joinJ_t
  refine ⟨⟨0, Nat.zero_le _, rfl, (by first | rfl | trivial), (by first | rfl | trivial), (by first | rfl | trivial)⟩, fun i hi => ⟨fun hlt => ?_, fun hge => ?_⟩⟩
  · rw [nle] at hi
    have hlt : (i : Int) < xs.length := by simpa using hlt
    have hi' : i < xs.length := by omega
    have e : jn (xs.take (i + 1)) = jn (xs.take i) ++ xs.getD i ByteArray.empty := by rw [take_snocB hi', jn_snoc]
    have hs := jn_take xs (i + 1)
    rw [e, app_size] at hs
    simp only [toNat_cast]
    exact ⟨by omega, by omega, by omega, i + 1, by rw [nle]; omega, by show xs.length - (i + 1) < xs.length - i; omega, e.symm, (by first | rfl | trivial), (by first | rfl | trivial), by rw [wr (by omega) (by omega)]; push_cast; rfl⟩
  · rw [nle] at hi
    have hge : ¬ (i : Int) < xs.length := by simpa using hge
    rw [List.take_of_length_le (by omega)]
theorem wrO_err {l : List Int} {s : ByteArray} (h : txE l s ≠ 0) : wrO l s = ByteArray.empty ∧ szO l s = 0 := by
  unfold wrO szO
  rw [beq_eq_false_iff_ne.2 h]
  exact ⟨rfl, rfl⟩
theorem wrO_ok {l : List Int} {s : ByteArray} (h : txE l s = 0) : wrO l s = wrH l s ∧ szO l s = (wrH l s).size := by
  unfold wrO szO
  rw [h]
  exact ⟨rfl, rfl⟩
theorem wroJ_v (l : List Int) (s : ByteArray) (h0 : l.length ≤ 4294967296) (h1 : s.size ≤ 40000) : wroJ_t l s := by
  unfold wroJ_t
  refine ⟨h0, by omega, fun h => ⟨(wrO_err (nz h)).1.symm, rfl⟩, fun h => ?_⟩
  have e := eq0 h
  exact ⟨(tx_ok e).1, e, by omega, (wrO_ok e).1.symm, e.symm⟩
theorem szoJ_v (l : List Int) (s : ByteArray) (h0 : l.length ≤ 4294967296) (h1 : s.size ≤ 40000) : szoJ_t l s := by
  unfold szoJ_t
  refine ⟨h0, by omega, fun h => ⟨(wrO_err (nz h)).2.symm, rfl⟩, fun h => ?_⟩
  have e := eq0 h
  exact ⟨(tx_ok e).1, e, by omega, (wrO_ok e).2.symm, e.symm⟩
theorem nu_0 {l : List Int} {n : Int} (h : nuE l n = 0) : chk l = 0 ∧ lchk l = 0 ∧ 0 ≤ n ∧ n ≤ 131072 := by
  unfold nuE at h
  by_cases h1 : lchk l = 0
  · rw [h1] at h
    cases h2 : decide (n < 0) || decide (131072 < n)
    · rw [Bool.or_eq_false_iff] at h2
      have a := h2.1
      have b := h2.2
      simp only [decide_eq_false_iff_not] at a b
      exact ⟨lchk_0 h1, h1, by omega, by omega⟩
    · rw [h2] at h; cases h
  · rw [beq_eq_false_iff_ne.2 h1] at h
    exact absurd h h1
theorem rO_err {l : List Int} {b : ByteArray} {n : Int} (h : nuE l n ≠ 0) : rO l b n = ByteArray.empty ∧ rE l b n = nuE l n := by
  unfold rO rE
  rw [beq_eq_false_iff_ne.2 h]
  exact ⟨rfl, rfl⟩
theorem rO_ok {l : List Int} {b : ByteArray} {n : Int} (h : nuE l n = 0) : rO l b n = rdS l b n ∧ rE l b n = rdE l b n := by
  unfold rO rE
  rw [h]
  exact ⟨rfl, rfl⟩
theorem rdoJ_v (l : List Int) (b : ByteArray) (n : Int) (h0 : l.length ≤ 4294967296) (h1 : b.size ≤ 4294967296) : rdoJ_t l b n := by
  unfold rdoJ_t
  refine ⟨h0, fun h => ⟨(rO_err (nz h)).1.symm, (rO_err (nz h)).2.symm⟩, fun h => ?_⟩
  have e := eq0 h
  obtain ⟨a, _, c, d⟩ := nu_0 e
  exact ⟨a, h1, c, d, (rO_ok e).1.symm, (rO_ok e).2.symm⟩
theorem w4J_v (l : List Int) (s : ByteArray) (h0 : l.length ≤ 4294967296) (h1 : s.size ≤ 40000) : w4J_t l s := by
  unfold w4J_t
  refine ⟨h0, by omega, ⟨fun h => ⟨fun h2 => ⟨(), trivial, (by first | rfl | trivial), ?_, (by first | rfl | trivial), (by first | rfl | trivial), (by first | rfl | trivial)⟩, fun h2 => ⟨(), trivial, (by first | rfl | trivial), ?_, (by first | rfl | trivial), (by first | rfl | trivial), (by first | rfl | trivial)⟩⟩, fun h => ⟨(), trivial, (by first | rfl | trivial), ?_, (by first | rfl | trivial), (by first | rfl | trivial), (by first | rfl | trivial)⟩⟩, fun _ _ => ⟨fun h => ?_, fun h => ?_⟩⟩
  · have : (s.size : Int) < 6 := by simpa using h2
    exact (w4E_few (eq_of_beq h) (by omega)).1.symm
  · have : ¬ (s.size : Int) < 6 := by simpa using h2
    rw [(w4E_ok (eq_of_beq h) (by omega)).1]
    exact eq_of_beq h
  · exact (w4E_err (ne_of_beq_false h)).1.symm
  · have hn := nz h
    refine ⟨?_, rfl⟩
    unfold w4O
    rw [beq_eq_false_iff_ne.2 hn]
    rfl
  · have he := eq0 h
    obtain ⟨hx, h6, hO⟩ := w4E_0 he
    obtain ⟨hc, hlc, hs, ht⟩ := tx_ok hx
    have hg := good hc
    have hd := pt_dv (s := s) (by omega)
    have hit : (([Value.int IntKind.i64 (↑((0 : Nat)) : Int), Value.string (pcS s (ptL (↑(ByteArray.size s) : Int)) ((0 : Nat)))] :: List.map (fun (i : Nat) => [Value.int IntKind.i64 (↑i : Int), Value.string (pcS s (ptL (↑(ByteArray.size s) : Int)) i)]) [(1 : Nat), (2 : Nat), (3 : Nat)])) = itDv s (ptL s.size) := rfl
    have hlen : (itDv s (ptL s.size)).length = 4 := rfl
    rw [hit, hlen]
    refine ⟨by omega, by omega, rfl, 0, dv_isat s (ptL s.size) hd 800032, ⟨(by first | rfl | trivial), (by first | rfl | trivial)⟩, trivial, ⟨(by first | rfl | trivial), (by first | rfl | trivial), (by first | rfl | trivial), (by first | rfl | trivial), (by first | rfl | trivial)⟩, fun i hi _ => ?_, fun _ => ?_⟩
    · have q1 := pc_ok ht (ptL s.size) i
      have q2 := pc_le s (ptL s.size) i
      have q3 := st_size hg ht h1 i
      have q7 := strs_len l s i
      have q8 := heads_len l s i
      have ew : wrH l (pcS s (ptL s.size) i) = stH l s i := rfl
      rw [ew]
      have eu : IntKind.wrap IntKind.u64 ((stH l s i).size : Int) = ((stH l s i).size : Int) := wru (by omega) (by omega)
      rw [eu]
      refine ⟨itDv_at hi, rfl, hc, ok_tx hlc (by omega) q1, by omega, fun h3 => ⟨fun h4 => ?_, fun h4 => ⟨by omega, by omega, by omega, by omega, trivial, (by first | rfl | trivial), (by first | rfl | trivial), (by first | rfl | trivial), ?_, ?_⟩⟩, fun h3 => ⟨by omega, trivial, (by first | rfl | trivial), (by first | rfl | trivial), (by first | rfl | trivial), ?_, ?_⟩⟩
      · have : ((stH l s i).size : Int) > 65535 := by simpa using h4
        omega
      · have h3 : (i : Int) < 3 := by simpa using h3
        rw [heads_succ l s (by omega)]
      · rw [strs_succ]
      · have h3 : ¬ (i : Int) < 3 := by simpa using h3
        rw [heads_all l s (by omega)]
      · rw [strs_succ]
    · have q4 := strs_size hg ht h1 4
      have q5 := heads_size l s 4
      have q7 := strs_len l s 4
      have q8 := heads_len l s 4
      rw [jn_two, app_size, hO]
      exact ⟨by omega, by omega, by omega, by omega, by show (2 : Nat) ≤ _; omega, by omega, rfl, he.symm⟩
end Go.Proofs.Ytmdbliacaeokaaa
namespace Go.Proofs.Ytmdbliacaeokaaa
open Go Go.RowKit
set_option linter.unusedVariables false
set_option linter.unusedSimpArgs false
set_option maxRecDepth 100000
theorem z4_rng (b : ByteArray) (i : Nat) : 0 ≤ z4 b i ∧ z4 b i < 65536 := by
  have h1 := byI_rng b (2 * i)
  have h2 := byI_rng b (2 * i + 1)
  unfold z4 le16
  omega
theorem at4_0 (b : ByteArray) : at4 b 0 = 6 := rfl
theorem at4_1 (b : ByteArray) : at4 b 1 = 6 + z4 b 0 := by
  show 6 + ([z4 b 0] : List Int).sum = _
  simp
theorem at4_2 (b : ByteArray) : at4 b 2 = 6 + z4 b 0 + z4 b 1 := by
  show 6 + ([z4 b 0, z4 b 1] : List Int).sum = _
  simp
  omega
theorem at4_3 (b : ByteArray) : at4 b 3 = 6 + z4 b 0 + z4 b 1 + z4 b 2 := by
  show 6 + ([z4 b 0, z4 b 1, z4 b 2] : List Int).sum = _
  simp
  omega
theorem at4_4 (b : ByteArray) : at4 b 4 = b.size := by
  show 6 + (q4 b).sum = _
  unfold q4
  simp
  omega
theorem q4_3 (b : ByteArray) : (q4 b).getD 3 0 = b.size - at4 b 3 := by
  rw [at4_3]
  show (b.size : Int) - 6 - z4 b 0 - z4 b 1 - z4 b 2 = _
  omega
theorem at4_succ (b : ByteArray) {i : Nat} (h : i < 4) : at4 b (i + 1) = at4 b i + (q4 b).getD i 0 := by
  have : i = 0 ∨ i = 1 ∨ i = 2 ∨ i = 3 := by omega
  rcases this with rfl | rfl | rfl | rfl
  · rw [at4_0, at4_1]; rfl
  · rw [at4_1, at4_2]; rfl
  · rw [at4_2, at4_3]; rfl
  · rw [at4_4, q4_3]; omega
theorem at4_rng (b : ByteArray) {i : Nat} (h : i ≤ 3) : 6 ≤ at4 b i ∧ at4 b i ≤ 6 + 65536 * i := by
  have h0 := z4_rng b 0
  have h1 := z4_rng b 1
  have h2 := z4_rng b 2
  have : i = 0 ∨ i = 1 ∨ i = 2 ∨ i = 3 := by omega
  rcases this with rfl | rfl | rfl | rfl
  · rw [at4_0]; omega
  · rw [at4_1]; omega
  · rw [at4_2]; omega
  · rw [at4_3]; omega
structure Q4 (b : ByteArray) : Prop where
  s6 : 6 ≤ b.size
  fit : at4 b 3 ≤ b.size
theorem q4_le {b : ByteArray} (h : Q4 b) {i : Nat} (hi : i < 4) : 0 ≤ (q4 b).getD i 0 ∧ at4 b i + (q4 b).getD i 0 ≤ b.size := by
  have h0 := z4_rng b 0
  have h1 := z4_rng b 1
  have h2 := z4_rng b 2
  have hf := h.fit
  rw [at4_3] at hf
  have : i = 0 ∨ i = 1 ∨ i = 2 ∨ i = 3 := by omega
  rcases this with rfl | rfl | rfl | rfl
  · rw [at4_0]; show 0 ≤ z4 b 0 ∧ 6 + z4 b 0 ≤ _; omega
  · rw [at4_1]; show 0 ≤ z4 b 1 ∧ 6 + z4 b 0 + z4 b 1 ≤ _; omega
  · rw [at4_2]; show 0 ≤ z4 b 2 ∧ 6 + z4 b 0 + z4 b 1 + z4 b 2 ≤ _; omega
  · rw [q4_3, at4_3]; omega
theorem q4_off {b : ByteArray} (h : Q4 b) : ∀ i, i ≤ 4 → ((offP (q4 b) i : Nat) : Int) + 6 = at4 b i
  | 0, _ => by rw [at4_0]; rfl
  | i + 1, hi => by
    have ih := q4_off h i (by omega)
    have hq := q4_le h (i := i) (by omega)
    rw [at4_succ b (by omega), ← ih]
    simp only [offP]
    omega
theorem q4_dv {b : ByteArray} (h : Q4 b) : DvOk (b.extract 6 b.size) (q4 b) := by
  refine dv_of rfl (fun i hi => (q4_le h hi).1) ?_
  have := q4_off h 4 (Nat.le_refl _)
  rw [at4_4] at this
  rw [ext_size (Nat.le_refl _)]
  have := h.s6
  omega
theorem p4_ext {b : ByteArray} (h : Q4 b) {i : Nat} (hi : i < 4) : b.extract (at4 b i).toNat (at4 b (i + 1)).toNat = p4 b i := by
  have ho := q4_off h i (by omega)
  have hq := q4_le h hi
  have hs := at4_succ b hi
  have hl := bytes_len b
  apply bytes_inj
  unfold p4
  rw [ext_bytes, pc_bytes, ext_bytes, List.take_of_length_le (l := List.drop 6 (bytesN b)) (by rw [List.length_drop, hl]; omega), List.drop_drop]
  congr 1
  · omega
  · congr 1
    omega
theorem p4_size {b : ByteArray} (h : Q4 b) {i : Nat} (hi : i < 4) : ((p4 b i).size : Int) = (q4 b).getD i 0 := by
  have ho := q4_off h i (by omega)
  have hq := q4_le h hi
  have hs := at4_succ b hi
  rw [← p4_ext h hi, ext_size (by omega)]
  omega
theorem e4_nu {l : List Int} {b : ByteArray} {n : Int} (h : nuE l n ≠ 0) : e4 l b n = nuE l n := by
  unfold e4
  rw [beq_eq_false_iff_ne.2 h]
  rfl
theorem e4_few {l : List Int} {b : ByteArray} {n : Int} (h : nuE l n = 0) (h6 : n < 6) : e4 l b n = 20 := by
  unfold e4
  rw [h, decide_eq_true h6]
  rfl
theorem e4_short {l : List Int} {b : ByteArray} {n : Int} (h : nuE l n = 0) (h6 : ¬ n < 6) (hb : b.size < 6 ∨ (q4 b).getD 3 0 < 0) : e4 l b n = 22 := by
  unfold e4
  have : (decide (b.size < 6) || decide ((q4 b).getD 3 0 < 0)) = true := by simpa using hb
  rw [h, decide_eq_false h6, this]
  rfl
theorem e4_ok {l : List Int} {b : ByteArray} {n : Int} (h : nuE l n = 0) (h6 : ¬ n < 6) (hb : ¬ b.size < 6) (hq : ¬ (q4 b).getD 3 0 < 0) : e4 l b n = 0 := by
  unfold e4
  rw [h, decide_eq_false h6, decide_eq_false hb, decide_eq_false hq]
  rfl
theorem r4_err {l : List Int} {b : ByteArray} {n e : Int} (h : e4 l b n = e) (he : e ≠ 0) : ByteArray.empty = r4O l b n ∧ (0 : Int) = r4P l b n ∧ e = r4E l b n := by
  unfold r4O r4P r4E
  rw [h, beq_eq_false_iff_ne.2 he]
  exact ⟨rfl, rfl, rfl⟩
theorem ok4_succ (l : List Int) (b : ByteArray) (n : Int) (i : Nat) : ok4 l b n (i + 1) = (ok4 l b n i && (x4 l b n i).isSome) := by
  unfold ok4
  rw [List.range_succ, List.all_append]
  simp
theorem ok4_mono {l : List Int} {b : ByteArray} {n : Int} {i j : Nat} (h : i ≤ j) (hj : ok4 l b n j = true) : ok4 l b n i = true := by
  unfold ok4 at hj ⊢
  rw [List.all_eq_true] at hj ⊢
  intro x hx
  rw [List.mem_range] at hx
  exact hj x (List.mem_range.2 (by omega))
theorem r4_bad {l : List Int} {b : ByteArray} {n : Int} (h : e4 l b n = 0) {i : Nat} (hi : i < 4) (ho : ok4 l b n i = true) (hx : x4 l b n i = none) : ByteArray.empty = r4O l b n ∧ at4 b i = r4P l b n ∧ (22 : Int) = r4E l b n := by
  have hno : ok4 l b n 4 = false := by
    rw [Bool.eq_false_iff]
    intro h4
    have := ok4_mono (show i + 1 ≤ 4 by omega) h4
    rw [ok4_succ, hx] at this
    simp at this
  have hb : bad4 l b n = i := by
    unfold bad4
    have hall : ∀ j, j < i → (x4 l b n j).isSome = true := fun j hj => by
      unfold ok4 at ho
      rw [List.all_eq_true] at ho
      exact ho j (List.mem_range.2 hj)
    rw [List.findIdx_eq (by simpa using hi)]
    refine ⟨by simp [hx], fun j hj => ?_⟩
    have := hall j hj
    simp [this]
  unfold r4O r4P r4E
  rw [h, hno, hb]
  exact ⟨rfl, rfl, rfl⟩
theorem r4_all {l : List Int} {b : ByteArray} {n : Int} (h : e4 l b n = 0) (ho : ok4 l b n 4 = true) : out4 l b n 4 = r4O l b n ∧ (0 : Int) = r4P l b n ∧ (0 : Int) = r4E l b n := by
  unfold r4O r4P r4E
  rw [h, ho]
  exact ⟨rfl, rfl, rfl⟩
theorem rdE_some {l : List Int} {b : ByteArray} {n : Int} (h : rdE l b n = 0) : ∃ o, rdX l b n = some o := by
  unfold rdE at h
  cases hx : rdX l b n with
  | none => rw [hx] at h; cases h
  | some o => exact ⟨o, rfl⟩
theorem rdE_none {l : List Int} {b : ByteArray} {n : Int} (h : rdE l b n ≠ 0) : rdX l b n = none := by
  unfold rdE at h
  cases hx : rdX l b n with
  | none => rfl
  | some o => rw [hx] at h; exact absurd rfl h
theorem oS_size {l : List Int} (hg : Good l) {b : ByteArray} {n : Int} (hn : 0 ≤ n) : ((oS (rdX l b n)).size : Int) ≤ n := by
  cases hx : rdX l b n with
  | none => exact hn
  | some o =>
    obtain ⟨_, h2, _⟩ := rd_inj hg hn hx
    show ((strOfNums o).size : Int) ≤ n
    rw [strOfNums_size]
    omega
theorem out4_size {l : List Int} (hg : Good l) {b : ByteArray} {n : Int} (hn : 6 ≤ n) (hn2 : n ≤ 131072) : ∀ i, i ≤ 4 → (out4 l b n i).size ≤ i * 131072
  | 0, _ => Nat.zero_le _
  | i + 1, hi => by
    have ih := out4_size hg (b := b) hn hn2 i (by omega)
    have hp := ptL_bd hn (i := i) (by omega)
    have := oS_size hg (b := p4 b i) hp.1
    show (out4 l b n i ++ oS (x4 l b n i)).size ≤ _
    rw [app_size]
    unfold x4
    omega
theorem three_cases {i : Nat} (h : i < 3) : i = 0 ∨ i = 1 ∨ i = 2 := by omega
theorem r4J_v (l : List Int) (b : ByteArray) (n : Int) (h0 : l.length ≤ 4294967296) (h1 : b.size ≤ 4294967296) : r4J_t l b n := by
  unfold r4J_t
  refine ⟨h0, fun h => r4_err (e4_nu (nz h)) (nz h), fun h => ?_⟩
  have hnu := eq0 h
  obtain ⟨hc, _, hn0, hn1⟩ := nu_0 hnu
  have hg := good hc
  refine ⟨fun h6 => ?_, fun h6 => ?_⟩
  · have h6 : n < 6 := by simpa using h6
    exact r4_err (e4_few hnu h6) (by decide)
  have h6 : ¬ n < 6 := by simpa using h6
  refine ⟨fun hb => ?_, fun hb => ?_⟩
  · have hb : (b.size : Int) < 6 := by simpa using hb
    exact r4_err (e4_short hnu h6 (.inl (by omega))) (by decide)
  · have hb : ¬ (b.size : Int) < 6 := by simpa using hb
    have ez6 : IntKind.wrap IntKind.i64 ((b.size : Int) - 6) = (b.size : Int) - 6 := wr (by omega) (by omega)
    refine ⟨by omega, by omega, by decide, ⟨0, ⟨by omega, hnu, by omega, by omega⟩, (by first | rfl | trivial), (by first | rfl | trivial), (by first | rfl | trivial), (by first | rfl | trivial), (by first | rfl | trivial), (by first | rfl | trivial), (by first | rfl | trivial), by rw [ez6]; rfl⟩, fun i ⟨hi, _⟩ => ⟨fun hlt => ?_, fun hge => ?_⟩⟩
    · have hlt : (i : Int) < 3 := by simpa using hlt
      have hi' : i < 3 := by omega
      have e2i : IntKind.wrap IntKind.i64 (2 * (i : Int)) = 2 * (i : Int) := wr (by omega) (by omega)
      have ez : le16 b (Int.toNat (2 * (i : Int))) = z4 b i := by
        unfold z4
        rw [show Int.toNat (2 * (i : Int)) = 2 * i by omega]
      have hz := z4_rng b i
      have z0 := z4_rng b 0
      have z1 := z4_rng b 1
      have z2 := z4_rng b 2
      rw [e2i, ez, wr (n := z4 b i) (by omega) (by omega)]
      have hlen : (q4P b i).length = 4 := by rcases three_cases hi' with rfl | rfl | rfl <;> rfl
      simp only [List.length_set, hlen, toNat_cast]
      refine ⟨by omega, by omega, h1, by omega, by omega, by omega, by omega, by omega, by decide, by omega, by omega, by omega, by omega, by omega, by decide, i + 1, ⟨by omega, hnu, by omega, by omega⟩, by show 3 - (i + 1) < 3 - i; omega, (by first | rfl | trivial), (by first | rfl | trivial), by rw [wr (by omega) (by omega)]; push_cast; rfl, (by first | rfl | trivial), (by first | rfl | trivial), (by first | rfl | trivial), (by first | rfl | trivial), ?_⟩
      rcases three_cases hi' with rfl | rfl | rfl
      · show [z4 b 0, 0, 0, IntKind.wrap IntKind.i64 ((b.size : Int) - 6 - z4 b 0)] = [z4 b 0, 0, 0, (b.size : Int) - 6 - z4 b 0]
        rw [wr (by omega) (by omega)]
      · show [z4 b 0, z4 b 1, 0, IntKind.wrap IntKind.i64 ((b.size : Int) - 6 - z4 b 0 - z4 b 1)] = [z4 b 0, z4 b 1, 0, (b.size : Int) - 6 - z4 b 0 - z4 b 1]
        rw [wr (by omega) (by omega)]
      · show [z4 b 0, z4 b 1, z4 b 2, IntKind.wrap IntKind.i64 ((b.size : Int) - 6 - z4 b 0 - z4 b 1 - z4 b 2)] = [z4 b 0, z4 b 1, z4 b 2, (b.size : Int) - 6 - z4 b 0 - z4 b 1 - z4 b 2]
        rw [wr (by omega) (by omega)]
    · have hge : ¬ (i : Int) < 3 := by simpa using hge
      have : i = 3 := by omega
      subst this
      have e3 : q4P b 3 = q4 b := rfl
      have e33 : (q4 b).getD (Int.toNat 3) 0 = (q4 b).getD 3 0 := rfl
      have hq3 := q4_3 b
      rw [e3, e33]
      refine ⟨by omega, by omega, by show 3 < 4; omega, fun hf => ?_, fun hf => ?_⟩
      · have hf : (q4 b).getD 3 0 < 0 := by simpa using hf
        exact r4_err (e4_short hnu h6 (.inr hf)) (by decide)
      · have hf : ¬ (q4 b).getD 3 0 < 0 := by simpa using hf
        have he : e4 l b n = 0 := e4_ok hnu h6 (by omega) hf
        have hQ : Q4 b := ⟨by omega, by omega⟩
        have hit : ([Value.int IntKind.i64 (↑((0 : Nat)) : Int), Value.string (pcS (ByteArray.extract b (6 : Nat) (ByteArray.size b)) (q4 b) ((0 : Nat)))] :: List.map (fun (i : Nat) => [Value.int IntKind.i64 (↑i : Int), Value.string (pcS (ByteArray.extract b (6 : Nat) (ByteArray.size b)) (q4 b) i)]) [(1 : Nat), (2 : Nat), (3 : Nat)]) = itDv (b.extract 6 b.size) (q4 b) := rfl
        have hlen : (itDv (b.extract 6 b.size) (q4 b)).length = 4 := rfl
        rw [hit, hlen]
        refine ⟨hn0, hn1, rfl, rfl, by omega, by omega, by omega, rfl, rfl, 0, dv_isat _ _ (q4_dv hQ) 2200024, ⟨(by first | rfl | trivial), rfl⟩, rfl, ⟨(by first | rfl | trivial), (by first | rfl | trivial), (by first | rfl | trivial), (by first | rfl | trivial), rfl, rfl, (by first | rfl | trivial)⟩, fun i hi ho => ?_, fun ho => r4_all he ho⟩
        have hp := ptL_bd (n := n) (by omega) hi
        have hq := q4_le hQ hi
        have hs := at4_succ b hi
        have hps := p4_size hQ hi
        have ha := at4_rng b (i := min i 3) (by omega)
        have ha' : 6 ≤ at4 b i := by rw [show min i 3 = i by omega] at ha; exact ha.1
        have hos := out4_size hg (b := b) (n := n) (by omega) hn1 i (by omega)
        have hrs := oS_size hg (b := p4 b i) hp.1
        simp only [toNat_cast]
        refine ⟨itDv_at hi, rfl, by omega, by omega, hi, hc, by omega, hp.1, by omega, fun hx => r4_bad he hi ho (rdE_none (nz hx)), fun hx => ?_⟩
        obtain ⟨o, hxo⟩ := rdE_some (eq0 hx)
        refine ⟨by show (out4 l b n i).size + (oS (rdX l (p4 b i) ((ptL n).getD i 0))).size ≤ _; omega, ?_, (by first | rfl | trivial), (by first | rfl | trivial), (by first | rfl | trivial), (by first | rfl | trivial), rfl, by rw [wr (by omega) (by omega), hs, hps], (by first | rfl | trivial)⟩
        rw [ok4_succ, ho]
        show (true && (rdX l (p4 b i) ((ptL n).getD i 0)).isSome) = true
        rw [hxo]
        rfl
end Go.Proofs.Ytmdbliacaeokaaa
namespace Go.Proofs.Ytmdbliacaeokaaa
open Go Go.RowKit
set_option linter.unusedVariables false
set_option maxRecDepth 100000
def shownL : List Int := List.set (List.set (List.set (List.replicate 100 0) 97 1) 98 2) 99 2
def wrsB (s w : ByteArray) : Bool := (txE shownL s == 0) && (wrO shownL s).toList == w.toList
def rdsB (b : ByteArray) (n : Int) (w : ByteArray) (e : Int) : Bool := (rO shownL b n).toList == w.toList && rE shownL b n == e
end Go.Proofs.Ytmdbliacaeokaaa
namespace Go.Proofs.Ytmdbliacaeokaaa
open Go Go.RowKit
set_option linter.unusedVariables false
set_option linter.unusedSimpArgs false
set_option maxRecDepth 100000
def sShown : Spec where
  ι := Unit
  dec l H := match l with
    | [] => some ((), [])
    | _ => none
  args := fun _ => []
  out := fun _ => .leaf (.o 2000) [(2000, .row 3 (.ints .i64 shownL))]
theorem sShown_enc : ∀ l H n i ls, sShown.dec l H = some (i, ls) → l = renL (rho ls n) (sShown.args i) ∧ givenHp H ls = renH (rho ls n) (sShown.hp i) := by
  intro l H n i ls h
  simp only [sShown] at h
  repeat' split at h
  all_goals first
    | (cases h; done)
    | (cases h; exact ⟨rfl, rfl⟩)
def sWrs : Spec where
  ι := ByteArray × ByteArray
  dec l H := match l with
    | [.v (.string s), .v (.string w)] => some ((s, w), [])
    | _ => none
  args := fun (s, w) => [.v (.string s), .v (.string w)]
  pre := fun (s, w) => [⟨s.size ≤ 40000, inferInstance⟩]
  out := fun (s, w) => .leaf (.v (.bool (wrsB s w))) []
theorem sWrs_enc : ∀ l H n i ls, sWrs.dec l H = some (i, ls) → l = renL (rho ls n) (sWrs.args i) ∧ givenHp H ls = renH (rho ls n) (sWrs.hp i) := by
  intro l H n i ls h
  simp only [sWrs] at h
  repeat' split at h
  all_goals first
    | (cases h; done)
    | (cases h; exact ⟨rfl, rfl⟩)
def sRds : Spec where
  ι := ByteArray × Int × ByteArray × Int
  dec l H := match l with
    | [.v (.string b), .v (.int .i64 n), .v (.string w), .v (.int .i64 e)] => some ((b, n, w, e), [])
    | _ => none
  args := fun (b, n, w, e) => [.v (.string b), .v (.int .i64 n), .v (.string w), .v (.int .i64 e)]
  pre := fun (b, n, w, e) => [⟨b.size ≤ 4294967296, inferInstance⟩]
  out := fun (b, n, w, e) => .leaf (.v (.bool (rdsB b n w e))) []
theorem sRds_enc : ∀ l H n i ls, sRds.dec l H = some (i, ls) → l = renL (rho ls n) (sRds.args i) ∧ givenHp H ls = renH (rho ls n) (sRds.hp i) := by
  intro l H n i ls h
  simp only [sRds] at h
  repeat' split at h
  all_goals first
    | (cases h; done)
    | (cases h; exact ⟨rfl, rfl⟩)
def sTrue : Spec where
  ι := Unit
  dec l H := match l with
    | [] => some ((), [])
    | _ => none
  args := fun _ => []
  out := fun _ => .leaf (.v (.bool true)) []
theorem sTrue_enc : ∀ l H n i ls, sTrue.dec l H = some (i, ls) → l = renL (rho ls n) (sTrue.args i) ∧ givenHp H ls = renH (rho ls n) (sTrue.hp i) := by
  intro l H n i ls h
  simp only [sTrue] at h
  repeat' split at h
  all_goals first
    | (cases h; done)
    | (cases h; exact ⟨rfl, rfl⟩)
def GUg : List (Nat × Ctr) := (24, sShown.ctr) :: GUf
def GUh : List (Nat × Ctr) := (25, sWrs.ctr) :: (26, sRds.ctr) :: GUg
def GUi : List (Nat × Ctr) := (9, sTrue.ctr) :: GUh
end Go.Proofs.Ytmdbliacaeokaaa
namespace Go.Proofs.Ytmdbliacaeokaaa
open Go Go.RowKit
set_option linter.unusedVariables false
set_option maxRecDepth 100000
def shownN_t  : Prop :=
 (0 : Int) ≤ (100 : Int) ∧
 (100 : Int) ≤ (100 : Int) ∧
 (↑((8 : Nat)) : Int) * (100 : Int) ≤ (281474976710656 : Int) ∧
 (100 : Int) ≤ (9223372036854775807 : Int) ∧
 (0 : Int) ≤ (97 : Int) ∧
 (97 : Int) < (↑(List.length (List.replicate (Int.toNat (100 : Int)) (0 : Int))) : Int) ∧
 Int.toNat (97 : Int) < List.length (List.replicate (Int.toNat (100 : Int)) (0 : Int)) ∧
 (0 : Int) ≤ (98 : Int) ∧
 (98 : Int) < (↑(List.length (List.set (List.replicate (Int.toNat (100 : Int)) (0 : Int)) (Int.toNat (97 : Int)) (1 : Int))) : Int) ∧
 Int.toNat (98 : Int) < List.length (List.set (List.replicate (Int.toNat (100 : Int)) (0 : Int)) (Int.toNat (97 : Int)) (1 : Int)) ∧
 (0 : Int) ≤ (99 : Int) ∧
 (99 : Int) < (↑(List.length (List.set (List.set (List.replicate (Int.toNat (100 : Int)) (0 : Int)) (Int.toNat (97 : Int)) (1 : Int)) (Int.toNat (98 : Int)) (2 : Int))) : Int) ∧
 Int.toNat (99 : Int) < List.length (List.set (List.set (List.replicate (Int.toNat (100 : Int)) (0 : Int)) (Int.toNat (97 : Int)) (1 : Int)) (Int.toNat (98 : Int)) (2 : Int)) ∧
 List.set (List.set (List.set (List.replicate (Int.toNat (100 : Int)) (0 : Int)) (Int.toNat (97 : Int)) (1 : Int)) (Int.toNat (98 : Int)) (2 : Int)) (Int.toNat (99 : Int))
 (2 : Int) =
 shownL
theorem shownN_e  : shownN_t  = vcG Try.prog (Gof []) (fun _ => none) Try.f24 [] [] (.leaf ((.o 2000)) ([(2000, .row 3 (.ints .i64 shownL))])) := by kernel_rfl
def wrsN_t (s w : ByteArray) : Prop :=
 List.length shownL ≤ (4294967296 : Nat) ∧
 ByteArray.size s ≤ (40000 : Nat) ∧
 ((txE shownL s == (0 : Int)) = true → (ByteArray.toList (wrO shownL s) == ByteArray.toList w) = wrsB s w) ∧ ((txE shownL s == (0 : Int)) = false → false = wrsB s w)
theorem wrsN_e (s w : ByteArray) : wrsN_t s w = vcG Try.prog (Gof GUg) (fun _ => none) Try.f25 [.v (.string s), .v (.string w)] [] (.leaf ((.v (.bool (wrsB s w)))) ([])) := by kernel_rfl
def rdsN_t (b : ByteArray) (n : Int) (w : ByteArray) (e : Int) : Prop :=
 List.length shownL ≤ (4294967296 : Nat) ∧
 ByteArray.size b ≤ (4294967296 : Nat) ∧
 ((ByteArray.toList (rO shownL b n) == ByteArray.toList w) = true → (rE shownL b n == e) = rdsB b n w e) ∧ ((ByteArray.toList (rO shownL b n) == ByteArray.toList w) = false → false = rdsB b n w e)
theorem rdsN_e (b : ByteArray) (n : Int) (w : ByteArray) (e : Int) : rdsN_t b n w e = vcG Try.prog (Gof GUg) (fun _ => none) Try.f26 [.v (.string b), .v (.int .i64 n), .v (.string w), .v (.int .i64 e)] [] (.leaf ((.v (.bool (rdsB b n w e)))) ([])) := by kernel_rfl
def awakeN_t  : Prop :=
 List.length (ptV (10 : Int)) = (4 : Nat) ∧
 List.length (ptV (10 : Int)) = List.length (List.replicate (4 : Nat) (0 : Int)) ∧
 ByteArray.size { data := #[(97 : UInt8), (98 : UInt8), (99 : UInt8)] } ≤ (40000 : Nat) ∧
 (wrsB { data := #[(97 : UInt8), (98 : UInt8), (99 : UInt8)] } { data := #[(49 : UInt8)] } = true →
 ByteArray.size ByteArray.empty ≤ (40000 : Nat) ∧
 (wrsB ByteArray.empty { data := #[(1 : UInt8)] } = true →
 ByteArray.size { data := #[(49 : UInt8)] } ≤ (4294967296 : Nat) ∧
 (rdsB { data := #[(49 : UInt8)] } (3 : Int) { data := #[(97 : UInt8), (98 : UInt8), (99 : UInt8)] } (0 : Int) = true →
 ByteArray.size { data := #[(49 : UInt8)] } ≤ (4294967296 : Nat) ∧
 (rdsB { data := #[(49 : UInt8)] } (2 : Int) ByteArray.empty (22 : Int) = true →
 ((ptE (10 : Int) == (0 : Int)) = true →
 (4 : Nat) = List.length (ptV (10 : Int)) ∧
 (4 : Nat) = List.length (ptV (10 : Int)) ∧
 (4 : Nat) = List.length [(3 : Int), (3 : Int), (3 : Int), (1 : Int)] ∧ (ptV (10 : Int) == [(3 : Int), (3 : Int), (3 : Int), (1 : Int)]) = true) ∧
 ((ptE (10 : Int) == (0 : Int)) = false → false = true)) ∧
 (rdsB { data := #[(49 : UInt8)] } (2 : Int) ByteArray.empty (22 : Int) = false → false = true)) ∧
 (rdsB { data := #[(49 : UInt8)] } (3 : Int) { data := #[(97 : UInt8), (98 : UInt8), (99 : UInt8)] } (0 : Int) = false → false = true)) ∧
 (wrsB ByteArray.empty { data := #[(1 : UInt8)] } = false → false = true)) ∧
 (wrsB { data := #[(97 : UInt8), (98 : UInt8), (99 : UInt8)] } { data := #[(49 : UInt8)] } = false → false = true)
theorem awakeN_e  : awakeN_t  = vcG Try.prog (Gof GUh) (fun _ => none) Try.f9 [] [] (.leaf ((.v (.bool true))) ([])) := by kernel_rfl
def lawKnN_t  : Prop :=
 List.length shownL ≤ (4294967296 : Nat) ∧
 ByteArray.size { data := #[(100 : UInt8)] } ≤ (40000 : Nat) ∧
 List.length shownL ≤ (4294967296 : Nat) ∧
 ByteArray.size { data := #[(97 : UInt8), (98 : UInt8), (99 : UInt8)] } ≤ (40000 : Nat) ∧
 List.length (ptV (6 : Int)) = (4 : Nat) ∧
 List.length (ptV (6 : Int)) = List.length (List.replicate (4 : Nat) (0 : Int)) ∧
 List.length (ptV (5 : Int)) = (4 : Nat) ∧
 List.length (ptV (5 : Int)) = List.length (List.replicate (4 : Nat) (0 : Int)) ∧
 List.length shownL ≤ (4294967296 : Nat) ∧
 ByteArray.size { data := #[(97 : UInt8), (97 : UInt8), (97 : UInt8), (97 : UInt8), (97 : UInt8), (97 : UInt8), (97 : UInt8), (97 : UInt8)] } ≤ (40000 : Nat) ∧
 List.length shownL ≤ (4294967296 : Nat) ∧
 ByteArray.size { data := #[(97 : UInt8), (97 : UInt8), (97 : UInt8), (97 : UInt8), (97 : UInt8)] } ≤ (40000 : Nat) ∧
 List.length shownL ≤ (4294967296 : Nat) ∧
 ByteArray.size { data := #[(1 : UInt8), (0 : UInt8), (1 : UInt8), (0 : UInt8), (1 : UInt8), (0 : UInt8), (7 : UInt8), (7 : UInt8), (7 : UInt8), (7 : UInt8)] } ≤
 (4294967296 : Nat) ∧
 List.length shownL ≤ (4294967296 : Nat) ∧
 ByteArray.size { data := #[(1 : UInt8), (0 : UInt8), (1 : UInt8), (0 : UInt8), (1 : UInt8), (0 : UInt8), (7 : UInt8), (7 : UInt8), (7 : UInt8), (7 : UInt8)] } ≤
 (4294967296 : Nat) ∧
 (0 : Int) ≤ (0 : Int) ∧
 (0 : Int) ≤ (8 : Int) ∧
 (8 : Int) ≤
 (↑(ByteArray.size
 { data := #[(1 : UInt8), (0 : UInt8), (1 : UInt8), (0 : UInt8), (1 : UInt8), (0 : UInt8), (7 : UInt8), (7 : UInt8), (7 : UInt8), (7 : UInt8)] }) :
 Int) ∧
 List.length shownL ≤ (4294967296 : Nat) ∧
 ByteArray.size
 (ByteArray.extract
 { data := #[(1 : UInt8), (0 : UInt8), (1 : UInt8), (0 : UInt8), (1 : UInt8), (0 : UInt8), (7 : UInt8), (7 : UInt8), (7 : UInt8), (7 : UInt8)] }
 (Int.toNat (0 : Int)) (Int.toNat (8 : Int))) ≤
 (4294967296 : Nat) ∧
 ByteArray.size { data := #[(97 : UInt8)] } ≤ (40000 : Nat) ∧
 (wrsB { data := #[(97 : UInt8)] } { data := #[(3 : UInt8)] } = true →
 ((txE shownL { data := #[(100 : UInt8)] } == (7 : Int)) = true →
 ByteArray.size { data := #[(49 : UInt8)] } ≤ (4294967296 : Nat) ∧
 (rdsB { data := #[(49 : UInt8)] } (4 : Int) ByteArray.empty (22 : Int) = true →
 ByteArray.size { data := #[(0 : UInt8)] } ≤ (4294967296 : Nat) ∧
 (rdsB { data := #[(0 : UInt8)] } (0 : Int) ByteArray.empty (22 : Int) = true →
 ByteArray.size ByteArray.empty ≤ (4294967296 : Nat) ∧
 (rdsB ByteArray.empty (0 : Int) ByteArray.empty (22 : Int) = true →
 ((txE shownL { data := #[(97 : UInt8), (98 : UInt8), (99 : UInt8)] } == (0 : Int)) = true →
 ((ptE (6 : Int) == (0 : Int)) = true →
 (4 : Nat) = List.length (ptV (6 : Int)) ∧
 (4 : Nat) = List.length (ptV (6 : Int)) ∧
 (4 : Nat) = List.length [(2 : Int), (2 : Int), (2 : Int), (0 : Int)] ∧
 ((ptV (6 : Int) == [(2 : Int), (2 : Int), (2 : Int), (0 : Int)]) = true →
 ((ptE (5 : Int) == (20 : Int)) = true →
 ((w4E shownL
 {
 data :=
 #[(97 : UInt8), (97 : UInt8), (97 : UInt8), (97 : UInt8), (97 : UInt8), (97 : UInt8),
 (97 : UInt8), (97 : UInt8)] } ==
 (0 : Int)) =
 true →
 ((ByteArray.toList
 (w4O shownL
 {
 data :=
 #[(97 : UInt8), (97 : UInt8), (97 : UInt8), (97 : UInt8), (97 : UInt8), (97 : UInt8),
 (97 : UInt8), (97 : UInt8)] }) ==
 ByteArray.toList
 {
 data :=
 #[(1 : UInt8), (0 : UInt8), (1 : UInt8), (0 : UInt8), (1 : UInt8), (0 : UInt8),
 (7 : UInt8), (7 : UInt8), (7 : UInt8), (7 : UInt8)] }) =
 true →
 (true = true →
 ((szO shownL { data := #[(97 : UInt8), (98 : UInt8), (99 : UInt8)] } == (1 : Int)) = true →
 ((w4E shownL
 {
 data :=
 #[(97 : UInt8), (97 : UInt8), (97 : UInt8), (97 : UInt8), (97 : UInt8)] } ==
 (20 : Int)) =
 true →
 ((r4E shownL
 {
 data :=
 #[(1 : UInt8), (0 : UInt8), (1 : UInt8), (0 : UInt8), (1 : UInt8),
 (0 : UInt8), (7 : UInt8), (7 : UInt8), (7 : UInt8), (7 : UInt8)] }
 (8 : Int) ==
 (0 : Int)) =
 true →
 ((ByteArray.toList
 (r4O shownL
 {
 data :=
 #[(1 : UInt8), (0 : UInt8), (1 : UInt8), (0 : UInt8), (1 : UInt8),
 (0 : UInt8), (7 : UInt8), (7 : UInt8), (7 : UInt8), (7 : UInt8)] }
 (8 : Int)) ==
 ByteArray.toList
 {
 data :=
 #[(97 : UInt8), (97 : UInt8), (97 : UInt8), (97 : UInt8),
 (97 : UInt8), (97 : UInt8), (97 : UInt8), (97 : UInt8)] }) =
 true →
 ((r4P shownL
 {
 data :=
 #[(1 : UInt8), (0 : UInt8), (1 : UInt8), (0 : UInt8), (1 : UInt8),
 (0 : UInt8), (7 : UInt8), (7 : UInt8), (7 : UInt8),
 (7 : UInt8)] }
 (8 : Int) ==
 (0 : Int)) =
 true →
 ((r4E shownL
 {
 data :=
 #[(1 : UInt8), (0 : UInt8), (1 : UInt8), (0 : UInt8),
 (1 : UInt8), (0 : UInt8), (7 : UInt8), (7 : UInt8),
 (7 : UInt8), (7 : UInt8)] }
 (9 : Int) ==
 (22 : Int)) =
 true →
 ((r4P shownL
 {
 data :=
 #[(1 : UInt8), (0 : UInt8), (1 : UInt8), (0 : UInt8),
 (1 : UInt8), (0 : UInt8), (7 : UInt8), (7 : UInt8),
 (7 : UInt8), (7 : UInt8)] }
 (9 : Int) ==
 (6 : Int)) =
 true →
 ((r4E shownL
 (ByteArray.extract
 {
 data :=
 #[(1 : UInt8), (0 : UInt8), (1 : UInt8),
 (0 : UInt8), (1 : UInt8), (0 : UInt8),
 (7 : UInt8), (7 : UInt8), (7 : UInt8),
 (7 : UInt8)] }
 (Int.toNat (0 : Int)) (Int.toNat (8 : Int)))
 (8 : Int) ==
 (22 : Int)) =
 true →
 (r4P shownL
 (ByteArray.extract
 {
 data :=
 #[(1 : UInt8), (0 : UInt8), (1 : UInt8),
 (0 : UInt8), (1 : UInt8), (0 : UInt8),
 (7 : UInt8), (7 : UInt8), (7 : UInt8),
 (7 : UInt8)] }
 (Int.toNat (0 : Int)) (Int.toNat (8 : Int)))
 (8 : Int) ==
 (0 : Int)) =
 true) ∧
 ((r4E shownL
 (ByteArray.extract
 {
 data :=
 #[(1 : UInt8), (0 : UInt8), (1 : UInt8),
 (0 : UInt8), (1 : UInt8), (0 : UInt8),
 (7 : UInt8), (7 : UInt8), (7 : UInt8),
 (7 : UInt8)] }
 (Int.toNat (0 : Int)) (Int.toNat (8 : Int)))
 (8 : Int) ==
 (22 : Int)) =
 false →
 false = true)) ∧
 ((r4P shownL
 {
 data :=
 #[(1 : UInt8), (0 : UInt8), (1 : UInt8), (0 : UInt8),
 (1 : UInt8), (0 : UInt8), (7 : UInt8), (7 : UInt8),
 (7 : UInt8), (7 : UInt8)] }
 (9 : Int) ==
 (6 : Int)) =
 false →
 false = true)) ∧
 ((r4E shownL
 {
 data :=
 #[(1 : UInt8), (0 : UInt8), (1 : UInt8), (0 : UInt8),
 (1 : UInt8), (0 : UInt8), (7 : UInt8), (7 : UInt8),
 (7 : UInt8), (7 : UInt8)] }
 (9 : Int) ==
 (22 : Int)) =
 false →
 false = true)) ∧
 ((r4P shownL
 {
 data :=
 #[(1 : UInt8), (0 : UInt8), (1 : UInt8), (0 : UInt8), (1 : UInt8),
 (0 : UInt8), (7 : UInt8), (7 : UInt8), (7 : UInt8),
 (7 : UInt8)] }
 (8 : Int) ==
 (0 : Int)) =
 false →
 false = true)) ∧
 ((ByteArray.toList
 (r4O shownL
 {
 data :=
 #[(1 : UInt8), (0 : UInt8), (1 : UInt8), (0 : UInt8), (1 : UInt8),
 (0 : UInt8), (7 : UInt8), (7 : UInt8), (7 : UInt8), (7 : UInt8)] }
 (8 : Int)) ==
 ByteArray.toList
 {
 data :=
 #[(97 : UInt8), (97 : UInt8), (97 : UInt8), (97 : UInt8),
 (97 : UInt8), (97 : UInt8), (97 : UInt8), (97 : UInt8)] }) =
 false →
 false = true)) ∧
 ((r4E shownL
 {
 data :=
 #[(1 : UInt8), (0 : UInt8), (1 : UInt8), (0 : UInt8), (1 : UInt8),
 (0 : UInt8), (7 : UInt8), (7 : UInt8), (7 : UInt8), (7 : UInt8)] }
 (8 : Int) ==
 (0 : Int)) =
 false →
 false = true)) ∧
 ((w4E shownL
 {
 data :=
 #[(97 : UInt8), (97 : UInt8), (97 : UInt8), (97 : UInt8), (97 : UInt8)] } ==
 (20 : Int)) =
 false →
 false = true)) ∧
 ((szO shownL { data := #[(97 : UInt8), (98 : UInt8), (99 : UInt8)] } == (1 : Int)) = false →
 false = true)) ∧
 (true = false → false = true)) ∧
 ((ByteArray.toList
 (w4O shownL
 {
 data :=
 #[(97 : UInt8), (97 : UInt8), (97 : UInt8), (97 : UInt8), (97 : UInt8), (97 : UInt8),
 (97 : UInt8), (97 : UInt8)] }) ==
 ByteArray.toList
 {
 data :=
 #[(1 : UInt8), (0 : UInt8), (1 : UInt8), (0 : UInt8), (1 : UInt8), (0 : UInt8),
 (7 : UInt8), (7 : UInt8), (7 : UInt8), (7 : UInt8)] }) =
 false →
 (true = true →
 ((szO shownL { data := #[(97 : UInt8), (98 : UInt8), (99 : UInt8)] } == (1 : Int)) = true →
 false = true) ∧
 ((szO shownL { data := #[(97 : UInt8), (98 : UInt8), (99 : UInt8)] } == (1 : Int)) = false →
 false = true)) ∧
 (true = false → false = true))) ∧
 ((w4E shownL
 {
 data :=
 #[(97 : UInt8), (97 : UInt8), (97 : UInt8), (97 : UInt8), (97 : UInt8), (97 : UInt8),
 (97 : UInt8), (97 : UInt8)] } ==
 (0 : Int)) =
 false →
 (true = true →
 ((szO shownL { data := #[(97 : UInt8), (98 : UInt8), (99 : UInt8)] } == (1 : Int)) = true →
 false = true) ∧
 ((szO shownL { data := #[(97 : UInt8), (98 : UInt8), (99 : UInt8)] } == (1 : Int)) = false →
 false = true)) ∧
 (true = false → false = true))) ∧
 ((ptE (5 : Int) == (20 : Int)) = false →
 (true = true →
 ((szO shownL { data := #[(97 : UInt8), (98 : UInt8), (99 : UInt8)] } == (1 : Int)) = true →
 false = true) ∧
 ((szO shownL { data := #[(97 : UInt8), (98 : UInt8), (99 : UInt8)] } == (1 : Int)) = false →
 false = true)) ∧
 (true = false → false = true))) ∧
 ((ptV (6 : Int) == [(2 : Int), (2 : Int), (2 : Int), (0 : Int)]) = false →
 (true = true →
 ((szO shownL { data := #[(97 : UInt8), (98 : UInt8), (99 : UInt8)] } == (1 : Int)) = true → false = true) ∧
 ((szO shownL { data := #[(97 : UInt8), (98 : UInt8), (99 : UInt8)] } == (1 : Int)) = false →
 false = true)) ∧
 (true = false → false = true))) ∧
 ((ptE (6 : Int) == (0 : Int)) = false →
 (true = true →
 ((szO shownL { data := #[(97 : UInt8), (98 : UInt8), (99 : UInt8)] } == (1 : Int)) = true → false = true) ∧
 ((szO shownL { data := #[(97 : UInt8), (98 : UInt8), (99 : UInt8)] } == (1 : Int)) = false → false = true)) ∧
 (true = false → false = true))) ∧
 ((txE shownL { data := #[(97 : UInt8), (98 : UInt8), (99 : UInt8)] } == (0 : Int)) = false →
 ((ptE (6 : Int) == (0 : Int)) = true →
 (4 : Nat) = List.length (ptV (6 : Int)) ∧
 (4 : Nat) = List.length (ptV (6 : Int)) ∧
 (4 : Nat) = List.length [(2 : Int), (2 : Int), (2 : Int), (0 : Int)] ∧
 ((ptV (6 : Int) == [(2 : Int), (2 : Int), (2 : Int), (0 : Int)]) = true →
 ((ptE (5 : Int) == (20 : Int)) = true →
 ((w4E shownL
 {
 data :=
 #[(97 : UInt8), (97 : UInt8), (97 : UInt8), (97 : UInt8), (97 : UInt8), (97 : UInt8),
 (97 : UInt8), (97 : UInt8)] } ==
 (0 : Int)) =
 true →
 ((ByteArray.toList
 (w4O shownL
 {
 data :=
 #[(97 : UInt8), (97 : UInt8), (97 : UInt8), (97 : UInt8), (97 : UInt8), (97 : UInt8),
 (97 : UInt8), (97 : UInt8)] }) ==
 ByteArray.toList
 {
 data :=
 #[(1 : UInt8), (0 : UInt8), (1 : UInt8), (0 : UInt8), (1 : UInt8), (0 : UInt8),
 (7 : UInt8), (7 : UInt8), (7 : UInt8), (7 : UInt8)] }) =
 true →
 (true = true → false = true) ∧ (true = false → false = true)) ∧
 ((ByteArray.toList
 (w4O shownL
 {
 data :=
 #[(97 : UInt8), (97 : UInt8), (97 : UInt8), (97 : UInt8), (97 : UInt8), (97 : UInt8),
 (97 : UInt8), (97 : UInt8)] }) ==
 ByteArray.toList
 {
 data :=
 #[(1 : UInt8), (0 : UInt8), (1 : UInt8), (0 : UInt8), (1 : UInt8), (0 : UInt8),
 (7 : UInt8), (7 : UInt8), (7 : UInt8), (7 : UInt8)] }) =
 false →
 (true = true → false = true) ∧ (true = false → false = true))) ∧
 ((w4E shownL
 {
 data :=
 #[(97 : UInt8), (97 : UInt8), (97 : UInt8), (97 : UInt8), (97 : UInt8), (97 : UInt8),
 (97 : UInt8), (97 : UInt8)] } ==
 (0 : Int)) =
 false →
 (true = true → false = true) ∧ (true = false → false = true))) ∧
 ((ptE (5 : Int) == (20 : Int)) = false → (true = true → false = true) ∧ (true = false → false = true))) ∧
 ((ptV (6 : Int) == [(2 : Int), (2 : Int), (2 : Int), (0 : Int)]) = false →
 (true = true → false = true) ∧ (true = false → false = true))) ∧
 ((ptE (6 : Int) == (0 : Int)) = false → (true = true → false = true) ∧ (true = false → false = true)))) ∧
 (rdsB ByteArray.empty (0 : Int) ByteArray.empty (22 : Int) = false →
 ((ptE (6 : Int) == (0 : Int)) = true →
 (4 : Nat) = List.length (ptV (6 : Int)) ∧
 (4 : Nat) = List.length (ptV (6 : Int)) ∧
 (4 : Nat) = List.length [(2 : Int), (2 : Int), (2 : Int), (0 : Int)] ∧
 ((ptV (6 : Int) == [(2 : Int), (2 : Int), (2 : Int), (0 : Int)]) = true →
 ((ptE (5 : Int) == (20 : Int)) = true →
 ((w4E shownL
 {
 data :=
 #[(97 : UInt8), (97 : UInt8), (97 : UInt8), (97 : UInt8), (97 : UInt8), (97 : UInt8),
 (97 : UInt8), (97 : UInt8)] } ==
 (0 : Int)) =
 true →
 ((ByteArray.toList
 (w4O shownL
 {
 data :=
 #[(97 : UInt8), (97 : UInt8), (97 : UInt8), (97 : UInt8), (97 : UInt8), (97 : UInt8),
 (97 : UInt8), (97 : UInt8)] }) ==
 ByteArray.toList
 {
 data :=
 #[(1 : UInt8), (0 : UInt8), (1 : UInt8), (0 : UInt8), (1 : UInt8), (0 : UInt8), (7 : UInt8),
 (7 : UInt8), (7 : UInt8), (7 : UInt8)] }) =
 true →
 (true = true → false = true) ∧ (true = false → false = true)) ∧
 ((ByteArray.toList
 (w4O shownL
 {
 data :=
 #[(97 : UInt8), (97 : UInt8), (97 : UInt8), (97 : UInt8), (97 : UInt8), (97 : UInt8),
 (97 : UInt8), (97 : UInt8)] }) ==
 ByteArray.toList
 {
 data :=
 #[(1 : UInt8), (0 : UInt8), (1 : UInt8), (0 : UInt8), (1 : UInt8), (0 : UInt8), (7 : UInt8),
 (7 : UInt8), (7 : UInt8), (7 : UInt8)] }) =
 false →
 (true = true → false = true) ∧ (true = false → false = true))) ∧
 ((w4E shownL
 {
 data :=
 #[(97 : UInt8), (97 : UInt8), (97 : UInt8), (97 : UInt8), (97 : UInt8), (97 : UInt8),
 (97 : UInt8), (97 : UInt8)] } ==
 (0 : Int)) =
 false →
 (true = true → false = true) ∧ (true = false → false = true))) ∧
 ((ptE (5 : Int) == (20 : Int)) = false → (true = true → false = true) ∧ (true = false → false = true))) ∧
 ((ptV (6 : Int) == [(2 : Int), (2 : Int), (2 : Int), (0 : Int)]) = false →
 (true = true → false = true) ∧ (true = false → false = true))) ∧
 ((ptE (6 : Int) == (0 : Int)) = false → (true = true → false = true) ∧ (true = false → false = true)))) ∧
 (rdsB { data := #[(0 : UInt8)] } (0 : Int) ByteArray.empty (22 : Int) = false →
 ((ptE (6 : Int) == (0 : Int)) = true →
 (4 : Nat) = List.length (ptV (6 : Int)) ∧
 (4 : Nat) = List.length (ptV (6 : Int)) ∧
 (4 : Nat) = List.length [(2 : Int), (2 : Int), (2 : Int), (0 : Int)] ∧
 ((ptV (6 : Int) == [(2 : Int), (2 : Int), (2 : Int), (0 : Int)]) = true →
 ((ptE (5 : Int) == (20 : Int)) = true →
 ((w4E shownL
 {
 data :=
 #[(97 : UInt8), (97 : UInt8), (97 : UInt8), (97 : UInt8), (97 : UInt8), (97 : UInt8), (97 : UInt8),
 (97 : UInt8)] } ==
 (0 : Int)) =
 true →
 ((ByteArray.toList
 (w4O shownL
 {
 data :=
 #[(97 : UInt8), (97 : UInt8), (97 : UInt8), (97 : UInt8), (97 : UInt8), (97 : UInt8),
 (97 : UInt8), (97 : UInt8)] }) ==
 ByteArray.toList
 {
 data :=
 #[(1 : UInt8), (0 : UInt8), (1 : UInt8), (0 : UInt8), (1 : UInt8), (0 : UInt8), (7 : UInt8),
 (7 : UInt8), (7 : UInt8), (7 : UInt8)] }) =
 true →
 (true = true → false = true) ∧ (true = false → false = true)) ∧
 ((ByteArray.toList
 (w4O shownL
 {
 data :=
 #[(97 : UInt8), (97 : UInt8), (97 : UInt8), (97 : UInt8), (97 : UInt8), (97 : UInt8),
 (97 : UInt8), (97 : UInt8)] }) ==
 ByteArray.toList
 {
 data :=
 #[(1 : UInt8), (0 : UInt8), (1 : UInt8), (0 : UInt8), (1 : UInt8), (0 : UInt8), (7 : UInt8),
 (7 : UInt8), (7 : UInt8), (7 : UInt8)] }) =
 false →
 (true = true → false = true) ∧ (true = false → false = true))) ∧
 ((w4E shownL
 {
 data :=
 #[(97 : UInt8), (97 : UInt8), (97 : UInt8), (97 : UInt8), (97 : UInt8), (97 : UInt8), (97 : UInt8),
 (97 : UInt8)] } ==
 (0 : Int)) =
 false →
 (true = true → false = true) ∧ (true = false → false = true))) ∧
 ((ptE (5 : Int) == (20 : Int)) = false → (true = true → false = true) ∧ (true = false → false = true))) ∧
 ((ptV (6 : Int) == [(2 : Int), (2 : Int), (2 : Int), (0 : Int)]) = false →
 (true = true → false = true) ∧ (true = false → false = true))) ∧
 ((ptE (6 : Int) == (0 : Int)) = false → (true = true → false = true) ∧ (true = false → false = true)))) ∧
 (rdsB { data := #[(49 : UInt8)] } (4 : Int) ByteArray.empty (22 : Int) = false →
 ((ptE (6 : Int) == (0 : Int)) = true →
 (4 : Nat) = List.length (ptV (6 : Int)) ∧
 (4 : Nat) = List.length (ptV (6 : Int)) ∧
 (4 : Nat) = List.length [(2 : Int), (2 : Int), (2 : Int), (0 : Int)] ∧
 ((ptV (6 : Int) == [(2 : Int), (2 : Int), (2 : Int), (0 : Int)]) = true →
 ((ptE (5 : Int) == (20 : Int)) = true →
 ((w4E shownL
 {
 data :=
 #[(97 : UInt8), (97 : UInt8), (97 : UInt8), (97 : UInt8), (97 : UInt8), (97 : UInt8), (97 : UInt8),
 (97 : UInt8)] } ==
 (0 : Int)) =
 true →
 ((ByteArray.toList
 (w4O shownL
 {
 data :=
 #[(97 : UInt8), (97 : UInt8), (97 : UInt8), (97 : UInt8), (97 : UInt8), (97 : UInt8), (97 : UInt8),
 (97 : UInt8)] }) ==
 ByteArray.toList
 {
 data :=
 #[(1 : UInt8), (0 : UInt8), (1 : UInt8), (0 : UInt8), (1 : UInt8), (0 : UInt8), (7 : UInt8), (7 : UInt8),
 (7 : UInt8), (7 : UInt8)] }) =
 true →
 (true = true → false = true) ∧ (true = false → false = true)) ∧
 ((ByteArray.toList
 (w4O shownL
 {
 data :=
 #[(97 : UInt8), (97 : UInt8), (97 : UInt8), (97 : UInt8), (97 : UInt8), (97 : UInt8), (97 : UInt8),
 (97 : UInt8)] }) ==
 ByteArray.toList
 {
 data :=
 #[(1 : UInt8), (0 : UInt8), (1 : UInt8), (0 : UInt8), (1 : UInt8), (0 : UInt8), (7 : UInt8), (7 : UInt8),
 (7 : UInt8), (7 : UInt8)] }) =
 false →
 (true = true → false = true) ∧ (true = false → false = true))) ∧
 ((w4E shownL
 {
 data :=
 #[(97 : UInt8), (97 : UInt8), (97 : UInt8), (97 : UInt8), (97 : UInt8), (97 : UInt8), (97 : UInt8),
 (97 : UInt8)] } ==
 (0 : Int)) =
 false →
 (true = true → false = true) ∧ (true = false → false = true))) ∧
 ((ptE (5 : Int) == (20 : Int)) = false → (true = true → false = true) ∧ (true = false → false = true))) ∧
 ((ptV (6 : Int) == [(2 : Int), (2 : Int), (2 : Int), (0 : Int)]) = false →
 (true = true → false = true) ∧ (true = false → false = true))) ∧
 ((ptE (6 : Int) == (0 : Int)) = false → (true = true → false = true) ∧ (true = false → false = true)))) ∧
 ((txE shownL { data := #[(100 : UInt8)] } == (7 : Int)) = false →
 ((ptE (6 : Int) == (0 : Int)) = true →
 (4 : Nat) = List.length (ptV (6 : Int)) ∧
 (4 : Nat) = List.length (ptV (6 : Int)) ∧
 (4 : Nat) = List.length [(2 : Int), (2 : Int), (2 : Int), (0 : Int)] ∧
 ((ptV (6 : Int) == [(2 : Int), (2 : Int), (2 : Int), (0 : Int)]) = true →
 ((ptE (5 : Int) == (20 : Int)) = true →
 ((w4E shownL
 {
 data :=
 #[(97 : UInt8), (97 : UInt8), (97 : UInt8), (97 : UInt8), (97 : UInt8), (97 : UInt8), (97 : UInt8),
 (97 : UInt8)] } ==
 (0 : Int)) =
 true →
 ((ByteArray.toList
 (w4O shownL
 {
 data :=
 #[(97 : UInt8), (97 : UInt8), (97 : UInt8), (97 : UInt8), (97 : UInt8), (97 : UInt8), (97 : UInt8),
 (97 : UInt8)] }) ==
 ByteArray.toList
 {
 data :=
 #[(1 : UInt8), (0 : UInt8), (1 : UInt8), (0 : UInt8), (1 : UInt8), (0 : UInt8), (7 : UInt8), (7 : UInt8),
 (7 : UInt8), (7 : UInt8)] }) =
 true →
 (true = true → false = true) ∧ (true = false → false = true)) ∧
 ((ByteArray.toList
 (w4O shownL
 {
 data :=
 #[(97 : UInt8), (97 : UInt8), (97 : UInt8), (97 : UInt8), (97 : UInt8), (97 : UInt8), (97 : UInt8),
 (97 : UInt8)] }) ==
 ByteArray.toList
 {
 data :=
 #[(1 : UInt8), (0 : UInt8), (1 : UInt8), (0 : UInt8), (1 : UInt8), (0 : UInt8), (7 : UInt8), (7 : UInt8),
 (7 : UInt8), (7 : UInt8)] }) =
 false →
 (true = true → false = true) ∧ (true = false → false = true))) ∧
 ((w4E shownL
 {
 data :=
 #[(97 : UInt8), (97 : UInt8), (97 : UInt8), (97 : UInt8), (97 : UInt8), (97 : UInt8), (97 : UInt8),
 (97 : UInt8)] } ==
 (0 : Int)) =
 false →
 (true = true → false = true) ∧ (true = false → false = true))) ∧
 ((ptE (5 : Int) == (20 : Int)) = false → (true = true → false = true) ∧ (true = false → false = true))) ∧
 ((ptV (6 : Int) == [(2 : Int), (2 : Int), (2 : Int), (0 : Int)]) = false →
 (true = true → false = true) ∧ (true = false → false = true))) ∧
 ((ptE (6 : Int) == (0 : Int)) = false → (true = true → false = true) ∧ (true = false → false = true)))) ∧
 (wrsB { data := #[(97 : UInt8)] } { data := #[(3 : UInt8)] } = false →
 ((ptE (6 : Int) == (0 : Int)) = true →
 (4 : Nat) = List.length (ptV (6 : Int)) ∧
 (4 : Nat) = List.length (ptV (6 : Int)) ∧
 (4 : Nat) = List.length [(2 : Int), (2 : Int), (2 : Int), (0 : Int)] ∧
 ((ptV (6 : Int) == [(2 : Int), (2 : Int), (2 : Int), (0 : Int)]) = true →
 ((ptE (5 : Int) == (20 : Int)) = true →
 ((w4E shownL
 {
 data :=
 #[(97 : UInt8), (97 : UInt8), (97 : UInt8), (97 : UInt8), (97 : UInt8), (97 : UInt8), (97 : UInt8), (97 : UInt8)] } ==
 (0 : Int)) =
 true →
 ((ByteArray.toList
 (w4O shownL
 {
 data :=
 #[(97 : UInt8), (97 : UInt8), (97 : UInt8), (97 : UInt8), (97 : UInt8), (97 : UInt8), (97 : UInt8),
 (97 : UInt8)] }) ==
 ByteArray.toList
 {
 data :=
 #[(1 : UInt8), (0 : UInt8), (1 : UInt8), (0 : UInt8), (1 : UInt8), (0 : UInt8), (7 : UInt8), (7 : UInt8),
 (7 : UInt8), (7 : UInt8)] }) =
 true →
 (true = true → false = true) ∧ (true = false → false = true)) ∧
 ((ByteArray.toList
 (w4O shownL
 {
 data :=
 #[(97 : UInt8), (97 : UInt8), (97 : UInt8), (97 : UInt8), (97 : UInt8), (97 : UInt8), (97 : UInt8),
 (97 : UInt8)] }) ==
 ByteArray.toList
 {
 data :=
 #[(1 : UInt8), (0 : UInt8), (1 : UInt8), (0 : UInt8), (1 : UInt8), (0 : UInt8), (7 : UInt8), (7 : UInt8),
 (7 : UInt8), (7 : UInt8)] }) =
 false →
 (true = true → false = true) ∧ (true = false → false = true))) ∧
 ((w4E shownL
 {
 data :=
 #[(97 : UInt8), (97 : UInt8), (97 : UInt8), (97 : UInt8), (97 : UInt8), (97 : UInt8), (97 : UInt8), (97 : UInt8)] } ==
 (0 : Int)) =
 false →
 (true = true → false = true) ∧ (true = false → false = true))) ∧
 ((ptE (5 : Int) == (20 : Int)) = false → (true = true → false = true) ∧ (true = false → false = true))) ∧
 ((ptV (6 : Int) == [(2 : Int), (2 : Int), (2 : Int), (0 : Int)]) = false → (true = true → false = true) ∧ (true = false → false = true))) ∧
 ((ptE (6 : Int) == (0 : Int)) = false → (true = true → false = true) ∧ (true = false → false = true)))
theorem lawKnN_e  : lawKnN_t  = vcG Try.prog (Gof GUi) (fun _ => none) Try.f5 [] [] (.leaf ((.v (.bool true))) ([])) := by kernel_rfl
end Go.Proofs.Ytmdbliacaeokaaa
namespace Go.Proofs.Ytmdbliacaeokaaa
open Go Go.RowKit
set_option linter.unusedVariables false
set_option linter.unusedSimpArgs false
set_option maxRecDepth 100000
theorem fldJ_sound : Sound Try.prog 60 sFld2.ctr := sFld2.sound (by kernel_rfl) sFld2_enc fun n hc => by
  have h0 := hc _ (.head _)
  have h1 := hc _ (.tail _ (.head _))
  exact satG AllOk.nil mixed Try.func60 (fldJ_e n) (fldJ_v n h0 h1)
theorem rd16J_sound : Sound Try.prog 33 sRd16.ctr := sRd16.sound (by kernel_rfl) sRd16_enc fun ⟨b, i⟩ hc => by
  have h0 := hc _ (.head _)
  have h1 := hc _ (.tail _ (.head _))
  have h2 := hc _ (.tail _ (.tail _ (.head _)))
  exact satG AllOk.nil mixed Try.func33 (rd16J_e b i) (rd16J_v b i h0 h1 h2)
theorem ptlJ_sound : Sound Try.prog 34 sPtL.ctr := sPtL.sound (by kernel_rfl) sPtL_enc fun n hc => by
  have h0 := hc _ (.head _)
  have h1 := hc _ (.tail _ (.head _))
  exact satG AllOk.nil mixed Try.func34 (ptlJ_e n) (ptlJ_v n h0 h1)
theorem divJ_sound : Sound Try.prog 35 sDivd.ctr := sDivd.sound (by kernel_rfl) sDivd_enc fun ⟨s, p⟩ hc => by
  have h0 := hc _ (.head _)
  exact satG AllOk.nil mixed Try.func35 (divJ_e s p) (divJ_v s p h0)
theorem joinJ_sound : Sound Try.prog 42 sJoin.ctr := sJoin.sound (by kernel_rfl) sJoin_enc fun xs hc => by
  have h0 := hc _ (.head _)
  have h1 := hc _ (.tail _ (.head _))
  exact satG AllOk.nil mixed Try.func42 (joinJ_e xs) (joinJ_v xs h0 h1)
theorem wroJ_sound : Sound Try.prog 16 sWrO.ctr := sWrO.sound (by kernel_rfl) sWrO_enc fun ⟨l, s⟩ hc => by
  have h0 := hc _ (.head _)
  have h1 := hc _ (.tail _ (.head _))
  exact satG GUc_ok mixed Try.func16 (wroJ_e l s) (wroJ_v l s h0 h1)
theorem szoJ_sound : Sound Try.prog 20 sSzO.ctr := sSzO.sound (by kernel_rfl) sSzO_enc fun ⟨l, s⟩ hc => by
  have h0 := hc _ (.head _)
  have h1 := hc _ (.tail _ (.head _))
  exact satG GUc_ok mixed Try.func20 (szoJ_e l s) (szoJ_v l s h0 h1)
theorem rdoJ_sound : Sound Try.prog 11 sRdO.ctr := sRdO.sound (by kernel_rfl) sRdO_enc fun ⟨l, b, n⟩ hc => by
  have h0 := hc _ (.head _)
  have h1 := hc _ (.tail _ (.head _))
  exact satG GUc_ok mixed Try.func11 (rdoJ_e l b n) (rdoJ_v l b n h0 h1)
theorem GUd_ok : AllOk Try.prog GUd := .cons fldJ_sound <| .cons rd16J_sound <| .cons ptlJ_sound <| .cons divJ_sound <| .cons joinJ_sound <| .cons wroJ_sound <| .cons szoJ_sound <| .cons rdoJ_sound <| GUc_ok
theorem litJ_sound : Sound Try.prog 41 sLit2.ctr := sLit2.sound (by kernel_rfl) sLit2_enc fun n hc => by
  have h0 := hc _ (.head _)
  have h1 := hc _ (.tail _ (.head _))
  exact satG GUd_ok mixed Try.func41 (litJ_e n) (litJ_v n h0 h1)
theorem ptvJ_sound : Sound Try.prog 22 sPtV.ctr := sPtV.sound (by kernel_rfl) sPtV_enc fun n hc => by
  exact satG GUd_ok mixed Try.func22 (ptvJ_e n) (ptvJ_v n)
theorem r4J_sound : Sound Try.prog 13 sR4.ctr := sR4.sound (by kernel_rfl) sR4_enc fun ⟨l, b, n⟩ hc => by
  have h0 := hc _ (.head _)
  have h1 := hc _ (.tail _ (.head _))
  exact satG GUd_ok mixed Try.func13 (r4J_e l b n) (r4J_v l b n h0 h1)
theorem GUe_ok : AllOk Try.prog GUe := .cons litJ_sound <| .cons ptvJ_sound <| .cons r4J_sound <| GUd_ok
theorem w4J_sound : Sound Try.prog 18 sW4.ctr := sW4.sound (by kernel_rfl) sW4_enc fun ⟨l, s⟩ hc => by
  have h0 := hc _ (.head _)
  have h1 := hc _ (.tail _ (.head _))
  exact satG GUe_ok mixed Try.func18 (w4J_e l s) (w4J_v l s h0 h1)
theorem GUf_ok : AllOk Try.prog GUf := .cons w4J_sound <| GUe_ok
theorem shownN_v : shownN_t := by
  unfold shownN_t
  decide +kernel
theorem shownN_sound : Sound Try.prog 24 sShown.ctr := sShown.sound (by kernel_rfl) sShown_enc fun _ hc => by
  exact satG AllOk.nil mixed Try.func24 (shownN_e ) (shownN_v)
theorem GUg_ok : AllOk Try.prog GUg := .cons shownN_sound <| GUf_ok
theorem wrsN_v (s w : ByteArray) (h0 : s.size ≤ 40000) : wrsN_t s w := by
  unfold wrsN_t wrsB
  refine ⟨by decide, h0, fun h => ?_, fun h => ?_⟩
  · rw [h, Bool.true_and]
  · rw [h, Bool.false_and]
theorem rdsN_v (b : ByteArray) (n : Int) (w : ByteArray) (e : Int) (h0 : b.size ≤ 4294967296) : rdsN_t b n w e := by
  unfold rdsN_t rdsB
  refine ⟨by decide, h0, fun h => ?_, fun h => ?_⟩
  · rw [h, Bool.true_and]
  · rw [h, Bool.false_and]
theorem wrsN_sound : Sound Try.prog 25 sWrs.ctr := sWrs.sound (by kernel_rfl) sWrs_enc fun ⟨s, w⟩ hc => by
  have h0 := hc _ (.head _)
  exact satG GUg_ok mixed Try.func25 (wrsN_e s w) (wrsN_v s w h0)
theorem rdsN_sound : Sound Try.prog 26 sRds.ctr := sRds.sound (by kernel_rfl) sRds_enc fun ⟨b, n, w, e⟩ hc => by
  have h0 := hc _ (.head _)
  exact satG GUg_ok mixed Try.func26 (rdsN_e b n w e) (rdsN_v b n w e h0)
theorem GUh_ok : AllOk Try.prog GUh := .cons wrsN_sound <| .cons rdsN_sound <| GUg_ok
end Go.Proofs.Ytmdbliacaeokaaa
namespace Go.Proofs.Ytmdbliacaeokaaa
open Go Go.RowKit
set_option linter.unusedVariables false
set_option linter.unusedSimpArgs false
set_option maxRecDepth 100000
theorem awakeN_v : awakeN_t := by
  unfold awakeN_t
  decide +kernel
theorem awakeN_sound : Sound Try.prog 9 sTrue.ctr := sTrue.sound (by kernel_rfl) sTrue_enc fun _ hc => by
  exact satG GUh_ok mixed Try.func9 (awakeN_e ) (awakeN_v)
theorem GUi_ok : AllOk Try.prog GUi := .cons awakeN_sound <| GUh_ok
end Go.Proofs.Ytmdbliacaeokaaa
namespace Go.Proofs.Ytmdbliacaeokaaa
open Go Go.RowKit
set_option linter.unusedVariables false
set_option linter.unusedSimpArgs false
set_option maxRecDepth 100000
set_option synthInstance.maxSize 100000 in
set_option synthInstance.maxHeartbeats 0 in
theorem lawKnN_v : lawKnN_t := by
  unfold lawKnN_t
  decide +kernel
theorem hknown_any (W : World) : Calls Try.prog 5 #[] W fun e w' => e = .returned (.bool true) ∧ Below W.heap.size W w' :=
  law_true (us := []) (satG GUi_ok mixed Try.func5 lawKnN_e lawKnN_v) (.inr rfl) (by simp only [Reps])
end Go.Proofs.Ytmdbliacaeokaaa

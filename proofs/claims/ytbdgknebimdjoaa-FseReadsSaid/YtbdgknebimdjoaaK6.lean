/-
  Texts joined: HH, HI, HJ, HJt, HK. Conditions: each theorem's own.
-/
import Derived.Test.YtbdgknebimdjoaaK5
import Derived.Test.YtbdgknebimdjoaaK4
namespace Go.Proofs.Ytbdgknebimdjoaa
open Go Go.RowKit
set_option linter.unusedVariables false
set_option linter.unusedSimpArgs false
set_option maxRecDepth 100000
theorem rd_bad {g : Int} {p : List Int} {s : ByteArray} {n e : Int} (h : rdE g p s n = e) (he : e ≠ 0) : (rdO g p s n).length = 0 ∧ e = rdE g p s n := by
  refine ⟨?_, h.symm⟩
  unfold rdO
  rw [show (rdE g p s n == 0) = false by rw [h]; simpa using he]
  rfl
theorem rdE_d {g : Int} {p : List Int} {s : ByteArray} {n : Int} (h : (dchk g p != (0 : Int)) = true) : rdE g p s n = dchk g p := by unfold rdE; rw [ne0 h]; rfl
theorem rdE_1 {g : Int} {p : List Int} {s : ByteArray} {n : Int} (h : dchk g p = 0) (h1 : n < 1) : rdE g p s n = 5 := by unfold rdE; rw [beq0 h, decide_eq_true h1]; rfl
theorem rdE_2 {g : Int} {p : List Int} {s : ByteArray} {n : Int} (h : dchk g p = 0) (h1 : 100000 < n) : rdE g p s n = 4 := by unfold rdE; rw [beq0 h, decide_eq_false (by omega), decide_eq_true h1]; rfl
theorem rdE_3 {g : Int} {p : List Int} {s : ByteArray} {n : Int} (h : dchk g p = 0) (h1 : ¬ n < 1) (h2 : ¬ 100000 < n) (h3 : (bkE s != (0 : Int)) = true) : rdE g p s n = bkE s := by unfold rdE; rw [beq0 h, decide_eq_false h1, decide_eq_false h2, ne0 h3]; rfl
theorem rdE_4 {g : Int} {p : List Int} {s : ByteArray} {n : Int} (h : dchk g p = 0) (h1 : ¬ n < 1) (h2 : ¬ 100000 < n) (h3 : bkE s = 0) : rdE g p s n = cond (rdB g p s n.toNat) 22 0 := by unfold rdE; rw [beq0 h, decide_eq_false h1, decide_eq_false h2, beq0 h3]; rfl
theorem rdB_cut {g : Int} {p : List Int} {s : ByteArray} {n : Nat} (h : rG s (bkN s) g (decL g p) n < n) : rdB g p s n = true := by
  unfold rdB
  have : Nat.beq (rG s (bkN s) g (decL g p) n) n = false := by
    cases hb : Nat.beq (rG s (bkN s) g (decL g p) n) n
    · rfl
    · have := Nat.eq_of_beq_eq_true hb; omega
  rw [this]
  rfl
theorem rdB_left {g : Int} {p : List Int} {s : ByteArray} {n : Nat} (h : rG s (bkN s) g (decL g p) n = n) : rdB g p s n = decide (0 < rL s (bkN s) g (decL g p) (n - 1)) := by
  unfold rdB
  rw [h, Nat.beq_refl]
  rfl
theorem rd_end {g : Int} {p : List Int} {s : ByteArray} {n : Int} {l : Int} (h : dchk g p = 0) (h1 : ¬ n < 1) (h2 : ¬ 100000 < n) (h3 : bkE s = 0) (hG : rG s (bkN s) g (decL g p) n.toNat = n.toNat) (hl : l = rL s (bkN s) g (decL g p) (n.toNat - 1)) :
    (decide (l > 0) = true → (rdO g p s n).length = 0 ∧ (22 : Int) = rdE g p s n) ∧ (decide (l > 0) = false → symN s (bkN s) g (decL g p) n.toNat = rdO g p s n ∧ (0 : Int) = rdE g p s n) := by
  have e := rdE_4 h h1 h2 h3
  rw [rdB_left hG, ← hl] at e
  refine ⟨fun hd => ?_, fun hd => ?_⟩
  · have hd : decide (0 < l) = true := hd
    rw [hd] at e
    exact rd_bad e (by decide)
  · have hd : decide (0 < l) = false := hd
    rw [hd] at e
    refine ⟨?_, e.symm⟩
    unfold rdO
    rw [beq0 e]
    rfl
theorem readFH_v (g : Int) (p : List Int) (s : ByteArray) (n : Int) (h0 : p.length ≤ 4294967296) (hs : s.size ≤ 4294967296) : readFH_t g p s n := by
  unfold readFH_t
  refine ⟨h0, fun h => rd_bad (rdE_d h) (nz h), fun h => ⟨fun h1 => rd_bad (rdE_1 (eq0 h) (by simpa using h1)) (by decide), fun h1 => ⟨fun h2 => rd_bad (rdE_2 (eq0 h) (by simpa using h2)) (by decide), fun h2 => ⟨fun ho => ?_, fun ho => ?_⟩⟩⟩⟩
  · have hd := eq0 h
    have hC := dec_ok hd
    have hb : bkE s = 0 := by rw [← op_ok1 (p := p) hd]; exact ho
    have n1 : ¬ n < 1 := by simpa using h1
    have n2 : ¬ 100000 < n := by simpa using h2
    refine ⟨h0, hs, fun hf => by simp at hf, fun _ => ?_⟩
    have e := its_len s (bkN s) g (decL g p) n.toNat
    unfold itsS at e
    rw [e]
    have hle : rG s (bkN s) g (decL g p) n.toNat ≤ n.toNat := gd_le _ _
    refine ⟨(), sy_isat 1300016 1300017 900016 (by decide) (by decide) (by decide) s (bkN s) g (decL g p) n.toNat hs hC (by omega) (by omega), ⟨by omega, rfl, rfl, rfl, rfl⟩, Nat.zero_le _, ⟨rfl, rfl, rfl⟩, fun i hi hg => ⟨its_at hi, rfl, fun hb2 => ?_, fun hb2 => ?_⟩, fun hg => ?_⟩
    · have hb2 : itO s (bkN s) g (decL g p) n.toNat i = false := by simpa using hb2
      have hG : rG s (bkN s) g (decL g p) n.toNat < n.toNat := by
        rw [nle] at hg
        rcases Nat.lt_or_ge (rG s (bkN s) g (decL g p) n.toNat) n.toNat with h | h
        · exact h
        · rw [itsN_all (by omega)] at hi
          rw [(it_good (by omega)).2] at hb2
          cases hb2
      have e2 := rdE_4 hd n1 n2 hb
      rw [rdB_cut hG] at e2
      exact rd_bad e2 (by decide)
    · have hb2 : itO s (bkN s) g (decL g p) n.toNat i = true := by simpa using hb2
      have hG : i < rG s (bkN s) g (decL g p) n.toNat := Classical.byContradiction fun hn => by rw [(it_bad hn).2] at hb2; cases hb2
      refine ⟨by rw [symN_len]; omega, hG, rfl, rfl, ?_⟩
      rw [(it_good hG).1]
      exact (symN_succ _ _ _ _ _).symm
    · rw [nle] at hg
      have hG : rG s (bkN s) g (decL g p) n.toNat = n.toNat := by
        rcases Nat.lt_or_ge (rG s (bkN s) g (decL g p) n.toNat) n.toNat with h | h
        · rw [itsN_cut h] at hg; omega
        · omega
      have eN := itsN_all hG
      rw [eN]
      refine rd_end hd n1 n2 hb hG ?_
      unfold itL
      rw [eN, Nat.min_eq_right (by omega)]
  · refine ⟨h0, hs, fun hf => ?_, fun hf => absurd (eq0 hf) ho⟩
    have e := op_ok1 (s := s) (eq0 h)
    rw [e] at hf ⊢
    exact rd_bad (rdE_3 (eq0 h) (by simpa using h1) (by simpa using h2) hf) (nz hf)
theorem bf_E (s : ByteArray) (L g : Int) (c : List (List Int)) : ∀ i, rX s L g c i = bfA s L g c i + tkV s (bfL s L g c i) (bfB s L g c i) ∧ rL s L g c i = nxL s (bfL s L g c i) (bfB s L g c i) ∧ rO s L g c i = tkO s (bfL s L g c i) (bfB s L g c i)
  | 0 => ⟨by show tkV s L g = 0 + tkV s L g; omega, rfl, rfl⟩
  | i + 1 => ⟨rfl, rfl, rfl⟩
theorem bf_next (s : ByteArray) (L g : Int) (c : List (List Int)) (i : Nat) : bfL s L g c (i + 1) = rL s L g c i ∧ bfB s L g c (i + 1) = cB c (rX s L g c i) ∧ bfA s L g c (i + 1) = cA c (rX s L g c i) := ⟨rfl, rfl, rfl⟩
theorem bfA_rng {s : ByteArray} {L g : Int} {c : List (List Int)} (h : CelOk g c) (i : Nat) : 0 ≤ bfA s L g c i ∧ bfA s L g c i ≤ 4096 ∧ 0 ≤ bfB s L g c i ∧ bfB s L g c i ≤ 12 := by
  have g0 := h.g0
  have g12 := h.g12
  cases i with
  | zero => exact ⟨Int.le_refl _, by show (0 : Int) ≤ 4096; decide, g0, g12⟩
  | succ i =>
    obtain ⟨_, e2, e3⟩ := bf_next s L g c i
    have hr := rX_rng (s := s) (L := L) h i
    have ha := h.a0 _ hr.1 hr.2
    have hb := h.b0 _ hr.1 hr.2
    have hc := c_len h
    have hp := pow_pos' (cB c (rX s L g c i)).toNat
    rw [e2, e3]
    omega
theorem rreadFH_v (g : Int) (p : List Int) (s : ByteArray) (n : Int) (h0 : p.length ≤ 4294967296) (hs : s.size ≤ 4294967296) : rreadFH_t g p s n := by
  unfold rreadFH_t
  refine ⟨h0, fun h => rd_bad (rdE_d h) (nz h), fun h => ⟨fun h1 => rd_bad (rdE_1 (eq0 h) (by simpa using h1)) (by decide), fun h1 => ⟨fun h2 => rd_bad (rdE_2 (eq0 h) (by simpa using h2)) (by decide), fun h2 => ⟨hs, fun hb => rd_bad (rdE_3 (eq0 h) (by simpa using h1) (by simpa using h2) hb) (nz hb), fun hb => ?_⟩⟩⟩⟩
  have hd := eq0 h
  have hb := eq0 hb
  have hC := dec_ok hd
  have n1 : ¬ n < 1 := by simpa using h1
  have n2 : ¬ 100000 < n := by simpa using h2
  obtain ⟨k1, k2, k3, k4⟩ := bkE_0 hb
  refine ⟨h0, ⟨0, ⟨by omega, Nat.zero_le _⟩, rfl, decO_ok hd, rfl, rfl, rfl, k4, k3, rfl⟩, fun i ⟨hi, hg⟩ => ⟨fun hlt => ⟨hs, fun ht => ?_, fun ht => ?_⟩, fun hge => ?_⟩⟩
  · have hlt : (i : Int) < n := by simpa using hlt
    have hO : rO s (bkN s) g (decL g p) i = false := by
      rw [(bf_E s (bkN s) g (decL g p) i).2.2]
      unfold tkO
      exact ne0 ht
    have hG := gd_fail (n := n.toNat) (by omega) hg hO
    have e2 := rdE_4 hd n1 n2 hb
    rw [rdB_cut (show rG s (bkN s) g (decL g p) n.toNat < n.toNat by unfold rG; omega)] at e2
    exact rd_bad e2 (by decide)
  · have hlt : (i : Int) < n := by simpa using hlt
    have ht0 := eq0 ht
    obtain ⟨f1, f2, f3⟩ := bf_E s (bkN s) g (decL g p) i
    have hO : rO s (bkN s) g (decL g p) i = true := by
      rw [f3]
      unfold tkO
      exact beq0 ht0
    have hG := gd_step (n := n.toNat) (by omega) hg hO
    obtain ⟨v1, v2, v3, v4, v5⟩ := tk_vals ht0
    have hv := tkV_rng s (bfL s (bkN s) g (decL g p) i) (bfB s (bkN s) g (decL g p) i)
    have ha := bfA_rng (s := s) (L := bkN s) hC i
    have hp := pow_mono (show (bfB s (bkN s) g (decL g p) i).toNat ≤ 12 by omega)
    have hp : (2 : Int) ^ (bfB s (bkN s) g (decL g p) i).toNat ≤ 4096 := by simpa using hp
    have hr := rX_rng (s := s) (L := bkN s) hC i
    rw [show IntKind.wrap IntKind.i64 (tkV s (bfL s (bkN s) g (decL g p) i) (bfB s (bkN s) g (decL g p) i)) = tkV s (bfL s (bkN s) g (decL g p) i) (bfB s (bkN s) g (decL g p) i) from wr (by omega) (by omega), wr (by omega) (by omega), ← f1, cS_r, cB_r, cA_r, symN_len]
    exact ⟨hr.1, hr.2, by omega, i + 1, ⟨by omega, hG⟩, by rw [Nat.sub_eq, Nat.sub_eq]; omega, rfl, rfl, rfl, rfl, cnt_wrap (by omega), v1.symm, by rw [← v2, (bf_next _ _ _ _ _).1, f2, v5], (symN_succ _ _ _ _ _).symm⟩
  · have hge : ¬ (i : Int) < n := by simpa using hge
    have e : i = n.toNat := by omega
    subst e
    have hG : rG s (bkN s) g (decL g p) n.toNat = n.toNat := by
      have : rG s (bkN s) g (decL g p) n.toNat ≤ n.toNat := gd_le _ _
      omega
    refine rd_end hd n1 n2 hb hG ?_
    obtain ⟨m, hm⟩ : ∃ m, n.toNat = m + 1 := ⟨n.toNat - 1, by omega⟩
    rw [hm]
    rfl
theorem readFH_sound : Sound Try.prog 53 sReadF.ctr := sReadF.sound (by kernel_rfl) sReadF_enc fun ⟨g, p, s, n⟩ hc => by
  have h0 := hc _ (.head _)
  have h1 := hc _ (.tail _ (.head _))
  exact satG GHf_ok mixed Try.func53 (readFH_e g p s n) (readFH_v g p s n h0 h1)
theorem rreadFH_sound : Sound Try.prog 54 sReadF.ctr := sReadF.sound (by kernel_rfl) sReadF_enc fun ⟨g, p, s, n⟩ hc => by
  have h0 := hc _ (.head _)
  have h1 := hc _ (.tail _ (.head _))
  exact satG GHf_ok mixed Try.func54 (rreadFH_e g p s n) (rreadFH_v g p s n h0 h1)
end Go.Proofs.Ytbdgknebimdjoaa
namespace Go.Proofs.Ytbdgknebimdjoaa
open Go Go.RowKit
set_option linter.unusedVariables false
set_option linter.unusedSimpArgs false
set_option maxRecDepth 100000
theorem nx_rng {s : ByteArray} {l n : Int} (h0 : 0 ≤ l) (h1 : l ≤ bkN s) : 0 ≤ nxL s l n ∧ nxL s l n ≤ bkN s := by
  unfold nxL
  cases h : tkE s l n == 0
  · exact ⟨h0, h1⟩
  · have h : tkE s l n = 0 := by simpa using h
    have hk := tk_0 h
    have := (pk_ok0 hk.1).n0
    simp only [cond_true]
    omega
theorem tk_iff {s : ByteArray} {l n : Int} (hb : bkE s = 0) (h0 : 0 ≤ l) (h1 : l ≤ bkN s) (n0 : 0 ≤ n) (n1 : n ≤ 32) : (n ≤ l → tkE s l n = 0) ∧ (l < n → tkE s l n = 5) := by
  have hp := pk_ok (rgE_ok hb h0 h1) n0 n1
  exact ⟨tk_good hp, tk_short hp⟩
theorem twA_len (s : ByteArray) (L g : Int) : ∀ j, (twAS s L g j).length = 2
  | 0 => rfl
  | j + 1 => by
    have ih := twA_len s L g j
    show ((twAS s L g j).set j _).length = 2
    rw [List.length_set, ih]
theorem twA_left {s : ByteArray} {g : Int} (h : 0 ≤ bkN s) : ∀ j, 0 ≤ twAL s (bkN s) g j ∧ twAL s (bkN s) g j ≤ bkN s
  | 0 => ⟨h, Int.le_refl _⟩
  | j + 1 => by
    have ih := twA_left (g := g) h j
    exact nx_rng ih.1 ih.2
theorem zero2 (j : Nat) : ([0, 0] : List Int).getD j 0 = 0 := by
  match j with
  | 0 => rfl
  | 1 => rfl
  | j + 2 => rfl
theorem twA_rng {s : ByteArray} {L g : Int} {c : List (List Int)} (h : CelOk g c) : ∀ j k, 0 ≤ (twAS s L g j).getD k 0 ∧ (twAS s L g j).getD k 0 < c.length
  | 0, k => by
    have := szN_pos g
    have hl := h.len
    show 0 ≤ ([0, 0] : List Int).getD k 0 ∧ ([0, 0] : List Int).getD k 0 < _
    rw [zero2]
    omega
  | j + 1, k => by
    have ih := twA_rng (s := s) (L := L) h j
    have hv := tkV_rng s (twAL s L g j) g
    rw [← szI, ← h.len] at hv
    have := szN_pos g
    have hl := h.len
    exact getD_set' (fun z => 0 ≤ z ∧ z < c.length) ⟨by omega, by omega⟩ hv ih
theorem twS_len (s : ByteArray) (L g : Int) (c : List (List Int)) : ∀ i, (twS s L g c i).length = 2
  | 0 => twA_len s L g 2
  | i + 1 => by
    have ih := twS_len s L g c i
    show ((twS s L g c i).set (i % 2) _).length = 2
    rw [List.length_set, ih]
theorem twS_rng {s : ByteArray} {L g : Int} {c : List (List Int)} (h : CelOk g c) : ∀ i k, 0 ≤ (twS s L g c i).getD k 0 ∧ (twS s L g c i).getD k 0 < c.length
  | 0, k => twA_rng h 2 k
  | i + 1, k => by
    have ih := twS_rng (s := s) (L := L) h i
    have hx := ih (i % 2)
    have ha := h.a0 _ hx.1 hx.2
    have hv := tkV_rng s (twL s L g c i) (cB c ((twS s L g c i).getD (i % 2) 0))
    have := szN_pos g
    have hl := h.len
    exact getD_set' (fun z => 0 ≤ z ∧ z < c.length) ⟨by omega, by omega⟩ (x := cA c ((twS s L g c i).getD (i % 2) 0) + tkV s (twL s L g c i) (cB c ((twS s L g c i).getD (i % 2) 0))) ⟨by omega, by omega⟩ ih
theorem twL_rng {s : ByteArray} {g : Int} {c : List (List Int)} (h : 0 ≤ bkN s) : ∀ i, 0 ≤ twL s (bkN s) g c i ∧ twL s (bkN s) g c i ≤ bkN s
  | 0 => twA_left h 2
  | i + 1 => by
    have ih := twL_rng (g := g) (c := c) h i
    exact nx_rng ih.1 ih.2
theorem twN_succ (s : ByteArray) (L g : Int) (c : List (List Int)) (i : Nat) : twN s L g c (i + 1) = twN s L g c i ++ [cS c (twX s L g c i i)] := by
  unfold twN
  rw [List.range_succ, List.map_append]
  rfl
theorem twN_len (s : ByteArray) (L g : Int) (c : List (List Int)) (i : Nat) : (twN s L g c i).length = i := by unfold twN; rw [List.length_map, List.length_range]
theorem twX_r (s : ByteArray) (L g : Int) (c : List (List Int)) (i j : Nat) : (twS s L g c i).getD (j % 2) 0 = twX s L g c i j := rfl
theorem one_sub (i : Nat) : IntKind.wrap IntKind.i64 ((1 : Int) - ((i % 2 : Nat) : Int)) = (((i + 1) % 2 : Nat) : Int) := by rw [wr (by omega) (by omega)]; omega
theorem notT {b : Bool} (h : (!b) = true) : b = false := by simpa using h
theorem notF {b : Bool} (h : (!b) = false) : b = true := by simpa using h
theorem tw_bad {g : Int} {p : List Int} {s : ByteArray} {e : Int} (h : twE g p s = e) (he : e ≠ 0) : (twV g p s).length = 0 ∧ e = twE g p s := by
  refine ⟨?_, h.symm⟩
  unfold twV
  rw [show (twE g p s == 0) = false by rw [h]; simpa using he]
  rfl
theorem twE_op {g : Int} {p : List Int} {s : ByteArray} (h : opE g p s ≠ 0) : twE g p s = opE g p s := by
  unfold twE
  rw [show (opE g p s == 0) = false by simpa using h]
  rfl
theorem twE_ok {g : Int} {p : List Int} {s : ByteArray} (h : opE g p s = 0) : twE g p s = cond (twB g p s) 21 0 := by
  unfold twE
  rw [beq0 h]
  rfl
theorem tw_21 {g : Int} {p : List Int} {s : ByteArray} (h : opE g p s = 0) (hB : twB g p s = true) : (twV g p s).length = 0 ∧ (21 : Int) = twE g p s := by
  refine tw_bad ?_ (by decide)
  rw [twE_ok h, hB]
  rfl
theorem twB_start {g : Int} {p : List Int} {s : ByteArray} {j : Nat} (hj : j < 2) (h : twAo s (bkN s) g j = false) : twB g p s = true := by
  unfold twB
  have : (twAo s (bkN s) g 0 && twAo s (bkN s) g 1) = false := by
    have : j = 0 ∨ j = 1 := by omega
    rcases this with rfl | rfl
    · rw [h]; rfl
    · rw [h, Bool.and_false]
  rw [this]
  rfl
theorem twB_many {g : Int} {p : List Int} {s : ByteArray} (h : 253 < twK s (bkN s) g (decL g p)) : twB g p s = true := by
  unfold twB
  rw [decide_eq_true h, Bool.or_true, Bool.true_or]
theorem twB_left {g : Int} {p : List Int} {s : ByteArray} (h : 0 < twL s (bkN s) g (decL g p) (twK s (bkN s) g (decL g p))) : twB g p s = true := by
  unfold twB
  rw [decide_eq_true h, Bool.or_true]
theorem tw_good {g : Int} {p : List Int} {s : ByteArray} (ho : opE g p s = 0) (hA : twAp s (bkN s) g 2) (hK : ¬ 253 < twK s (bkN s) g (decL g p)) (hl : ¬ 0 < twL s (bkN s) g (decL g p) (twK s (bkN s) g (decL g p))) : twR g p s = twV g p s ∧ (0 : Int) = twE g p s := by
  have hB : twB g p s = false := by
    unfold twB
    rw [hA.2 0 (by omega), hA.2 1 (by omega), decide_eq_false hK, decide_eq_false hl]
    rfl
  have e : twE g p s = 0 := by rw [twE_ok ho, hB]; rfl
  refine ⟨?_, e.symm⟩
  unfold twV
  rw [beq0 e]
  rfl
theorem readTH_v (g : Int) (p : List Int) (s : ByteArray) (h0 : p.length ≤ 4294967296) (hs : s.size ≤ 4294967296) : readTH_t g p s := by
  unfold readTH_t
  simp only [tmod2, one_sub, toNat_cast, cS_r, cB_r, cA_r, twX_r, List.length_append, List.length_singleton, twN_len, twA_len, twS_len]
  refine ⟨fun ho => ⟨h0, hs, fun hf => by simp at hf, fun _ => ?_⟩, fun ho => ⟨h0, hs, fun hf => tw_bad (twE_op ho) ho, fun hf => absurd (eq0 hf) ho⟩⟩
  have hd : dchk g p = 0 := by
    rcases Classical.em (dchk g p = 0) with h | h
    · exact h
    · exact absurd (op_bad1 (s := s) h ▸ ho) h
  have hb : bkE s = 0 := by rw [← op_ok1 (p := p) hd]; exact ho
  have hC := dec_ok hd
  obtain ⟨k1, k2, k3, k4⟩ := bkE_0 hb
  have hN := (bkN_rng k1).2.2
  have hcl := c_len hC
  have g12 := hC.g12
  refine ⟨⟨0, ⟨by omega, fun k hk => by omega⟩, (by first | rfl | trivial), (by first | rfl | trivial), (by first | rfl | trivial), (by first | rfl | trivial), rfl, (by first | rfl | trivial), (by first | rfl | trivial), rfl⟩, fun j ⟨hj, hjo⟩ => ⟨fun hlt => ⟨hs, fun hb2 => ?_, fun hb2 => ?_⟩, fun hge => ?_⟩⟩
  · have hlt : j < 2 := by simp only [decide_eq_true_eq] at hlt; omega
    exact tw_21 ho (twB_start hlt (notT hb2))
  · have hlt : j < 2 := by simp only [decide_eq_true_eq] at hlt; omega
    have hb2 : twAo s (bkN s) g j = true := notF hb2
    refine ⟨by omega, by omega, by omega, j + 1, ⟨by omega, fun k hk => ?_⟩, by rw [Nat.sub_eq, Nat.sub_eq]; omega, cnt_wrap (by omega), (by first | rfl | trivial), (by first | rfl | trivial), (by first | rfl | trivial), rfl, (by first | rfl | trivial), (by first | rfl | trivial), rfl⟩
    by_cases hkj : k = j
    · rw [hkj]; exact hb2
    · exact hjo k (by omega)
  · have hj2 : j = 2 := by simp only [decide_eq_false_iff_not] at hge; omega
    subst hj2
    refine ⟨⟨0, ⟨Nat.zero_le _, by omega, ⟨by omega, hjo⟩⟩, (by first | rfl | trivial), (by first | rfl | trivial), rfl, (by first | rfl | trivial), (by first | rfl | trivial), rfl, (by first | rfl | trivial)⟩, fun i ⟨hK, h255, hA⟩ => ?_⟩
    have hx := twS_rng (s := s) (L := bkN s) hC i
    have hx1 := hx (i % 2)
    have hx2 := hx ((i + 1) % 2)
    rw [twX_r] at hx1 hx2
    have hcb := hC.b0 _ hx1.1 hx1.2
    have ha := hC.a0 _ hx1.1 hx1.2
    have hll := twL_rng (g := g) (c := decL g p) hN i
    have hv := tkV_rng s (twL s (bkN s) g (decL g p) i) (cB (decL g p) (twX s (bkN s) g (decL g p) i i))
    refine ⟨by decide, by omega, by omega, by omega, hx1.1, hx1.2, by omega, hs, fun hb2 => ?_, fun hb2 => ?_⟩
    · have hO : twO s (bkN s) g (decL g p) i = false := notT hb2
      have hKi : twK s (bkN s) g (decL g p) = i := gd_fail (by omega) hK hO
      have hnl : nxL s (twL s (bkN s) g (decL g p) i) (cB (decL g p) (twX s (bkN s) g (decL g p) i i)) = twL s (bkN s) g (decL g p) i := by
        refine (tk_none ?_).2.2.2.2.symm
        unfold twO tkO at hO
        simpa using hO
      rw [hnl]
      refine ⟨by decide, by omega, by omega, by omega, hx2.1, hx2.2, by omega, fun hm => ?_, fun hm => ⟨fun hl => ?_, fun hl => ?_⟩⟩
      · refine tw_21 ho (twB_many ?_)
        simp only [gt_iff_lt, decide_eq_true_eq] at hm
        omega
      · refine tw_21 ho (twB_left ?_)
        rw [hKi]
        simpa using hl
      · obtain ⟨r1, r2⟩ := tw_good ho hA (by simp only [gt_iff_lt, decide_eq_false_iff_not] at hm; omega) (by rw [hKi]; simpa using hl)
        refine ⟨?_, r2⟩
        rw [← r1]
        unfold twR
        rw [hKi, twN_succ]
    · have hO : twO s (bkN s) g (decL g p) i = true := notF hb2
      have hK1 : i + 1 ≤ twK s (bkN s) g (decL g p) := gd_step (by omega) hK hO
      have many : decide (((i + 1 : Nat) : Int) > (255 : Int)) = true → (twV g p s).length = 0 ∧ (21 : Int) = twE g p s := fun hm => tw_21 ho (twB_many (by simp only [gt_iff_lt, decide_eq_true_eq] at hm; omega))
      refine ⟨by decide, by omega, by omega, by omega, fun hm => ⟨fun _ => many hm, fun hf => absurd hm (by rw [hf]; decide)⟩, fun hm => ⟨i + 1, ⟨hK1, ?_, hA⟩, by rw [Nat.sub_eq, Nat.sub_eq]; omega, cnt_wrap (by omega), (by first | rfl | trivial), rfl, (by first | rfl | trivial), (by first | rfl | trivial), ?_, (twN_succ _ _ _ _ _).symm⟩⟩
      · simp only [gt_iff_lt, decide_eq_false_iff_not] at hm
        omega
      · rw [wr (by omega) (by omega)]
        rfl
theorem rreadTH_v (g : Int) (p : List Int) (s : ByteArray) (h0 : p.length ≤ 4294967296) (hs : s.size ≤ 4294967296) : rreadTH_t g p s := by
  unfold rreadTH_t
  simp only [tmod2, one_sub, toNat_cast, cS_r, cB_r, cA_r, twX_r, List.length_append, List.length_singleton, twN_len, twA_len, twS_len]
  refine ⟨h0, fun h => ?_, fun h => ⟨hs, fun hb => ?_, fun hb => ?_⟩⟩
  · have e := op_bad1 (s := s) (nz h)
    have := twE_op (g := g) (p := p) (s := s) (by rw [e]; exact nz h)
    rw [e] at this
    exact tw_bad this (nz h)
  · have e := op_ok1 (s := s) (eq0 h)
    have := twE_op (g := g) (p := p) (s := s) (by rw [e]; exact nz hb)
    rw [e] at this
    exact tw_bad this (nz hb)
  have hd := eq0 h
  have hb := eq0 hb
  have ho : opE g p s = 0 := by rw [op_ok1 hd]; exact hb
  have hC := dec_ok hd
  obtain ⟨k1, k2, k3, k4⟩ := bkE_0 hb
  have hN := (bkN_rng k1).2.2
  have hcl := c_len hC
  have g12 := hC.g12
  have g0 := hC.g0
  refine ⟨h0, ⟨0, ⟨by omega, fun k hk => by omega⟩, decO_ok hd, (by first | rfl | trivial), (by first | rfl | trivial), (by first | rfl | trivial), k4, k3, rfl⟩, fun j ⟨hj, hjo⟩ => ⟨fun hlt => ⟨hs, fun hb2 => ?_, fun hb2 => ?_⟩, fun hge => ?_⟩⟩
  · have hlt : j < 2 := by simp only [decide_eq_true_eq] at hlt; omega
    refine tw_21 ho (twB_start hlt ?_)
    unfold twAo tkO
    exact ne0 hb2
  · have hlt : j < 2 := by simp only [decide_eq_true_eq] at hlt; omega
    have ht0 := eq0 hb2
    obtain ⟨v1, v2, v3, v4, v5⟩ := tk_vals ht0
    have hv := tkV_rng s (twAL s (bkN s) g j) g
    have hz := sz0 g0 g12
    rw [← szI] at hv
    refine ⟨by omega, by omega, by omega, j + 1, ⟨by omega, fun k hk => ?_⟩, by rw [Nat.sub_eq, Nat.sub_eq]; omega, (by first | rfl | trivial), cnt_wrap (by omega), (by first | rfl | trivial), (by first | rfl | trivial), v1.symm, by rw [← v2]; exact v5.symm, ?_⟩
    · by_cases hkj : k = j
      · rw [hkj]
        unfold twAo tkO
        exact beq0 ht0
      · exact hjo k (by omega)
    · rw [wr (by omega) (by omega)]
      rfl
  · have hj2 : j = 2 := by simp only [decide_eq_false_iff_not] at hge; omega
    subst hj2
    refine ⟨⟨0, ⟨Nat.zero_le _, by omega, ⟨by omega, hjo⟩⟩, (by first | rfl | trivial), (by first | rfl | trivial), (by first | rfl | trivial), rfl, rfl, (by first | rfl | trivial)⟩, fun i ⟨hK, h255, hA⟩ => ⟨fun hm => ?_, fun hm => ?_⟩⟩
    · refine tw_21 ho (twB_many ?_)
      simp only [beq_iff_eq] at hm
      omega
    have hm : i ≠ 255 := by simp only [beq_eq_false_iff_ne, ne_eq] at hm; omega
    have hx := twS_rng (s := s) (L := bkN s) hC i
    have hx1 := hx (i % 2)
    have hx2 := hx ((i + 1) % 2)
    rw [twX_r] at hx1 hx2
    have hcb := hC.b0 _ hx1.1 hx1.2
    have ha := hC.a0 _ hx1.1 hx1.2
    have hll := twL_rng (g := g) (c := decL g p) hN i
    have hv := tkV_rng s (twL s (bkN s) g (decL g p) i) (cB (decL g p) (twX s (bkN s) g (decL g p) i i))
    obtain ⟨t1, t2⟩ := tk_iff (n := cB (decL g p) (twX s (bkN s) g (decL g p) i i)) hb hll.1 hll.2 hcb.1 (by omega)
    refine ⟨by omega, by omega, by omega, hx1.1, hx1.2, by omega, fun hgt => ?_, fun hle => ?_⟩
    · have hgt : twL s (bkN s) g (decL g p) i < cB (decL g p) (twX s (bkN s) g (decL g p) i i) := by simpa using hgt
      have hO : twO s (bkN s) g (decL g p) i = false := by
        unfold twO tkO
        rw [t2 hgt]
        rfl
      have hKi : twK s (bkN s) g (decL g p) = i := gd_fail (by omega) hK hO
      refine ⟨fun h5 => tw_21 ho (twB_many ?_), fun h5 => ⟨fun hl => tw_21 ho (twB_left ?_), fun hl => ⟨by decide, by omega, by omega, by omega, hx2.1, hx2.2, by omega, ?_⟩⟩⟩
      · simp only [beq_iff_eq] at h5
        omega
      · rw [hKi]
        simpa using hl
      · obtain ⟨r1, r2⟩ := tw_good ho hA (by simp only [beq_eq_false_iff_ne, ne_eq] at h5; omega) (by rw [hKi]; simpa using hl)
        refine ⟨?_, r2⟩
        rw [← r1]
        unfold twR
        rw [hKi, twN_succ]
    · have hle : cB (decL g p) (twX s (bkN s) g (decL g p) i i) ≤ twL s (bkN s) g (decL g p) i := by simpa using hle
      have ht0 := t1 hle
      have hO : twO s (bkN s) g (decL g p) i = true := by
        unfold twO tkO
        exact beq0 ht0
      have hK1 : i + 1 ≤ twK s (bkN s) g (decL g p) := gd_step (by omega) hK hO
      obtain ⟨v1, v2, v3, v4, v5⟩ := tk_vals ht0
      refine ⟨hs, by omega, by omega, by omega, i + 1, ⟨hK1, by omega, hA⟩, by rw [Nat.sub_eq, Nat.sub_eq]; omega, (by first | rfl | trivial), (by first | rfl | trivial), v1.symm, by rw [← v2]; exact v5.symm, ?_, (twN_succ _ _ _ _ _).symm⟩
      rw [show IntKind.wrap IntKind.i64 (tkV s (twL s (bkN s) g (decL g p) i) (cB (decL g p) (twX s (bkN s) g (decL g p) i i))) = tkV s (twL s (bkN s) g (decL g p) i) (cB (decL g p) (twX s (bkN s) g (decL g p) i i)) from wr (by omega) (by omega), wr (by omega) (by omega)]
      rfl
theorem readTH_sound : Sound Try.prog 55 sReadT.ctr := sReadT.sound (by kernel_rfl) sReadT_enc fun ⟨g, p, s⟩ hc => by
  have h0 := hc _ (.head _)
  have h1 := hc _ (.tail _ (.head _))
  exact satG GHf_ok mixed Try.func55 (readTH_e g p s) (readTH_v g p s h0 h1)
theorem rreadTH_sound : Sound Try.prog 56 sReadT.ctr := sReadT.sound (by kernel_rfl) sReadT_enc fun ⟨g, p, s⟩ hc => by
  have h0 := hc _ (.head _)
  have h1 := hc _ (.tail _ (.head _))
  exact satG GHf_ok mixed Try.func56 (rreadTH_e g p s) (rreadTH_v g p s h0 h1)
def GHg : List (Nat × Ctr) := (53, sReadF.ctr) :: (54, sReadF.ctr) :: (55, sReadT.ctr) :: (56, sReadT.ctr) :: GHf
theorem GHg_ok : AllOk Try.prog GHg := .cons readFH_sound <| .cons rreadFH_sound <| .cons readTH_sound <| .cons rreadTH_sound <| GHf_ok
end Go.Proofs.Ytbdgknebimdjoaa
namespace Go.Proofs.Ytbdgknebimdjoaa
open Go Go.RowKit
set_option linter.unusedVariables false
set_option linter.unusedSimpArgs false
set_option maxRecDepth 100000
def nil1 : SV → SV
  | .v (.slice none 0 0) => .dat (.ints .i64 [])
  | x => x
def Ctr.nilI (c : Ctr) : Ctr := ⟨c.own, fun l H n => c.tr (l.map nil1) H n⟩
theorem nil1_ok {D : Nat → Prop} {w : World} {β : Nat → Option Loc} (x : SV) {u : Value} (h : Rep D w β x u) : Rep D w β (nil1 x) u := by
  unfold nil1
  split
  · simp only [Rep] at h
    subst h
    simp only [Rep, RepDat, SliceAt]
    exact ⟨none, 0, rfl, Nat.le_refl _, fun h => by cases h⟩
  · exact h
theorem nils_ok {D : Nat → Prop} {w : World} {β : Nat → Option Loc} : ∀ (xs : List SV) {us : List Value}, Reps D w β xs us → Reps D w β (xs.map nil1) us
  | [], _, h => h
  | x :: xs, _, h => by
    simp only [Reps, List.map_cons] at h ⊢
    obtain ⟨u, us, h1, h2, h3⟩ := h
    exact ⟨u, us, h1, nil1_ok x h2, nils_ok xs h3⟩
theorem Sound.nilI {P : Program} {f : FuncId} {c : Ctr} (h : Sound P f c) : Sound P f c.nilI :=
  ⟨h.1, fun l H n hp => fun D β w us hr => h.2 (l.map nil1) H n hp D β w us (nils_ok l hr)⟩
end Go.Proofs.Ytbdgknebimdjoaa
namespace Go.Proofs.Ytbdgknebimdjoaa
open Go Go.RowKit
set_option linter.unusedVariables false
set_option maxRecDepth 100000
def lwRd_t (g : Int) (p : List Int) (s : ByteArray) (n : Int) : Prop :=
 ((!liD g p) = true → true = true) ∧
 ((!liD g p) = false →
 (decide ((↑(ByteArray.size s) : Int) > (200 : Int)) = true → true = true) ∧
 (decide ((↑(ByteArray.size s) : Int) > (200 : Int)) = false →
 List.length p ≤ (4294967296 : Nat) ∧
 ByteArray.size s ≤ (4294967296 : Nat) ∧
 List.length p ≤ (4294967296 : Nat) ∧
 ByteArray.size s ≤ (4294967296 : Nat) ∧
 List.length (rdO g p s n) ≤ (4294967296 : Nat) ∧
 ((!eqI (rdO g p s n) (rdO g p s n)) = true → false = true) ∧
 ((!eqI (rdO g p s n) (rdO g p s n)) = false →
 ((rdE g p s n != rdE g p s n) = true → false = true) ∧
 ((rdE g p s n != rdE g p s n) = false →
 List.length p ≤ (4294967296 : Nat) ∧
 ByteArray.size s ≤ (4294967296 : Nat) ∧
 List.length p ≤ (4294967296 : Nat) ∧
 ByteArray.size s ≤ (4294967296 : Nat) ∧
 List.length (twV g p s) ≤ (4294967296 : Nat) ∧
 (eqI (twV g p s) (twV g p s) = true → ((twE g p s == twE g p s) = true → true = true) ∧ ((twE g p s == twE g p s) = false → false = true)) ∧
 (eqI (twV g p s) (twV g p s) = false → false = true)))))
theorem lwRd_e (g : Int) (p : List Int) (s : ByteArray) (n : Int) : lwRd_t g p s n = vcG Try.prog (Gof GHg) (fun _ => none) Try.f12 [.ag [.v (.int .i64 g), .dat (.ints .i64 p)], .v (.string s), .v (.int .i64 n)] [] (.leaf ((.v (.bool true))) ([])) := by kernel_rfl
end Go.Proofs.Ytbdgknebimdjoaa
namespace Go.Proofs.Ytbdgknebimdjoaa
open Go Go.RowKit
set_option linter.unusedVariables false
set_option linter.unusedSimpArgs false
set_option maxRecDepth 100000
theorem rdO_len (g : Int) (p : List Int) (s : ByteArray) (n : Int) : (rdO g p s n).length ≤ 4294967296 := by
  by_cases h : rdE g p s n = 0
  · have hn : n ≤ 100000 := by
      by_cases hd : dchk g p = 0
      · rcases Int.lt_or_le 100000 n with h2 | h2
        · by_cases h1 : n < 1
          · omega
          · rw [rdE_2 hd h2] at h; cases h
        · exact h2
      · rw [rdE_d (by simpa using hd)] at h
        exact absurd h hd
    unfold rdO
    rw [beq0 h]
    show (symN s (bkN s) g (decL g p) n.toNat).length ≤ _
    rw [symN_len]
    omega
  · unfold rdO
    rw [show (rdE g p s n == 0) = false by simpa using h]
    simp
theorem twV_len (g : Int) (p : List Int) (s : ByteArray) : (twV g p s).length ≤ 4294967296 := by
  have hK : twK s (bkN s) g (decL g p) ≤ 256 := gd_le _ _
  unfold twV
  cases twE g p s == 0
  · simp
  · show (twR g p s).length ≤ _
    unfold twR
    rw [List.length_append, twN_len]
    simp
    omega
theorem lwRd_v (g : Int) (p : List Int) (s : ByteArray) (n : Int) : lwRd_t g p s n := by
  unfold lwRd_t
  refine ⟨fun _ => rfl, fun h => ⟨fun _ => rfl, fun hl => ?_⟩⟩
  have hp : p.length ≤ 4294967296 := by
    simp only [liD, Bool.not_eq_false', Bool.and_eq_true, decide_eq_true_eq] at h
    omega
  have hl : s.size ≤ 4294967296 := by simp only [gt_iff_lt, decide_eq_false_iff_not] at hl; omega
  simp only [hp, hl, rdO_len, twV_len, eqI_refl, bne_self_eq_false, beq_self_eq_true, Bool.and_self, Bool.not_true, true_and, and_true, implies_true, Bool.false_eq_true, Bool.true_eq_false, false_implies, true_implies]
theorem freads_any (g : Int) (A : Option Addr) (m cap : Nat) (zs : List Int) (s : ByteArray) (n : Int) (W : World) (hg : InR g) (hI : IntsIn W A m cap zs) (hs : (s.size : Int) ≤ 9223372036854775807) (hn : InR n) :
    Calls Try.prog 12 #[.agg #[.int .i64 g, .slice A m cap], .string s, .int .i64 n] W fun e w' => e = .returned (.bool true) ∧ Below W.heap.size W w' := by
  refine law_true (us := [.agg #[.int .i64 g, .slice A m cap], .string s, .int .i64 n]) (satG GHg_ok mixed Try.func12 (lwRd_e g (zs.take m) s n) (lwRd_v g _ _ _)) (.inr rfl) ?_
  simp only [Reps]
  exact ⟨_, _, rfl, ⟨[_, _], rfl, _, _, rfl, rfl, _, _, rfl, dat_ints hI, rfl⟩, _, _, rfl, rfl, _, _, rfl, rfl, rfl⟩
end Go.Proofs.Ytbdgknebimdjoaa

/-
  Put, Align and Done of package bits and of its reference: one answer. Conditions: each theorem's own.
-/
import Derived.Test.YtafabheehkmfhaaBitsW
namespace Go.Proofs.Ytafabheehkmfhaa
open Go.RowKit
set_option linter.unusedVariables false
set_option linter.unusedSimpArgs false

theorem check_ok (s : ByteArray) (p n : Int) (w : World) (h : wchk s p n = 0) :
    Calls Try.prog 15 #[.agg #[.string s, .int .i64 p, .int .i64 n]] w fun e w' => e = .returned (.int .i64 0) ∧ Below w.heap.size w w' := by
  have := check_any s p n w
  rwa [h] at this

/-- what a writer is: the number and its bits -/
structure IsW (s : ByteArray) (p n : Int) (L W : Nat) : Prop where
  s : s = wS L W
  p : p = (wP L W : Nat)
  n : n = (L % 8 : Nat)
  lt : W < 2 ^ L
  le : L / 8 ≤ 1048576
theorem IsW.cells {s : ByteArray} {p n : Int} {L W : Nat} (h : IsW s p n L W) : #[Value.string s, .int .i64 p, .int .i64 n] = WCells L W := by
  rw [h.s, h.p, h.n]
  rfl
theorem IsW.chk {s : ByteArray} {p n : Int} {L W : Nat} (h : IsW s p n L W) : wchk s p n = 0 := by
  have h1 := h.le
  have h2 := wS_size L W
  have h3 := wP_lt L W
  have e1 := h.p
  have e2 := h.n
  have e0 := h.s
  unfold wchk
  have h4 : ¬ (2 : Int) ^ n.toNat ≤ p := by
    rw [e1, e2, Int.toNat_natCast]
    have : ((wP L W : Nat) : Int) < ((2 ^ (L % 8) : Nat) : Int) := by omega
    simpa using this
  have h5 : s.size ≤ 1048576 := by rw [e0, h2]; exact h1
  rw [if_neg (by rintro (h | h | h | h) <;> first | exact h4 h | omega), if_neg (by omega)]
theorem div_zero_test {v k : Nat} (hv : v < 2 ^ k) : ((v : Int) / 2 ^ k != 0) = false := by
  have e : (v : Int) / 2 ^ k = ((v / 2 ^ k : Nat) : Int) := by simp
  rw [e, Nat.div_eq_of_lt hv]
  rfl
theorem v_mod {v k : Nat} (hv : v < 2 ^ k) : v % 2 ^ k = v := Nat.mod_eq_of_lt hv
theorem v_lt {v k : Nat} (hk : k ≤ 32) (hv : v < 2 ^ k) : v < 2 ^ 32 := Nat.lt_of_lt_of_le hv (Nat.pow_le_pow_right (by omega) hk)

/-- what putting k bits, the number v, answers -/
def putOut (L W k v : Nat) : Value := if 1048576 < (L + k) / 8 then .tuple #[.agg #[.string ⟨#[]⟩, .int .i64 0, .int .i64 0], .int .i64 4]
  else .tuple #[.agg #[.string (wS (L + k) (W + v * 2 ^ L)), .int .i64 (wP (L + k) (W + v * 2 ^ L)), .int .i64 (((L + k) % 8 : Nat) : Int)], .int .i64 0]
theorem putOut_long {L W k v : Nat} (h : 1048576 < (L + k) / 8) : putOut L W k v = .tuple #[.agg #[.string ⟨#[]⟩, .int .i64 0, .int .i64 0], .int .i64 4] := if_pos h
theorem putOut_ok {L W k v : Nat} (h : ¬ 1048576 < (L + k) / 8) : putOut L W k v = .tuple #[.agg #[.string (wS (L + k) (W + v * 2 ^ L)), .int .i64 (wP (L + k) (W + v * 2 ^ L)), .int .i64 (((L + k) % 8 : Nat) : Int)], .int .i64 0] := if_neg h
set_option maxHeartbeats 2000000 in
theorem put_core (s : ByteArray) (p n : Int) (L W k v : Nat) (w : World) (h : IsW s p n L W) (hk : k ≤ 32) (hv : v < 2 ^ k) :
    Calls Try.prog 17 #[.agg #[.string s, .int .i64 p, .int .i64 n], .int .i64 k, .int .i64 v] w fun e w' =>
      e = .returned (putOut L W k v) ∧ Below w.heap.size w w' := by
  have hd := div_zero_test hv
  have Hv := Lib.hid hv
  have Hw := Lib.hid h
  clear hv h
  go_enter Try.func17, Try.ntmps17
  go_wp2_with fail
  refine (check_ok s p n _ Hw.out.chk).mono ?_
  rintro e w1 ⟨rfl, hb⟩
  obtain ⟨hc, hf⟩ := bcell hb
  go_wp2_with fail
  refine (split_any v k _ (by omega) (by have := v_lt hk Hv.out; omega)).mono ?_
  rintro e w2 ⟨rfl, hs2, hz2, hb2⟩
  obtain ⟨hc2, hf2⟩ := bcell hb2
  have Hs2 := Lib.hid hs2
  have Hb := Lib.hid hb
  have Hb2 := Lib.hid hb2
  clear hs2 hb hb2
  go_wp2_with fail
  have hB2 : Blk w2 w1.heap.size 73 (WCells L W) := by
    have h1 : Blk (w1.alloc (.cells #[.string s, .int .i64 p, .int .i64 n] 73)) w1.heap.size 73 (WCells L W) := by
      rw [← Hw.out.cells]
      exact Blk.new _ _ _
    exact h1.below Hb2.out (by simp)
  have hle := Hw.out.le
  refine (bits_any w1.heap.size (w1.heap.size + 1) L W v k k w2 Hw.out.lt (by omega) (by omega) (by omega) (by simpa using hz2) hB2 (by simpa using Hs2.out)).mono ?_
  rintro e w3 ⟨rfl, hB3, hG3⟩
  have hz3 := hG3.size
  simp only [World.size_alloc] at hz2
  have hZ3 : Blk w3 (w.heap.size + 1) 23 #[.string ⟨#[]⟩, .int .i64 0, .int .i64 0] := by
    have h1 := (Blk.new (w.alloc (.cells #[.string s, .int .i64 p, .int .i64 n] 23)) 23 #[.string ⟨#[]⟩, .int .i64 0, .int .i64 0]).below Hb.out (by simp)
    have h2 := (h1.alloc (.cells #[.string s, .int .i64 p, .int .i64 n] 73)).below Hb2.out (by have := h1.lt; simp at this ⊢; omega)
    have h3 := h2.grown hG3 (by have := h1.lt; simp at this ⊢; omega)
    simpa using h3
  have hW3 : Below w.heap.size w w3 := by
    have h1 : Below w.heap.size w w1 := (((Below.refl _ _).alloc (Nat.le_refl _) _).alloc (by simp) _).trans (Hb.out.mono (by simp; omega))
    have h2 : Below w.heap.size w w2 := (h1.alloc h1.size _).trans (Hb2.out.mono (by have := h1.size; simp; omega))
    exact h2.grown hG3 h2.size (fun g hg => by have := h1.size; simp at hg; omega)
  have HB3 := Lib.hid hB3
  have HZ3 := Lib.hid hZ3
  have HW3 := Lib.hid hW3
  clear hB3 hG3 hZ3 hW3 hc hf hc2 hf2
  go_wp2_with fail
  refine (done_any w1.heap.size _ _ _ w3 HB3.out).mono ?_
  rintro e w4 ⟨rfl, hb4⟩
  have hZ4 := HZ3.out.below hb4 HZ3.out.lt
  have hz4 := hZ4.lt
  have c0 := hZ4.cell 0
  have c1 := hZ4.cell 1
  have c2 := hZ4.cell 2
  simp only [List.getElem?_toArray, List.getElem?_cons_zero, List.getElem?_cons_succ] at c0 c1 c2
  have f0 := hZ4.frozen 0
  have f1 := hZ4.frozen 1
  have f2 := hZ4.frozen 2
  have hW4 := Lib.hid (HW3.out.trans (hb4.mono HW3.out.size))
  clear hZ4 hb4
  simp only [wS_size, v_mod Hv.out]
  by_cases hL : 1048576 < (L + k) / 8
  · rw [if_pos hL]
    go_wp2
    refine bodyPost_ret (by simp [results, Try.results17, go_sem, c0, c1, c2]; try rfl) rfl ?_
    exact ⟨by rw [putOut_long hL], (((hW4.out.setCell (by simp) _).setCell (by simp) _).setCell (by simp) _)⟩
  · rw [if_neg hL]
    obtain ⟨s2, es2⟩ : ∃ x, wS (L + k) (W + v * 2 ^ L) = x := ⟨_, rfl⟩
    obtain ⟨p2, ep2⟩ : ∃ x : Int, (wP (L + k) (W + v * 2 ^ L) : Int) = x := ⟨_, rfl⟩
    obtain ⟨n2, en2⟩ : ∃ x : Int, (((L + k) % 8 : Nat) : Int) = x := ⟨_, rfl⟩
    rw [es2, ep2, en2]
    have Es2 := Lib.hid es2
    have Ep2 := Lib.hid ep2
    have En2 := Lib.hid en2
    clear es2 ep2 en2
    go_wp2
    refine bodyPost_ret (by simp [results, Try.results17, go_sem, c0, c1, c2]; try rfl) rfl ?_
    refine ⟨?_, (((hW4.out.setCell (by simp) _).setCell (by simp) _).setCell (by simp) _)⟩
    rw [putOut_ok hL, Es2.out, Ep2.out, En2.out]

theorem split_zero (k : Nat) (w : World) (hk : k ≤ 64) :
    Calls Try.prog 59 #[.int .i64 0, .int .i64 k] w fun e w' => e = .returned (.slice (some ⟨w.heap.size, 0, none⟩) k k) ∧
      (∀ i, i < k → w'.cell? ⟨w.heap.size, i, none⟩ = some (.int .i64 ((0 / 2 ^ i % 2 : Nat) : Int))) ∧ w.heap.size < w'.heap.size ∧ Below w.heap.size w w' :=
  split_any 0 k w hk (by omega)
set_option maxHeartbeats 2000000 in
theorem align_core (s : ByteArray) (p n : Int) (L W : Nat) (w : World) (h : IsW s p n L W) :
    Calls Try.prog 19 #[.agg #[.string s, .int .i64 p, .int .i64 n]] w fun e w' =>
      e = .returned (putOut L W ((8 - L % 8) % 8) 0) ∧ Below w.heap.size w w' := by
  obtain ⟨k, hk⟩ : ∃ k, (8 - L % 8) % 8 = k := ⟨_, rfl⟩
  have hk' : (8 - n) % 8 = (k : Int) := by rw [h.n]; omega
  have hn0 : 0 ≤ n := by rw [h.n]; omega
  have hn7 : n ≤ 7 := by rw [h.n]; omega
  rw [hk]
  have hk8 : k < 8 := by omega
  have Hk := Lib.hid hk
  have Hw := Lib.hid h
  clear hk h
  go_enter Try.func19, Try.ntmps19
  go_wp2_with fail
  refine (check_ok s p n _ Hw.out.chk).mono ?_
  rintro e w1 ⟨rfl, hb⟩
  obtain ⟨hc, hf⟩ := bcell hb
  have Hb := Lib.hid hb
  clear hb
  go_wp2_with fail
  refine (split_zero k _ (by omega)).mono ?_
  rintro e w2 ⟨rfl, hs2, hz2, hb2⟩
  obtain ⟨hc2, hf2⟩ := bcell hb2
  have Hs2 := Lib.hid hs2
  have Hb2 := Lib.hid hb2
  clear hs2 hb2
  go_wp2_with fail
  have hB2 : Blk w2 w1.heap.size 73 (WCells L W) := by
    have h1 : Blk (w1.alloc (.cells #[.string s, .int .i64 p, .int .i64 n] 73)) w1.heap.size 73 (WCells L W) := by
      rw [← Hw.out.cells]
      exact Blk.new _ _ _
    exact h1.below Hb2.out (by simp)
  have hle := Hw.out.le
  refine (bits_any w1.heap.size (w1.heap.size + 1) L W 0 k k w2 Hw.out.lt (by omega) (by omega) (by omega) (by simpa using hz2) hB2 (by simpa using Hs2.out)).mono ?_
  rintro e w3 ⟨rfl, hB3, hG3⟩
  have hz3 := hG3.size
  simp only [World.size_alloc] at hz2
  have hZ3 : Blk w3 (w.heap.size + 1) 23 #[.string ⟨#[]⟩, .int .i64 0, .int .i64 0] := by
    have h1 := (Blk.new (w.alloc (.cells #[.string s, .int .i64 p, .int .i64 n] 23)) 23 #[.string ⟨#[]⟩, .int .i64 0, .int .i64 0]).below Hb.out (by simp)
    have h2 := (h1.alloc (.cells #[.string s, .int .i64 p, .int .i64 n] 73)).below Hb2.out (by have := h1.lt; simp at this ⊢; omega)
    have h3 := h2.grown hG3 (by have := h1.lt; simp at this ⊢; omega)
    simpa using h3
  have hW3 : Below w.heap.size w w3 := by
    have h1 : Below w.heap.size w w1 := (((Below.refl _ _).alloc (Nat.le_refl _) _).alloc (by simp) _).trans (Hb.out.mono (by simp; omega))
    have h2 : Below w.heap.size w w2 := (h1.alloc h1.size _).trans (Hb2.out.mono (by have := h1.size; simp; omega))
    exact h2.grown hG3 h2.size (fun g hg => by have := h1.size; simp at hg; omega)
  have HB3 := Lib.hid hB3
  have HZ3 := Lib.hid hZ3
  have HW3 := Lib.hid hW3
  clear hB3 hG3 hZ3 hW3 hc hf hc2 hf2
  go_wp2_with fail
  refine (done_any w1.heap.size _ _ _ w3 HB3.out).mono ?_
  rintro e w4 ⟨rfl, hb4⟩
  have hZ4 := HZ3.out.below hb4 HZ3.out.lt
  have hz4 := hZ4.lt
  have c0 := hZ4.cell 0
  have c1 := hZ4.cell 1
  have c2 := hZ4.cell 2
  simp only [List.getElem?_toArray, List.getElem?_cons_zero, List.getElem?_cons_succ] at c0 c1 c2
  have f0 := hZ4.frozen 0
  have f1 := hZ4.frozen 1
  have f2 := hZ4.frozen 2
  have hW4 := Lib.hid (HW3.out.trans (hb4.mono HW3.out.size))
  clear hZ4 hb4
  simp only [wS_size, Nat.zero_mod]
  by_cases hL : 1048576 < (L + k) / 8
  · rw [if_pos hL]
    go_wp2
    refine bodyPost_ret (by simp [results, Try.results19, go_sem, c0, c1, c2]; try rfl) rfl ?_
    exact ⟨by rw [putOut_long hL], (((hW4.out.setCell (by simp) _).setCell (by simp) _).setCell (by simp) _)⟩
  · rw [if_neg hL]
    obtain ⟨s2, es2⟩ : ∃ x, wS (L + k) (W + 0 * 2 ^ L) = x := ⟨_, rfl⟩
    obtain ⟨p2, ep2⟩ : ∃ x : Int, (wP (L + k) (W + 0 * 2 ^ L) : Int) = x := ⟨_, rfl⟩
    obtain ⟨n2, en2⟩ : ∃ x : Int, (((L + k) % 8 : Nat) : Int) = x := ⟨_, rfl⟩
    rw [es2, ep2, en2]
    have Es2 := Lib.hid es2
    have Ep2 := Lib.hid ep2
    have En2 := Lib.hid en2
    clear es2 ep2 en2
    go_wp2
    refine bodyPost_ret (by simp [results, Try.results19, go_sem, c0, c1, c2]; try rfl) rfl ?_
    refine ⟨?_, (((hW4.out.setCell (by simp) _).setCell (by simp) _).setCell (by simp) _)⟩
    rw [putOut_ok hL, Es2.out, Ep2.out, En2.out]

/-- an error, and the zero writer -/
def zeroV (c : Int) : Value := .tuple #[.agg #[.string ⟨#[]⟩, .int .i64 0, .int .i64 0], .int .i64 c]
theorem check_is (s : ByteArray) (p n : Int) (w : World) (c : Int) (h : wchk s p n = c) :
    Calls Try.prog 15 #[.agg #[.string s, .int .i64 p, .int .i64 n]] w fun e w' => e = .returned (.int .i64 c) ∧ Below w.heap.size w w' := by
  have := check_any s p n w
  rwa [h] at this
theorem rcheck_is (s : ByteArray) (p n : Int) (w : World) (c : Int) (h : wchk s p n = c) :
    Calls Try.prog 16 #[.agg #[.string s, .int .i64 p, .int .i64 n]] w fun e w' => e = .returned (.int .i64 c) ∧ Below w.heap.size w w' := by
  have := rcheck_any s p n w
  rwa [h] at this
set_option maxHeartbeats 2000000 in
theorem put_bad1 (s : ByteArray) (p n k v c : Int) (w : World) (h : wchk s p n = c) (hc : c ≠ 0) :
    Calls Try.prog 17 #[.agg #[.string s, .int .i64 p, .int .i64 n], .int .i64 k, .int .i64 v] w fun e w' => e = .returned (zeroV c) ∧ Below w.heap.size w w' := by
  have Hw := Lib.hid h
  have hc' : (c != 0) = true := by simpa using hc
  clear h hc
  go_enter Try.func17, Try.ntmps17
  go_wp2_with fail
  refine (check_is s p n _ c Hw.out).mono ?_
  rintro e w1 ⟨rfl, hb⟩
  obtain ⟨hcc, hff⟩ := bcell hb
  have hz := hb.size
  simp only [World.size_alloc] at hz
  have HW := Lib.hid ((((Below.refl _ _).alloc (Nat.le_refl _) _).alloc (by simp) _).trans (hb.mono (by simp; omega)) : Below w.heap.size w w1)
  clear hb
  go_wp2
  refine bodyPost_ret (by simp [results, Try.results17, go_sem, hcc]; try rfl) rfl ?_
  exact ⟨rfl, (((HW.out.setCell (by simp) _).setCell (by simp) _).setCell (by simp) _)⟩
end Go.Proofs.Ytafabheehkmfhaa

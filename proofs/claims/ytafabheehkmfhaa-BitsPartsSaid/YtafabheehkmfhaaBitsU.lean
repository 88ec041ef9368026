/-
  The readers of package bits and of its reference, at any arguments: one answer. Conditions: none on the arguments (numbers are of int's range).
-/
import Derived.Test.YtafabheehkmfhaaBitsT
namespace Go.Proofs.Ytafabheehkmfhaa
open Go.RowKit Go.PlainAid
set_option linter.unusedVariables false
set_option linter.unusedSimpArgs false

/-- the error of a reader -/
def rchk (s : ByteArray) (b : Int) : Int := if 1048576 < s.size then 4 else if b < 0 ∨ 8 * (s.size : Int) < b then 2 else 0
def askE (s : ByteArray) (b n : Int) : Int := if rchk s b = 0 then if n < 0 ∨ 32 < n then 2 else 0 else rchk s b
def takeE (s : ByteArray) (b n : Int) : Int := if askE s b n = 0 ∧ 8 * (s.size : Int) < b + n then 5 else askE s b n
def readR (s : ByteArray) (at_ : Int) : Value := if 1048576 < s.size then .tuple #[.agg #[.string ⟨#[]⟩, .int .i64 0], .int .i64 4] else if at_ < 0 ∨ (s.size : Int) < at_ then .tuple #[.agg #[.string ⟨#[]⟩, .int .i64 0], .int .i64 2] else .tuple #[.agg #[.string s, .int .i64 (8 * at_)], .int .i64 0]
def peekR (s : ByteArray) (b n : Int) : Value := if askE s b n = 0 then .tuple #[.int .i64 (peekN s b.toNat n.toNat), .int .i64 0] else .tuple #[.int .i64 0, .int .i64 (askE s b n)]
def takeR (s : ByteArray) (b n : Int) : Value := if takeE s b n = 0 then .tuple #[.agg #[.string s, .int .i64 (b + n)], .int .i64 (peekN s b.toNat n.toNat), .int .i64 0] else .tuple #[.agg #[.string ⟨#[]⟩, .int .i64 0], .int .i64 0, .int .i64 (takeE s b n)]
def leftR (s : ByteArray) (b : Int) : Value := if rchk s b = 0 then .tuple #[.int .i64 (8 * s.size - b), .int .i64 0] else .tuple #[.int .i64 0, .int .i64 (rchk s b)]
def nextR (s : ByteArray) (b : Int) : Value := if rchk s b = 0 then .tuple #[.int .i64 ((b + 7) / 8), .int .i64 0] else .tuple #[.int .i64 0, .int .i64 (rchk s b)]
/-- a number of int's range -/
def InR (n : Int) : Prop := -9223372036854775808 ≤ n ∧ n ≤ 9223372036854775807

theorem ret_tup {v v' : Value} (h : v = v') : Ending.returned v = .returned v' := by rw [h]
theorem rchk_zero {s : ByteArray} {b : Int} (h : rchk s b = 0) : s.size ≤ 1048576 ∧ 0 ≤ b ∧ b ≤ 8 * (s.size : Int) := by
  unfold rchk at h
  split at h
  · omega
  · split at h
    · omega
    · omega
theorem rchk_nat {s : ByteArray} {b : Int} (h : rchk s b = 0) : ∃ B : Nat, b = B ∧ B ≤ 8 * s.size ∧ s.size ≤ 1048576 := by
  obtain ⟨h1, h2, h3⟩ := rchk_zero h
  obtain ⟨B, rfl⟩ := Int.eq_ofNat_of_zero_le h2
  exact ⟨B, rfl, by omega, h1⟩

set_option maxHeartbeats 1000000 in
theorem right_any (s : ByteArray) (b : Int) (w : World) (hs : s.size ≤ 9223372036854775807) :
    Calls Try.prog 23 #[.agg #[.string s, .int .i64 b]] w fun e w' => e = .returned (.int .i64 (rchk s b)) ∧ Below w.heap.size w w' := by
  by_cases h1 : 1048576 < s.size
  · have h2 : (1048576 : Int) < (s.size : Int) := by omega
    go_enter Try.func23, Try.ntmps23
    go_wp2
    go_ret
    exact ⟨ret_int (by unfold rchk; rw [if_pos h1]), by go_grown⟩
  · have h2 : (s.size : Int) ≤ 1048576 := by omega
    go_enter Try.func23, Try.ntmps23
    go_wp2
    all_goals
      go_ret
      refine ⟨ret_int ?_, by go_grown⟩
      unfold rchk
      rw [if_neg h1]
      (repeat' split) <;> omega
set_option maxHeartbeats 1000000 in
theorem right_is (s : ByteArray) (b c : Int) (w : World) (hs : s.size ≤ 9223372036854775807) (h : rchk s b = c) :
    Calls Try.prog 23 #[.agg #[.string s, .int .i64 b]] w fun e w' => e = .returned (.int .i64 c) ∧ Below w.heap.size w w' := by
  have := right_any s b w hs
  rwa [h] at this
set_option maxHeartbeats 1000000 in
theorem read_any (s : ByteArray) (at_ : Int) (w : World) (hs : s.size ≤ 9223372036854775807) :
    Calls Try.prog 25 #[.string s, .int .i64 at_] w fun e w' => e = .returned (readR s at_) ∧ Below w.heap.size w w' := by
  by_cases h1 : 1048576 < s.size
  · have h2 : (1048576 : Int) < (s.size : Int) := by omega
    go_enter Try.func25, Try.ntmps25
    go_wp2
    go_returns
    exact ⟨ret_tup (by unfold readR; rw [if_pos h1]), by go_grown⟩
  · have h2 : (s.size : Int) ≤ 1048576 := by omega
    go_enter Try.func25, Try.ntmps25
    go_wp2
    all_goals
      go_returns
      refine ⟨ret_tup ?_, by go_grown⟩
      unfold readR
      rw [if_neg h1]
    · rw [if_pos (by omega)]
    · rw [if_neg (by omega)]
    · rw [if_pos (by omega)]
set_option maxHeartbeats 1000000 in
theorem left_any (s : ByteArray) (b : Int) (w : World) (hs : s.size ≤ 9223372036854775807) :
    Calls Try.prog 31 #[.agg #[.string s, .int .i64 b]] w fun e w' => e = .returned (leftR s b) ∧ Below w.heap.size w w' := by
  obtain ⟨c, hc⟩ : ∃ c, rchk s b = c := ⟨_, rfl⟩
  by_cases h0 : c = 0
  · subst h0
    obtain ⟨B, rfl, hB, hS⟩ := rchk_nat hc
    have Hc := Lib.hid hc
    clear hc
    go_enter Try.func31, Try.ntmps31
    go_wp2_with fail
    refine (right_is s B 0 _ hs Hc.out).mono ?_
    rintro e w1 ⟨rfl, hb⟩
    obtain ⟨hcc, hff⟩ := bcell hb
    have hz := hb.size
    simp only [World.size_alloc] at hz
    have HW := Lib.hid (((Below.refl _ _).alloc (Nat.le_refl _) _).trans (hb.mono (by simp)) : Below w.heap.size w w1)
    clear hb
    go_wp2
    go_ret2
    exact ⟨ret_tup (by unfold leftR; rw [if_pos Hc.out]; rfl), HW.out⟩
  · have h1 : (c != 0) = true := by simpa using h0
    have Hc := Lib.hid hc
    clear hc
    go_enter Try.func31, Try.ntmps31
    go_wp2_with fail
    refine (right_is s b c _ hs Hc.out).mono ?_
    rintro e w1 ⟨rfl, hb⟩
    obtain ⟨hcc, hff⟩ := bcell hb
    have HW := Lib.hid (((Below.refl _ _).alloc (Nat.le_refl _) _).trans (hb.mono (by simp)) : Below w.heap.size w w1)
    clear hb
    go_wp2
    go_ret2
    exact ⟨ret_tup (by unfold leftR; rw [Hc.out, if_neg h0]; rfl), HW.out⟩
set_option maxHeartbeats 1000000 in
theorem next_any (s : ByteArray) (b : Int) (w : World) (hs : s.size ≤ 9223372036854775807) :
    Calls Try.prog 33 #[.agg #[.string s, .int .i64 b]] w fun e w' => e = .returned (nextR s b) ∧ Below w.heap.size w w' := by
  obtain ⟨c, hc⟩ : ∃ c, rchk s b = c := ⟨_, rfl⟩
  by_cases h0 : c = 0
  · subst h0
    obtain ⟨B, rfl, hB, hS⟩ := rchk_nat hc
    have Hc := Lib.hid hc
    clear hc
    go_enter Try.func33, Try.ntmps33
    go_wp2_with fail
    refine (right_is s B 0 _ hs Hc.out).mono ?_
    rintro e w1 ⟨rfl, hb⟩
    obtain ⟨hcc, hff⟩ := bcell hb
    have hz := hb.size
    simp only [World.size_alloc] at hz
    have HW := Lib.hid (((Below.refl _ _).alloc (Nat.le_refl _) _).trans (hb.mono (by simp)) : Below w.heap.size w w1)
    clear hb
    go_wp2
    go_ret2
    exact ⟨ret_tup (by unfold nextR; rw [if_pos Hc.out]; rfl), HW.out⟩
  · have h1 : (c != 0) = true := by simpa using h0
    have Hc := Lib.hid hc
    clear hc
    go_enter Try.func33, Try.ntmps33
    go_wp2_with fail
    refine (right_is s b c _ hs Hc.out).mono ?_
    rintro e w1 ⟨rfl, hb⟩
    obtain ⟨hcc, hff⟩ := bcell hb
    have HW := Lib.hid (((Below.refl _ _).alloc (Nat.le_refl _) _).trans (hb.mono (by simp)) : Below w.heap.size w w1)
    clear hb
    go_wp2
    go_ret2
    exact ⟨ret_tup (by unfold nextR; rw [Hc.out, if_neg h0]; rfl), HW.out⟩
set_option maxHeartbeats 1000000 in
theorem asked_any (s : ByteArray) (b n : Int) (w : World) (hs : s.size ≤ 9223372036854775807) :
    Calls Try.prog 62 #[.agg #[.string s, .int .i64 b], .int .i64 n] w fun e w' => e = .returned (.int .i64 (askE s b n)) ∧ Below w.heap.size w w' := by
  obtain ⟨c, hc⟩ : ∃ c, rchk s b = c := ⟨_, rfl⟩
  have Hc := Lib.hid hc
  clear hc
  go_enter Try.func62, Try.ntmps62
  go_wp2_with fail
  refine (right_is s b c _ hs Hc.out).mono ?_
  rintro e w1 ⟨rfl, hb⟩
  obtain ⟨hcc, hff⟩ := bcell hb
  have HW := Lib.hid (((Below.refl _ _).alloc (Nat.le_refl _) _).trans (hb.mono (by simp)) : Below w.heap.size w w1)
  clear hb
  by_cases h0 : c = 0
  · subst h0
    by_cases h1 : n < 0
    · go_wp2
      go_ret
      exact ⟨ret_int (by unfold askE; rw [if_pos Hc.out, if_pos (.inl h1)]), HW.out⟩
    · by_cases h2 : 32 < n
      · go_wp2
        go_ret
        exact ⟨ret_int (by unfold askE; rw [if_pos Hc.out, if_pos (.inr h2)]), HW.out⟩
      · go_wp2
        go_ret
        exact ⟨ret_int (by unfold askE; rw [if_pos Hc.out, if_neg (by omega)]), HW.out⟩
  · have h1 : (c == 0) = false := by simpa using h0
    have H0 := Lib.hid h0
    clear h0
    go_wp2
    go_ret
    exact ⟨ret_int (by unfold askE; rw [Hc.out, if_neg H0.out]), HW.out⟩
theorem asked_is (s : ByteArray) (b n c : Int) (w : World) (hs : s.size ≤ 9223372036854775807) (h : askE s b n = c) :
    Calls Try.prog 62 #[.agg #[.string s, .int .i64 b], .int .i64 n] w fun e w' => e = .returned (.int .i64 c) ∧ Below w.heap.size w w' := by
  have := asked_any s b n w hs
  rwa [h] at this
theorem askE_nat {s : ByteArray} {b n : Int} (h : askE s b n = 0) : ∃ B N : Nat, b = B ∧ n = N ∧ B ≤ 8 * s.size ∧ s.size ≤ 1048576 ∧ N ≤ 32 := by
  unfold askE at h
  split at h
  · rename_i h1
    obtain ⟨B, h2, h3, h4⟩ := rchk_nat h1
    split at h
    · omega
    · exact ⟨B, n.toNat, h2, by omega, h3, h4, by omega⟩
  · contradiction
set_option maxHeartbeats 1000000 in
theorem Peek_any (s : ByteArray) (b n : Int) (w : World) (hs : s.size ≤ 9223372036854775807) :
    Calls Try.prog 29 #[.agg #[.string s, .int .i64 b], .int .i64 n] w fun e w' => e = .returned (peekR s b n) ∧ Below w.heap.size w w' := by
  obtain ⟨c, hc⟩ : ∃ c, askE s b n = c := ⟨_, rfl⟩
  by_cases h0 : c = 0
  · subst h0
    obtain ⟨B, N, rfl, rfl, hB, hS, hN⟩ := askE_nat hc
    have Hc := Lib.hid hc
    clear hc
    go_enter Try.func29, Try.ntmps29
    go_wp2_with fail
    refine (asked_is s B N 0 _ hs Hc.out).mono ?_
    rintro e w1 ⟨rfl, hb⟩
    obtain ⟨hcc, hff⟩ := bcell hb
    have hz := hb.size
    simp only [World.size_alloc] at hz
    have HW := Lib.hid (((Below.refl _ _).alloc (Nat.le_refl _) _).trans (hb.mono (by simp)) : Below w.heap.size w w1)
    clear hb
    go_wp2_with fail
    refine (peek_core s B N _ hS hB hN).mono ?_
    rintro e w2 ⟨rfl, hb⟩
    have HW2 := Lib.hid (HW.out.trans (hb.mono (by omega)))
    clear hb hcc hff
    go_wp2
    go_ret2
    exact ⟨ret_tup (by unfold peekR; rw [if_pos Hc.out]; rfl), HW2.out⟩
  · have h1 : (c != 0) = true := by simpa using h0
    have Hc := Lib.hid hc
    clear hc
    go_enter Try.func29, Try.ntmps29
    go_wp2_with fail
    refine (asked_is s b n c _ hs Hc.out).mono ?_
    rintro e w1 ⟨rfl, hb⟩
    obtain ⟨hcc, hff⟩ := bcell hb
    have HW := Lib.hid (((Below.refl _ _).alloc (Nat.le_refl _) _).trans (hb.mono (by simp)) : Below w.heap.size w w1)
    clear hb
    go_wp2
    go_ret2
    exact ⟨ret_tup (by unfold peekR; rw [Hc.out, if_neg h0]; rfl), HW.out⟩
end Go.Proofs.Ytafabheehkmfhaa

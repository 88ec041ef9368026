/-
  The reference's Align; both Dones; what Put, Align and Done answer at any arguments, one answer for the program and the reference. Conditions: none on the arguments.
-/
import Derived.Test.YtafabheehkmfhaaBitsR
namespace Go.Proofs.Ytafabheehkmfhaa
open Go.RowKit
set_option linter.unusedVariables false
set_option linter.unusedSimpArgs false

theorem done_of (s s2 : ByteArray) (p n p2 n2 c : Int) (w : World)
    (hA : ∀ w : World, Calls Try.prog 19 #[.agg #[.string s, .int .i64 p, .int .i64 n]] w fun e w' => e = .returned (.tuple #[.agg #[.string s2, .int .i64 p2, .int .i64 n2], .int .i64 c]) ∧ Below w.heap.size w w') :
    Calls Try.prog 21 #[.agg #[.string s, .int .i64 p, .int .i64 n]] w fun e w' => e = .returned (.tuple #[.string s2, .int .i64 c]) ∧ Below w.heap.size w w' := by
  have HA := Lib.hid hA
  clear hA
  go_enter Try.func21, Try.ntmps21
  go_wp2_with fail
  refine (HA.out _).mono ?_
  rintro e w1 ⟨rfl, hb⟩
  have HW := Lib.hid (((Below.refl _ _).alloc (Nat.le_refl _) _).trans (hb.mono (by simp)) : Below w.heap.size w w1)
  have hz := HW.out.size
  clear hb
  go_wp2
  go_ret2
  refine ⟨rfl, ?_⟩
  have := HW.out
  go_grown

theorem rdone_of (s s2 : ByteArray) (p n p2 n2 c : Int) (w : World)
    (hA : ∀ w : World, Calls Try.prog 20 #[.agg #[.string s, .int .i64 p, .int .i64 n]] w fun e w' => e = .returned (.tuple #[.agg #[.string s2, .int .i64 p2, .int .i64 n2], .int .i64 c]) ∧ Below w.heap.size w w') :
    Calls Try.prog 22 #[.agg #[.string s, .int .i64 p, .int .i64 n]] w fun e w' => e = .returned (.tuple #[.string s2, .int .i64 c]) ∧ Below w.heap.size w w' := by
  have HA := Lib.hid hA
  clear hA
  go_enter Try.func22, Try.ntmps22
  go_wp2_with fail
  refine (HA.out _).mono ?_
  rintro e w1 ⟨rfl, hb⟩
  have HW := Lib.hid (((Below.refl _ _).alloc (Nat.le_refl _) _).trans (hb.mono (by simp)) : Below w.heap.size w w1)
  have hz := HW.out.size
  clear hb
  go_wp2
  go_ret2
  refine ⟨rfl, ?_⟩
  have := HW.out
  go_grown
theorem rput_zero (s : ByteArray) (p n : Int) (L W k : Nat) (w : World) (h : IsW s p n L W) (hk : k ≤ 32) :
    Calls Try.prog 18 #[.agg #[.string s, .int .i64 p, .int .i64 n], .int .i64 k, .int .i64 0] w fun e w' => e = .returned (putOut L W k 0) ∧ Below w.heap.size w w' :=
  rput_core s p n L W k 0 w h hk (Nat.pow_pos (by omega))
theorem putOut_form (L W k v : Nat) : ∃ (s : ByteArray) (p n c : Int), putOut L W k v = .tuple #[.agg #[.string s, .int .i64 p, .int .i64 n], .int .i64 c] := by
  by_cases h : 1048576 < (L + k) / 8
  · exact ⟨_, _, _, _, putOut_long h⟩
  · exact ⟨_, _, _, _, putOut_ok h⟩
set_option maxHeartbeats 2000000 in
theorem ralign_core (s : ByteArray) (p n : Int) (L W : Nat) (w : World) (h : IsW s p n L W) :
    Calls Try.prog 20 #[.agg #[.string s, .int .i64 p, .int .i64 n]] w fun e w' => e = .returned (putOut L W ((8 - L % 8) % 8) 0) ∧ Below w.heap.size w w' := by
  have hn0 : 0 ≤ n := by rw [h.n]; omega
  have hn7 : n ≤ 7 := by rw [h.n]; omega
  by_cases h8 : L % 8 = 0
  · have hn : (n == 0) = true := by rw [h.n, h8]; rfl
    have Hr := Lib.hid (show putOut L W ((8 - L % 8) % 8) 0 = .tuple #[.agg #[.string s, .int .i64 p, .int .i64 n], .int .i64 0] by
      rw [h8, putOut_ok (by have := h.le; omega), Nat.add_zero, Nat.zero_mul, Nat.add_zero, ← h.s, ← h.p, ← h.n])
    have Hw := Lib.hid h
    clear h h8
    go_enter Try.func20, Try.ntmps20
    go_wp2_with fail
    refine (rcheck_is s p n _ 0 Hw.out.chk).mono ?_
    rintro e w1 ⟨rfl, hb⟩
    obtain ⟨hcc, hff⟩ := bcell hb
    have hz := hb.size
    simp only [World.size_alloc] at hz
    have HW := Lib.hid ((((Below.refl _ _).alloc (Nat.le_refl _) _).alloc (by simp) _).trans (hb.mono (by simp; omega)) : Below w.heap.size w w1)
    clear hb
    go_wp2
    refine bodyPost_ret (by simp [results, Try.results20, go_sem, hcc]; try rfl) rfl ?_
    exact ⟨by rw [Hr.out], (((HW.out.setCell (by simp) _).setCell (by simp) _).setCell (by simp) _)⟩
  · have hn : (n == 0) = false := by rw [h.n]; simp; omega
    obtain ⟨k, hk⟩ : ∃ k, (8 - L % 8) % 8 = k := ⟨_, rfl⟩
    have hk' : 8 - n = (k : Int) := by rw [h.n]; omega
    have hk8 : k < 8 := by omega
    rw [hk]
    obtain ⟨s2, p2, n2, c2, hout⟩ := putOut_form L W k 0
    have Hr := Lib.hid hout
    have Hw := Lib.hid h
    clear h h8 hk hout
    go_enter Try.func20, Try.ntmps20
    go_wp2_with fail
    refine (rcheck_is s p n _ 0 Hw.out.chk).mono ?_
    rintro e w1 ⟨rfl, hb⟩
    obtain ⟨hcc, hff⟩ := bcell hb
    have hz := hb.size
    simp only [World.size_alloc] at hz
    have HW := Lib.hid ((((Below.refl _ _).alloc (Nat.le_refl _) _).alloc (by simp) _).trans (hb.mono (by simp; omega)) : Below w.heap.size w w1)
    have hZ : Blk w1 (w.heap.size + 1) 23 ZW := by
      have := (Blk.new (w.alloc (.cells #[.string s, .int .i64 p, .int .i64 n] 23)) 23 ZW).below hb (by simp)
      simpa using this
    have HZ := Lib.hid hZ
    clear hb hZ
    go_wp2_with fail
    refine (rput_zero s p n L W k _ Hw.out (by omega)).mono ?_
    rintro e w2 ⟨rfl, hb2⟩
    rw [Hr.out]
    clear hcc hff
    have hZ2 := HZ.out.below hb2 HZ.out.lt
    have hz2 := hZ2.lt
    have d0 := hZ2.cell 0
    have d1 := hZ2.cell 1
    have d2 := hZ2.cell 2
    unfold ZW at d0 d1 d2
    simp only [List.getElem?_toArray, List.getElem?_cons_zero, List.getElem?_cons_succ] at d0 d1 d2
    have g0 := hZ2.frozen 0
    have g1 := hZ2.frozen 1
    have g2 := hZ2.frozen 2
    have HW2 := Lib.hid (HW.out.trans (hb2.mono HW.out.size))
    clear hb2 hZ2
    go_wp2
    refine bodyPost_ret (by simp [results, Try.results20, go_sem, d0, d1, d2]; try rfl) rfl ?_
    exact ⟨by rw [Hr.out], (((HW2.out.setCell (by simp) _).setCell (by simp) _).setCell (by simp) _)⟩

/-- A writer is right, or its error is not 0. -/
theorem isW_of (s : ByteArray) (p n : Int) (h : wchk s p n = 0) : ∃ L W, IsW s p n L W ∧ L = 8 * s.size + n.toNat ∧ W = leN s.data.toList + p.toNat * 2 ^ (8 * s.size) := by
  unfold wchk at h
  split at h
  · omega
  · rename_i h1
    split at h
    · omega
    · rename_i h2
      have hp : p.toNat < 2 ^ n.toNat := by
        have : p < 2 ^ n.toNat := by omega
        have e : (2 : Int) ^ n.toNat = ((2 ^ n.toNat : Nat) : Int) := by simp
        rw [e] at this
        omega
      obtain ⟨L, W, e1, e2, e3, e4, e5, e6⟩ := writer_form s p.toNat n.toNat (by omega) hp
      exact ⟨L, W, ⟨e4, by omega, by omega, e3, by omega⟩, e1, e2⟩
/-- what Put answers -/
def putR (s : ByteArray) (p n k v : Int) : Value :=
  if wchk s p n = 0 then if 0 ≤ k ∧ k ≤ 32 ∧ 0 ≤ v ∧ v < 2 ^ k.toNat then putOut (8 * s.size + n.toNat) (leN s.data.toList + p.toNat * 2 ^ (8 * s.size)) k.toNat v.toNat else zeroV 2 else zeroV (wchk s p n)
def alignR (s : ByteArray) (p n : Int) : Value :=
  if wchk s p n = 0 then putOut (8 * s.size + n.toNat) (leN s.data.toList + p.toNat * 2 ^ (8 * s.size)) ((8 - (8 * s.size + n.toNat) % 8) % 8) 0 else zeroV (wchk s p n)
theorem bad_of {k v : Int} (h : ¬ (0 ≤ k ∧ k ≤ 32 ∧ 0 ≤ v ∧ v < 2 ^ k.toNat)) : BadArgs k v := by
  unfold BadArgs
  by_cases h1 : k < 0
  · exact .inl h1
  by_cases h2 : 32 < k
  · exact .inr (.inl ⟨by omega, h2⟩)
  by_cases h3 : v < 0
  · exact .inr (.inr (.inl ⟨by omega, by omega, h3⟩))
  refine .inr (.inr (.inr ⟨by omega, by omega, by omega, ?_⟩))
  exact Int.not_lt.1 fun h4 => h ⟨by omega, by omega, by omega, h4⟩
theorem nat_args {k v : Int} (h : 0 ≤ k ∧ k ≤ 32 ∧ 0 ≤ v ∧ v < 2 ^ k.toNat) : ∃ K V : Nat, k = K ∧ v = V ∧ K ≤ 32 ∧ V < 2 ^ K ∧ k.toNat = K ∧ v.toNat = V := by
  obtain ⟨K, rfl⟩ := Int.eq_ofNat_of_zero_le h.1
  obtain ⟨V, rfl⟩ := Int.eq_ofNat_of_zero_le h.2.2.1
  refine ⟨K, V, rfl, rfl, by omega, ?_, rfl, rfl⟩
  have := h.2.2.2
  rw [Int.toNat_natCast] at this
  have e : (2 : Int) ^ K = ((2 ^ K : Nat) : Int) := by simp
  rw [e] at this
  omega
theorem put_any (s : ByteArray) (p n k v : Int) (w : World) :
    Calls Try.prog 17 #[.agg #[.string s, .int .i64 p, .int .i64 n], .int .i64 k, .int .i64 v] w fun e w' => e = .returned (putR s p n k v) ∧ Below w.heap.size w w' := by
  unfold putR
  by_cases h : wchk s p n = 0
  · rw [if_pos h]
    by_cases h2 : 0 ≤ k ∧ k ≤ 32 ∧ 0 ≤ v ∧ v < 2 ^ k.toNat
    · rw [if_pos h2]
      obtain ⟨K, V, rfl, rfl, h3, h4, h5, h6⟩ := nat_args h2
      obtain ⟨L, W, hw, rfl, rfl⟩ := isW_of s p n h
      rw [h5, h6]
      exact put_core s p n _ _ K V w hw h3 h4
    · rw [if_neg h2]
      exact put_bad2 s p n k v w h (bad_of h2)
  · rw [if_neg h]
    exact put_bad1 s p n k v _ w rfl h
theorem align_any (s : ByteArray) (p n : Int) (w : World) :
    Calls Try.prog 19 #[.agg #[.string s, .int .i64 p, .int .i64 n]] w fun e w' => e = .returned (alignR s p n) ∧ Below w.heap.size w w' := by
  unfold alignR
  by_cases h : wchk s p n = 0
  · rw [if_pos h]
    obtain ⟨L, W, hw, rfl, rfl⟩ := isW_of s p n h
    exact align_core s p n _ _ w hw
  · rw [if_neg h]
    exact align_bad s p n _ w rfl h
theorem putR_form (s : ByteArray) (p n k v : Int) : ∃ (s2 : ByteArray) (p2 n2 c : Int), putR s p n k v = .tuple #[.agg #[.string s2, .int .i64 p2, .int .i64 n2], .int .i64 c] := by
  unfold putR
  split
  · split
    · unfold putOut
      split <;> exact ⟨_, _, _, _, rfl⟩
    · exact ⟨_, _, _, _, rfl⟩
  · exact ⟨_, _, _, _, rfl⟩
theorem alignR_form (s : ByteArray) (p n : Int) : ∃ (s2 : ByteArray) (p2 n2 c : Int), alignR s p n = .tuple #[.agg #[.string s2, .int .i64 p2, .int .i64 n2], .int .i64 c] := by
  unfold alignR
  split
  · unfold putOut
    split <;> exact ⟨_, _, _, _, rfl⟩
  · exact ⟨_, _, _, _, rfl⟩
theorem rput_any (s : ByteArray) (p n k v : Int) (w : World) :
    Calls Try.prog 18 #[.agg #[.string s, .int .i64 p, .int .i64 n], .int .i64 k, .int .i64 v] w fun e w' => e = .returned (putR s p n k v) ∧ Below w.heap.size w w' := by
  unfold putR
  by_cases h : wchk s p n = 0
  · rw [if_pos h]
    by_cases h2 : 0 ≤ k ∧ k ≤ 32 ∧ 0 ≤ v ∧ v < 2 ^ k.toNat
    · rw [if_pos h2]
      obtain ⟨K, V, rfl, rfl, h3, h4, h5, h6⟩ := nat_args h2
      obtain ⟨L, W, hw, rfl, rfl⟩ := isW_of s p n h
      rw [h5, h6]
      exact rput_core s p n _ _ K V w hw h3 h4
    · rw [if_neg h2]
      exact rput_bad2 s p n k v w h (bad_of h2)
  · rw [if_neg h]
    exact rput_bad1 s p n k v _ w rfl h
theorem ralign_any (s : ByteArray) (p n : Int) (w : World) :
    Calls Try.prog 20 #[.agg #[.string s, .int .i64 p, .int .i64 n]] w fun e w' => e = .returned (alignR s p n) ∧ Below w.heap.size w w' := by
  unfold alignR
  by_cases h : wchk s p n = 0
  · rw [if_pos h]
    obtain ⟨L, W, hw, rfl, rfl⟩ := isW_of s p n h
    exact ralign_core s p n _ _ w hw
  · rw [if_neg h]
    exact ralign_bad s p n _ w rfl h
end Go.Proofs.Ytafabheehkmfhaa

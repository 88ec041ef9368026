/-
  Texts joined: BitsS, BitsT, BitsU, BitsV, Con, D8F, D8A, D8G, D8C, D8I, D8K, D8Kt, D8It, D8Ct, D8At, Nx, D8B, D8D, D8E. Conditions: each theorem's own.
-/
import Derived.Test.YtafabheehkmfhaaK2
import Derived.WalkKit
import Derived.IntWalk
/-
  The reference's Align; both Dones; what Put, Align and Done answer at any arguments, one answer for the program and the reference. Conditions: none on the arguments.
-/
namespace Go.Proofs.Ytafabheehkmfhaa
open Go.RowKit
set_option linter.unusedVariables false
set_option linter.unusedSimpArgs false

theorem done_of (s s2 : ByteArray) (p n p2 n2 c : Int) (w : World)
    (hA : ∀ w : World, Calls Try.prog 19 #[.agg #[.string s, .int .i64 p, .int .i64 n]] w fun e w' => e = .returned (.tuple #[.agg #[.string s2, .int .i64 p2, .int .i64 n2], .int .i64 c]) ∧ Below w.heap.size w w') :
    Calls Try.prog 21 #[.agg #[.string s, .int .i64 p, .int .i64 n]] w fun e w' => e = .returned (.tuple #[.string s2, .int .i64 c]) ∧ Below w.heap.size w w' := by
  have HA := Lib.hid hA
  clear hA
  go_enter Try.func21, Try.ntmps21
  go_wp2_with fail
  refine (HA.out _).mono ?_
  rintro e w1 ⟨rfl, hb⟩
  have HW := Lib.hid (((Below.refl _ _).alloc (Nat.le_refl _) _).trans (hb.mono (by simp)) : Below w.heap.size w w1)
  have hz := HW.out.size
  clear hb
  go_wp2
  go_ret2
  refine ⟨rfl, ?_⟩
  have := HW.out
  go_grown

theorem rdone_of (s s2 : ByteArray) (p n p2 n2 c : Int) (w : World)
    (hA : ∀ w : World, Calls Try.prog 20 #[.agg #[.string s, .int .i64 p, .int .i64 n]] w fun e w' => e = .returned (.tuple #[.agg #[.string s2, .int .i64 p2, .int .i64 n2], .int .i64 c]) ∧ Below w.heap.size w w') :
    Calls Try.prog 22 #[.agg #[.string s, .int .i64 p, .int .i64 n]] w fun e w' => e = .returned (.tuple #[.string s2, .int .i64 c]) ∧ Below w.heap.size w w' := by
  have HA := Lib.hid hA
  clear hA
  go_enter Try.func22, Try.ntmps22
  go_wp2_with fail
  refine (HA.out _).mono ?_
  rintro e w1 ⟨rfl, hb⟩
  have HW := Lib.hid (((Below.refl _ _).alloc (Nat.le_refl _) _).trans (hb.mono (by simp)) : Below w.heap.size w w1)
  have hz := HW.out.size
  clear hb
  go_wp2
  go_ret2
  refine ⟨rfl, ?_⟩
  have := HW.out
  go_grown
theorem rput_zero (s : ByteArray) (p n : Int) (L W k : Nat) (w : World) (h : IsW s p n L W) (hk : k ≤ 32) :
    Calls Try.prog 18 #[.agg #[.string s, .int .i64 p, .int .i64 n], .int .i64 k, .int .i64 0] w fun e w' => e = .returned (putOut L W k 0) ∧ Below w.heap.size w w' :=
  rput_core s p n L W k 0 w h hk (Nat.pow_pos (by omega))
theorem putOut_form (L W k v : Nat) : ∃ (s : ByteArray) (p n c : Int), putOut L W k v = .tuple #[.agg #[.string s, .int .i64 p, .int .i64 n], .int .i64 c] := by
  by_cases h : 1048576 < (L + k) / 8
  · exact ⟨_, _, _, _, putOut_long h⟩
  · exact ⟨_, _, _, _, putOut_ok h⟩
set_option maxHeartbeats 2000000 in
theorem ralign_core (s : ByteArray) (p n : Int) (L W : Nat) (w : World) (h : IsW s p n L W) :
    Calls Try.prog 20 #[.agg #[.string s, .int .i64 p, .int .i64 n]] w fun e w' => e = .returned (putOut L W ((8 - L % 8) % 8) 0) ∧ Below w.heap.size w w' := by
  have hn0 : 0 ≤ n := by rw [h.n]; omega
  have hn7 : n ≤ 7 := by rw [h.n]; omega
  by_cases h8 : L % 8 = 0
  · have hn : (n == 0) = true := by rw [h.n, h8]; rfl
    have Hr := Lib.hid (show putOut L W ((8 - L % 8) % 8) 0 = .tuple #[.agg #[.string s, .int .i64 p, .int .i64 n], .int .i64 0] by
      rw [h8, putOut_ok (by have := h.le; omega), Nat.add_zero, Nat.zero_mul, Nat.add_zero, ← h.s, ← h.p, ← h.n])
    have Hw := Lib.hid h
    clear h h8
    go_enter Try.func20, Try.ntmps20
    go_wp2_with fail
    refine (rcheck_is s p n _ 0 Hw.out.chk).mono ?_
    rintro e w1 ⟨rfl, hb⟩
    obtain ⟨hcc, hff⟩ := bcell hb
    have hz := hb.size
    simp only [World.size_alloc] at hz
    have HW := Lib.hid ((((Below.refl _ _).alloc (Nat.le_refl _) _).alloc (by simp) _).trans (hb.mono (by simp; omega)) : Below w.heap.size w w1)
    clear hb
    go_wp2
    refine bodyPost_ret (by simp [results, Try.results20, go_sem, hcc]; try rfl) rfl ?_
    exact ⟨by rw [Hr.out], (((HW.out.setCell (by simp) _).setCell (by simp) _).setCell (by simp) _)⟩
  · have hn : (n == 0) = false := by rw [h.n]; simp; omega
    obtain ⟨k, hk⟩ : ∃ k, (8 - L % 8) % 8 = k := ⟨_, rfl⟩
    have hk' : 8 - n = (k : Int) := by rw [h.n]; omega
    have hk8 : k < 8 := by omega
    rw [hk]
    obtain ⟨s2, p2, n2, c2, hout⟩ := putOut_form L W k 0
    have Hr := Lib.hid hout
    have Hw := Lib.hid h
    clear h h8 hk hout
    go_enter Try.func20, Try.ntmps20
    go_wp2_with fail
    refine (rcheck_is s p n _ 0 Hw.out.chk).mono ?_
    rintro e w1 ⟨rfl, hb⟩
    obtain ⟨hcc, hff⟩ := bcell hb
    have hz := hb.size
    simp only [World.size_alloc] at hz
    have HW := Lib.hid ((((Below.refl _ _).alloc (Nat.le_refl _) _).alloc (by simp) _).trans (hb.mono (by simp; omega)) : Below w.heap.size w w1)
    have hZ : Blk w1 (w.heap.size + 1) 23 ZW := by
      have := (Blk.new (w.alloc (.cells #[.string s, .int .i64 p, .int .i64 n] 23)) 23 ZW).below hb (by simp)
      simpa using this
    have HZ := Lib.hid hZ
    clear hb hZ
    go_wp2_with fail
    refine (rput_zero s p n L W k _ Hw.out (by omega)).mono ?_
    rintro e w2 ⟨rfl, hb2⟩
    rw [Hr.out]
    clear hcc hff
    have hZ2 := HZ.out.below hb2 HZ.out.lt
    have hz2 := hZ2.lt
    have d0 := hZ2.cell 0
    have d1 := hZ2.cell 1
    have d2 := hZ2.cell 2
    unfold ZW at d0 d1 d2
    simp only [List.getElem?_toArray, List.getElem?_cons_zero, List.getElem?_cons_succ] at d0 d1 d2
    have g0 := hZ2.frozen 0
    have g1 := hZ2.frozen 1
    have g2 := hZ2.frozen 2
    have HW2 := Lib.hid (HW.out.trans (hb2.mono HW.out.size))
    clear hb2 hZ2
    go_wp2
    refine bodyPost_ret (by simp [results, Try.results20, go_sem, d0, d1, d2]; try rfl) rfl ?_
    exact ⟨by rw [Hr.out], (((HW2.out.setCell (by simp) _).setCell (by simp) _).setCell (by simp) _)⟩

/-- A writer is right, or its error is not 0. -/
theorem isW_of (s : ByteArray) (p n : Int) (h : wchk s p n = 0) : ∃ L W, IsW s p n L W ∧ L = 8 * s.size + n.toNat ∧ W = leN s.data.toList + p.toNat * 2 ^ (8 * s.size) := by
  unfold wchk at h
  split at h
  · omega
  · rename_i h1
    split at h
    · omega
    · rename_i h2
      have hp : p.toNat < 2 ^ n.toNat := by
        have : p < 2 ^ n.toNat := by omega
        have e : (2 : Int) ^ n.toNat = ((2 ^ n.toNat : Nat) : Int) := by simp
        rw [e] at this
        omega
      obtain ⟨L, W, e1, e2, e3, e4, e5, e6⟩ := writer_form s p.toNat n.toNat (by omega) hp
      exact ⟨L, W, ⟨e4, by omega, by omega, e3, by omega⟩, e1, e2⟩
/-- what Put answers -/
def putR (s : ByteArray) (p n k v : Int) : Value :=
  if wchk s p n = 0 then if 0 ≤ k ∧ k ≤ 32 ∧ 0 ≤ v ∧ v < 2 ^ k.toNat then putOut (8 * s.size + n.toNat) (leN s.data.toList + p.toNat * 2 ^ (8 * s.size)) k.toNat v.toNat else zeroV 2 else zeroV (wchk s p n)
def alignR (s : ByteArray) (p n : Int) : Value :=
  if wchk s p n = 0 then putOut (8 * s.size + n.toNat) (leN s.data.toList + p.toNat * 2 ^ (8 * s.size)) ((8 - (8 * s.size + n.toNat) % 8) % 8) 0 else zeroV (wchk s p n)
theorem bad_of {k v : Int} (h : ¬ (0 ≤ k ∧ k ≤ 32 ∧ 0 ≤ v ∧ v < 2 ^ k.toNat)) : BadArgs k v := by
  unfold BadArgs
  by_cases h1 : k < 0
  · exact .inl h1
  by_cases h2 : 32 < k
  · exact .inr (.inl ⟨by omega, h2⟩)
  by_cases h3 : v < 0
  · exact .inr (.inr (.inl ⟨by omega, by omega, h3⟩))
  refine .inr (.inr (.inr ⟨by omega, by omega, by omega, ?_⟩))
  exact Int.not_lt.1 fun h4 => h ⟨by omega, by omega, by omega, h4⟩
theorem nat_args {k v : Int} (h : 0 ≤ k ∧ k ≤ 32 ∧ 0 ≤ v ∧ v < 2 ^ k.toNat) : ∃ K V : Nat, k = K ∧ v = V ∧ K ≤ 32 ∧ V < 2 ^ K ∧ k.toNat = K ∧ v.toNat = V := by
  obtain ⟨K, rfl⟩ := Int.eq_ofNat_of_zero_le h.1
  obtain ⟨V, rfl⟩ := Int.eq_ofNat_of_zero_le h.2.2.1
  refine ⟨K, V, rfl, rfl, by omega, ?_, rfl, rfl⟩
  have := h.2.2.2
  rw [Int.toNat_natCast] at this
  have e : (2 : Int) ^ K = ((2 ^ K : Nat) : Int) := by simp
  rw [e] at this
  omega
theorem put_any (s : ByteArray) (p n k v : Int) (w : World) :
    Calls Try.prog 17 #[.agg #[.string s, .int .i64 p, .int .i64 n], .int .i64 k, .int .i64 v] w fun e w' => e = .returned (putR s p n k v) ∧ Below w.heap.size w w' := by
  unfold putR
  by_cases h : wchk s p n = 0
  · rw [if_pos h]
    by_cases h2 : 0 ≤ k ∧ k ≤ 32 ∧ 0 ≤ v ∧ v < 2 ^ k.toNat
    · rw [if_pos h2]
      obtain ⟨K, V, rfl, rfl, h3, h4, h5, h6⟩ := nat_args h2
      obtain ⟨L, W, hw, rfl, rfl⟩ := isW_of s p n h
      rw [h5, h6]
      exact put_core s p n _ _ K V w hw h3 h4
    · rw [if_neg h2]
      exact put_bad2 s p n k v w h (bad_of h2)
  · rw [if_neg h]
    exact put_bad1 s p n k v _ w rfl h
theorem align_any (s : ByteArray) (p n : Int) (w : World) :
    Calls Try.prog 19 #[.agg #[.string s, .int .i64 p, .int .i64 n]] w fun e w' => e = .returned (alignR s p n) ∧ Below w.heap.size w w' := by
  unfold alignR
  by_cases h : wchk s p n = 0
  · rw [if_pos h]
    obtain ⟨L, W, hw, rfl, rfl⟩ := isW_of s p n h
    exact align_core s p n _ _ w hw
  · rw [if_neg h]
    exact align_bad s p n _ w rfl h
theorem putR_form (s : ByteArray) (p n k v : Int) : ∃ (s2 : ByteArray) (p2 n2 c : Int), putR s p n k v = .tuple #[.agg #[.string s2, .int .i64 p2, .int .i64 n2], .int .i64 c] := by
  unfold putR
  split
  · split
    · unfold putOut
      split <;> exact ⟨_, _, _, _, rfl⟩
    · exact ⟨_, _, _, _, rfl⟩
  · exact ⟨_, _, _, _, rfl⟩
theorem alignR_form (s : ByteArray) (p n : Int) : ∃ (s2 : ByteArray) (p2 n2 c : Int), alignR s p n = .tuple #[.agg #[.string s2, .int .i64 p2, .int .i64 n2], .int .i64 c] := by
  unfold alignR
  split
  · unfold putOut
    split <;> exact ⟨_, _, _, _, rfl⟩
  · exact ⟨_, _, _, _, rfl⟩
theorem rput_any (s : ByteArray) (p n k v : Int) (w : World) :
    Calls Try.prog 18 #[.agg #[.string s, .int .i64 p, .int .i64 n], .int .i64 k, .int .i64 v] w fun e w' => e = .returned (putR s p n k v) ∧ Below w.heap.size w w' := by
  unfold putR
  by_cases h : wchk s p n = 0
  · rw [if_pos h]
    by_cases h2 : 0 ≤ k ∧ k ≤ 32 ∧ 0 ≤ v ∧ v < 2 ^ k.toNat
    · rw [if_pos h2]
      obtain ⟨K, V, rfl, rfl, h3, h4, h5, h6⟩ := nat_args h2
      obtain ⟨L, W, hw, rfl, rfl⟩ := isW_of s p n h
      rw [h5, h6]
      exact rput_core s p n _ _ K V w hw h3 h4
    · rw [if_neg h2]
      exact rput_bad2 s p n k v w h (bad_of h2)
  · rw [if_neg h]
    exact rput_bad1 s p n k v _ w rfl h
theorem ralign_any (s : ByteArray) (p n : Int) (w : World) :
    Calls Try.prog 20 #[.agg #[.string s, .int .i64 p, .int .i64 n]] w fun e w' => e = .returned (alignR s p n) ∧ Below w.heap.size w w' := by
  unfold alignR
  by_cases h : wchk s p n = 0
  · rw [if_pos h]
    obtain ⟨L, W, hw, rfl, rfl⟩ := isW_of s p n h
    exact ralign_core s p n _ _ w hw
  · rw [if_neg h]
    exact ralign_bad s p n _ w rfl h
end Go.Proofs.Ytafabheehkmfhaa
/-
  The readers of package bits and of its reference. Conditions: each theorem's own.
-/
namespace Go.Proofs.Ytafabheehkmfhaa
open Go.RowKit Go.PlainAid
set_option linter.unusedVariables false
set_option linter.unusedSimpArgs false

theorem pow_le62 (n : Nat) (h : n ≤ 61) : 2 ^ n ≤ 2305843009213693952 := by
  have : 2 ^ n ≤ 2 ^ 61 := Nat.pow_le_pow_right (by omega) h
  simpa using this
theorem or_add2 (p b n : Nat) (hn : n ≤ 60) (hp : p < 2 ^ n) (hb : b ≤ 1) : bits .or .i64 (p : Int) ((b : Int) * 2 ^ n) = (p : Int) + (b : Int) * 2 ^ n := by
  have h8 := pow_le62 n (by omega)
  have hle : b * 2 ^ n ≤ 2305843009213693952 := Nat.le_trans (Nat.mul_le_mul_right _ hb) (by omega)
  have e : ((b : Int) * 2 ^ n) = ((b * 2 ^ n : Nat) : Int) := by simp
  rw [e, i64_or_nat _ _ (by omega) (by omega)]
  rw [Nat.or_comm, Nat.mul_comm, ← Nat.two_pow_add_eq_or_of_lt hp]
  omega
theorem wrap_small2 (b n : Nat) (hn : n ≤ 60) (hb : b ≤ 1) : wrap64 ((b : Int) * 2 ^ n) = (b : Int) * 2 ^ n := by
  have h8 := pow_le62 n (by omega)
  have hle : b * 2 ^ n ≤ 2305843009213693952 := Nat.le_trans (Nat.mul_le_mul_right _ hb) (by omega)
  have e : ((b : Int) * 2 ^ n) = ((b * 2 ^ n : Nat) : Int) := by simp
  rw [e]
  exact IntWalk.wrap64_in _ ⟨by omega, by omega⟩
/-- the number of n bits of a string from a bit on -/
def peekN (s : ByteArray) (bit n : Nat) : Nat := leN s.data.toList / 2 ^ bit % 2 ^ n
theorem peekN_lt (s : ByteArray) (bit n : Nat) : peekN s bit n < 2 ^ n := mod_bit_lt _ _
def bitN (s : ByteArray) (k : Nat) : Nat := leN s.data.toList / 2 ^ k % 2
theorem bitN_le (s : ByteArray) (k : Nat) : bitN s k ≤ 1 := by unfold bitN; omega
theorem peekN_next (s : ByteArray) (bit n : Nat) : peekN s bit (n + 1) = peekN s bit n + bitN s (bit + n) * 2 ^ n := by
  unfold peekN bitN
  rw [mod_bit, Nat.div_div_eq_div_mul, ← Nat.pow_add]
theorem bitN_end (s : ByteArray) (k : Nat) (h : 8 * s.size ≤ k) : bitN s k = 0 := by
  unfold bitN
  rw [leN_beyond _ _ (by rw [size_le]; exact h)]
theorem getbyte (s : ByteArray) (i : Nat) (h : i < s.size) : s[i].toNat = (s.data.toList[i]'(by rw [size_le]; exact h)).toNat := by
  simp
  rfl
theorem bt_nat (s : ByteArray) (i : Nat) (h : i < s.size) : bt s i = ((s[i].toNat : Nat) : Int) := (get_bt s i h).symm
theorem bitN_byte (s : ByteArray) (k : Nat) (h : k < 8 * s.size) : (bt s (k / 8) / 2 ^ (k % 8) % 2) = (bitN s k : Int) := by
  have h8 : k / 8 < s.size := by omega
  rw [bt_nat s _ h8, getbyte s _ h8]
  unfold bitN
  rw [← leN_bit s.data.toList k (by rw [size_le]; exact h8)]
  simp
theorem ofInt_u8 (a : Nat) (ha : a < 256) : (BitVec.ofInt 8 (a : Int)).toNat = a := by
  rw [BitVec.ofInt_natCast, BitVec.toNat_ofNat]; exact Nat.mod_eq_of_lt (by omega)
theorem u8_and_one (Y : Nat) (h : Y < 256) : bits .and .u8 (Y : Int) 1 = ((Y % 2 : Nat) : Int) := by
  show IntKind.u8.wrap ((BitVec.ofInt 8 (Y : Int) &&& BitVec.ofInt 8 ((1 : Nat) : Int)).toNat : Int) = _
  rw [BitVec.toNat_and, ofInt_u8 Y h, ofInt_u8 1 (by omega), Nat.and_one_is_mod, IntKind.wrap_u8]
  omega
theorem byte_shift (s : ByteArray) (k : Nat) (h : k < 8 * s.size) : ∃ Y : Nat, Y < 256 ∧ bt s (k / 8) / 2 ^ (k % 8) = (Y : Int) ∧ Y % 2 = bitN s k := by
  have h8 : k / 8 < s.size := by omega
  refine ⟨s[k / 8].toNat / 2 ^ (k % 8), ?_, ?_, ?_⟩
  · exact Nat.lt_of_le_of_lt (Nat.div_le_self _ _) (UInt8.toNat_lt _)
  · rw [bt_nat s _ h8]; simp
  · rw [getbyte s _ h8, leN_bit s.data.toList k (by rw [size_le]; exact h8)]; rfl
theorem peek_step (s : ByteArray) (k x j b : Nat) (h : k < 8 * s.size) (hb : bitN s k = b) (hj : j ≤ 60) (hx : x < 2 ^ j) :
    bits .or .i64 (x : Int) (wrap64 (wrap64 (bits .and .u8 (bt s (k / 8) / 2 ^ (k % 8)) 1) * 2 ^ j)) = ((x + b * 2 ^ j : Nat) : Int) := by
  obtain ⟨Y, h1, h2, h3⟩ := byte_shift s k h
  have hb1 : b ≤ 1 := by rw [← hb]; exact bitN_le _ _
  rw [h2, u8_and_one Y h1, h3, hb, IntWalk.wrap64_in (b : Int) ⟨by omega, by omega⟩, wrap_small2 b j hj hb1, or_add2 x b j hj hx hb1]
  simp
theorem number_step (s : ByteArray) (k x j b : Nat) (h : k < 8 * s.size) (hb : bitN s k = b) (hj : j ≤ 60) (hx : x < 2 ^ j) :
    wrap64 ((x : Int) + wrap64 (bits .and .i64 (bt s (k / 8) / 2 ^ (k % 8)) 1 * 2 ^ j)) = ((x + b * 2 ^ j : Nat) : Int) := by
  obtain ⟨Y, h1, h2, h3⟩ := byte_shift s k h
  have hb1 : b ≤ 1 := by rw [← hb]; exact bitN_le _ _
  have h8 := pow_le62 j (by omega)
  have hle : b * 2 ^ j ≤ 2305843009213693952 := Nat.le_trans (Nat.mul_le_mul_right _ hb1) (by omega)
  rw [h2, show (1 : Int) = ((1 : Nat) : Int) from rfl, i64_and_nat _ _ (by omega) (by omega), Nat.and_one_is_mod, h3, hb, wrap_small2 b j hj hb1]
  have e : (x : Int) + (b : Int) * 2 ^ j = ((x + b * 2 ^ j : Nat) : Int) := by simp
  rw [e]
  exact IntWalk.wrap64_in _ ⟨by omega, by omega⟩
def PeekRel (s : ByteArray) (bit n : Nat) (out i : Value) : Prop := ∃ j : Nat, j ≤ n ∧ i = .int .i64 j ∧ out = .int .i64 (peekN s bit j)
set_option maxHeartbeats 2000000 in
theorem peek_core (s : ByteArray) (bit n : Nat) (w : World) (hs : s.size ≤ 1048576) (hb : bit ≤ 8 * s.size) (hn : n ≤ 32) :
    Calls Try.prog 63 #[.agg #[.string s, .int .i64 bit], .int .i64 n] w fun e w' => e = .returned (.int .i64 (peekN s bit n)) ∧ Below w.heap.size w w' := by
  go_enter Try.func63, Try.ntmps63
  go_wp2
  go_loop [5, 9] (fun out i => PeekRel s bit n out i) (fun _ i => n - (intOf i).toNat)
  case atStart => exact ⟨0, Nat.zero_le _, rfl, by simp [peekN, Nat.mod_one]⟩
  case round =>
    obtain ⟨j, hj, rfl, rfl⟩ := hrel
    by_cases hlt : j < n
    · have hx := peekN_lt s bit j
      obtain ⟨x, ex⟩ : ∃ x, peekN s bit j = x := ⟨_, rfl⟩
      rw [ex] at hx ⊢
      have Ex := Lib.hid ex
      clear ex
      by_cases hend : bit + j < 8 * s.size
      · have hbt := get_bt s
        obtain ⟨b, eb⟩ : ∃ b, bitN s (bit + j) = b := ⟨_, rfl⟩
        have Hst := Lib.hid (peek_step s (bit + j) x j b hend eb (by omega) hx)
        have Eb := Lib.hid eb
        clear eb
        go_wp2_with fail
        refine ⟨⟨j + 1, by omega, by go_num, ?_⟩, by simp [intOf]; omega⟩
        rw [Hst.out, peekN_next, Ex.out, Eb.out]
      · have Eb := Lib.hid (bitN_end s (bit + j) (by omega))
        go_wp2_with fail
        refine ⟨⟨j + 1, by omega, by go_num, ?_⟩, by simp [intOf]; omega⟩
        rw [peekN_next, Ex.out, Eb.out, Nat.zero_mul, Nat.add_zero]
    · have : j = n := by omega
      subst this
      go_wp2
      go_ret
      exact ⟨rfl, by go_grown⟩
set_option maxHeartbeats 2000000 in
theorem number_core (s : ByteArray) (bit n : Nat) (w : World) (hs : s.size ≤ 1048576) (hb : bit ≤ 8 * s.size) (hn : n ≤ 32) :
    Calls Try.prog 64 #[.agg #[.string s, .int .i64 bit], .int .i64 n] w fun e w' => e = .returned (.int .i64 (peekN s bit n)) ∧ Below w.heap.size w w' := by
  go_enter Try.func64, Try.ntmps64
  go_wp2
  go_loop [5, 6] (fun out i => PeekRel s bit n out i) (fun _ i => n - (intOf i).toNat)
  case atStart => exact ⟨0, Nat.zero_le _, rfl, by simp [peekN, Nat.mod_one]⟩
  case round =>
    obtain ⟨j, hj, rfl, rfl⟩ := hrel
    by_cases hlt : j < n
    · have hx := peekN_lt s bit j
      obtain ⟨x, ex⟩ : ∃ x, peekN s bit j = x := ⟨_, rfl⟩
      rw [ex] at hx ⊢
      have Ex := Lib.hid ex
      clear ex
      by_cases hend : bit + j < 8 * s.size
      · have hbt := get_bt s
        have hlo := bt_nonneg s ((bit + j) / 8)
        have hhi := bt_le s ((bit + j) / 8)
        obtain ⟨b, eb⟩ : ∃ b, bitN s (bit + j) = b := ⟨_, rfl⟩
        have Hst := Lib.hid (number_step s (bit + j) x j b hend eb (by omega) hx)
        have Eb := Lib.hid eb
        clear eb
        go_wp2_with fail
        refine ⟨⟨j + 1, by omega, by go_num, ?_⟩, by simp [intOf]; omega⟩
        rw [Hst.out, peekN_next, Ex.out, Eb.out]
      · have Eb := Lib.hid (bitN_end s (bit + j) (by omega))
        go_wp2_with fail
        refine ⟨⟨j + 1, by omega, by go_num, ?_⟩, by simp [intOf]; omega⟩
        rw [peekN_next, Ex.out, Eb.out, Nat.zero_mul, Nat.add_zero]
    · have : j = n := by omega
      subst this
      go_wp2
      go_ret
      exact ⟨rfl, by go_grown⟩
end Go.Proofs.Ytafabheehkmfhaa
/-
  The readers of package bits and of its reference, at any arguments: one answer. Conditions: none on the arguments (numbers are of int's range).
-/
namespace Go.Proofs.Ytafabheehkmfhaa
open Go.RowKit Go.PlainAid
set_option linter.unusedVariables false
set_option linter.unusedSimpArgs false

/-- the error of a reader -/
def rchk (s : ByteArray) (b : Int) : Int := if 1048576 < s.size then 4 else if b < 0 ∨ 8 * (s.size : Int) < b then 2 else 0
def askE (s : ByteArray) (b n : Int) : Int := if rchk s b = 0 then if n < 0 ∨ 32 < n then 2 else 0 else rchk s b
def takeE (s : ByteArray) (b n : Int) : Int := if askE s b n = 0 ∧ 8 * (s.size : Int) < b + n then 5 else askE s b n
def readR (s : ByteArray) (at_ : Int) : Value := if 1048576 < s.size then .tuple #[.agg #[.string ⟨#[]⟩, .int .i64 0], .int .i64 4] else if at_ < 0 ∨ (s.size : Int) < at_ then .tuple #[.agg #[.string ⟨#[]⟩, .int .i64 0], .int .i64 2] else .tuple #[.agg #[.string s, .int .i64 (8 * at_)], .int .i64 0]
def peekR (s : ByteArray) (b n : Int) : Value := if askE s b n = 0 then .tuple #[.int .i64 (peekN s b.toNat n.toNat), .int .i64 0] else .tuple #[.int .i64 0, .int .i64 (askE s b n)]
def takeR (s : ByteArray) (b n : Int) : Value := if takeE s b n = 0 then .tuple #[.agg #[.string s, .int .i64 (b + n)], .int .i64 (peekN s b.toNat n.toNat), .int .i64 0] else .tuple #[.agg #[.string ⟨#[]⟩, .int .i64 0], .int .i64 0, .int .i64 (takeE s b n)]
def leftR (s : ByteArray) (b : Int) : Value := if rchk s b = 0 then .tuple #[.int .i64 (8 * s.size - b), .int .i64 0] else .tuple #[.int .i64 0, .int .i64 (rchk s b)]
def nextR (s : ByteArray) (b : Int) : Value := if rchk s b = 0 then .tuple #[.int .i64 ((b + 7) / 8), .int .i64 0] else .tuple #[.int .i64 0, .int .i64 (rchk s b)]
/-- a number of int's range -/
def InR (n : Int) : Prop := -9223372036854775808 ≤ n ∧ n ≤ 9223372036854775807

theorem ret_tup {v v' : Value} (h : v = v') : Ending.returned v = .returned v' := by rw [h]
theorem rchk_zero {s : ByteArray} {b : Int} (h : rchk s b = 0) : s.size ≤ 1048576 ∧ 0 ≤ b ∧ b ≤ 8 * (s.size : Int) := by
  unfold rchk at h
  split at h
  · omega
  · split at h
    · omega
    · omega
theorem rchk_nat {s : ByteArray} {b : Int} (h : rchk s b = 0) : ∃ B : Nat, b = B ∧ B ≤ 8 * s.size ∧ s.size ≤ 1048576 := by
  obtain ⟨h1, h2, h3⟩ := rchk_zero h
  obtain ⟨B, rfl⟩ := Int.eq_ofNat_of_zero_le h2
  exact ⟨B, rfl, by omega, h1⟩

set_option maxHeartbeats 1000000 in
theorem right_any (s : ByteArray) (b : Int) (w : World) (hs : s.size ≤ 9223372036854775807) :
    Calls Try.prog 23 #[.agg #[.string s, .int .i64 b]] w fun e w' => e = .returned (.int .i64 (rchk s b)) ∧ Below w.heap.size w w' := by
  by_cases h1 : 1048576 < s.size
  · have h2 : (1048576 : Int) < (s.size : Int) := by omega
    go_enter Try.func23, Try.ntmps23
    go_wp2
    go_ret
    exact ⟨ret_int (by unfold rchk; rw [if_pos h1]), by go_grown⟩
  · have h2 : (s.size : Int) ≤ 1048576 := by omega
    go_enter Try.func23, Try.ntmps23
    go_wp2
    all_goals
      go_ret
      refine ⟨ret_int ?_, by go_grown⟩
      unfold rchk
      rw [if_neg h1]
      (repeat' split) <;> omega
set_option maxHeartbeats 1000000 in
theorem right_is (s : ByteArray) (b c : Int) (w : World) (hs : s.size ≤ 9223372036854775807) (h : rchk s b = c) :
    Calls Try.prog 23 #[.agg #[.string s, .int .i64 b]] w fun e w' => e = .returned (.int .i64 c) ∧ Below w.heap.size w w' := by
  have := right_any s b w hs
  rwa [h] at this
set_option maxHeartbeats 1000000 in
theorem read_any (s : ByteArray) (at_ : Int) (w : World) (hs : s.size ≤ 9223372036854775807) :
    Calls Try.prog 25 #[.string s, .int .i64 at_] w fun e w' => e = .returned (readR s at_) ∧ Below w.heap.size w w' := by
  by_cases h1 : 1048576 < s.size
  · have h2 : (1048576 : Int) < (s.size : Int) := by omega
    go_enter Try.func25, Try.ntmps25
    go_wp2
    go_returns
    exact ⟨ret_tup (by unfold readR; rw [if_pos h1]), by go_grown⟩
  · have h2 : (s.size : Int) ≤ 1048576 := by omega
    go_enter Try.func25, Try.ntmps25
    go_wp2
    all_goals
      go_returns
      refine ⟨ret_tup ?_, by go_grown⟩
      unfold readR
      rw [if_neg h1]
    · rw [if_pos (by omega)]
    · rw [if_neg (by omega)]
    · rw [if_pos (by omega)]
set_option maxHeartbeats 1000000 in
theorem left_any (s : ByteArray) (b : Int) (w : World) (hs : s.size ≤ 9223372036854775807) :
    Calls Try.prog 31 #[.agg #[.string s, .int .i64 b]] w fun e w' => e = .returned (leftR s b) ∧ Below w.heap.size w w' := by
  obtain ⟨c, hc⟩ : ∃ c, rchk s b = c := ⟨_, rfl⟩
  by_cases h0 : c = 0
  · subst h0
    obtain ⟨B, rfl, hB, hS⟩ := rchk_nat hc
    have Hc := Lib.hid hc
    clear hc
    go_enter Try.func31, Try.ntmps31
    go_wp2_with fail
    refine (right_is s B 0 _ hs Hc.out).mono ?_
    rintro e w1 ⟨rfl, hb⟩
    obtain ⟨hcc, hff⟩ := bcell hb
    have hz := hb.size
    simp only [World.size_alloc] at hz
    have HW := Lib.hid (((Below.refl _ _).alloc (Nat.le_refl _) _).trans (hb.mono (by simp)) : Below w.heap.size w w1)
    clear hb
    go_wp2
    go_ret2
    exact ⟨ret_tup (by unfold leftR; rw [if_pos Hc.out]; rfl), HW.out⟩
  · have h1 : (c != 0) = true := by simpa using h0
    have Hc := Lib.hid hc
    clear hc
    go_enter Try.func31, Try.ntmps31
    go_wp2_with fail
    refine (right_is s b c _ hs Hc.out).mono ?_
    rintro e w1 ⟨rfl, hb⟩
    obtain ⟨hcc, hff⟩ := bcell hb
    have HW := Lib.hid (((Below.refl _ _).alloc (Nat.le_refl _) _).trans (hb.mono (by simp)) : Below w.heap.size w w1)
    clear hb
    go_wp2
    go_ret2
    exact ⟨ret_tup (by unfold leftR; rw [Hc.out, if_neg h0]; rfl), HW.out⟩
set_option maxHeartbeats 1000000 in
theorem next_any (s : ByteArray) (b : Int) (w : World) (hs : s.size ≤ 9223372036854775807) :
    Calls Try.prog 33 #[.agg #[.string s, .int .i64 b]] w fun e w' => e = .returned (nextR s b) ∧ Below w.heap.size w w' := by
  obtain ⟨c, hc⟩ : ∃ c, rchk s b = c := ⟨_, rfl⟩
  by_cases h0 : c = 0
  · subst h0
    obtain ⟨B, rfl, hB, hS⟩ := rchk_nat hc
    have Hc := Lib.hid hc
    clear hc
    go_enter Try.func33, Try.ntmps33
    go_wp2_with fail
    refine (right_is s B 0 _ hs Hc.out).mono ?_
    rintro e w1 ⟨rfl, hb⟩
    obtain ⟨hcc, hff⟩ := bcell hb
    have hz := hb.size
    simp only [World.size_alloc] at hz
    have HW := Lib.hid (((Below.refl _ _).alloc (Nat.le_refl _) _).trans (hb.mono (by simp)) : Below w.heap.size w w1)
    clear hb
    go_wp2
    go_ret2
    exact ⟨ret_tup (by unfold nextR; rw [if_pos Hc.out]; rfl), HW.out⟩
  · have h1 : (c != 0) = true := by simpa using h0
    have Hc := Lib.hid hc
    clear hc
    go_enter Try.func33, Try.ntmps33
    go_wp2_with fail
    refine (right_is s b c _ hs Hc.out).mono ?_
    rintro e w1 ⟨rfl, hb⟩
    obtain ⟨hcc, hff⟩ := bcell hb
    have HW := Lib.hid (((Below.refl _ _).alloc (Nat.le_refl _) _).trans (hb.mono (by simp)) : Below w.heap.size w w1)
    clear hb
    go_wp2
    go_ret2
    exact ⟨ret_tup (by unfold nextR; rw [Hc.out, if_neg h0]; rfl), HW.out⟩
set_option maxHeartbeats 1000000 in
theorem asked_any (s : ByteArray) (b n : Int) (w : World) (hs : s.size ≤ 9223372036854775807) :
    Calls Try.prog 62 #[.agg #[.string s, .int .i64 b], .int .i64 n] w fun e w' => e = .returned (.int .i64 (askE s b n)) ∧ Below w.heap.size w w' := by
  obtain ⟨c, hc⟩ : ∃ c, rchk s b = c := ⟨_, rfl⟩
  have Hc := Lib.hid hc
  clear hc
  go_enter Try.func62, Try.ntmps62
  go_wp2_with fail
  refine (right_is s b c _ hs Hc.out).mono ?_
  rintro e w1 ⟨rfl, hb⟩
  obtain ⟨hcc, hff⟩ := bcell hb
  have HW := Lib.hid (((Below.refl _ _).alloc (Nat.le_refl _) _).trans (hb.mono (by simp)) : Below w.heap.size w w1)
  clear hb
  by_cases h0 : c = 0
  · subst h0
    by_cases h1 : n < 0
    · go_wp2
      go_ret
      exact ⟨ret_int (by unfold askE; rw [if_pos Hc.out, if_pos (.inl h1)]), HW.out⟩
    · by_cases h2 : 32 < n
      · go_wp2
        go_ret
        exact ⟨ret_int (by unfold askE; rw [if_pos Hc.out, if_pos (.inr h2)]), HW.out⟩
      · go_wp2
        go_ret
        exact ⟨ret_int (by unfold askE; rw [if_pos Hc.out, if_neg (by omega)]), HW.out⟩
  · have h1 : (c == 0) = false := by simpa using h0
    have H0 := Lib.hid h0
    clear h0
    go_wp2
    go_ret
    exact ⟨ret_int (by unfold askE; rw [Hc.out, if_neg H0.out]), HW.out⟩
theorem asked_is (s : ByteArray) (b n c : Int) (w : World) (hs : s.size ≤ 9223372036854775807) (h : askE s b n = c) :
    Calls Try.prog 62 #[.agg #[.string s, .int .i64 b], .int .i64 n] w fun e w' => e = .returned (.int .i64 c) ∧ Below w.heap.size w w' := by
  have := asked_any s b n w hs
  rwa [h] at this
theorem askE_nat {s : ByteArray} {b n : Int} (h : askE s b n = 0) : ∃ B N : Nat, b = B ∧ n = N ∧ B ≤ 8 * s.size ∧ s.size ≤ 1048576 ∧ N ≤ 32 := by
  unfold askE at h
  split at h
  · rename_i h1
    obtain ⟨B, h2, h3, h4⟩ := rchk_nat h1
    split at h
    · omega
    · exact ⟨B, n.toNat, h2, by omega, h3, h4, by omega⟩
  · contradiction
set_option maxHeartbeats 1000000 in
theorem Peek_any (s : ByteArray) (b n : Int) (w : World) (hs : s.size ≤ 9223372036854775807) :
    Calls Try.prog 29 #[.agg #[.string s, .int .i64 b], .int .i64 n] w fun e w' => e = .returned (peekR s b n) ∧ Below w.heap.size w w' := by
  obtain ⟨c, hc⟩ : ∃ c, askE s b n = c := ⟨_, rfl⟩
  by_cases h0 : c = 0
  · subst h0
    obtain ⟨B, N, rfl, rfl, hB, hS, hN⟩ := askE_nat hc
    have Hc := Lib.hid hc
    clear hc
    go_enter Try.func29, Try.ntmps29
    go_wp2_with fail
    refine (asked_is s B N 0 _ hs Hc.out).mono ?_
    rintro e w1 ⟨rfl, hb⟩
    obtain ⟨hcc, hff⟩ := bcell hb
    have hz := hb.size
    simp only [World.size_alloc] at hz
    have HW := Lib.hid (((Below.refl _ _).alloc (Nat.le_refl _) _).trans (hb.mono (by simp)) : Below w.heap.size w w1)
    clear hb
    go_wp2_with fail
    refine (peek_core s B N _ hS hB hN).mono ?_
    rintro e w2 ⟨rfl, hb⟩
    have HW2 := Lib.hid (HW.out.trans (hb.mono (by omega)))
    clear hb hcc hff
    go_wp2
    go_ret2
    exact ⟨ret_tup (by unfold peekR; rw [if_pos Hc.out]; rfl), HW2.out⟩
  · have h1 : (c != 0) = true := by simpa using h0
    have Hc := Lib.hid hc
    clear hc
    go_enter Try.func29, Try.ntmps29
    go_wp2_with fail
    refine (asked_is s b n c _ hs Hc.out).mono ?_
    rintro e w1 ⟨rfl, hb⟩
    obtain ⟨hcc, hff⟩ := bcell hb
    have HW := Lib.hid (((Below.refl _ _).alloc (Nat.le_refl _) _).trans (hb.mono (by simp)) : Below w.heap.size w w1)
    clear hb
    go_wp2
    go_ret2
    exact ⟨ret_tup (by unfold peekR; rw [Hc.out, if_neg h0]; rfl), HW.out⟩
end Go.Proofs.Ytafabheehkmfhaa
/-
  Take of package bits, and the reference's readers: one answer. Conditions: none on the arguments (numbers are of int's range).
-/
namespace Go.Proofs.Ytafabheehkmfhaa
open Go.RowKit Go.PlainAid
set_option linter.unusedVariables false
set_option linter.unusedSimpArgs false

set_option maxHeartbeats 2000000 in
theorem take_any (s : ByteArray) (b n : Int) (w : World) (hs : s.size ≤ 9223372036854775807) :
    Calls Try.prog 27 #[.agg #[.string s, .int .i64 b], .int .i64 n] w fun e w' => e = .returned (takeR s b n) ∧ Below w.heap.size w w' := by
  obtain ⟨c, hc⟩ : ∃ c, askE s b n = c := ⟨_, rfl⟩
  by_cases h0 : c = 0
  · subst h0
    obtain ⟨B, N, rfl, rfl, hB, hS, hN⟩ := askE_nat hc
    by_cases hlt : 8 * s.size < B + N
    · have ht : (8 : Int) * (s.size : Int) - (B : Int) < (N : Int) := by omega
      have Ht := Lib.hid (show takeE s B N = 5 by unfold takeE; rw [if_pos ⟨hc, by omega⟩])
      have Hc := Lib.hid hc
      clear hc
      go_enter Try.func27, Try.ntmps27
      go_wp2_with fail
      refine (asked_is s B N 0 _ hs Hc.out).mono ?_
      rintro e w1 ⟨rfl, hb⟩
      obtain ⟨hcc, hff⟩ := bcell hb
      have hz := hb.size
      simp only [World.size_alloc] at hz
      have HW := Lib.hid ((((Below.refl _ _).alloc (Nat.le_refl _) _).alloc (by simp) _).trans (hb.mono (by simp; omega)) : Below w.heap.size w w1)
      clear hb
      go_wp2
      refine bodyPost_ret (by simp [results, Try.results27, go_sem, hcc]; try rfl) rfl ?_
      exact ⟨ret_tup (by unfold takeR; rw [Ht.out, if_neg (by decide)]; try rfl), ((HW.out.setCell (by simp) _).setCell (by simp) _)⟩
    · have ht : ¬ (8 : Int) * (s.size : Int) - (B : Int) < (N : Int) := by omega
      have Ht := Lib.hid (show takeE s B N = 0 by unfold takeE; rw [if_neg (by omega)]; exact hc)
      have Hc := Lib.hid hc
      clear hc
      go_enter Try.func27, Try.ntmps27
      go_wp2_with fail
      refine (asked_is s B N 0 _ hs Hc.out).mono ?_
      rintro e w1 ⟨rfl, hb⟩
      obtain ⟨hcc, hff⟩ := bcell hb
      have hz := hb.size
      simp only [World.size_alloc] at hz
      have HW := Lib.hid ((((Below.refl _ _).alloc (Nat.le_refl _) _).alloc (by simp) _).trans (hb.mono (by simp; omega)) : Below w.heap.size w w1)
      have hX : Blk w1 w.heap.size 34 #[.string s, .int .i64 B] := ((Blk.new w 34 #[.string s, .int .i64 B]).alloc _).below hb (by simp; omega)
      have hZ : Blk w1 (w.heap.size + 1) 34 #[.string ⟨#[]⟩, .int .i64 0] := by
        have := (Blk.new (w.alloc (.cells #[.string s, .int .i64 B] 34)) 34 #[.string ⟨#[]⟩, .int .i64 0]).below hb (by simp)
        simpa using this
      have HX := Lib.hid hX
      have HZ := Lib.hid hZ
      clear hb hX hZ
      go_wp2_with fail
      refine (peek_core s B N _ hS hB hN).mono ?_
      rintro e w2 ⟨rfl, hb⟩
      have hz2 := hb.size
      have hX2 := HX.out.below hb HX.out.lt
      have hZ2 := HZ.out.below hb HZ.out.lt
      have c0 := hX2.cell 0
      have c1 := hX2.cell 1
      have d0 := hZ2.cell 0
      have d1 := hZ2.cell 1
      simp only [List.getElem?_toArray, List.getElem?_cons_zero, List.getElem?_cons_succ] at c0 c1 d0 d1
      have f0 := hX2.frozen 0
      have f1 := hX2.frozen 1
      have g0 := hZ2.frozen 0
      have g1 := hZ2.frozen 1
      have HW2 := Lib.hid (HW.out.trans (hb.mono (by omega)))
      clear hb hcc hff hX2 hZ2
      obtain ⟨x, ex⟩ : ∃ x : Int, ((peekN s B N : Nat) : Int) = x := ⟨_, rfl⟩
      rw [ex]
      have Ex := Lib.hid ex
      clear ex
      go_wp2
      refine bodyPost_ret (by simp [results, Try.results27, go_sem, d0, d1]; try rfl) rfl ?_
      exact ⟨ret_tup (by unfold takeR; rw [Ht.out, if_pos rfl]; simp only [Int.toNat_natCast, Ex.out]; try rfl), (((HW2.out.setCell (by simp) _).setCell (by simp) _).setCell (by simp) _)⟩
  · have h1 : (c != 0) = true := by simpa using h0
    have h2 : (c == 0) = false := by simpa using h0
    have Ht := Lib.hid (show takeE s b n = c by unfold takeE; rw [if_neg (by rintro ⟨h, _⟩; exact h0 (hc.symm.trans h))]; exact hc)
    have Hc := Lib.hid hc
    have H0 := Lib.hid h0
    clear hc h0
    go_enter Try.func27, Try.ntmps27
    go_wp2_with fail
    refine (asked_is s b n c _ hs Hc.out).mono ?_
    rintro e w1 ⟨rfl, hb⟩
    obtain ⟨hcc, hff⟩ := bcell hb
    have hz := hb.size
    simp only [World.size_alloc] at hz
    have HW := Lib.hid ((((Below.refl _ _).alloc (Nat.le_refl _) _).alloc (by simp) _).trans (hb.mono (by simp; omega)) : Below w.heap.size w w1)
    clear hb
    go_wp2
    refine bodyPost_ret (by simp [results, Try.results27, go_sem, hcc]; try rfl) rfl ?_
    exact ⟨ret_tup (by unfold takeR; rw [Ht.out, if_neg H0.out]; try rfl), ((HW.out.setCell (by simp) _).setCell (by simp) _)⟩
set_option maxHeartbeats 1000000 in
theorem rright_any (s : ByteArray) (b : Int) (w : World) (hs : s.size ≤ 9223372036854775807) :
    Calls Try.prog 24 #[.agg #[.string s, .int .i64 b]] w fun e w' => e = .returned (.int .i64 (rchk s b)) ∧ Below w.heap.size w w' := by
  by_cases h1 : 1048576 < s.size
  · have h2 : (1048576 : Int) < (s.size : Int) := by omega
    go_enter Try.func24, Try.ntmps24
    go_wp2
    go_ret
    exact ⟨ret_int (by unfold rchk; rw [if_pos h1]), by go_grown⟩
  · have h2 : (s.size : Int) ≤ 1048576 := by omega
    go_enter Try.func24, Try.ntmps24
    go_wp2
    all_goals
      go_ret
      refine ⟨ret_int ?_, by go_grown⟩
      unfold rchk
      rw [if_neg h1]
      (repeat' split) <;> omega
theorem rright_is (s : ByteArray) (b c : Int) (w : World) (hs : s.size ≤ 9223372036854775807) (h : rchk s b = c) :
    Calls Try.prog 24 #[.agg #[.string s, .int .i64 b]] w fun e w' => e = .returned (.int .i64 c) ∧ Below w.heap.size w w' := by
  have := rright_any s b w hs
  rwa [h] at this
set_option maxHeartbeats 1000000 in
theorem rread_any (s : ByteArray) (at_ : Int) (w : World) (hs : s.size ≤ 9223372036854775807) :
    Calls Try.prog 26 #[.string s, .int .i64 at_] w fun e w' => e = .returned (readR s at_) ∧ Below w.heap.size w w' := by
  by_cases h1 : 1048576 < s.size
  · have h2 : (1048576 : Int) < (s.size : Int) := by omega
    go_enter Try.func26, Try.ntmps26
    go_wp2
    go_returns
    exact ⟨ret_tup (by unfold readR; rw [if_pos h1]), by go_grown⟩
  · have h2 : (s.size : Int) ≤ 1048576 := by omega
    go_enter Try.func26, Try.ntmps26
    go_wp2
    all_goals
      go_returns
      refine ⟨ret_tup ?_, by go_grown⟩
      unfold readR
      rw [if_neg h1]
    · rw [if_pos (by omega)]
    · rw [if_neg (by omega)]
    · rw [if_pos (by omega)]
set_option maxHeartbeats 1000000 in
theorem rleft_any (s : ByteArray) (b : Int) (w : World) (hs : s.size ≤ 9223372036854775807) :
    Calls Try.prog 32 #[.agg #[.string s, .int .i64 b]] w fun e w' => e = .returned (leftR s b) ∧ Below w.heap.size w w' := by
  obtain ⟨c, hc⟩ : ∃ c, rchk s b = c := ⟨_, rfl⟩
  by_cases h0 : c = 0
  · subst h0
    obtain ⟨B, rfl, hB, hS⟩ := rchk_nat hc
    have Hc := Lib.hid hc
    clear hc
    go_enter Try.func32, Try.ntmps32
    go_wp2_with fail
    refine (rright_is s B 0 _ hs Hc.out).mono ?_
    rintro e w1 ⟨rfl, hb⟩
    obtain ⟨hcc, hff⟩ := bcell hb
    have hz := hb.size
    simp only [World.size_alloc] at hz
    have HW := Lib.hid (((Below.refl _ _).alloc (Nat.le_refl _) _).trans (hb.mono (by simp)) : Below w.heap.size w w1)
    clear hb
    go_wp2
    go_ret2
    exact ⟨ret_tup (by unfold leftR; rw [if_pos Hc.out]; rfl), HW.out⟩
  · have h1 : (c != 0) = true := by simpa using h0
    have Hc := Lib.hid hc
    clear hc
    go_enter Try.func32, Try.ntmps32
    go_wp2_with fail
    refine (rright_is s b c _ hs Hc.out).mono ?_
    rintro e w1 ⟨rfl, hb⟩
    obtain ⟨hcc, hff⟩ := bcell hb
    have HW := Lib.hid (((Below.refl _ _).alloc (Nat.le_refl _) _).trans (hb.mono (by simp)) : Below w.heap.size w w1)
    clear hb
    go_wp2
    go_ret2
    exact ⟨ret_tup (by unfold leftR; rw [Hc.out, if_neg h0]; rfl), HW.out⟩
set_option maxHeartbeats 1000000 in
theorem rnext_any (s : ByteArray) (b : Int) (w : World) (hs : s.size ≤ 9223372036854775807) :
    Calls Try.prog 34 #[.agg #[.string s, .int .i64 b]] w fun e w' => e = .returned (nextR s b) ∧ Below w.heap.size w w' := by
  obtain ⟨c, hc⟩ : ∃ c, rchk s b = c := ⟨_, rfl⟩
  by_cases h0 : c = 0
  · subst h0
    obtain ⟨B, rfl, hB, hS⟩ := rchk_nat hc
    have Hc := Lib.hid hc
    clear hc
    go_enter Try.func34, Try.ntmps34
    go_wp2_with fail
    refine (rright_is s B 0 _ hs Hc.out).mono ?_
    rintro e w1 ⟨rfl, hb⟩
    obtain ⟨hcc, hff⟩ := bcell hb
    have hz := hb.size
    simp only [World.size_alloc] at hz
    have HW := Lib.hid (((Below.refl _ _).alloc (Nat.le_refl _) _).trans (hb.mono (by simp)) : Below w.heap.size w w1)
    clear hb
    go_wp2
    go_ret2
    exact ⟨ret_tup (by unfold nextR; rw [if_pos Hc.out]; rfl), HW.out⟩
  · have h1 : (c != 0) = true := by simpa using h0
    have Hc := Lib.hid hc
    clear hc
    go_enter Try.func34, Try.ntmps34
    go_wp2_with fail
    refine (rright_is s b c _ hs Hc.out).mono ?_
    rintro e w1 ⟨rfl, hb⟩
    obtain ⟨hcc, hff⟩ := bcell hb
    have HW := Lib.hid (((Below.refl _ _).alloc (Nat.le_refl _) _).trans (hb.mono (by simp)) : Below w.heap.size w w1)
    clear hb
    go_wp2
    go_ret2
    exact ⟨ret_tup (by unfold nextR; rw [Hc.out, if_neg h0]; rfl), HW.out⟩
set_option maxHeartbeats 1000000 in
theorem rPeek_any (s : ByteArray) (b n : Int) (w : World) (hs : s.size ≤ 9223372036854775807) :
    Calls Try.prog 30 #[.agg #[.string s, .int .i64 b], .int .i64 n] w fun e w' => e = .returned (peekR s b n) ∧ Below w.heap.size w w' := by
  obtain ⟨c, hc⟩ : ∃ c, rchk s b = c := ⟨_, rfl⟩
  by_cases h0 : c = 0
  · subst h0
    obtain ⟨B, rfl, hB, hS⟩ := rchk_nat hc
    have Hc := Lib.hid hc
    clear hc
    go_enter Try.func30, Try.ntmps30
    go_wp2_with fail
    refine (rright_is s B 0 _ hs Hc.out).mono ?_
    rintro e w1 ⟨rfl, hb⟩
    obtain ⟨hcc, hff⟩ := bcell hb
    have hz := hb.size
    simp only [World.size_alloc] at hz
    have HW := Lib.hid (((Below.refl _ _).alloc (Nat.le_refl _) _).trans (hb.mono (by simp)) : Below w.heap.size w w1)
    clear hb
    by_cases h1 : n < 0
    · go_wp2
      go_ret2
      exact ⟨ret_tup (by have h9 : askE s B n = 2 := (by unfold askE; rw [if_pos Hc.out, if_pos (.inl h1)]); unfold peekR; rw [h9, if_neg (by decide)]; try rfl), HW.out⟩
    · by_cases h2 : 32 < n
      · go_wp2
        go_ret2
        exact ⟨ret_tup (by have h9 : askE s B n = 2 := (by unfold askE; rw [if_pos Hc.out, if_pos (.inr h2)]); unfold peekR; rw [h9, if_neg (by decide)]; try rfl), HW.out⟩
      · obtain ⟨N, rfl⟩ := Int.eq_ofNat_of_zero_le (Int.not_lt.1 h1)
        go_wp2_with fail
        refine (number_core s B N _ hS hB (by omega)).mono ?_
        rintro e w2 ⟨rfl, hb⟩
        have HW2 := Lib.hid (HW.out.trans (hb.mono (by omega)))
        clear hb hcc hff
        go_wp2
        go_ret2
        exact ⟨ret_tup (by have h9 : askE s B N = 0 := (by unfold askE; rw [if_pos Hc.out, if_neg (by omega)]); unfold peekR; rw [if_pos h9]; try rfl), HW2.out⟩
  · have h1 : (c != 0) = true := by simpa using h0
    have h2 : (c == 0) = false := by simpa using h0
    have Hc := Lib.hid hc
    have H0 := Lib.hid h0
    clear hc h0
    go_enter Try.func30, Try.ntmps30
    go_wp2_with fail
    refine (rright_is s b c _ hs Hc.out).mono ?_
    rintro e w1 ⟨rfl, hb⟩
    obtain ⟨hcc, hff⟩ := bcell hb
    have HW := Lib.hid (((Below.refl _ _).alloc (Nat.le_refl _) _).trans (hb.mono (by simp)) : Below w.heap.size w w1)
    clear hb
    go_wp2
    go_ret2
    exact ⟨ret_tup (by have h9 : askE s b n = c := (by unfold askE; rw [Hc.out, if_neg H0.out]); unfold peekR; rw [h9, if_neg H0.out]; try rfl), HW.out⟩
theorem rPeek_ok (s : ByteArray) (b n : Int) (w : World) (hs : s.size ≤ 9223372036854775807) (h : askE s b n = 0) :
    Calls Try.prog 30 #[.agg #[.string s, .int .i64 b], .int .i64 n] w fun e w' => e = .returned (.tuple #[.int .i64 (peekN s b.toNat n.toNat), .int .i64 0]) ∧ Below w.heap.size w w' := by
  have := rPeek_any s b n w hs
  unfold peekR at this
  rwa [if_pos h] at this
theorem rPeek_no (s : ByteArray) (b n c : Int) (w : World) (hs : s.size ≤ 9223372036854775807) (h : askE s b n = c) (h0 : c ≠ 0) :
    Calls Try.prog 30 #[.agg #[.string s, .int .i64 b], .int .i64 n] w fun e w' => e = .returned (.tuple #[.int .i64 0, .int .i64 c]) ∧ Below w.heap.size w w' := by
  have := rPeek_any s b n w hs
  unfold peekR at this
  rwa [h, if_neg h0] at this
set_option maxHeartbeats 2000000 in
theorem rtake_any (s : ByteArray) (b n : Int) (w : World) (hs : s.size ≤ 9223372036854775807) :
    Calls Try.prog 28 #[.agg #[.string s, .int .i64 b], .int .i64 n] w fun e w' => e = .returned (takeR s b n) ∧ Below w.heap.size w w' := by
  obtain ⟨c, hc⟩ : ∃ c, askE s b n = c := ⟨_, rfl⟩
  by_cases h0 : c = 0
  · subst h0
    obtain ⟨B, N, rfl, rfl, hB, hS, hN⟩ := askE_nat hc
    obtain ⟨x, ex⟩ : ∃ x : Int, ((peekN s B N : Nat) : Int) = x := ⟨_, rfl⟩
    have Ex := Lib.hid ex
    clear ex
    by_cases hlt : 8 * s.size < B + N
    · have ht : (8 : Int) * (s.size : Int) < (B : Int) + (N : Int) := by omega
      have Ht := Lib.hid (show takeE s B N = 5 by unfold takeE; rw [if_pos ⟨hc, by omega⟩])
      have Hc := Lib.hid hc
      clear hc
      go_enter Try.func28, Try.ntmps28
      go_wp2_with fail
      refine (rPeek_ok s B N _ hs Hc.out).mono ?_
      rintro e w1 ⟨rfl, hb⟩
      simp only [Int.toNat_natCast, Ex.out]
      obtain ⟨hcc, hff⟩ := bcell hb
      have hz := hb.size
      simp only [World.size_alloc] at hz
      have HW := Lib.hid ((((Below.refl _ _).alloc (Nat.le_refl _) _).alloc (by simp) _).trans (hb.mono (by simp; omega)) : Below w.heap.size w w1)
      clear hb
      go_wp2
      refine bodyPost_ret (by simp [results, Try.results28, go_sem, hcc]; try rfl) rfl ?_
      exact ⟨ret_tup (by unfold takeR; rw [Ht.out, if_neg (by decide)]; try rfl), ((HW.out.setCell (by simp) _).setCell (by simp) _)⟩
    · have ht : ¬ (8 : Int) * (s.size : Int) < (B : Int) + (N : Int) := by omega
      have Ht := Lib.hid (show takeE s B N = 0 by unfold takeE; rw [if_neg (by omega)]; exact hc)
      have Hc := Lib.hid hc
      clear hc
      go_enter Try.func28, Try.ntmps28
      go_wp2_with fail
      refine (rPeek_ok s B N _ hs Hc.out).mono ?_
      rintro e w1 ⟨rfl, hb⟩
      simp only [Int.toNat_natCast, Ex.out]
      obtain ⟨hcc, hff⟩ := bcell hb
      have hz := hb.size
      simp only [World.size_alloc] at hz
      have HW := Lib.hid ((((Below.refl _ _).alloc (Nat.le_refl _) _).alloc (by simp) _).trans (hb.mono (by simp; omega)) : Below w.heap.size w w1)
      have hX : Blk w1 w.heap.size 34 #[.string s, .int .i64 B] := ((Blk.new w 34 #[.string s, .int .i64 B]).alloc _).below hb (by simp; omega)
      have hZ : Blk w1 (w.heap.size + 1) 34 #[.string ⟨#[]⟩, .int .i64 0] := by
        have := (Blk.new (w.alloc (.cells #[.string s, .int .i64 B] 34)) 34 #[.string ⟨#[]⟩, .int .i64 0]).below hb (by simp)
        simpa using this
      have c0 := hX.cell 0
      have c1 := hX.cell 1
      have d0 := hZ.cell 0
      have d1 := hZ.cell 1
      simp only [List.getElem?_toArray, List.getElem?_cons_zero, List.getElem?_cons_succ] at c0 c1 d0 d1
      have f0 := hX.frozen 0
      have f1 := hX.frozen 1
      have g0 := hZ.frozen 0
      have g1 := hZ.frozen 1
      clear hb hX hZ hcc hff
      go_wp2
      refine bodyPost_ret (by simp [results, Try.results28, go_sem, d0, d1]; try rfl) rfl ?_
      exact ⟨ret_tup (by unfold takeR; rw [Ht.out, if_pos rfl]; simp only [Int.toNat_natCast, Ex.out]; try rfl), (((HW.out.setCell (by simp) _).setCell (by simp) _).setCell (by simp) _)⟩
  · have h1 : (c != 0) = true := by simpa using h0
    have h2 : (c == 0) = false := by simpa using h0
    have Ht := Lib.hid (show takeE s b n = c by unfold takeE; rw [if_neg (by rintro ⟨h, _⟩; exact h0 (hc.symm.trans h))]; exact hc)
    have Hc := Lib.hid hc
    have H0 := Lib.hid h0
    clear hc h0
    go_enter Try.func28, Try.ntmps28
    go_wp2_with fail
    refine (rPeek_no s b n c _ hs Hc.out H0.out).mono ?_
    rintro e w1 ⟨rfl, hb⟩
    obtain ⟨hcc, hff⟩ := bcell hb
    have hz := hb.size
    simp only [World.size_alloc] at hz
    have HW := Lib.hid ((((Below.refl _ _).alloc (Nat.le_refl _) _).alloc (by simp) _).trans (hb.mono (by simp; omega)) : Below w.heap.size w w1)
    clear hb
    go_wp2
    refine bodyPost_ret (by simp [results, Try.results28, go_sem, hcc]; try rfl) rfl ?_
    exact ⟨ret_tup (by unfold takeR; rw [Ht.out, if_neg H0.out]; try rfl), ((HW.out.setCell (by simp) _).setCell (by simp) _)⟩
end Go.Proofs.Ytafabheehkmfhaa
/-
  Package bits by contract: Put, Done, Take, Next, and the reference's. Conditions: each theorem's own.
-/
namespace Go.Proofs.Ytafabheehkmfhaa
open Go.RowKit
set_option linter.unusedVariables false
set_option linter.unusedSimpArgs false
set_option maxRecDepth 100000
abbrev W3 : Type := ByteArray × Int × Int
def zW : W3 := (⟨#[]⟩, 0, 0)
/-- what Put answers -/
def putT (w : W3) (k v : Int) : W3 × Int :=
  if wchk w.1 w.2.1 w.2.2 = 0 then if 0 ≤ k ∧ k ≤ 32 ∧ 0 ≤ v ∧ v < 2 ^ k.toNat then
    (if 1048576 < (8 * w.1.size + w.2.2.toNat + k.toNat) / 8 then (zW, 4) else
      ((wS (8 * w.1.size + w.2.2.toNat + k.toNat) (leN w.1.data.toList + w.2.1.toNat * 2 ^ (8 * w.1.size) + v.toNat * 2 ^ (8 * w.1.size + w.2.2.toNat)),
        (wP (8 * w.1.size + w.2.2.toNat + k.toNat) (leN w.1.data.toList + w.2.1.toNat * 2 ^ (8 * w.1.size) + v.toNat * 2 ^ (8 * w.1.size + w.2.2.toNat)) : Nat), (((8 * w.1.size + w.2.2.toNat + k.toNat) % 8 : Nat) : Int)), 0)) else (zW, 2) else (zW, wchk w.1 w.2.1 w.2.2)
theorem putR_T (s : ByteArray) (p n k v : Int) : putR s p n k v = .tuple #[.agg #[.string (putT (s, p, n) k v).1.1, .int .i64 (putT (s, p, n) k v).1.2.1, .int .i64 (putT (s, p, n) k v).1.2.2], .int .i64 (putT (s, p, n) k v).2] := by
  unfold putR putT putOut zeroV
  split
  · split
    · split <;> rfl
    · rfl
  · rfl
def doneT (w : W3) : ByteArray × Int :=
  if wchk w.1 w.2.1 w.2.2 = 0 then (if 1048576 < (8 * w.1.size + w.2.2.toNat + (8 - (8 * w.1.size + w.2.2.toNat) % 8) % 8) / 8 then (⟨#[]⟩, 4) else
    (wS (8 * w.1.size + w.2.2.toNat + (8 - (8 * w.1.size + w.2.2.toNat) % 8) % 8) (leN w.1.data.toList + w.2.1.toNat * 2 ^ (8 * w.1.size) + 0 * 2 ^ (8 * w.1.size + w.2.2.toNat)), 0)) else (⟨#[]⟩, wchk w.1 w.2.1 w.2.2)
theorem alignR_T (s : ByteArray) (p n : Int) : ∃ a b, alignR s p n = .tuple #[.agg #[.string (doneT (s, p, n)).1, .int .i64 a, .int .i64 b], .int .i64 (doneT (s, p, n)).2] := by
  unfold alignR doneT putOut zeroV
  split
  · split <;> exact ⟨_, _, rfl⟩
  · exact ⟨_, _, rfl⟩
abbrev R2 : Type := ByteArray × Int
def takeT (r : R2) (n : Int) : R2 × Int × Int := if takeE r.1 r.2 n = 0 then ((r.1, r.2 + n), ((peekN r.1 r.2.toNat n.toNat : Nat) : Int), 0) else ((⟨#[]⟩, 0), 0, takeE r.1 r.2 n)
theorem takeR_T (s : ByteArray) (b n : Int) : takeR s b n = .tuple #[.agg #[.string (takeT (s, b) n).1.1, .int .i64 (takeT (s, b) n).1.2], .int .i64 (takeT (s, b) n).2.1, .int .i64 (takeT (s, b) n).2.2] := by
  unfold takeR takeT
  split <;> rfl
def nextT (r : R2) : Int × Int := if rchk r.1 r.2 = 0 then ((r.2 + 7) / 8, 0) else (0, rchk r.1 r.2)
theorem nextR_T (s : ByteArray) (b : Int) : nextR s b = .tuple #[.int .i64 (nextT (s, b)).1, .int .i64 (nextT (s, b)).2] := by
  unfold nextR nextT
  split <;> rfl
def sPut : Spec where
  ι := W3 × Int × Int
  dec l _ := match l with
    | [.ag [.v (.string s), .v (.int .i64 p), .v (.int .i64 n)], .v (.int .i64 k), .v (.int .i64 v)] => some (((s, p, n), k, v), [])
    | _ => none
  args i := [.ag [.v (.string i.1.1), .v (.int .i64 i.1.2.1), .v (.int .i64 i.1.2.2)], .v (.int .i64 i.2.1), .v (.int .i64 i.2.2)]
  ret i := .tu [.ag [.v (.string (putT i.1 i.2.1 i.2.2).1.1), .v (.int .i64 (putT i.1 i.2.1 i.2.2).1.2.1), .v (.int .i64 (putT i.1 i.2.1 i.2.2).1.2.2)], .v (.int .i64 (putT i.1 i.2.1 i.2.2).2)]
def sDone : Spec where
  ι := W3
  dec l _ := match l with
    | [.ag [.v (.string s), .v (.int .i64 p), .v (.int .i64 n)]] => some ((s, p, n), [])
    | _ => none
  args i := [.ag [.v (.string i.1), .v (.int .i64 i.2.1), .v (.int .i64 i.2.2)]]
  ret i := .tu [.v (.string (doneT i).1), .v (.int .i64 (doneT i).2)]
def sTake : Spec where
  ι := R2 × Int
  dec l _ := match l with
    | [.ag [.v (.string s), .v (.int .i64 b)], .v (.int .i64 n)] => some (((s, b), n), [])
    | _ => none
  args i := [.ag [.v (.string i.1.1), .v (.int .i64 i.1.2)], .v (.int .i64 i.2)]
  pre i := [⟨i.1.1.size ≤ 9223372036854775807, inferInstance⟩]
  ret i := .tu [.ag [.v (.string (takeT i.1 i.2).1.1), .v (.int .i64 (takeT i.1 i.2).1.2)], .v (.int .i64 (takeT i.1 i.2).2.1), .v (.int .i64 (takeT i.1 i.2).2.2)]
def sNext : Spec where
  ι := R2
  dec l _ := match l with
    | [.ag [.v (.string s), .v (.int .i64 b)]] => some ((s, b), [])
    | _ => none
  args i := [.ag [.v (.string i.1), .v (.int .i64 i.2)]]
  pre i := [⟨i.1.size ≤ 9223372036854775807, inferInstance⟩]
  ret i := .tu [.v (.int .i64 (nextT i).1), .v (.int .i64 (nextT i).2)]
theorem put_sound : Sound Try.prog 17 sPut.ctr := sPut.sound (by kernel_rfl)
  (fun l H n i ls h => by
    simp only [sPut] at h i
    split at h
    · cases h; exact ⟨rfl, rfl⟩
    · cases h)
  fun i _ => sat_of_calls (fun w => by have := put_any i.1.1 i.1.2.1 i.1.2.2 i.2.1 i.2.2 w; rw [putR_T] at this; exact this) rfl rfl
theorem rput_sound : Sound Try.prog 18 sPut.ctr := sPut.sound (by kernel_rfl)
  (fun l H n i ls h => by
    simp only [sPut] at h i
    split at h
    · cases h; exact ⟨rfl, rfl⟩
    · cases h)
  fun i _ => sat_of_calls (fun w => by have := rput_any i.1.1 i.1.2.1 i.1.2.2 i.2.1 i.2.2 w; rw [putR_T] at this; exact this) rfl rfl
theorem done_sound : Sound Try.prog 21 sDone.ctr := sDone.sound (by kernel_rfl)
  (fun l H n i ls h => by
    simp only [sDone] at h i
    split at h
    · cases h; exact ⟨rfl, rfl⟩
    · cases h)
  fun i _ => sat_of_calls (fun w => by
    obtain ⟨a, b, e⟩ := alignR_T i.1 i.2.1 i.2.2
    exact done_of i.1 _ i.2.1 i.2.2 _ _ _ w fun w => by have := align_any i.1 i.2.1 i.2.2 w; rw [e] at this; exact this) rfl rfl
theorem rdone_sound : Sound Try.prog 22 sDone.ctr := sDone.sound (by kernel_rfl)
  (fun l H n i ls h => by
    simp only [sDone] at h i
    split at h
    · cases h; exact ⟨rfl, rfl⟩
    · cases h)
  fun i _ => sat_of_calls (fun w => by
    obtain ⟨a, b, e⟩ := alignR_T i.1 i.2.1 i.2.2
    exact rdone_of i.1 _ i.2.1 i.2.2 _ _ _ w fun w => by have := ralign_any i.1 i.2.1 i.2.2 w; rw [e] at this; exact this) rfl rfl
theorem take_sound : Sound Try.prog 27 sTake.ctr := sTake.sound (by kernel_rfl)
  (fun l H n i ls h => by
    simp only [sTake] at h i
    split at h
    · cases h; exact ⟨rfl, rfl⟩
    · cases h)
  fun i hc => sat_of_calls (fun w => by have := take_any i.1.1 i.1.2 i.2 w (hc ⟨i.1.1.size ≤ 9223372036854775807, inferInstance⟩ (by simp [sTake])); rw [takeR_T] at this; exact this) rfl rfl
theorem rtake_sound : Sound Try.prog 28 sTake.ctr := sTake.sound (by kernel_rfl)
  (fun l H n i ls h => by
    simp only [sTake] at h i
    split at h
    · cases h; exact ⟨rfl, rfl⟩
    · cases h)
  fun i hc => sat_of_calls (fun w => by have := rtake_any i.1.1 i.1.2 i.2 w (hc ⟨i.1.1.size ≤ 9223372036854775807, inferInstance⟩ (by simp [sTake])); rw [takeR_T] at this; exact this) rfl rfl
theorem next_sound : Sound Try.prog 33 sNext.ctr := sNext.sound (by kernel_rfl)
  (fun l H n i ls h => by
    simp only [sNext] at h i
    split at h
    · cases h; exact ⟨rfl, rfl⟩
    · cases h)
  fun i hc => sat_of_calls (fun w => by have := next_any i.1 i.2 w (hc ⟨i.1.size ≤ 9223372036854775807, inferInstance⟩ (by simp [sNext])); rw [nextR_T] at this; exact this) rfl rfl
theorem rnext_sound : Sound Try.prog 34 sNext.ctr := sNext.sound (by kernel_rfl)
  (fun l H n i ls h => by
    simp only [sNext] at h i
    split at h
    · cases h; exact ⟨rfl, rfl⟩
    · cases h)
  fun i hc => sat_of_calls (fun w => by have := rnext_any i.1 i.2 w (hc ⟨i.1.size ≤ 9223372036854775807, inferInstance⟩ (by simp [sNext])); rw [nextR_T] at this; exact this) rfl rfl
def G02 : List (Nat × Ctr) := [(17, sPut.ctr), (18, sPut.ctr), (21, sDone.ctr), (22, sDone.ctr), (27, sTake.ctr), (28, sTake.ctr), (33, sNext.ctr), (34, sNext.ctr)]
theorem G02_ok : AllOk Try.prog G02 := .cons put_sound <| .cons rput_sound <| .cons done_sound <| .cons rdone_sound <| .cons take_sound <| .cons rtake_sound <| .cons next_sound <| .cons rnext_sound .nil
theorem mixed : Try.prog.follows .mixedOrders = true := by kernel_rfl
end Go.Proofs.Ytafabheehkmfhaa
/-
  Chapter 8: what the small functions answer, in plain numbers and lists. Conditions: none (definitions).
-/
namespace Go.Proofs.Ytafabheehkmfhaa
set_option linter.unusedVariables false
/-! ### numbers -/
def hiI (n : Int) : Int := cond (decide (n ≤ 0)) (-1) (Nat.log2 n.toNat : Nat)
def hiM (n : Int) (i : Nat) : Int := cond (decide (n ≤ 0)) (-1) (min ((i : Int) - 1) (Nat.log2 n.toNat : Nat))
def modI (x m : Int) : Int := cond (decide (m < 1)) 0 (x % m)
def atI (l : List Int) (i : Int) : Int := cond (decide (i < 0) || decide ((l.length : Int) ≤ i)) 0 (l.getD i.toNat 0)
def minL (l : List Int) : Int := l.tail.foldl min (l.headD 0)
def eqI (a b : List Int) : Bool := a == b
def pt (p : Int) : Int := cond (decide (p < 0)) 1 p
def pts (l : List Int) : Int := l.foldl (fun s p => s + pt p) 0
def dbad (log : Int) (xs : List Int) : Bool := decide (xs.length < 1) || decide (256 < xs.length) || xs.getD (xs.length - 1) 0 == 0 || xs.any (fun x => decide (x < -1)) || !(pts xs == 2 ^ log.toNat)
def dchk (log : Int) (xs : List Int) : Int := cond (decide (log < 5) || decide (12 < log)) 31 (cond (dbad log xs) 23 0)
def dsize (log : Int) : Int := cond (decide (log < 0) || decide (12 < log)) 0 (2 ^ log.toNat)
def InW (l : List Int) : Bool := l.all fun x => decide (-9223372036854775808 ≤ x) && decide (x ≤ 9223372036854775807)
def inW (x : Int) : Bool := decide (-9223372036854775808 ≤ x) && decide (x ≤ 9223372036854775807)
def shB (left : Int) : Int := hiI (left + 1) + 1
def shT (left : Int) : Int := 2 ^ (shB left).toNat - 1 - (left + 1)
end Go.Proofs.Ytafabheehkmfhaa
/-
  Chapter 8: what the small functions answer, and their contracts. Conditions: none (definitions).
-/
namespace Go.Proofs.Ytafabheehkmfhaa
open Go Go.RowKit
set_option linter.unusedVariables false
set_option linter.unusedSimpArgs false
set_option maxRecDepth 100000
def sHigh : Spec where
  ι := Int
  dec l H := match l with
    | [.v (.int .i64 n)] => some (n, [])
    | _ => none
  args := fun n => [.v (.int .i64 n)]
  pre := fun n => [⟨n ≤ 9223372036854775807, inferInstance⟩]
  ret := fun n => .v (.int .i64 (hiI n))
theorem sHigh_enc : ∀ l H n i ls, sHigh.dec l H = some (i, ls) → l = renL (rho ls n) (sHigh.args i) ∧ givenHp H ls = renH (rho ls n) (sHigh.hp i) := by
  intro l H n i ls h
  simp only [sHigh] at h
  repeat' split at h
  all_goals first
    | (cases h; done)
    | (cases h; exact ⟨rfl, rfl⟩)
def sBits : Spec where
  ι := Int
  dec l H := match l with
    | [.v (.int .i64 n)] => some (n, [])
    | _ => none
  args := fun n => [.v (.int .i64 n)]
  pre := fun n => [⟨n ≤ 9223372036854775807, inferInstance⟩]
  ret := fun n => .v (.int .i64 (hiI n + 1))
theorem sBits_enc : ∀ l H n i ls, sBits.dec l H = some (i, ls) → l = renL (rho ls n) (sBits.args i) ∧ givenHp H ls = renH (rho ls n) (sBits.hp i) := by
  intro l H n i ls h
  simp only [sBits] at h
  repeat' split at h
  all_goals first
    | (cases h; done)
    | (cases h; exact ⟨rfl, rfl⟩)
def sMod : Spec where
  ι := Int × Int
  dec l H := match l with
    | [.v (.int .i64 x), .v (.int .i64 m)] => some ((x, m), [])
    | _ => none
  args := fun (x, m) => [.v (.int .i64 x), .v (.int .i64 m)]
  pre := fun (x, m) => [⟨inW x = true, inferInstance⟩, ⟨inW m = true, inferInstance⟩]
  ret := fun (x, m) => .v (.int .i64 (modI x m))
theorem sMod_enc : ∀ l H n i ls, sMod.dec l H = some (i, ls) → l = renL (rho ls n) (sMod.args i) ∧ givenHp H ls = renH (rho ls n) (sMod.hp i) := by
  intro l H n i ls h
  simp only [sMod] at h
  repeat' split at h
  all_goals first
    | (cases h; done)
    | (cases h; exact ⟨rfl, rfl⟩)
def sAt : Spec where
  ι := List Int × Int
  dec l H := match l with
    | [.dat (.ints .i64 l), .v (.int .i64 i)] => some ((l, i), [])
    | _ => none
  args := fun (l, i) => [.dat (.ints .i64 l), .v (.int .i64 i)]
  ret := fun (l, i) => .v (.int .i64 (atI l i))
theorem sAt_enc : ∀ l H n i ls, sAt.dec l H = some (i, ls) → l = renL (rho ls n) (sAt.args i) ∧ givenHp H ls = renH (rho ls n) (sAt.hp i) := by
  intro l H n i ls h
  simp only [sAt] at h
  repeat' split at h
  all_goals first
    | (cases h; done)
    | (cases h; exact ⟨rfl, rfl⟩)
def sMin : Spec where
  ι := List Int
  dec l H := match l with
    | [.dat (.ints .i64 l)] => some (l, [])
    | _ => none
  args := fun l => [.dat (.ints .i64 l)]
  pre := fun l => [⟨0 < l.length, inferInstance⟩, ⟨l.length ≤ 4294967296, inferInstance⟩]
  ret := fun l => .v (.int .i64 (minL l))
theorem sMin_enc : ∀ l H n i ls, sMin.dec l H = some (i, ls) → l = renL (rho ls n) (sMin.args i) ∧ givenHp H ls = renH (rho ls n) (sMin.hp i) := by
  intro l H n i ls h
  simp only [sMin] at h
  repeat' split at h
  all_goals first
    | (cases h; done)
    | (cases h; exact ⟨rfl, rfl⟩)
def sEq : Spec where
  ι := List Int × List Int
  dec l H := match l with
    | [.dat (.ints .i64 a), .dat (.ints .i64 b)] => some ((a, b), [])
    | _ => none
  args := fun (a, b) => [.dat (.ints .i64 a), .dat (.ints .i64 b)]
  pre := fun (a, b) => [⟨a.length ≤ 4294967296, inferInstance⟩]
  ret := fun (a, b) => .v (.bool (eqI a b))
theorem sEq_enc : ∀ l H n i ls, sEq.dec l H = some (i, ls) → l = renL (rho ls n) (sEq.args i) ∧ givenHp H ls = renH (rho ls n) (sEq.hp i) := by
  intro l H n i ls h
  simp only [sEq] at h
  repeat' split at h
  all_goals first
    | (cases h; done)
    | (cases h; exact ⟨rfl, rfl⟩)
def sOwn : Spec where
  ι := List Int
  dec l H := match l with
    | [.dat (.ints .i64 l)] => some (l, [])
    | _ => none
  args := fun l => [.dat (.ints .i64 l)]
  pre := fun l => [⟨l.length ≤ 4294967296, inferInstance⟩]
  ret := fun l => .o 2000
  hp' := fun l => [(2000, .row 3 (.ints .i64 l))]
theorem sOwn_enc : ∀ l H n i ls, sOwn.dec l H = some (i, ls) → l = renL (rho ls n) (sOwn.args i) ∧ givenHp H ls = renH (rho ls n) (sOwn.hp i) := by
  intro l H n i ls h
  simp only [sOwn] at h
  repeat' split at h
  all_goals first
    | (cases h; done)
    | (cases h; exact ⟨rfl, rfl⟩)
def sOwnD : Spec where
  ι := Int × List Int
  dec l H := match l with
    | [.ag [.v (.int .i64 g), .dat (.ints .i64 l)]] => some ((g, l), [])
    | _ => none
  args := fun (g, l) => [.ag [.v (.int .i64 g), .dat (.ints .i64 l)]]
  pre := fun (g, l) => [⟨l.length ≤ 4294967296, inferInstance⟩]
  ret := fun (g, l) => .ag [.v (.int .i64 g), .o 2000]
  hp' := fun (g, l) => [(2000, .row 3 (.ints .i64 l))]
theorem sOwnD_enc : ∀ l H n i ls, sOwnD.dec l H = some (i, ls) → l = renL (rho ls n) (sOwnD.args i) ∧ givenHp H ls = renH (rho ls n) (sOwnD.hp i) := by
  intro l H n i ls h
  simp only [sOwnD] at h
  repeat' split at h
  all_goals first
    | (cases h; done)
    | (cases h; exact ⟨rfl, rfl⟩)
def sEqD : Spec where
  ι := Int × List Int × Int × List Int
  dec l H := match l with
    | [.ag [.v (.int .i64 a), .dat (.ints .i64 x)], .ag [.v (.int .i64 b), .dat (.ints .i64 y)]] => some ((a, x, b, y), [])
    | _ => none
  args := fun (a, x, b, y) => [.ag [.v (.int .i64 a), .dat (.ints .i64 x)], .ag [.v (.int .i64 b), .dat (.ints .i64 y)]]
  pre := fun (a, x, b, y) => [⟨x.length ≤ 4294967296, inferInstance⟩]
  ret := fun (a, x, b, y) => .v (.bool (a == b && eqI x y))
theorem sEqD_enc : ∀ l H n i ls, sEqD.dec l H = some (i, ls) → l = renL (rho ls n) (sEqD.args i) ∧ givenHp H ls = renH (rho ls n) (sEqD.hp i) := by
  intro l H n i ls h
  simp only [sEqD] at h
  repeat' split at h
  all_goals first
    | (cases h; done)
    | (cases h; exact ⟨rfl, rfl⟩)
def sAdd : Spec where
  ι := Int × Int
  dec l H := match l with
    | [.v (.int .i64 n), .p l0 0 0] => match H l0 with
      | some (.cells 3 [.v (.int .i64 s)]) => some ((n, s), [l0])
      | _ => none
    | _ => none
  args := fun (n, s) => [.v (.int .i64 n), .p 0 0 0]
  hp := fun (n, s) => [(0, .cells 3 [.v (.int .i64 s)])]
  pre := fun (n, s) => [⟨0 ≤ n, inferInstance⟩, ⟨n ≤ 1048576, inferInstance⟩, ⟨0 ≤ s, inferInstance⟩, ⟨s ≤ 1048576, inferInstance⟩]
  ret := fun (n, s) => .tu []
  hp' := fun (n, s) => [(0, .cells 3 [.v (.int .i64 (min (s + n) 1048576))])]
theorem sAdd_enc : ∀ l H n i ls, sAdd.dec l H = some (i, ls) → l = renL (rho ls n) (sAdd.args i) ∧ givenHp H ls = renH (rho ls n) (sAdd.hp i) := by
  intro l H n i ls h
  simp only [sAdd] at h
  repeat' split at h
  all_goals first
    | (cases h; done)
    | (cases h; exact ⟨rfl, rfl⟩)
    | (cases h; refine ⟨rfl, ?_⟩; simp only [givenHp, List.filterMap_cons, List.filterMap_nil, Option.map, *]; rfl)
def sPoints : Spec where
  ι := Int × List Int
  dec l H := match l with
    | [.ag [.v (.int .i64 g), .dat (.ints .i64 l)]] => some ((g, l), [])
    | _ => none
  args := fun (g, l) => [.ag [.v (.int .i64 g), .dat (.ints .i64 l)]]
  pre := fun (g, l) => [⟨l.length ≤ 4294967296, inferInstance⟩]
  ret := fun (g, l) => .v (.int .i64 (min (pts l) 1048576))
theorem sPoints_enc : ∀ l H n i ls, sPoints.dec l H = some (i, ls) → l = renL (rho ls n) (sPoints.args i) ∧ givenHp H ls = renH (rho ls n) (sPoints.hp i) := by
  intro l H n i ls h
  simp only [sPoints] at h
  repeat' split at h
  all_goals first
    | (cases h; done)
    | (cases h; exact ⟨rfl, rfl⟩)
def sRpoints : Spec where
  ι := List Int
  dec l H := match l with
    | [.dat (.ints .i64 l)] => some (l, [])
    | _ => none
  args := fun l => [.dat (.ints .i64 l)]
  pre := fun l => [⟨l.length ≤ 65536, inferInstance⟩, ⟨l.all (fun x => decide (x ≤ 65536)) = true, inferInstance⟩]
  ret := fun l => .v (.int .i64 (pts l))
theorem sRpoints_enc : ∀ l H n i ls, sRpoints.dec l H = some (i, ls) → l = renL (rho ls n) (sRpoints.args i) ∧ givenHp H ls = renH (rho ls n) (sRpoints.hp i) := by
  intro l H n i ls h
  simp only [sRpoints] at h
  repeat' split at h
  all_goals first
    | (cases h; done)
    | (cases h; exact ⟨rfl, rfl⟩)
def sCheck : Spec where
  ι := Int × List Int
  dec l H := match l with
    | [.ag [.v (.int .i64 g), .dat (.ints .i64 l)]] => some ((g, l), [])
    | _ => none
  args := fun (g, l) => [.ag [.v (.int .i64 g), .dat (.ints .i64 l)]]
  pre := fun (g, l) => [⟨l.length ≤ 4294967296, inferInstance⟩]
  ret := fun (g, l) => .v (.int .i64 (dchk g l))
theorem sCheck_enc : ∀ l H n i ls, sCheck.dec l H = some (i, ls) → l = renL (rho ls n) (sCheck.args i) ∧ givenHp H ls = renH (rho ls n) (sCheck.hp i) := by
  intro l H n i ls h
  simp only [sCheck] at h
  repeat' split at h
  all_goals first
    | (cases h; done)
    | (cases h; exact ⟨rfl, rfl⟩)
def sSize : Spec where
  ι := Int × List Int
  dec l H := match l with
    | [.ag [.v (.int .i64 g), .dat (.ints .i64 l)]] => some ((g, l), [])
    | _ => none
  args := fun (g, l) => [.ag [.v (.int .i64 g), .dat (.ints .i64 l)]]
  ret := fun (g, l) => .v (.int .i64 (dsize g))
theorem sSize_enc : ∀ l H n i ls, sSize.dec l H = some (i, ls) → l = renL (rho ls n) (sSize.args i) ∧ givenHp H ls = renH (rho ls n) (sSize.hp i) := by
  intro l H n i ls h
  simp only [sSize] at h
  repeat' split at h
  all_goals first
    | (cases h; done)
    | (cases h; exact ⟨rfl, rfl⟩)
def sTimes : Spec where
  ι := List Int × Int × Int
  own := true
  dec l H := match l with
    | [.o l0, .v (.int .i64 n), .v (.int .i64 x)] => match H l0 with
      | some (.row 3 (.ints .i64 l)) => some ((l, n, x), [l0])
      | _ => none
    | _ => none
  args := fun (l, n, x) => [.o 0, .v (.int .i64 n), .v (.int .i64 x)]
  hp := fun (l, n, x) => [(0, .row 3 (.ints .i64 l))]
  pre := fun (l, n, x) => [⟨l.length ≤ 65536, inferInstance⟩, ⟨n ≤ 65536, inferInstance⟩]
  ret := fun (l, n, x) => .o 2000
  hp' := fun (l, n, x) => [(2000, .row 3 (.ints .i64 (l ++ List.replicate n.toNat x)))]
theorem sTimes_enc : ∀ l H n i ls, sTimes.dec l H = some (i, ls) → l = renL (rho ls n) (sTimes.args i) ∧ givenHp H ls = renH (rho ls n) (sTimes.hp i) := by
  intro l H n i ls h
  simp only [sTimes] at h
  repeat' split at h
  all_goals first
    | (cases h; done)
    | (cases h; exact ⟨rfl, rfl⟩)
    | (cases h; refine ⟨rfl, ?_⟩; simp only [givenHp, List.filterMap_cons, List.filterMap_nil, Option.map, *]; rfl)
def sTimes0 : Spec where
  ι := Int × Int
  own := true
  dec l H := match l with
    | [.v (.slice none 0 0), .v (.int .i64 n), .v (.int .i64 x)] => some ((n, x), [])
    | _ => none
  args := fun (n, x) => [.v (.slice none 0 0), .v (.int .i64 n), .v (.int .i64 x)]
  pre := fun (n, x) => [⟨n ≤ 65536, inferInstance⟩]
  ret := fun (n, x) => .o 2000
  hp' := fun (n, x) => [(2000, .row 3 (.ints .i64 (List.replicate n.toNat x)))]
theorem sTimes0_enc : ∀ l H n i ls, sTimes0.dec l H = some (i, ls) → l = renL (rho ls n) (sTimes0.args i) ∧ givenHp H ls = renH (rho ls n) (sTimes0.hp i) := by
  intro l H n i ls h
  simp only [sTimes0] at h
  repeat' split at h
  all_goals first
    | (cases h; done)
    | (cases h; exact ⟨rfl, rfl⟩)
def sShape : Spec where
  ι := Int
  dec l H := match l with
    | [.v (.int .i64 n)] => some (n, [])
    | _ => none
  args := fun n => [.v (.int .i64 n)]
  pre := fun n => [⟨0 ≤ n, inferInstance⟩, ⟨n ≤ 1073741824, inferInstance⟩]
  ret := fun n => .tu [.v (.int .i64 (shB n)), .v (.int .i64 (shT n))]
theorem sShape_enc : ∀ l H n i ls, sShape.dec l H = some (i, ls) → l = renL (rho ls n) (sShape.args i) ∧ givenHp H ls = renH (rho ls n) (sShape.hp i) := by
  intro l H n i ls h
  simp only [sShape] at h
  repeat' split at h
  all_goals first
    | (cases h; done)
    | (cases h; exact ⟨rfl, rfl⟩)
/-! ### loops -/
def one (x : LoopInv) : Nat → Option LoopFam := fun k => cond (Nat.beq k 0) (some (.one x)) none
def oHigh (n : Int) : LoopInv := { ι := Nat, p := fun i => i ≤ 63, tm := fun i => [(0, .v (.int .i64 n)), (3, .v (.int .i64 (hiM n i))), (5, .v (.int .i64 (i : Nat)))], hp := fun _ => [], μ := fun i => 63 - i }
def oRhigh (n : Int) : LoopInv := { ι := Nat, p := fun i => (n ≤ 0 ∧ i = 0) ∨ (0 < n ∧ i ≤ Nat.log2 n.toNat + 1), tm := fun i => [(0, .v (.int .i64 (n / 2 ^ i))), (3, .v (.int .i64 ((i : Int) - 1)))], hp := fun _ => [], μ := fun i => 63 - i }
def oMin (l : List Int) : LoopInv := { ι := Nat, p := fun i => 1 ≤ i ∧ i ≤ l.length, tm := fun i => [(0, .dat (.ints .i64 l)), (3, .v (.int .i64 (minL (l.take i)))), (4, .v (.int .i64 (i : Nat)))], hp := fun _ => [], μ := fun i => l.length - i }
def oEq (t : Nat) (n : Nat) (l : List (Nat × SV)) (a b : List Int) : LoopInv := { ι := Nat, p := fun i => i ≤ a.length ∧ a.take i = b.take i, tm := fun i => (0, .dat (.ints .i64 a)) :: (1, .dat (.ints .i64 b)) :: (t, .v (.int .i64 (i : Nat))) :: l, hp := fun _ => [], μ := fun i => a.length - i }
def oPoints (g : Int) (l : List Int) : LoopInv := { ι := Nat, p := fun i => i ≤ l.length, tm := fun i => [(3, .p 1001 0 0), (4, .fn (.func 82) [] [.p 1001 0 0]), (9, .dat (.ints .i64 l)), (10, .v (.int .i64 l.length)), (11, .v (.int .i64 (i : Nat)))], hp := fun i => [(1001, .cells 3 [.v (.int .i64 (min (pts (l.take i)) 1048576))])], μ := fun i => l.length - i }
def oRpoints (l : List Int) : LoopInv := { ι := Nat, p := fun i => i ≤ l.length, tm := fun i => [(0, .dat (.ints .i64 l)), (3, .v (.int .i64 (pts (l.take i)))), (4, .v (.int .i64 (i : Nat)))], hp := fun _ => [], μ := fun i => l.length - i }
def oRcheck (g : Int) (l : List Int) : LoopInv := { ι := Nat, p := fun i => i ≤ l.length ∧ ∀ x ∈ l.take i, -1 ≤ x ∧ x ≤ 2 ^ g.toNat, tm := fun i => [(1, .p 1000 0 0), (3, .v (.int .i64 (i : Nat)))], hp := fun i => [(1000, .cells 50 [.v (.int .i64 g), .dat (.ints .i64 l)])], μ := fun i => l.length - i }
def oRsame (a b : Int) (x y : List Int) : LoopInv := { ι := Nat, p := fun i => i ≤ x.length ∧ x.take i = y.take i, tm := fun i => [(2, .p 1000 0 0), (3, .p 1001 0 0), (5, .v (.int .i64 (i : Nat)))], hp := fun i => [(1000, .cells 50 [.v (.int .i64 a), .dat (.ints .i64 x)]), (1001, .cells 50 [.v (.int .i64 b), .dat (.ints .i64 y)])], μ := fun i => x.length - i }
def oTimes (l : List Int) (n x : Int) : LoopInv := { ι := Nat, p := fun i => i ≤ n.toNat, tm := fun i => [(0, .o 2000), (1, .v (.int .i64 n)), (2, .v (.int .i64 x)), (7, .v (.int .i64 (i : Nat)))], hp := fun i => [(2000, .row 3 (.ints .i64 (l ++ List.replicate i x)))], μ := fun i => n.toNat - i }
/-! ### tables -/
def G8a : List (Nat × Ctr) := (95, sHigh.ctr) :: (92, sHigh.ctr) :: (82, sAdd.ctr) :: (66, sMin.ctr) :: (70, sEq.ctr) :: (74, sEq.ctr) :: (68, sOwn.ctr) :: (69, sRpoints.ctr) :: (37, sMod.ctr) :: (79, sAt.ctr) :: G02
def G8b : List (Nat × Ctr) := (91, sBits.ctr) :: (85, sBits.ctr) :: (67, sPoints.ctr) :: (41, sOwnD.ctr) :: (52, sEqD.ctr) :: (42, sCheck.ctr) :: (45, sEqD.ctr) :: (46, sEqD.ctr) :: (43, sSize.ctr) :: (44, sSize.ctr) :: G8a
def G8c : List (Nat × Ctr) := (39, sCheck.ctr) :: (84, sShape.ctr) :: G8b
/-! ### conditions
--%VC high ;; (n : Int) ;; G02 ;; one (oHigh n) ;; ints.High ;; [.v (.int .i64 n)] ;; [] ;; (.v (.int .i64 (hiI n))) ;; []
--%VC rhigh ;; (n : Int) ;; G02 ;; one (oRhigh n) ;; ref01.High ;; [.v (.int .i64 n)] ;; [] ;; (.v (.int .i64 (hiI n))) ;; []
--%VC modK ;; (x m : Int) ;; G02 ;; fun _ => none ;; kit.Mod ;; [.v (.int .i64 x), .v (.int .i64 m)] ;; [] ;; (.v (.int .i64 (modI x m))) ;; []
--%VC atK ;; (l : List Int) (i : Int) ;; G02 ;; fun _ => none ;; kit.At ;; [.dat (.ints .i64 l), .v (.int .i64 i)] ;; [] ;; (.v (.int .i64 (atI l i))) ;; []
--%VC minK ;; (l : List Int) ;; G02 ;; one (oMin l) ;; slices.Min[[]int,int] ;; [.dat (.ints .i64 l)] ;; [] ;; (.v (.int .i64 (minL l))) ;; []
--%VC equal ;; (a b : List Int) ;; G02 ;; one (oEq 13 12 [(12, .v (.int .i64 a.length))] a b) ;; slices.Equal[[]int,int] ;; [.dat (.ints .i64 a), .dat (.ints .i64 b)] ;; [] ;; (.v (.bool (eqI a b))) ;; []
--%VC sameInts ;; (a b : List Int) ;; G02 ;; one (oEq 5 0 [] a b) ;; kit.SameInts ;; [.dat (.ints .i64 a), .dat (.ints .i64 b)] ;; [] ;; (.v (.bool (eqI a b))) ;; []
--%VC ownInts ;; (l : List Int) ;; G02 ;; fun _ => none ;; kit.OwnInts ;; [.dat (.ints .i64 l)] ;; [] ;; (.o 2000) ;; [(2000, .row 3 (.ints .i64 l))]
--%VC rpoints ;; (l : List Int) ;; G02 ;; one (oRpoints l) ;; ref08.points ;; [.dat (.ints .i64 l)] ;; [] ;; (.v (.int .i64 (pts l))) ;; []
--%VC add ;; (n s : Int) ;; G02 ;; fun _ => none ;; dist.points$1 ;; [.v (.int .i64 n), .p 0 0 0] ;; [(0, .cells 3 [.v (.int .i64 s)])] ;; (.tu []) ;; [(0, .cells 3 [.v (.int .i64 (min (s + n) 1048576))])]
--%VC bits ;; (n : Int) ;; G8a ;; fun _ => none ;; ints.Bits ;; [.v (.int .i64 n)] ;; [] ;; (.v (.int .i64 (hiI n + 1))) ;; []
--%VC rbits ;; (n : Int) ;; G8a ;; fun _ => none ;; ref01.Bits ;; [.v (.int .i64 n)] ;; [] ;; (.v (.int .i64 (hiI n + 1))) ;; []
--%VC points ;; (g : Int) (l : List Int) ;; G8a ;; one (oPoints g l) ;; dist.points ;; [.ag [.v (.int .i64 g), .dat (.ints .i64 l)]] ;; [] ;; (.v (.int .i64 (min (pts l) 1048576))) ;; []
--%VC ownDist ;; (g : Int) (l : List Int) ;; G8a ;; fun _ => none ;; kit.OwnDist ;; [.ag [.v (.int .i64 g), .dat (.ints .i64 l)]] ;; [] ;; (.ag [.v (.int .i64 g), .o 2000]) ;; [(2000, .row 3 (.ints .i64 l))]
--%VC sameDist ;; (a : Int) (x : List Int) (b : Int) (y : List Int) ;; G8a ;; fun _ => none ;; kit.SameDist ;; [.ag [.v (.int .i64 a), .dat (.ints .i64 x)], .ag [.v (.int .i64 b), .dat (.ints .i64 y)]] ;; [] ;; (.v (.bool (a == b && eqI x y))) ;; []
--%VC rcheck ;; (g : Int) (l : List Int) ;; G8a ;; one (oRcheck g l) ;; ref08.Check ;; [.ag [.v (.int .i64 g), .dat (.ints .i64 l)]] ;; [] ;; (.v (.int .i64 (dchk g l))) ;; []
--%VC same ;; (a : Int) (x : List Int) (b : Int) (y : List Int) ;; G8a ;; fun _ => none ;; dist.Same ;; [.ag [.v (.int .i64 a), .dat (.ints .i64 x)], .ag [.v (.int .i64 b), .dat (.ints .i64 y)]] ;; [] ;; (.v (.bool (a == b && eqI x y))) ;; []
--%VC rsame ;; (a : Int) (x : List Int) (b : Int) (y : List Int) ;; G8a ;; one (oRsame a b x y) ;; ref08.Same ;; [.ag [.v (.int .i64 a), .dat (.ints .i64 x)], .ag [.v (.int .i64 b), .dat (.ints .i64 y)]] ;; [] ;; (.v (.bool (a == b && eqI x y))) ;; []
--%VC size ;; (g : Int) (l : List Int) ;; G8a ;; fun _ => none ;; dist.Size ;; [.ag [.v (.int .i64 g), .dat (.ints .i64 l)]] ;; [] ;; (.v (.int .i64 (dsize g))) ;; []
--%VC rsize ;; (g : Int) (l : List Int) ;; G8a ;; fun _ => none ;; ref08.Size ;; [.ag [.v (.int .i64 g), .dat (.ints .i64 l)]] ;; [] ;; (.v (.int .i64 (dsize g))) ;; []
--%VC check ;; (g : Int) (l : List Int) ;; G8b ;; fun _ => none ;; dist.Check ;; [.ag [.v (.int .i64 g), .dat (.ints .i64 l)]] ;; [] ;; (.v (.int .i64 (dchk g l))) ;; []
--%VC shape ;; (n : Int) ;; G8b ;; fun _ => none ;; dist.shape ;; [.v (.int .i64 n)] ;; [] ;; (.tu [.v (.int .i64 (shB n)), .v (.int .i64 (shT n))]) ;; []
--%VC times ;; (l : List Int) (n x : Int) ;; G8a ;; one (oTimes l n x) ;; ref08.times ;; [.o 0, .v (.int .i64 n), .v (.int .i64 x)] ;; [(0, .row 3 (.ints .i64 l))] ;; (.o 2000) ;; [(2000, .row 3 (.ints .i64 (l ++ List.replicate n.toNat x)))]
--%VC times0 ;; (n x : Int) ;; G8a ;; one (oTimes [] n x) ;; ref08.times ;; [.v (.slice none 0 0), .v (.int .i64 n), .v (.int .i64 x)] ;; [] ;; (.o 2000) ;; [(2000, .row 3 (.ints .i64 (List.replicate n.toNat x)))]
-/
end Go.Proofs.Ytafabheehkmfhaa
/-
  Chapter 8: descriptions of distributions, in plain lists. Conditions: none (definitions).
-/
namespace Go.Proofs.Ytafabheehkmfhaa
set_option linter.unusedVariables false
/-- how a probability is written if so many points are left -/
def valP (left p : Int) : Int × Int := cond (decide (p + 1 < shT left)) (shB left - 1, p + 1) (cond (decide (p + 1 < 2 ^ (shB left - 1).toNat)) (shB left, p + 1) (shB left, p + 1 + shT left))
/-- how so many zeros more are written -/
def zerosP (z : Nat) : List (Int × Int) := List.replicate (z / 3) (2, 3) ++ [(2, ((z % 3 : Nat) : Int))]
/-- a description's values; within a run of zeros: how many there were behind the first -/
def de : Option Nat → List Int → Int → List (Int × Int)
  | none, [], _ => []
  | some z, [], _ => zerosP z
  | none, p :: r, left => valP left p :: cond (p == 0) (de (some 0) r left) (de none r (left - pt p))
  | some z, q :: r, left => cond (q == 0) (de (some (z + 1)) r left) (zerosP z ++ valP left q :: de none r (left - pt q))
/-- behind a value: what is left to be written -/
def deP (l : List Int) (i : Nat) : List (Int × Int) := cond (l.getD i 0 == 0) (de (some 0) (l.drop (i + 1)) (pts (l.drop i))) (de none (l.drop (i + 1)) (pts (l.drop i) - pt (l.getD i 0)))
def putAll (w : W3) (l : List (Int × Int)) : W3 := l.foldl (fun w kv => (putT w kv.1 kv.2).1) w
def bsum : List (Int × Int) → Int
  | [] => 0
  | kv :: r => kv.1 + bsum r
/-- what is written, and how many bits -/
def wrT (g : Int) (l : List Int) : W3 := putAll (putT zW 4 (g - 5)).1 (de none l (2 ^ g.toNat))
def wrN (g : Int) (l : List Int) : Int := 4 + bsum (de none l (2 ^ g.toNat))
def writeF (g : Int) (l : List Int) : ByteArray × Int := cond (dchk g l == 0) (doneT (wrT g l)) (⟨#[]⟩, dchk g l)
def bitsF (g : Int) (l : List Int) : Int := cond (dchk g l == 0) (wrN g l) 0
def pLits : List Int := [4, 3, 2, 2, 2, 2, 2, 2, 2, 2, 2, 2, 2, 1, 1, 1, 2, 2, 2, 2, 2, 2, 2, 2, 2, 3, 2, 1, 1, 1, 1, 1, -1, -1, -1, -1]
def pOffset : List Int := [1, 1, 1, 1, 1, 1, 2, 2, 2, 1, 1, 1, 1, 1, 1, 1, 1, 1, 1, 1, 1, 1, 1, 1, -1, -1, -1, -1, -1]
def pMatch : List Int := [1, 4, 3, 2, 2, 2, 2, 2, 2, 1, 1, 1, 1, 1, 1, 1, 1, 1, 1, 1, 1, 1, 1, 1, 1, 1, 1, 1, 1, 1, 1, 1, 1, 1, 1, 1, 1, 1, 1, 1, 1, 1, 1, 1, 1, 1, -1, -1, -1, -1, -1, -1, -1]
def preL (k : Int) : Int := cond (k == 0) 6 (cond (k == 1) 5 (cond (k == 2) 6 0))
def preP (k : Int) : List Int := cond (k == 0) pLits (cond (k == 1) pOffset (cond (k == 2) pMatch []))
def preE (k : Int) : Int := cond (k == 0) 0 (cond (k == 1) 0 (cond (k == 2) 0 11))
/-- probabilities from pairs -/
def expandL : List Int → List Int
  | c :: v :: r => List.replicate c.toNat v ++ expandL r
  | _ => []
def okRuns : List Int → Bool
  | c :: v :: r => decide (1 ≤ c) && decide (c ≤ 64) && okRuns r
  | _ => true
end Go.Proofs.Ytafabheehkmfhaa
/-
  Chapter 8: contracts of what writes. Conditions: none (definitions).
-/
namespace Go.Proofs.Ytafabheehkmfhaa
open Go Go.RowKit
set_option linter.unusedVariables false
set_option linter.unusedSimpArgs false
set_option maxRecDepth 100000
def sPut1 : Spec where
  ι := Int × Int × ByteArray × Int × Int
  dec l H := match l with
    | [.v (.int .i64 k), .v (.int .i64 v), .p l0 0 0] => match H l0 with
      | some (.cells 23 [.v (.string s), .v (.int .i64 p), .v (.int .i64 m)]) => some ((k, v, s, p, m), [l0])
      | _ => none
    | _ => none
  args := fun (k, v, s, p, m) => [.v (.int .i64 k), .v (.int .i64 v), .p 0 0 0]
  hp := fun (k, v, s, p, m) => [(0, .cells 23 [.v (.string s), .v (.int .i64 p), .v (.int .i64 m)])]
  ret := fun (k, v, s, p, m) => .tu []
  hp' := fun (k, v, s, p, m) => [(0, .cells 23 [.v (.string (putT (s, p, m) k v).1.1), .v (.int .i64 (putT (s, p, m) k v).1.2.1), .v (.int .i64 (putT (s, p, m) k v).1.2.2)])]
theorem sPut1_enc : ∀ l H n i ls, sPut1.dec l H = some (i, ls) → l = renL (rho ls n) (sPut1.args i) ∧ givenHp H ls = renH (rho ls n) (sPut1.hp i) := by
  intro l H n i ls h
  simp only [sPut1] at h
  repeat' split at h
  all_goals first
    | (cases h; done)
    | (cases h; exact ⟨rfl, rfl⟩)
    | (cases h; refine ⟨rfl, ?_⟩; simp only [givenHp, List.filterMap_cons, List.filterMap_nil, Option.map, *]; rfl)
def sWritten : Spec where
  ι := Int × List Int
  dec l H := match l with
    | [.ag [.v (.int .i64 g), .dat (.ints .i64 l)]] => some ((g, l), [])
    | _ => none
  args := fun (g, l) => [.ag [.v (.int .i64 g), .dat (.ints .i64 l)]]
  pre := fun (g, l) => [⟨dchk g l = 0, inferInstance⟩]
  ret := fun (g, l) => .ag [.v (.string (wrT g l).1), .v (.int .i64 (wrT g l).2.1), .v (.int .i64 (wrT g l).2.2)]
theorem sWritten_enc : ∀ l H n i ls, sWritten.dec l H = some (i, ls) → l = renL (rho ls n) (sWritten.args i) ∧ givenHp H ls = renH (rho ls n) (sWritten.hp i) := by
  intro l H n i ls h
  simp only [sWritten] at h
  repeat' split at h
  all_goals first
    | (cases h; done)
    | (cases h; exact ⟨rfl, rfl⟩)
def sRwritten : Spec where
  ι := Int × List Int
  dec l H := match l with
    | [.ag [.v (.int .i64 g), .dat (.ints .i64 l)]] => some ((g, l), [])
    | _ => none
  args := fun (g, l) => [.ag [.v (.int .i64 g), .dat (.ints .i64 l)]]
  pre := fun (g, l) => [⟨dchk g l = 0, inferInstance⟩]
  ret := fun (g, l) => .tu [.ag [.v (.string (wrT g l).1), .v (.int .i64 (wrT g l).2.1), .v (.int .i64 (wrT g l).2.2)], .v (.int .i64 (wrN g l))]
theorem sRwritten_enc : ∀ l H n i ls, sRwritten.dec l H = some (i, ls) → l = renL (rho ls n) (sRwritten.args i) ∧ givenHp H ls = renH (rho ls n) (sRwritten.hp i) := by
  intro l H n i ls h
  simp only [sRwritten] at h
  repeat' split at h
  all_goals first
    | (cases h; done)
    | (cases h; exact ⟨rfl, rfl⟩)
def sWrite : Spec where
  ι := Int × List Int
  dec l H := match l with
    | [.ag [.v (.int .i64 g), .dat (.ints .i64 l)]] => some ((g, l), [])
    | _ => none
  args := fun (g, l) => [.ag [.v (.int .i64 g), .dat (.ints .i64 l)]]
  pre := fun (g, l) => [⟨l.length ≤ 4294967296, inferInstance⟩]
  ret := fun (g, l) => .tu [.v (.string (writeF g l).1), .v (.int .i64 (writeF g l).2)]
theorem sWrite_enc : ∀ l H n i ls, sWrite.dec l H = some (i, ls) → l = renL (rho ls n) (sWrite.args i) ∧ givenHp H ls = renH (rho ls n) (sWrite.hp i) := by
  intro l H n i ls h
  simp only [sWrite] at h
  repeat' split at h
  all_goals first
    | (cases h; done)
    | (cases h; exact ⟨rfl, rfl⟩)
def sBitsD : Spec where
  ι := Int × List Int
  dec l H := match l with
    | [.ag [.v (.int .i64 g), .dat (.ints .i64 l)]] => some ((g, l), [])
    | _ => none
  args := fun (g, l) => [.ag [.v (.int .i64 g), .dat (.ints .i64 l)]]
  pre := fun (g, l) => [⟨l.length ≤ 4294967296, inferInstance⟩]
  ret := fun (g, l) => .tu [.v (.int .i64 (bitsF g l)), .v (.int .i64 (dchk g l))]
theorem sBitsD_enc : ∀ l H n i ls, sBitsD.dec l H = some (i, ls) → l = renL (rho ls n) (sBitsD.args i) ∧ givenHp H ls = renH (rho ls n) (sBitsD.hp i) := by
  intro l H n i ls h
  simp only [sBitsD] at h
  repeat' split at h
  all_goals first
    | (cases h; done)
    | (cases h; exact ⟨rfl, rfl⟩)
def wCells (w : W3) : SBlk := .cells 23 [.v (.string w.1), .v (.int .i64 w.2.1), .v (.int .i64 w.2.2)]
def dCells (g : Int) (l : List Int) : SBlk := .cells 50 [.v (.int .i64 g), .dat (.ints .i64 l)]
def wTm (i : Int) (left : Int) : List (Nat × SV) := [(1, .p 1000 0 0), (2, .p 1002 0 0), (3, .p 1001 0 0), (4, .fn (.func 83) [] [.p 1001 0 0]), (5, .v (.int .i64 left)), (6, .v (.int .i64 i))]
def wHp (g : Int) (l : List Int) (w : W3) : List (Nat × SBlk) := [(1000, dCells g l), (1001, wCells w), (1002, .cells 23 [.any, .any, .any])]
def oW0 (g : Int) (l : List Int) : LoopInv := { ι := Nat × W3, p := fun x => x.1 ≤ l.length ∧ putAll x.2 (de none (l.drop x.1) (pts (l.drop x.1))) = wrT g l, tm := fun x => wTm (x.1 : Nat) (pts (l.drop x.1)), hp := fun x => wHp g l x.2, μ := fun x => l.length - x.1 }
def oW1 (g : Int) (l : List Int) (j : Nat) : LoopInv := { ι := Nat × Nat × W3, p := fun x => j ≤ x.1 ∧ x.1 < l.length ∧ x.2.1 ≤ x.1 ∧ putAll x.2.2 (de (some x.2.1) (l.drop (x.1 + 1)) (pts (l.drop (x.1 + 1)))) = wrT g l, tm := fun x => (11, .v (.int .i64 (x.2.1 : Nat))) :: wTm (x.1 : Nat) (pts (l.drop (x.1 + 1))), hp := fun x => wHp g l x.2.2, μ := fun x => l.length - x.1 }
def oW2 (g : Int) (l : List Int) (j : Nat) : LoopInv := { ι := Nat × Nat × W3, p := fun x => j ≤ x.1 ∧ x.1 < l.length ∧ x.2.1 ≤ x.1 ∧ putAll x.2.2 (zerosP x.2.1 ++ de none (l.drop (x.1 + 1)) (pts (l.drop (x.1 + 1)))) = wrT g l, tm := fun x => (11, .v (.int .i64 (x.2.1 : Nat))) :: wTm (x.1 : Nat) (pts (l.drop (x.1 + 1))), hp := fun x => wHp g l x.2.2, μ := fun x => x.2.1 }
def omg : List (Nat × LoopFam) → Nat → Option LoopFam
  | [], _ => none
  | (k, x) :: r, i => cond (Nat.beq i k) (some x) (omg r i)
def oW16 (g : Int) (l : List Int) (i : Nat) : LoopInv := { ι := W3, p := fun w => i < l.length ∧ putAll w (deP l i) = wrT g l, tm := fun w => (7, .v (.int .i64 (l.getD i 0))) :: wTm (i : Nat) (pts (l.drop i)), hp := fun w => wHp g l w, μ := fun _ => 0 }
def oWritten (g : Int) (l : List Int) : Nat → Option LoopFam := omg [(0, .one (oW0 g l)), (1, .fam Nat (oW1 g l)), (2, .fam Nat (oW2 g l)), (1016, .fam Nat (oW16 g l)), (1022, .fam Nat (oW2 g l))]
def vTm (i n left : Int) : List (Nat × SV) := [(1, .p 1000 0 0), (2, .p 1002 0 0), (4, .p 1001 0 0), (6, .v (.int .i64 n)), (7, .v (.int .i64 left)), (8, .v (.int .i64 i))]
def oV0 (g : Int) (l : List Int) : LoopInv := { ι := Nat × W3 × Int, p := fun x => x.1 ≤ l.length ∧ 0 ≤ x.2.2 ∧ putAll x.2.1 (de none (l.drop x.1) (pts (l.drop x.1))) = wrT g l ∧ x.2.2 + bsum (de none (l.drop x.1) (pts (l.drop x.1))) = wrN g l, tm := fun x => vTm (x.1 : Nat) x.2.2 (pts (l.drop x.1)), hp := fun x => wHp g l x.2.1, μ := fun x => l.length - x.1 }
def oV1 (g : Int) (l : List Int) (y : Nat × W3 × Int) : LoopInv := { ι := Nat, p := fun z => y.1 + z < l.length ∧ 0 ≤ y.2.2 ∧ putAll y.2.1 (de (some z) (l.drop (y.1 + 1 + z)) (pts (l.drop (y.1 + 1 + z)))) = wrT g l ∧ y.2.2 + bsum (de (some z) (l.drop (y.1 + 1 + z)) (pts (l.drop (y.1 + 1 + z)))) = wrN g l, tm := fun z => (12, .v (.int .i64 (z : Nat))) :: vTm (y.1 : Nat) y.2.2 (pts (l.drop (y.1 + 1 + z))), hp := fun z => wHp g l y.2.1, μ := fun z => l.length - z }
def oV21 (g : Int) (l : List Int) (y : Nat × W3 × Int) : LoopInv := { ι := Nat, p := fun z => y.1 + z < l.length ∧ 0 ≤ y.2.2 ∧ putAll y.2.1 (zerosP z ++ de none (l.drop (y.1 + 1 + z)) (pts (l.drop (y.1 + 1 + z)))) = wrT g l ∧ y.2.2 + bsum (zerosP z ++ de none (l.drop (y.1 + 1 + z)) (pts (l.drop (y.1 + 1 + z)))) = wrN g l, tm := fun z => (12, .v (.int .i64 (z : Nat))) :: vTm (y.1 : Nat) y.2.2 (pts (l.drop (y.1 + 1 + z))), hp := fun z => wHp g l y.2.1, μ := fun z => l.length - z }
def oV2 (g : Int) (l : List Int) (i : Nat) : LoopInv := { ι := Nat × Bool × W3 × Int, p := fun x => i < l.length ∧ x.1 ≤ l.length ∧ 0 ≤ x.2.2.2 ∧ putAll x.2.2.1 (cond x.2.1 (zerosP x.1) [] ++ de none (l.drop (i + 1)) (pts (l.drop (i + 1)))) = wrT g l ∧ x.2.2.2 + bsum (cond x.2.1 (zerosP x.1) [] ++ de none (l.drop (i + 1)) (pts (l.drop (i + 1)))) = wrN g l, tm := fun x => (12, .v (.int .i64 (x.1 : Nat))) :: (13, .v (.bool x.2.1)) :: vTm (i : Nat) x.2.2.2 (pts (l.drop (i + 1))), hp := fun x => wHp g l x.2.2.1, μ := fun x => cond x.2.1 (x.1 + 1) 0 }
def oV14 (g : Int) (l : List Int) (y : Nat × W3 × Int) : LoopInv := { ι := Int × Int, p := fun x => y.1 < l.length ∧ 0 ≤ y.2.2 ∧ putAll y.2.1 (de none (l.drop y.1) (pts (l.drop y.1))) = wrT g l ∧ y.2.2 + bsum (de none (l.drop y.1) (pts (l.drop y.1))) = wrN g l ∧ (x.1, x.2) = valP (pts (l.drop y.1)) (l.getD y.1 0), tm := fun x => (9, .v (.int .i64 x.2)) :: (10, .v (.int .i64 x.1)) :: vTm (y.1 : Nat) y.2.2 (pts (l.drop y.1)), hp := fun _ => wHp g l y.2.1, μ := fun _ => 0 }
def oRwritten (g : Int) (l : List Int) : Nat → Option LoopFam := omg [(0, .one (oV0 g l)), (1, .fam (Nat × W3 × Int) (oV1 g l)), (2, .fam Nat (oV2 g l)), (1014, .fam (Nat × W3 × Int) (oV14 g l)), (1021, .fam (Nat × W3 × Int) (oV21 g l))]
def G8d : List (Nat × Ctr) := (83, sPut1.ctr) :: G8c
def G8e : List (Nat × Ctr) := (71, sWritten.ctr) :: (72, sRwritten.ctr) :: G8d
def G8f : List (Nat × Ctr) := (47, sWrite.ctr) :: (48, sWrite.ctr) :: (49, sBitsD.ctr) :: (50, sBitsD.ctr) :: G8e
/-!
--%VC put1 ;; (k v : Int) (s : ByteArray) (p m : Int) ;; G8c ;; fun _ => none ;; dist.written$1 ;; [.v (.int .i64 k), .v (.int .i64 v), .p 0 0 0] ;; [(0, .cells 23 [.v (.string s), .v (.int .i64 p), .v (.int .i64 m)])] ;; (.tu []) ;; [(0, .cells 23 [.v (.string (putT (s, p, m) k v).1.1), .v (.int .i64 (putT (s, p, m) k v).1.2.1), .v (.int .i64 (putT (s, p, m) k v).1.2.2)])]
--%VC written ;; (g : Int) (l : List Int) ;; G8d ;; oWritten g l ;; dist.written ;; [.ag [.v (.int .i64 g), .dat (.ints .i64 l)]] ;; [] ;; (.ag [.v (.string (wrT g l).1), .v (.int .i64 (wrT g l).2.1), .v (.int .i64 (wrT g l).2.2)]) ;; []
--%VC rwritten ;; (g : Int) (l : List Int) ;; G8d ;; oRwritten g l ;; ref08.written ;; [.ag [.v (.int .i64 g), .dat (.ints .i64 l)]] ;; [] ;; (.tu [.ag [.v (.string (wrT g l).1), .v (.int .i64 (wrT g l).2.1), .v (.int .i64 (wrT g l).2.2)], .v (.int .i64 (wrN g l))]) ;; []
--%VC write ;; (g : Int) (l : List Int) ;; G8e ;; fun _ => none ;; dist.Write ;; [.ag [.v (.int .i64 g), .dat (.ints .i64 l)]] ;; [] ;; (.tu [.v (.string (writeF g l).1), .v (.int .i64 (writeF g l).2)]) ;; []
--%VC rwrite ;; (g : Int) (l : List Int) ;; G8e ;; fun _ => none ;; ref08.Write ;; [.ag [.v (.int .i64 g), .dat (.ints .i64 l)]] ;; [] ;; (.tu [.v (.string (writeF g l).1), .v (.int .i64 (writeF g l).2)]) ;; []
--%VC bitsD ;; (g : Int) (l : List Int) ;; G8e ;; fun _ => none ;; dist.Bits ;; [.ag [.v (.int .i64 g), .dat (.ints .i64 l)]] ;; [] ;; (.tu [.v (.int .i64 (bitsF g l)), .v (.int .i64 (dchk g l))]) ;; []
--%VC rbitsD ;; (g : Int) (l : List Int) ;; G8e ;; fun _ => none ;; ref08.Bits ;; [.ag [.v (.int .i64 g), .dat (.ints .i64 l)]] ;; [] ;; (.tu [.v (.int .i64 (bitsF g l)), .v (.int .i64 (dchk g l))]) ;; []
-/
end Go.Proofs.Ytafabheehkmfhaa
/-
  Chapter 8: contracts of the predefined distributions. Conditions: none (definitions).
-/
namespace Go.Proofs.Ytafabheehkmfhaa
open Go Go.RowKit
set_option linter.unusedVariables false
set_option linter.unusedSimpArgs false
set_option maxRecDepth 100000
def sRepeat : Spec where
  ι := Int × Int
  own := true
  dec l H := match l with
    | [.o l0, .v (.int .i64 c)] => match H l0 with
      | some (.row 3 (.ints .i64 [v])) => some ((v, c), [l0])
      | _ => none
    | _ => none
  args := fun (v, c) => [.o 0, .v (.int .i64 c)]
  hp := fun (v, c) => [(0, .row 3 (.ints .i64 [v]))]
  pre := fun (v, c) => [⟨1 ≤ c, inferInstance⟩, ⟨c ≤ 65536, inferInstance⟩]
  ret := fun (v, c) => .dat (.ints .i64 (List.replicate c.toNat v))
  hp' := fun (v, c) => [(0, .row 3 (.ints .i64 [v]))]
theorem sRepeat_enc : ∀ l H n i ls, sRepeat.dec l H = some (i, ls) → l = renL (rho ls n) (sRepeat.args i) ∧ givenHp H ls = renH (rho ls n) (sRepeat.hp i) := by
  intro l H n i ls h
  simp only [sRepeat] at h
  repeat' split at h
  all_goals first
    | (cases h; done)
    | (cases h; exact ⟨rfl, rfl⟩)
    | (cases h; refine ⟨rfl, ?_⟩; simp only [givenHp, List.filterMap_cons, List.filterMap_nil, Option.map, *]; rfl)
def sRuns : Spec where
  ι := List Int
  dec l H := match l with
    | [.dat (.ints .i64 l)] => some (l, [])
    | _ => none
  args := fun l => [.dat (.ints .i64 l)]
  pre := fun l => [⟨l.length ≤ 64, inferInstance⟩, ⟨okRuns l = true, inferInstance⟩]
  ret := fun l => .o 2000
  hp' := fun l => [(2000, .row 3 (.ints .i64 (expandL l)))]
theorem sRuns_enc : ∀ l H n i ls, sRuns.dec l H = some (i, ls) → l = renL (rho ls n) (sRuns.args i) ∧ givenHp H ls = renH (rho ls n) (sRuns.hp i) := by
  intro l H n i ls h
  simp only [sRuns] at h
  repeat' split at h
  all_goals first
    | (cases h; done)
    | (cases h; exact ⟨rfl, rfl⟩)
def sPredef : Spec where
  ι := Int
  dec l H := match l with
    | [.v (.int .i64 k)] => some (k, [])
    | _ => none
  args := fun k => [.v (.int .i64 k)]
  ret := fun k => .tu [.ag [.v (.int .i64 (preL k)), .dat (.ints .i64 (preP k))], .v (.int .i64 (preE k))]
theorem sPredef_enc : ∀ l H n i ls, sPredef.dec l H = some (i, ls) → l = renL (rho ls n) (sPredef.args i) ∧ givenHp H ls = renH (rho ls n) (sPredef.hp i) := by
  intro l H n i ls h
  simp only [sPredef] at h
  repeat' split at h
  all_goals first
    | (cases h; done)
    | (cases h; exact ⟨rfl, rfl⟩)
/-- one of two contracts -/
def orC (s1 s2 : Spec) : Ctr := ⟨s1.own, fun l H n => match s1.dec l H with
  | some _ => s1.ctr.fn l H n
  | none => s2.ctr.fn l H n⟩
theorem orC_sound {P : Program} {f : FuncId} {s1 s2 : Spec} (h1 : Sound P f s1.ctr) (h2 : Sound P f s2.ctr) : Sound P f (orC s1 s2) := by
  refine ⟨h1.1, fun args H n hp => ?_⟩
  simp only [orC] at hp ⊢
  cases hd : s1.dec args H with
  | none => rw [hd] at hp; exact h2.2 args H n hp
  | some x => rw [hd] at hp; exact h1.2 args H n hp
def oRuns (l : List Int) : LoopInv := { ι := Nat × List Int, p := fun x => x.1 ≤ l.length ∧ okRuns (l.drop x.1) = true ∧ x.2.length ≤ 64 * x.1 ∧ x.2 ++ expandL (l.drop x.1) = expandL l, tm := fun x => [(0, .dat (.ints .i64 l)), (3, .o 2000), (4, .v (.int .i64 (x.1 : Nat)))], hp := fun x => [(2000, .row 3 (.ints .i64 x.2))], μ := fun x => l.length - x.1 }
def G8g : List (Nat × Ctr) := (81, sRepeat.ctr) :: (73, orC sTimes0 sTimes) :: G8f
def G8h : List (Nat × Ctr) := (65, sRuns.ctr) :: G8g
def G8i : List (Nat × Ctr) := (38, sPredef.ctr) :: (51, sPredef.ctr) :: G8h
/-!
--%VC runs ;; (l : List Int) ;; G8g ;; one (oRuns l) ;; dist.runs ;; [.dat (.ints .i64 l)] ;; [] ;; (.o 2000) ;; [(2000, .row 3 (.ints .i64 (expandL l)))]
--%VC predef ;; (k : Int) ;; G8h ;; fun _ => none ;; dist.Predefined ;; [.v (.int .i64 k)] ;; [] ;; (.tu [.ag [.v (.int .i64 (preL k)), .dat (.ints .i64 (preP k))], .v (.int .i64 (preE k))]) ;; []
--%VC rpredef ;; (k : Int) ;; G8h ;; fun _ => none ;; ref08.Predefined ;; [.v (.int .i64 k)] ;; [] ;; (.tu [.ag [.v (.int .i64 (preL k)), .dat (.ints .i64 (preP k))], .v (.int .i64 (preE k))]) ;; []
-/
end Go.Proofs.Ytafabheehkmfhaa
/-
  Chapter 8: the laws on what is written and predefined, as conditions. Conditions: none (definitions).
-/
namespace Go.Proofs.Ytafabheehkmfhaa
open Go Go.RowKit
set_option linter.unusedVariables false
set_option linter.unusedSimpArgs false
set_option maxRecDepth 100000
def sAwake : Spec where
  ι := Unit
  dec l H := match l with
    | [] => some ((), [])
    | _ => none
  args := fun _ => []
  ret := fun _ => .v (.bool true)
theorem sAwake_enc : ∀ l H n i ls, sAwake.dec l H = some (i, ls) → l = renL (rho ls n) (sAwake.args i) ∧ givenHp H ls = renH (rho ls n) (sAwake.hp i) := by
  intro l H n i ls h
  simp only [sAwake] at h
  repeat' split at h
  all_goals first
    | (cases h; done)
    | (cases h; exact ⟨rfl, rfl⟩)
def G8j : List (Nat × Ctr) := (40, sAwake.ctr) :: G8i
/-!
--%VC awake8 ;; ;; G8i ;; fun _ => none ;; law08.awake ;; [] ;; [] ;; (.v (.bool true)) ;; []
--%VC lawPre ;; (k : Int) ;; G8j ;; fun _ => none ;; law08.DistPredefined ;; [.v (.int .i64 k)] ;; [] ;; (.v (.bool true)) ;; []
--%VC lawWr ;; (g : Int) (l : List Int) (g2 : Int) (l2 : List Int) (k : Int) ;; G8j ;; fun _ => none ;; law08.DistWrites ;; [.ag [.v (.int .i64 g), .dat (.ints .i64 l)], .ag [.v (.int .i64 g2), .dat (.ints .i64 l2)], .v (.int .i64 k)] ;; [] ;; (.v (.bool true)) ;; []
-/
end Go.Proofs.Ytafabheehkmfhaa
/-
  The conditions of the functions told in the text before, and that they are the executor's. Conditions: none.
-/
namespace Go.Proofs.Ytafabheehkmfhaa
open Go Go.RowKit
set_option linter.unusedVariables false
set_option maxRecDepth 100000
def awake8_t  : Prop :=
List.length [(16 : Int), (16 : Int)] ≤ (4294967296 : Nat) ∧
  ((ByteArray.toList (writeF (5 : Int) [(16 : Int), (16 : Int)]).fst == ByteArray.toList { data := #[(16 : UInt8), (63 : UInt8)] }) = true →
      (((writeF (5 : Int) [(16 : Int), (16 : Int)]).snd == (0 : Int)) = true → List.length [(16 : Int)] ≤ (4294967296 : Nat) ∧ (dchk (4 : Int) [(16 : Int)] == (31 : Int)) = true) ∧
        (((writeF (5 : Int) [(16 : Int), (16 : Int)]).snd == (0 : Int)) = false → false = true)) ∧
    ((ByteArray.toList (writeF (5 : Int) [(16 : Int), (16 : Int)]).fst == ByteArray.toList { data := #[(16 : UInt8), (63 : UInt8)] }) = false → false = true)
--end
theorem awake8_e  : awake8_t  = vcG Try.prog (Gof G8i) (fun _ => none) Try.f40 [] [] (.v (.bool true)) [] := by kernel_rfl
def lawPre_t (k : Int) : Prop :=
inW k = true ∧
  inW (3 : Int) = true ∧
    ((preE (modI k (3 : Int)) == (0 : Int)) = true →
        List.length (preP (modI k (3 : Int))) ≤ (4294967296 : Nat) ∧
          ((dchk (preL (modI k (3 : Int))) (preP (modI k (3 : Int))) == (0 : Int)) = true →
              (0 : Int) ≤ modI k (3 : Int) ∧
                modI k (3 : Int) < (↑((3 : Nat)) : Int) ∧
                  Int.toNat (modI k (3 : Int)) < (3 : Nat) ∧
                    (((↑(List.length (preP (modI k (3 : Int)))) : Int) == List.getD [(36 : Int), (29 : Int), (53 : Int)] (Int.toNat (modI k (3 : Int))) (0 : Int)) = true → true = true) ∧
                      (((↑(List.length (preP (modI k (3 : Int)))) : Int) == List.getD [(36 : Int), (29 : Int), (53 : Int)] (Int.toNat (modI k (3 : Int))) (0 : Int)) = false → false = true)) ∧
            ((dchk (preL (modI k (3 : Int))) (preP (modI k (3 : Int))) == (0 : Int)) = false → false = true)) ∧
      ((preE (modI k (3 : Int)) == (0 : Int)) = false → false = true)
--end
theorem lawPre_e (k : Int) : lawPre_t k = vcG Try.prog (Gof G8j) (fun _ => none) Try.f8 [.v (.int .i64 k)] [] (.v (.bool true)) [] := by kernel_rfl
def lawWr_t (g : Int) (l : List Int) (g2 : Int) (l2 : List Int) (k : Int) : Prop :=
(decide ((↑(List.length l) : Int) > (300 : Int)) = true → true = true) ∧
  (decide ((↑(List.length l) : Int) > (300 : Int)) = false →
    (decide ((↑(List.length l2) : Int) > (300 : Int)) = true → true = true) ∧
      (decide ((↑(List.length l2) : Int) > (300 : Int)) = false →
        List.length l ≤ (4294967296 : Nat) ∧
          List.length l ≤ (4294967296 : Nat) ∧
            List.length l ≤ (4294967296 : Nat) ∧
              ((dchk g l != dchk g l) = true → false = true) ∧
                ((dchk g l != dchk g l) = false →
                  ((dsize g != dsize g) = true → false = true) ∧
                    ((dsize g != dsize g) = false →
                      List.length l ≤ (4294967296 : Nat) ∧
                        List.length l ≤ (4294967296 : Nat) ∧
                          ((!(g == g2 && eqI l l2) == (g == g2 && eqI l l2)) = true → false = true) ∧
                            ((!(g == g2 && eqI l l2) == (g == g2 && eqI l l2)) = false →
                              List.length l ≤ (4294967296 : Nat) ∧
                                List.length l ≤ (4294967296 : Nat) ∧
                                  List.length l ≤ (4294967296 : Nat) ∧
                                    List.length l ≤ (4294967296 : Nat) ∧
                                      ((!ByteArray.toList (writeF g l).fst == ByteArray.toList (writeF g l).fst) = true → false = true) ∧
                                        ((!ByteArray.toList (writeF g l).fst == ByteArray.toList (writeF g l).fst) = false →
                                          (((writeF g l).snd != (writeF g l).snd) = true → false = true) ∧
                                            (((writeF g l).snd != (writeF g l).snd) = false →
                                              ((bitsF g l != bitsF g l) = true → false = true) ∧
                                                ((bitsF g l != bitsF g l) = false →
                                                  ((dchk g l != dchk g l) = true → false = true) ∧
                                                    ((dchk g l != dchk g l) = false →
                                                      List.length (preP k) ≤ (4294967296 : Nat) ∧
                                                        ((preL k == preL k && eqI (preP k) (preP k)) = true →
                                                            ((preE k == preE k) = true →
                                                                List.length l ≤ (4294967296 : Nat) ∧ ((g == g && eqI l l) = true → true = true) ∧ ((g == g && eqI l l) = false → false = true)) ∧
                                                              ((preE k == preE k) = false → false = true)) ∧
                                                          ((preL k == preL k && eqI (preP k) (preP k)) = false → false = true))))))))))
--end
theorem lawWr_e (g : Int) (l : List Int) (g2 : Int) (l2 : List Int) (k : Int) : lawWr_t g l g2 l2 k = vcG Try.prog (Gof G8j) (fun _ => none) Try.f9 [.ag [.v (.int .i64 g), .dat (.ints .i64 l)], .ag [.v (.int .i64 g2), .dat (.ints .i64 l2)], .v (.int .i64 k)] [] (.v (.bool true)) [] := by kernel_rfl
end Go.Proofs.Ytafabheehkmfhaa
/-
  The conditions of the functions told in the text before, and that they are the executor's. Conditions: none.
-/
namespace Go.Proofs.Ytafabheehkmfhaa
open Go Go.RowKit
set_option linter.unusedVariables false
set_option maxRecDepth 100000
def runs_t (l : List Int) : Prop :=
(∃ (x0 : Nat × List Int),
    (x0.fst ≤ List.length l ∧ okRuns (List.drop x0.fst l) = true ∧ List.length x0.snd ≤ (64 : Nat) * x0.fst ∧ x0.snd ++ expandL (List.drop x0.fst l) = expandL l) ∧
      l = l ∧ (0 : Int) = (↑x0.fst : Int) ∧ List.length x0.snd = (0 : Nat)) ∧
  ∀ (x1 : Nat × List Int),
    x1.fst ≤ List.length l ∧ okRuns (List.drop x1.fst l) = true ∧ List.length x1.snd ≤ (64 : Nat) * x1.fst ∧ x1.snd ++ expandL (List.drop x1.fst l) = expandL l →
      (decide (IntKind.wrap IntKind.i64 ((↑x1.fst : Int) + (1 : Int)) < (↑(List.length l) : Int)) = true →
          (0 : Int) ≤ IntKind.wrap IntKind.i64 ((↑x1.fst : Int) + (1 : Int)) ∧
            IntKind.wrap IntKind.i64 ((↑x1.fst : Int) + (1 : Int)) < (↑(List.length l) : Int) ∧
              (0 : Int) ≤ (↑x1.fst : Int) ∧
                (↑x1.fst : Int) < (↑(List.length l) : Int) ∧
                  (1 : Int) ≤ List.getD l (Int.toNat (↑x1.fst : Int)) (0 : Int) ∧
                    List.getD l (Int.toNat (↑x1.fst : Int)) (0 : Int) ≤ (65536 : Int) ∧
                      (List.length x1.snd +
                              List.length
                                (List.replicate (Int.toNat (List.getD l (Int.toNat (↑x1.fst : Int)) (0 : Int)))
                                  (List.getD l (Int.toNat (IntKind.wrap IntKind.i64 ((↑x1.fst : Int) + (1 : Int)))) (0 : Int)))) *
                            (8 : Nat) ≤
                          (140737488355328 : Nat) ∧
                        ∃ (y2 : Nat × List Int),
                          (y2.fst ≤ List.length l ∧ okRuns (List.drop y2.fst l) = true ∧ List.length y2.snd ≤ (64 : Nat) * y2.fst ∧ y2.snd ++ expandL (List.drop y2.fst l) = expandL l) ∧
                            Nat.sub (List.length l) y2.fst < Nat.sub (List.length l) x1.fst ∧
                              l = l ∧
                                IntKind.wrap IntKind.i64 ((↑x1.fst : Int) + (2 : Int)) = (↑y2.fst : Int) ∧
                                  x1.snd ++
                                      List.replicate (Int.toNat (List.getD l (Int.toNat (↑x1.fst : Int)) (0 : Int)))
                                        (List.getD l (Int.toNat (IntKind.wrap IntKind.i64 ((↑x1.fst : Int) + (1 : Int)))) (0 : Int)) =
                                    y2.snd) ∧
        (decide (IntKind.wrap IntKind.i64 ((↑x1.fst : Int) + (1 : Int)) < (↑(List.length l) : Int)) = false → x1.snd = expandL l)
--end
theorem runs_e (l : List Int) : runs_t l = vcG Try.prog (Gof G8g) (one (oRuns l)) Try.f65 [.dat (.ints .i64 l)] [] (.o 2000) [(2000, .row 3 (.ints .i64 (expandL l)))] := by kernel_rfl
def predef_t (k : Int) : Prop :=
List.length
      [(1 : Int), (4 : Int), (1 : Int), (3 : Int), (11 : Int), (2 : Int), (3 : Int), (1 : Int), (9 : Int), (2 : Int), (1 : Int), (3 : Int), (1 : Int), (2 : Int), (5 : Int), (1 : Int), (4 : Int),
        (-1 : Int)] =
    List.length (List.replicate (18 : Nat) (0 : Int)) ∧
  List.length [(6 : Int), (1 : Int), (3 : Int), (2 : Int), (15 : Int), (1 : Int), (5 : Int), (-1 : Int)] = List.length (List.replicate (8 : Nat) (0 : Int)) ∧
    List.length [(1 : Int), (1 : Int), (1 : Int), (4 : Int), (1 : Int), (3 : Int), (6 : Int), (2 : Int), (37 : Int), (1 : Int), (7 : Int), (-1 : Int)] =
        List.length (List.replicate (12 : Nat) (0 : Int)) ∧
      (0 : Int) ≤ (0 : Int) ∧
        (0 : Int) ≤ (↑(12 : Nat) : Int) ∧
          (↑(12 : Nat) : Int) ≤ (↑(12 : Nat) : Int) ∧
            (12 : Nat) = (12 : Nat) ∧
              ((k == (1 : Int)) = true →
                  (0 : Int) ≤ (0 : Int) ∧
                    (0 : Int) ≤ (↑(8 : Nat) : Int) ∧
                      (↑(8 : Nat) : Int) ≤ (↑(8 : Nat) : Int) ∧
                        (8 : Nat) = (8 : Nat) ∧
                          List.length
                                (List.take (Int.toNat (↑(8 : Nat) : Int) - Int.toNat (0 : Int))
                                  (List.drop (Int.toNat (0 : Int)) [(6 : Int), (1 : Int), (3 : Int), (2 : Int), (15 : Int), (1 : Int), (5 : Int), (-1 : Int)])) ≤
                              (64 : Nat) ∧
                            okRuns
                                  (List.take (Int.toNat (↑(8 : Nat) : Int) - Int.toNat (0 : Int))
                                    (List.drop (Int.toNat (0 : Int)) [(6 : Int), (1 : Int), (3 : Int), (2 : Int), (15 : Int), (1 : Int), (5 : Int), (-1 : Int)])) =
                                true ∧
                              (5 : Int) = preL k ∧
                                expandL
                                      (List.take (Int.toNat (↑(8 : Nat) : Int) - Int.toNat (0 : Int))
                                        (List.drop (Int.toNat (0 : Int)) [(6 : Int), (1 : Int), (3 : Int), (2 : Int), (15 : Int), (1 : Int), (5 : Int), (-1 : Int)])) =
                                    preP k ∧
                                  (0 : Int) = preE k) ∧
                ((k == (1 : Int)) = false →
                  ((k == (2 : Int)) = true →
                      List.length
                            (List.take (Int.toNat (↑(12 : Nat) : Int) - Int.toNat (0 : Int))
                              (List.drop (Int.toNat (0 : Int))
                                [(1 : Int), (1 : Int), (1 : Int), (4 : Int), (1 : Int), (3 : Int), (6 : Int), (2 : Int), (37 : Int), (1 : Int), (7 : Int), (-1 : Int)])) ≤
                          (64 : Nat) ∧
                        okRuns
                              (List.take (Int.toNat (↑(12 : Nat) : Int) - Int.toNat (0 : Int))
                                (List.drop (Int.toNat (0 : Int))
                                  [(1 : Int), (1 : Int), (1 : Int), (4 : Int), (1 : Int), (3 : Int), (6 : Int), (2 : Int), (37 : Int), (1 : Int), (7 : Int), (-1 : Int)])) =
                            true ∧
                          (6 : Int) = preL k ∧
                            expandL
                                  (List.take (Int.toNat (↑(12 : Nat) : Int) - Int.toNat (0 : Int))
                                    (List.drop (Int.toNat (0 : Int))
                                      [(1 : Int), (1 : Int), (1 : Int), (4 : Int), (1 : Int), (3 : Int), (6 : Int), (2 : Int), (37 : Int), (1 : Int), (7 : Int), (-1 : Int)])) =
                                preP k ∧
                              (0 : Int) = preE k) ∧
                    ((k == (2 : Int)) = false →
                      ((k == (0 : Int)) = true →
                          (0 : Int) ≤ (0 : Int) ∧
                            (0 : Int) ≤ (↑(18 : Nat) : Int) ∧
                              (↑(18 : Nat) : Int) ≤ (↑(18 : Nat) : Int) ∧
                                (18 : Nat) = (18 : Nat) ∧
                                  List.length
                                        (List.take (Int.toNat (↑(18 : Nat) : Int) - Int.toNat (0 : Int))
                                          (List.drop (Int.toNat (0 : Int))
                                            [(1 : Int), (4 : Int), (1 : Int), (3 : Int), (11 : Int), (2 : Int), (3 : Int), (1 : Int), (9 : Int), (2 : Int), (1 : Int), (3 : Int), (1 : Int), (2 : Int),
                                              (5 : Int), (1 : Int), (4 : Int), (-1 : Int)])) ≤
                                      (64 : Nat) ∧
                                    okRuns
                                          (List.take (Int.toNat (↑(18 : Nat) : Int) - Int.toNat (0 : Int))
                                            (List.drop (Int.toNat (0 : Int))
                                              [(1 : Int), (4 : Int), (1 : Int), (3 : Int), (11 : Int), (2 : Int), (3 : Int), (1 : Int), (9 : Int), (2 : Int), (1 : Int), (3 : Int), (1 : Int),
                                                (2 : Int), (5 : Int), (1 : Int), (4 : Int), (-1 : Int)])) =
                                        true ∧
                                      (6 : Int) = preL k ∧
                                        expandL
                                              (List.take (Int.toNat (↑(18 : Nat) : Int) - Int.toNat (0 : Int))
                                                (List.drop (Int.toNat (0 : Int))
                                                  [(1 : Int), (4 : Int), (1 : Int), (3 : Int), (11 : Int), (2 : Int), (3 : Int), (1 : Int), (9 : Int), (2 : Int), (1 : Int), (3 : Int), (1 : Int),
                                                    (2 : Int), (5 : Int), (1 : Int), (4 : Int), (-1 : Int)])) =
                                            preP k ∧
                                          (0 : Int) = preE k) ∧
                        ((k == (0 : Int)) = false → (0 : Int) = preL k ∧ List.length (preP k) = (0 : Nat) ∧ (11 : Int) = preE k)))
--end
theorem predef_e (k : Int) : predef_t k = vcG Try.prog (Gof G8h) (fun _ => none) Try.f38 [.v (.int .i64 k)] [] (.tu [.ag [.v (.int .i64 (preL k)), .dat (.ints .i64 (preP k))], .v (.int .i64 (preE k))]) [] := by kernel_rfl
def rpredef_t (k : Int) : Prop :=
((k == (0 : Int)) = true →
    (2 : Nat) * (8 : Nat) ≤ (140737488355328 : Nat) ∧
      List.length [(4 : Int), (3 : Int)] ≤ (65536 : Nat) ∧
        (11 : Int) ≤ (65536 : Int) ∧
          (Nat.succ (Nat.add (List.length (List.append [(3 : Int)] (List.replicate (Int.toNat (11 : Int)) (2 : Int)))) ((0 : Nat))) + (3 : Nat)) * (8 : Nat) ≤ (140737488355328 : Nat) ∧
            List.length ([(4 : Int), (3 : Int)] ++ List.replicate (Int.toNat (11 : Int)) (2 : Int) ++ [(1 : Int), (1 : Int), (1 : Int)]) ≤ (65536 : Nat) ∧
              (9 : Int) ≤ (65536 : Int) ∧
                (Nat.succ
                          (Nat.add
                            (List.length
                              (List.append (List.append (List.append [(3 : Int)] (List.replicate (Int.toNat (11 : Int)) (2 : Int))) [(1 : Int), (1 : Int), (1 : Int)])
                                (List.replicate (Int.toNat (9 : Int)) (2 : Int))))
                            ((0 : Nat))) +
                        (2 : Nat)) *
                      (8 : Nat) ≤
                    (140737488355328 : Nat) ∧
                  List.length
                        ([(4 : Int), (3 : Int)] ++ List.replicate (Int.toNat (11 : Int)) (2 : Int) ++ [(1 : Int), (1 : Int), (1 : Int)] ++ List.replicate (Int.toNat (9 : Int)) (2 : Int) ++
                          [(3 : Int), (2 : Int)]) ≤
                      (65536 : Nat) ∧
                    (5 : Int) ≤ (65536 : Int) ∧
                      List.length
                            ([(4 : Int), (3 : Int)] ++ List.replicate (Int.toNat (11 : Int)) (2 : Int) ++ [(1 : Int), (1 : Int), (1 : Int)] ++ List.replicate (Int.toNat (9 : Int)) (2 : Int) ++
                                [(3 : Int), (2 : Int)] ++
                              List.replicate (Int.toNat (5 : Int)) (1 : Int)) ≤
                          (65536 : Nat) ∧
                        (4 : Int) ≤ (65536 : Int) ∧
                          (6 : Int) = preL k ∧
                            [(4 : Int), (3 : Int)] ++ List.replicate (Int.toNat (11 : Int)) (2 : Int) ++ [(1 : Int), (1 : Int), (1 : Int)] ++ List.replicate (Int.toNat (9 : Int)) (2 : Int) ++
                                      [(3 : Int), (2 : Int)] ++
                                    List.replicate (Int.toNat (5 : Int)) (1 : Int) ++
                                  List.replicate (Int.toNat (4 : Int)) (-1 : Int) =
                                preP k ∧
                              (0 : Int) = preE k) ∧
  ((k == (0 : Int)) = false →
    ((k == (1 : Int)) = true →
        (6 : Int) ≤ (65536 : Int) ∧
          List.length (List.replicate (Int.toNat (6 : Int)) (1 : Int)) ≤ (65536 : Nat) ∧
            (3 : Int) ≤ (65536 : Int) ∧
              List.length (List.replicate (Int.toNat (6 : Int)) (1 : Int) ++ List.replicate (Int.toNat (3 : Int)) (2 : Int)) ≤ (65536 : Nat) ∧
                (15 : Int) ≤ (65536 : Int) ∧
                  List.length (List.replicate (Int.toNat (6 : Int)) (1 : Int) ++ List.replicate (Int.toNat (3 : Int)) (2 : Int) ++ List.replicate (Int.toNat (15 : Int)) (1 : Int)) ≤ (65536 : Nat) ∧
                    (5 : Int) ≤ (65536 : Int) ∧
                      (5 : Int) = preL k ∧
                        List.replicate (Int.toNat (6 : Int)) (1 : Int) ++ List.replicate (Int.toNat (3 : Int)) (2 : Int) ++ List.replicate (Int.toNat (15 : Int)) (1 : Int) ++
                              List.replicate (Int.toNat (5 : Int)) (-1 : Int) =
                            preP k ∧
                          (0 : Int) = preE k) ∧
      ((k == (1 : Int)) = false →
        ((k == (2 : Int)) = true →
            (3 : Nat) * (8 : Nat) ≤ (140737488355328 : Nat) ∧
              List.length [(1 : Int), (4 : Int), (3 : Int)] ≤ (65536 : Nat) ∧
                (6 : Int) ≤ (65536 : Int) ∧
                  List.length ([(1 : Int), (4 : Int), (3 : Int)] ++ List.replicate (Int.toNat (6 : Int)) (2 : Int)) ≤ (65536 : Nat) ∧
                    (37 : Int) ≤ (65536 : Int) ∧
                      List.length ([(1 : Int), (4 : Int), (3 : Int)] ++ List.replicate (Int.toNat (6 : Int)) (2 : Int) ++ List.replicate (Int.toNat (37 : Int)) (1 : Int)) ≤ (65536 : Nat) ∧
                        (7 : Int) ≤ (65536 : Int) ∧
                          (6 : Int) = preL k ∧
                            [(1 : Int), (4 : Int), (3 : Int)] ++ List.replicate (Int.toNat (6 : Int)) (2 : Int) ++ List.replicate (Int.toNat (37 : Int)) (1 : Int) ++
                                  List.replicate (Int.toNat (7 : Int)) (-1 : Int) =
                                preP k ∧
                              (0 : Int) = preE k) ∧
          ((k == (2 : Int)) = false → (0 : Int) = preL k ∧ List.length (preP k) = (0 : Nat) ∧ (11 : Int) = preE k)))
--end
theorem rpredef_e (k : Int) : rpredef_t k = vcG Try.prog (Gof G8h) (fun _ => none) Try.f51 [.v (.int .i64 k)] [] (.tu [.ag [.v (.int .i64 (preL k)), .dat (.ints .i64 (preP k))], .v (.int .i64 (preE k))]) [] := by kernel_rfl
end Go.Proofs.Ytafabheehkmfhaa
/-
  The conditions of the functions told in the text before, and that they are the executor's. Conditions: none.
-/
namespace Go.Proofs.Ytafabheehkmfhaa
open Go Go.RowKit
set_option linter.unusedVariables false
set_option maxRecDepth 100000
def put1_t (k v : Int) (s : ByteArray) (p m : Int) : Prop :=
(putT (s, p, m) (k, v).fst (k, v).snd).fst.fst = (putT (s, p, m) k v).fst.fst ∧
  (putT (s, p, m) (k, v).fst (k, v).snd).fst.snd.fst = (putT (s, p, m) k v).fst.snd.fst ∧ (putT (s, p, m) (k, v).fst (k, v).snd).fst.snd.snd = (putT (s, p, m) k v).fst.snd.snd
--end
theorem put1_e (k v : Int) (s : ByteArray) (p m : Int) : put1_t k v s p m = vcG Try.prog (Gof G8c) (fun _ => none) Try.f83 [.v (.int .i64 k), .v (.int .i64 v), .p 0 0 0] [(0, .cells 23 [.v (.string s), .v (.int .i64 p), .v (.int .i64 m)])] (.tu []) [(0, .cells 23 [.v (.string (putT (s, p, m) k v).1.1), .v (.int .i64 (putT (s, p, m) k v).1.2.1), .v (.int .i64 (putT (s, p, m) k v).1.2.2)])] := by kernel_rfl
def written_t (g : Int) (l : List Int) : Prop :=
(0 : Int) ≤ g ∧
  (∃ (x0 : Nat × W3),
      (x0.fst ≤ List.length l ∧ putAll x0.snd (de none (List.drop x0.fst l) (pts (List.drop x0.fst l))) = wrT g l) ∧
        IntKind.wrap IntKind.i64 ((1 : Int) * (2 : Int) ^ min (Int.toNat g) (IntKind.bits IntKind.i64)) = pts (List.drop x0.fst l) ∧
          (0 : Int) = (↑x0.fst : Int) ∧
            g = g ∧
              l = l ∧
                (putT ({ data := #[] }, (0 : Int), (0 : Int)) (4 : Int) (IntKind.wrap IntKind.i64 (g - (5 : Int)))).fst.fst = x0.snd.fst ∧
                  (putT ({ data := #[] }, (0 : Int), (0 : Int)) (4 : Int) (IntKind.wrap IntKind.i64 (g - (5 : Int)))).fst.snd.fst = x0.snd.snd.fst ∧
                    (putT ({ data := #[] }, (0 : Int), (0 : Int)) (4 : Int) (IntKind.wrap IntKind.i64 (g - (5 : Int)))).fst.snd.snd = x0.snd.snd.snd) ∧
    ∀ (x1 : Nat × W3),
      x1.fst ≤ List.length l ∧ putAll x1.snd (de none (List.drop x1.fst l) (pts (List.drop x1.fst l))) = wrT g l →
        (decide ((↑x1.fst : Int) < (↑(List.length l) : Int)) = true →
            (0 : Int) ≤ (↑x1.fst : Int) ∧
              (↑x1.fst : Int) < (↑(List.length l) : Int) ∧
                (0 : Int) ≤ pts (List.drop x1.fst l) ∧
                  pts (List.drop x1.fst l) ≤ (1073741824 : Int) ∧
                    ∃ (g2 : Nat),
                      ((decide (IntKind.wrap IntKind.i64 (List.getD l (Int.toNat (↑x1.fst : Int)) (0 : Int) + (1 : Int)) < shT (pts (List.drop x1.fst l))) = true →
                            ∃ (x3 : ByteArray × Int × Int),
                              (g2 < List.length l ∧ putAll x3 (deP l g2) = wrT g l) ∧
                                List.getD l (Int.toNat (↑x1.fst : Int)) (0 : Int) = List.getD l g2 (0 : Int) ∧
                                  pts (List.drop x1.fst l) = pts (List.drop g2 l) ∧
                                    (↑x1.fst : Int) = (↑g2 : Int) ∧
                                      g = g ∧
                                        l = l ∧
                                          (putT (x1.snd.fst, x1.snd.snd.fst, x1.snd.snd.snd) (IntKind.wrap IntKind.i64 (shB (pts (List.drop x1.fst l)) - (1 : Int)))
                                                    (IntKind.wrap IntKind.i64 (List.getD l (Int.toNat (↑x1.fst : Int)) (0 : Int) + (1 : Int)))).fst.fst =
                                              x3.fst ∧
                                            (putT (x1.snd.fst, x1.snd.snd.fst, x1.snd.snd.snd) (IntKind.wrap IntKind.i64 (shB (pts (List.drop x1.fst l)) - (1 : Int)))
                                                        (IntKind.wrap IntKind.i64 (List.getD l (Int.toNat (↑x1.fst : Int)) (0 : Int) + (1 : Int)))).fst.snd.fst =
                                                x3.snd.fst ∧
                                              (putT (x1.snd.fst, x1.snd.snd.fst, x1.snd.snd.snd) (IntKind.wrap IntKind.i64 (shB (pts (List.drop x1.fst l)) - (1 : Int)))
                                                        (IntKind.wrap IntKind.i64 (List.getD l (Int.toNat (↑x1.fst : Int)) (0 : Int) + (1 : Int)))).fst.snd.snd =
                                                x3.snd.snd) ∧
                          (decide (IntKind.wrap IntKind.i64 (List.getD l (Int.toNat (↑x1.fst : Int)) (0 : Int) + (1 : Int)) < shT (pts (List.drop x1.fst l))) = false →
                            (0 : Int) ≤ IntKind.wrap IntKind.i64 (shB (pts (List.drop x1.fst l)) - (1 : Int)) ∧
                              (decide
                                      (IntKind.wrap IntKind.i64 (List.getD l (Int.toNat (↑x1.fst : Int)) (0 : Int) + (1 : Int)) <
                                        IntKind.wrap IntKind.i64
                                          ((1 : Int) * (2 : Int) ^ min (Int.toNat (IntKind.wrap IntKind.i64 (shB (pts (List.drop x1.fst l)) - (1 : Int)))) (IntKind.bits IntKind.i64))) =
                                    true →
                                  ∃ (x4 : ByteArray × Int × Int),
                                    (g2 < List.length l ∧ putAll x4 (deP l g2) = wrT g l) ∧
                                      List.getD l (Int.toNat (↑x1.fst : Int)) (0 : Int) = List.getD l g2 (0 : Int) ∧
                                        pts (List.drop x1.fst l) = pts (List.drop g2 l) ∧
                                          (↑x1.fst : Int) = (↑g2 : Int) ∧
                                            g = g ∧
                                              l = l ∧
                                                (putT (x1.snd.fst, x1.snd.snd.fst, x1.snd.snd.snd) (shB (pts (List.drop x1.fst l)))
                                                          (IntKind.wrap IntKind.i64 (List.getD l (Int.toNat (↑x1.fst : Int)) (0 : Int) + (1 : Int)))).fst.fst =
                                                    x4.fst ∧
                                                  (putT (x1.snd.fst, x1.snd.snd.fst, x1.snd.snd.snd) (shB (pts (List.drop x1.fst l)))
                                                              (IntKind.wrap IntKind.i64 (List.getD l (Int.toNat (↑x1.fst : Int)) (0 : Int) + (1 : Int)))).fst.snd.fst =
                                                      x4.snd.fst ∧
                                                    (putT (x1.snd.fst, x1.snd.snd.fst, x1.snd.snd.snd) (shB (pts (List.drop x1.fst l)))
                                                              (IntKind.wrap IntKind.i64 (List.getD l (Int.toNat (↑x1.fst : Int)) (0 : Int) + (1 : Int)))).fst.snd.snd =
                                                      x4.snd.snd) ∧
                                (decide
                                      (IntKind.wrap IntKind.i64 (List.getD l (Int.toNat (↑x1.fst : Int)) (0 : Int) + (1 : Int)) <
                                        IntKind.wrap IntKind.i64
                                          ((1 : Int) * (2 : Int) ^ min (Int.toNat (IntKind.wrap IntKind.i64 (shB (pts (List.drop x1.fst l)) - (1 : Int)))) (IntKind.bits IntKind.i64))) =
                                    false →
                                  ∃ (x5 : ByteArray × Int × Int),
                                    (g2 < List.length l ∧ putAll x5 (deP l g2) = wrT g l) ∧
                                      List.getD l (Int.toNat (↑x1.fst : Int)) (0 : Int) = List.getD l g2 (0 : Int) ∧
                                        pts (List.drop x1.fst l) = pts (List.drop g2 l) ∧
                                          (↑x1.fst : Int) = (↑g2 : Int) ∧
                                            g = g ∧
                                              l = l ∧
                                                (putT (x1.snd.fst, x1.snd.snd.fst, x1.snd.snd.snd) (shB (pts (List.drop x1.fst l)))
                                                          (IntKind.wrap IntKind.i64
                                                            (IntKind.wrap IntKind.i64 (List.getD l (Int.toNat (↑x1.fst : Int)) (0 : Int) + (1 : Int)) + shT (pts (List.drop x1.fst l))))).fst.fst =
                                                    x5.fst ∧
                                                  (putT (x1.snd.fst, x1.snd.snd.fst, x1.snd.snd.snd) (shB (pts (List.drop x1.fst l)))
                                                              (IntKind.wrap IntKind.i64
                                                                (IntKind.wrap IntKind.i64 (List.getD l (Int.toNat (↑x1.fst : Int)) (0 : Int) + (1 : Int)) +
                                                                  shT (pts (List.drop x1.fst l))))).fst.snd.fst =
                                                      x5.snd.fst ∧
                                                    (putT (x1.snd.fst, x1.snd.snd.fst, x1.snd.snd.snd) (shB (pts (List.drop x1.fst l)))
                                                              (IntKind.wrap IntKind.i64
                                                                (IntKind.wrap IntKind.i64 (List.getD l (Int.toNat (↑x1.fst : Int)) (0 : Int) + (1 : Int)) +
                                                                  shT (pts (List.drop x1.fst l))))).fst.snd.snd =
                                                      x5.snd.snd))) ∧
                        ∀ (x6 : ByteArray × Int × Int),
                          g2 < List.length l ∧ putAll x6 (deP l g2) = wrT g l →
                            ((List.getD l g2 (0 : Int) != (0 : Int)) = true →
                                ∃ (y7 : Nat × W3),
                                  (y7.fst ≤ List.length l ∧ putAll y7.snd (de none (List.drop y7.fst l) (pts (List.drop y7.fst l))) = wrT g l) ∧
                                    Nat.sub (List.length l) y7.fst < Nat.sub (List.length l) x1.fst ∧
                                      IntKind.wrap IntKind.i64 (pts (List.drop g2 l) - max (List.getD l g2 (0 : Int)) (1 : Int)) = pts (List.drop y7.fst l) ∧
                                        IntKind.wrap IntKind.i64 ((↑g2 : Int) + (1 : Int)) = (↑y7.fst : Int) ∧
                                          g = g ∧ l = l ∧ x6.fst = y7.snd.fst ∧ x6.snd.fst = y7.snd.snd.fst ∧ x6.snd.snd = y7.snd.snd.snd) ∧
                              ((List.getD l g2 (0 : Int) != (0 : Int)) = false →
                                ∃ (g8 : Nat),
                                  (∃ (g9 : Nat),
                                      (∃ (x10 : Nat × Nat × W3),
                                          (g9 ≤ x10.fst ∧
                                              x10.fst < List.length l ∧
                                                x10.snd.fst ≤ x10.fst ∧
                                                  putAll x10.snd.snd (de (some x10.snd.fst) (List.drop (x10.fst + (1 : Nat)) l) (pts (List.drop (x10.fst + (1 : Nat)) l))) = wrT g l) ∧
                                            (0 : Int) = (↑x10.snd.fst : Int) ∧
                                              pts (List.drop g2 l) = pts (List.drop (x10.fst + (1 : Nat)) l) ∧
                                                (↑g2 : Int) = (↑x10.fst : Int) ∧ g = g ∧ l = l ∧ x6.fst = x10.snd.snd.fst ∧ x6.snd.fst = x10.snd.snd.snd.fst ∧ x6.snd.snd = x10.snd.snd.snd.snd) ∧
                                        ∀ (x11 : Nat × Nat × W3),
                                          g9 ≤ x11.fst ∧
                                              x11.fst < List.length l ∧
                                                x11.snd.fst ≤ x11.fst ∧
                                                  putAll x11.snd.snd (de (some x11.snd.fst) (List.drop (x11.fst + (1 : Nat)) l) (pts (List.drop (x11.fst + (1 : Nat)) l))) = wrT g l →
                                            (decide (IntKind.wrap IntKind.i64 ((↑x11.fst : Int) + (1 : Int)) < (↑(List.length l) : Int)) = true →
                                                (0 : Int) ≤ IntKind.wrap IntKind.i64 ((↑x11.fst : Int) + (1 : Int)) ∧
                                                  IntKind.wrap IntKind.i64 ((↑x11.fst : Int) + (1 : Int)) < (↑(List.length l) : Int) ∧
                                                    ((List.getD l (Int.toNat (IntKind.wrap IntKind.i64 ((↑x11.fst : Int) + (1 : Int)))) (0 : Int) == (0 : Int)) = true →
                                                        ∃ (y12 : Nat × Nat × W3),
                                                          (g9 ≤ y12.fst ∧
                                                              y12.fst < List.length l ∧
                                                                y12.snd.fst ≤ y12.fst ∧
                                                                  putAll y12.snd.snd (de (some y12.snd.fst) (List.drop (y12.fst + (1 : Nat)) l) (pts (List.drop (y12.fst + (1 : Nat)) l))) = wrT g l) ∧
                                                            Nat.sub (List.length l) y12.fst < Nat.sub (List.length l) x11.fst ∧
                                                              IntKind.wrap IntKind.i64 ((↑x11.snd.fst : Int) + (1 : Int)) = (↑y12.snd.fst : Int) ∧
                                                                pts (List.drop (x11.fst + (1 : Nat)) l) = pts (List.drop (y12.fst + (1 : Nat)) l) ∧
                                                                  IntKind.wrap IntKind.i64 ((↑x11.fst : Int) + (1 : Int)) = (↑y12.fst : Int) ∧
                                                                    g = g ∧
                                                                      l = l ∧
                                                                        x11.snd.snd.fst = y12.snd.snd.fst ∧ x11.snd.snd.snd.fst = y12.snd.snd.snd.fst ∧ x11.snd.snd.snd.snd = y12.snd.snd.snd.snd) ∧
                                                      ((List.getD l (Int.toNat (IntKind.wrap IntKind.i64 ((↑x11.fst : Int) + (1 : Int)))) (0 : Int) == (0 : Int)) = false →
                                                        ∃ (x13 : Nat × Nat × W3),
                                                          (g8 ≤ x13.fst ∧
                                                              x13.fst < List.length l ∧
                                                                x13.snd.fst ≤ x13.fst ∧
                                                                  putAll x13.snd.snd (zerosP x13.snd.fst ++ de none (List.drop (x13.fst + (1 : Nat)) l) (pts (List.drop (x13.fst + (1 : Nat)) l))) =
                                                                    wrT g l) ∧
                                                            (↑x11.snd.fst : Int) = (↑x13.snd.fst : Int) ∧
                                                              pts (List.drop (x11.fst + (1 : Nat)) l) = pts (List.drop (x13.fst + (1 : Nat)) l) ∧
                                                                (↑x11.fst : Int) = (↑x13.fst : Int) ∧
                                                                  g = g ∧
                                                                    l = l ∧
                                                                      x11.snd.snd.fst = x13.snd.snd.fst ∧ x11.snd.snd.snd.fst = x13.snd.snd.snd.fst ∧ x11.snd.snd.snd.snd = x13.snd.snd.snd.snd)) ∧
                                              (decide (IntKind.wrap IntKind.i64 ((↑x11.fst : Int) + (1 : Int)) < (↑(List.length l) : Int)) = false →
                                                ∃ (x14 : Nat × Nat × W3),
                                                  (g8 ≤ x14.fst ∧
                                                      x14.fst < List.length l ∧
                                                        x14.snd.fst ≤ x14.fst ∧
                                                          putAll x14.snd.snd (zerosP x14.snd.fst ++ de none (List.drop (x14.fst + (1 : Nat)) l) (pts (List.drop (x14.fst + (1 : Nat)) l))) = wrT g l) ∧
                                                    (↑x11.snd.fst : Int) = (↑x14.snd.fst : Int) ∧
                                                      pts (List.drop (x11.fst + (1 : Nat)) l) = pts (List.drop (x14.fst + (1 : Nat)) l) ∧
                                                        (↑x11.fst : Int) = (↑x14.fst : Int) ∧
                                                          g = g ∧ l = l ∧ x11.snd.snd.fst = x14.snd.snd.fst ∧ x11.snd.snd.snd.fst = x14.snd.snd.snd.fst ∧ x11.snd.snd.snd.snd = x14.snd.snd.snd.snd)) ∧
                                    ∀ (x15 : Nat × Nat × W3),
                                      g8 ≤ x15.fst ∧
                                          x15.fst < List.length l ∧
                                            x15.snd.fst ≤ x15.fst ∧
                                              putAll x15.snd.snd (zerosP x15.snd.fst ++ de none (List.drop (x15.fst + (1 : Nat)) l) (pts (List.drop (x15.fst + (1 : Nat)) l))) = wrT g l →
                                        ∃ (g16 : Nat),
                                          (∃ (x17 : Nat × Nat × W3),
                                              (g16 ≤ x17.fst ∧
                                                  x17.fst < List.length l ∧
                                                    x17.snd.fst ≤ x17.fst ∧
                                                      putAll x17.snd.snd (zerosP x17.snd.fst ++ de none (List.drop (x17.fst + (1 : Nat)) l) (pts (List.drop (x17.fst + (1 : Nat)) l))) = wrT g l) ∧
                                                (↑x15.snd.fst : Int) = (↑x17.snd.fst : Int) ∧
                                                  pts (List.drop (x15.fst + (1 : Nat)) l) = pts (List.drop (x17.fst + (1 : Nat)) l) ∧
                                                    (↑x15.fst : Int) = (↑x17.fst : Int) ∧
                                                      g = g ∧ l = l ∧ x15.snd.snd.fst = x17.snd.snd.fst ∧ x15.snd.snd.snd.fst = x17.snd.snd.snd.fst ∧ x15.snd.snd.snd.snd = x17.snd.snd.snd.snd) ∧
                                            ∀ (x18 : Nat × Nat × W3),
                                              g16 ≤ x18.fst ∧
                                                  x18.fst < List.length l ∧
                                                    x18.snd.fst ≤ x18.fst ∧
                                                      putAll x18.snd.snd (zerosP x18.snd.fst ++ de none (List.drop (x18.fst + (1 : Nat)) l) (pts (List.drop (x18.fst + (1 : Nat)) l))) = wrT g l →
                                                (decide ((↑x18.snd.fst : Int) ≥ (3 : Int)) = true →
                                                    ∃ (y19 : Nat × Nat × W3),
                                                      (g16 ≤ y19.fst ∧
                                                          y19.fst < List.length l ∧
                                                            y19.snd.fst ≤ y19.fst ∧
                                                              putAll y19.snd.snd (zerosP y19.snd.fst ++ de none (List.drop (y19.fst + (1 : Nat)) l) (pts (List.drop (y19.fst + (1 : Nat)) l))) =
                                                                wrT g l) ∧
                                                        y19.snd.1 < x18.snd.1 ∧
                                                          IntKind.wrap IntKind.i64 ((↑x18.snd.fst : Int) - (3 : Int)) = (↑y19.snd.fst : Int) ∧
                                                            pts (List.drop (x18.fst + (1 : Nat)) l) = pts (List.drop (y19.fst + (1 : Nat)) l) ∧
                                                              (↑x18.fst : Int) = (↑y19.fst : Int) ∧
                                                                g = g ∧
                                                                  l = l ∧
                                                                    (putT (x18.snd.snd.fst, x18.snd.snd.snd.fst, x18.snd.snd.snd.snd) (2 : Int) (3 : Int)).fst.fst = y19.snd.snd.fst ∧
                                                                      (putT (x18.snd.snd.fst, x18.snd.snd.snd.fst, x18.snd.snd.snd.snd) (2 : Int) (3 : Int)).fst.snd.fst = y19.snd.snd.snd.fst ∧
                                                                        (putT (x18.snd.snd.fst, x18.snd.snd.snd.fst, x18.snd.snd.snd.snd) (2 : Int) (3 : Int)).fst.snd.snd = y19.snd.snd.snd.snd) ∧
                                                  (decide ((↑x18.snd.fst : Int) ≥ (3 : Int)) = false →
                                                    ∃ (y20 : Nat × W3),
                                                      (y20.fst ≤ List.length l ∧ putAll y20.snd (de none (List.drop y20.fst l) (pts (List.drop y20.fst l))) = wrT g l) ∧
                                                        Nat.sub (List.length l) y20.fst < Nat.sub (List.length l) x1.fst ∧
                                                          pts (List.drop (x18.fst + (1 : Nat)) l) = pts (List.drop y20.fst l) ∧
                                                            IntKind.wrap IntKind.i64 ((↑x18.fst : Int) + (1 : Int)) = (↑y20.fst : Int) ∧
                                                              g = g ∧
                                                                l = l ∧
                                                                  (putT (x18.snd.snd.fst, x18.snd.snd.snd.fst, x18.snd.snd.snd.snd) (2 : Int) (↑x18.snd.fst : Int)).fst.fst = y20.snd.fst ∧
                                                                    (putT (x18.snd.snd.fst, x18.snd.snd.snd.fst, x18.snd.snd.snd.snd) (2 : Int) (↑x18.snd.fst : Int)).fst.snd.fst = y20.snd.snd.fst ∧
                                                                      (putT (x18.snd.snd.fst, x18.snd.snd.snd.fst, x18.snd.snd.snd.snd) (2 : Int) (↑x18.snd.fst : Int)).fst.snd.snd =
                                                                        y20.snd.snd.snd))) ∧
          (decide ((↑x1.fst : Int) < (↑(List.length l) : Int)) = false → x1.snd.fst = (wrT g l).fst ∧ x1.snd.snd.fst = (wrT g l).snd.fst ∧ x1.snd.snd.snd = (wrT g l).snd.snd)
--end
theorem written_e (g : Int) (l : List Int) : written_t g l = vcG Try.prog (Gof G8d) (oWritten g l) Try.f71 [.ag [.v (.int .i64 g), .dat (.ints .i64 l)]] [] (.ag [.v (.string (wrT g l).1), .v (.int .i64 (wrT g l).2.1), .v (.int .i64 (wrT g l).2.2)]) [] := by kernel_rfl
def rwritten_t (g : Int) (l : List Int) : Prop :=
(0 : Int) ≤ IntKind.wrap IntKind.u64 g ∧
  (∃ (x0 : Nat × W3 × Int),
      (x0.fst ≤ List.length l ∧
          (0 : Int) ≤ x0.snd.snd ∧
            putAll x0.snd.fst (de none (List.drop x0.fst l) (pts (List.drop x0.fst l))) = wrT g l ∧ x0.snd.snd + bsum (de none (List.drop x0.fst l) (pts (List.drop x0.fst l))) = wrN g l) ∧
        (4 : Int) = x0.snd.snd ∧
          IntKind.wrap IntKind.i64 ((1 : Int) * (2 : Int) ^ min (Int.toNat (IntKind.wrap IntKind.u64 g)) (IntKind.bits IntKind.i64)) = pts (List.drop x0.fst l) ∧
            (0 : Int) = (↑x0.fst : Int) ∧
              g = g ∧
                l = l ∧
                  (putT ({ data := #[] }, (0 : Int), (0 : Int)) ((4 : Int), IntKind.wrap IntKind.i64 (g - (5 : Int))).fst ((4 : Int), IntKind.wrap IntKind.i64 (g - (5 : Int))).snd).fst.fst =
                      x0.snd.fst.fst ∧
                    (putT ({ data := #[] }, (0 : Int), (0 : Int)) ((4 : Int), IntKind.wrap IntKind.i64 (g - (5 : Int))).fst ((4 : Int), IntKind.wrap IntKind.i64 (g - (5 : Int))).snd).fst.snd.fst =
                        x0.snd.fst.snd.fst ∧
                      (putT ({ data := #[] }, (0 : Int), (0 : Int)) ((4 : Int), IntKind.wrap IntKind.i64 (g - (5 : Int))).fst ((4 : Int), IntKind.wrap IntKind.i64 (g - (5 : Int))).snd).fst.snd.snd =
                        x0.snd.fst.snd.snd) ∧
    ∀ (x1 : Nat × W3 × Int),
      x1.fst ≤ List.length l ∧
          (0 : Int) ≤ x1.snd.snd ∧
            putAll x1.snd.fst (de none (List.drop x1.fst l) (pts (List.drop x1.fst l))) = wrT g l ∧ x1.snd.snd + bsum (de none (List.drop x1.fst l) (pts (List.drop x1.fst l))) = wrN g l →
        (decide ((↑x1.fst : Int) < (↑(List.length l) : Int)) = true →
            (0 : Int) ≤ (↑x1.fst : Int) ∧
              (↑x1.fst : Int) < (↑(List.length l) : Int) ∧
                IntKind.wrap IntKind.i64 (pts (List.drop x1.fst l) + (1 : Int)) ≤ (9223372036854775807 : Int) ∧
                  (0 : Int) ≤ IntKind.wrap IntKind.u64 (hiI (IntKind.wrap IntKind.i64 (pts (List.drop x1.fst l) + (1 : Int))) + (1 : Int)) ∧
                    ∃ (g2 : Nat × W3 × Int),
                      ((decide
                                (IntKind.wrap IntKind.i64 (List.getD l (Int.toNat (↑x1.fst : Int)) (0 : Int) + (1 : Int)) <
                                  IntKind.wrap IntKind.i64
                                    (IntKind.wrap IntKind.i64
                                        (IntKind.wrap IntKind.i64
                                            ((1 : Int) *
                                              (2 : Int) ^
                                                min (Int.toNat (IntKind.wrap IntKind.u64 (hiI (IntKind.wrap IntKind.i64 (pts (List.drop x1.fst l) + (1 : Int))) + (1 : Int))))
                                                  (IntKind.bits IntKind.i64)) -
                                          (1 : Int)) -
                                      IntKind.wrap IntKind.i64 (pts (List.drop x1.fst l) + (1 : Int)))) =
                              true →
                            ∃ (x3 : Int × Int),
                              (g2.fst < List.length l ∧
                                  (0 : Int) ≤ g2.snd.snd ∧
                                    putAll g2.snd.fst (de none (List.drop g2.fst l) (pts (List.drop g2.fst l))) = wrT g l ∧
                                      g2.snd.snd + bsum (de none (List.drop g2.fst l) (pts (List.drop g2.fst l))) = wrN g l ∧
                                        (x3.fst, x3.snd) = valP (pts (List.drop g2.fst l)) (List.getD l g2.fst (0 : Int))) ∧
                                IntKind.wrap IntKind.i64 (List.getD l (Int.toNat (↑x1.fst : Int)) (0 : Int) + (1 : Int)) = x3.snd ∧
                                  IntKind.wrap IntKind.i64 (hiI (IntKind.wrap IntKind.i64 (pts (List.drop x1.fst l) + (1 : Int))) + (1 : Int) - (1 : Int)) = x3.fst ∧
                                    x1.snd.snd = g2.snd.snd ∧
                                      pts (List.drop x1.fst l) = pts (List.drop g2.fst l) ∧
                                        (↑x1.fst : Int) = (↑g2.fst : Int) ∧
                                          g = g ∧ l = l ∧ x1.snd.fst.fst = g2.snd.fst.fst ∧ x1.snd.fst.snd.fst = g2.snd.fst.snd.fst ∧ x1.snd.fst.snd.snd = g2.snd.fst.snd.snd) ∧
                          (decide
                                (IntKind.wrap IntKind.i64 (List.getD l (Int.toNat (↑x1.fst : Int)) (0 : Int) + (1 : Int)) <
                                  IntKind.wrap IntKind.i64
                                    (IntKind.wrap IntKind.i64
                                        (IntKind.wrap IntKind.i64
                                            ((1 : Int) *
                                              (2 : Int) ^
                                                min (Int.toNat (IntKind.wrap IntKind.u64 (hiI (IntKind.wrap IntKind.i64 (pts (List.drop x1.fst l) + (1 : Int))) + (1 : Int))))
                                                  (IntKind.bits IntKind.i64)) -
                                          (1 : Int)) -
                                      IntKind.wrap IntKind.i64 (pts (List.drop x1.fst l) + (1 : Int)))) =
                              false →
                            (0 : Int) ≤ IntKind.wrap IntKind.u64 (IntKind.wrap IntKind.i64 (hiI (IntKind.wrap IntKind.i64 (pts (List.drop x1.fst l) + (1 : Int))) + (1 : Int) - (1 : Int))) ∧
                              (decide
                                      (IntKind.wrap IntKind.i64 (List.getD l (Int.toNat (↑x1.fst : Int)) (0 : Int) + (1 : Int)) ≥
                                        IntKind.wrap IntKind.i64
                                          ((1 : Int) *
                                            (2 : Int) ^
                                              min
                                                (Int.toNat
                                                  (IntKind.wrap IntKind.u64 (IntKind.wrap IntKind.i64 (hiI (IntKind.wrap IntKind.i64 (pts (List.drop x1.fst l) + (1 : Int))) + (1 : Int) - (1 : Int)))))
                                                (IntKind.bits IntKind.i64))) =
                                    true →
                                  ∃ (x4 : Int × Int),
                                    (g2.fst < List.length l ∧
                                        (0 : Int) ≤ g2.snd.snd ∧
                                          putAll g2.snd.fst (de none (List.drop g2.fst l) (pts (List.drop g2.fst l))) = wrT g l ∧
                                            g2.snd.snd + bsum (de none (List.drop g2.fst l) (pts (List.drop g2.fst l))) = wrN g l ∧
                                              (x4.fst, x4.snd) = valP (pts (List.drop g2.fst l)) (List.getD l g2.fst (0 : Int))) ∧
                                      IntKind.wrap IntKind.i64
                                            (IntKind.wrap IntKind.i64 (List.getD l (Int.toNat (↑x1.fst : Int)) (0 : Int) + (1 : Int)) +
                                              IntKind.wrap IntKind.i64
                                                (IntKind.wrap IntKind.i64
                                                    (IntKind.wrap IntKind.i64
                                                        ((1 : Int) *
                                                          (2 : Int) ^
                                                            min (Int.toNat (IntKind.wrap IntKind.u64 (hiI (IntKind.wrap IntKind.i64 (pts (List.drop x1.fst l) + (1 : Int))) + (1 : Int))))
                                                              (IntKind.bits IntKind.i64)) -
                                                      (1 : Int)) -
                                                  IntKind.wrap IntKind.i64 (pts (List.drop x1.fst l) + (1 : Int)))) =
                                          x4.snd ∧
                                        hiI (IntKind.wrap IntKind.i64 (pts (List.drop x1.fst l) + (1 : Int))) + (1 : Int) = x4.fst ∧
                                          x1.snd.snd = g2.snd.snd ∧
                                            pts (List.drop x1.fst l) = pts (List.drop g2.fst l) ∧
                                              (↑x1.fst : Int) = (↑g2.fst : Int) ∧
                                                g = g ∧ l = l ∧ x1.snd.fst.fst = g2.snd.fst.fst ∧ x1.snd.fst.snd.fst = g2.snd.fst.snd.fst ∧ x1.snd.fst.snd.snd = g2.snd.fst.snd.snd) ∧
                                (decide
                                      (IntKind.wrap IntKind.i64 (List.getD l (Int.toNat (↑x1.fst : Int)) (0 : Int) + (1 : Int)) ≥
                                        IntKind.wrap IntKind.i64
                                          ((1 : Int) *
                                            (2 : Int) ^
                                              min
                                                (Int.toNat
                                                  (IntKind.wrap IntKind.u64 (IntKind.wrap IntKind.i64 (hiI (IntKind.wrap IntKind.i64 (pts (List.drop x1.fst l) + (1 : Int))) + (1 : Int) - (1 : Int)))))
                                                (IntKind.bits IntKind.i64))) =
                                    false →
                                  ∃ (x5 : Int × Int),
                                    (g2.fst < List.length l ∧
                                        (0 : Int) ≤ g2.snd.snd ∧
                                          putAll g2.snd.fst (de none (List.drop g2.fst l) (pts (List.drop g2.fst l))) = wrT g l ∧
                                            g2.snd.snd + bsum (de none (List.drop g2.fst l) (pts (List.drop g2.fst l))) = wrN g l ∧
                                              (x5.fst, x5.snd) = valP (pts (List.drop g2.fst l)) (List.getD l g2.fst (0 : Int))) ∧
                                      IntKind.wrap IntKind.i64 (List.getD l (Int.toNat (↑x1.fst : Int)) (0 : Int) + (1 : Int)) = x5.snd ∧
                                        hiI (IntKind.wrap IntKind.i64 (pts (List.drop x1.fst l) + (1 : Int))) + (1 : Int) = x5.fst ∧
                                          x1.snd.snd = g2.snd.snd ∧
                                            pts (List.drop x1.fst l) = pts (List.drop g2.fst l) ∧
                                              (↑x1.fst : Int) = (↑g2.fst : Int) ∧
                                                g = g ∧ l = l ∧ x1.snd.fst.fst = g2.snd.fst.fst ∧ x1.snd.fst.snd.fst = g2.snd.fst.snd.fst ∧ x1.snd.fst.snd.snd = g2.snd.fst.snd.snd))) ∧
                        ∀ (x6 : Int × Int),
                          g2.fst < List.length l ∧
                              (0 : Int) ≤ g2.snd.snd ∧
                                putAll g2.snd.fst (de none (List.drop g2.fst l) (pts (List.drop g2.fst l))) = wrT g l ∧
                                  g2.snd.snd + bsum (de none (List.drop g2.fst l) (pts (List.drop g2.fst l))) = wrN g l ∧
                                    (x6.fst, x6.snd) = valP (pts (List.drop g2.fst l)) (List.getD l g2.fst (0 : Int)) →
                            (0 : Int) ≤ (↑g2.fst : Int) ∧
                              (↑g2.fst : Int) ≤ IntKind.wrap IntKind.i64 ((↑g2.fst : Int) + (1 : Int)) ∧
                                IntKind.wrap IntKind.i64 ((↑g2.fst : Int) + (1 : Int)) ≤ (↑(List.length l) : Int) ∧
                                  List.length (List.take (Int.toNat (IntKind.wrap IntKind.i64 ((↑g2.fst : Int) + (1 : Int))) - Int.toNat (↑g2.fst : Int)) (List.drop (Int.toNat (↑g2.fst : Int)) l)) ≤
                                      (65536 : Nat) ∧
                                    (List.all (List.take (Int.toNat (IntKind.wrap IntKind.i64 ((↑g2.fst : Int) + (1 : Int))) - Int.toNat (↑g2.fst : Int)) (List.drop (Int.toNat (↑g2.fst : Int)) l))
                                          fun (x : Int) => decide (x ≤ (65536 : Int))) =
                                        true ∧
                                      (0 : Int) ≤ (↑g2.fst : Int) ∧
                                        (↑g2.fst : Int) < (↑(List.length l) : Int) ∧
                                          ((List.getD l (Int.toNat (↑g2.fst : Int)) (0 : Int) != (0 : Int)) = true →
                                              ∃ (y7 : Nat × W3 × Int),
                                                (y7.fst ≤ List.length l ∧
                                                    (0 : Int) ≤ y7.snd.snd ∧
                                                      putAll y7.snd.fst (de none (List.drop y7.fst l) (pts (List.drop y7.fst l))) = wrT g l ∧
                                                        y7.snd.snd + bsum (de none (List.drop y7.fst l) (pts (List.drop y7.fst l))) = wrN g l) ∧
                                                  Nat.sub (List.length l) y7.fst < Nat.sub (List.length l) x1.fst ∧
                                                    IntKind.wrap IntKind.i64 (g2.snd.snd + x6.fst) = y7.snd.snd ∧
                                                      IntKind.wrap IntKind.i64
                                                            (pts (List.drop g2.fst l) -
                                                              pts
                                                                (List.take (Int.toNat (IntKind.wrap IntKind.i64 ((↑g2.fst : Int) + (1 : Int))) - Int.toNat (↑g2.fst : Int))
                                                                  (List.drop (Int.toNat (↑g2.fst : Int)) l))) =
                                                          pts (List.drop y7.fst l) ∧
                                                        IntKind.wrap IntKind.i64 ((↑g2.fst : Int) + (1 : Int)) = (↑y7.fst : Int) ∧
                                                          g = g ∧
                                                            l = l ∧
                                                              (putT (g2.snd.fst.fst, g2.snd.fst.snd.fst, g2.snd.fst.snd.snd) (x6.fst, x6.snd).fst (x6.fst, x6.snd).snd).fst.fst = y7.snd.fst.fst ∧
                                                                (putT (g2.snd.fst.fst, g2.snd.fst.snd.fst, g2.snd.fst.snd.snd) (x6.fst, x6.snd).fst (x6.fst, x6.snd).snd).fst.snd.fst =
                                                                    y7.snd.fst.snd.fst ∧
                                                                  (putT (g2.snd.fst.fst, g2.snd.fst.snd.fst, g2.snd.fst.snd.snd) (x6.fst, x6.snd).fst (x6.fst, x6.snd).snd).fst.snd.snd =
                                                                    y7.snd.fst.snd.snd) ∧
                                            ((List.getD l (Int.toNat (↑g2.fst : Int)) (0 : Int) != (0 : Int)) = false →
                                              ∃ (g8 : Nat × W3 × Int),
                                                (∃ (g9 : Nat × W3 × Int),
                                                    (∃ (x10 : Nat),
                                                        (g9.fst + x10 < List.length l ∧
                                                            (0 : Int) ≤ g9.snd.snd ∧
                                                              putAll g9.snd.fst (de (some x10) (List.drop (g9.fst + (1 : Nat) + x10) l) (pts (List.drop (g9.fst + (1 : Nat) + x10) l))) = wrT g l ∧
                                                                g9.snd.snd + bsum (de (some x10) (List.drop (g9.fst + (1 : Nat) + x10) l) (pts (List.drop (g9.fst + (1 : Nat) + x10) l))) = wrN g l) ∧
                                                          (0 : Int) = (↑x10 : Int) ∧
                                                            IntKind.wrap IntKind.i64 (g2.snd.snd + x6.fst) = g9.snd.snd ∧
                                                              IntKind.wrap IntKind.i64
                                                                    (pts (List.drop g2.fst l) -
                                                                      pts
                                                                        (List.take (Int.toNat (IntKind.wrap IntKind.i64 ((↑g2.fst : Int) + (1 : Int))) - Int.toNat (↑g2.fst : Int))
                                                                          (List.drop (Int.toNat (↑g2.fst : Int)) l))) =
                                                                  pts (List.drop (g9.fst + (1 : Nat) + x10) l) ∧
                                                                (↑g2.fst : Int) = (↑g9.fst : Int) ∧
                                                                  g = g ∧
                                                                    l = l ∧
                                                                      (putT (g2.snd.fst.fst, g2.snd.fst.snd.fst, g2.snd.fst.snd.snd) (x6.fst, x6.snd).fst (x6.fst, x6.snd).snd).fst.fst =
                                                                          g9.snd.fst.fst ∧
                                                                        (putT (g2.snd.fst.fst, g2.snd.fst.snd.fst, g2.snd.fst.snd.snd) (x6.fst, x6.snd).fst (x6.fst, x6.snd).snd).fst.snd.fst =
                                                                            g9.snd.fst.snd.fst ∧
                                                                          (putT (g2.snd.fst.fst, g2.snd.fst.snd.fst, g2.snd.fst.snd.snd) (x6.fst, x6.snd).fst (x6.fst, x6.snd).snd).fst.snd.snd =
                                                                            g9.snd.fst.snd.snd) ∧
                                                      ∀ (x11 : Nat),
                                                        g9.fst + x11 < List.length l ∧
                                                            (0 : Int) ≤ g9.snd.snd ∧
                                                              putAll g9.snd.fst (de (some x11) (List.drop (g9.fst + (1 : Nat) + x11) l) (pts (List.drop (g9.fst + (1 : Nat) + x11) l))) = wrT g l ∧
                                                                g9.snd.snd + bsum (de (some x11) (List.drop (g9.fst + (1 : Nat) + x11) l) (pts (List.drop (g9.fst + (1 : Nat) + x11) l))) = wrN g l →
                                                          (decide (IntKind.wrap IntKind.i64 (IntKind.wrap IntKind.i64 ((↑g9.fst : Int) + (1 : Int)) + (↑x11 : Int)) < (↑(List.length l) : Int)) = true →
                                                              (0 : Int) ≤ IntKind.wrap IntKind.i64 (IntKind.wrap IntKind.i64 ((↑g9.fst : Int) + (1 : Int)) + (↑x11 : Int)) ∧
                                                                IntKind.wrap IntKind.i64 (IntKind.wrap IntKind.i64 ((↑g9.fst : Int) + (1 : Int)) + (↑x11 : Int)) < (↑(List.length l) : Int) ∧
                                                                  ((List.getD l (Int.toNat (IntKind.wrap IntKind.i64 (IntKind.wrap IntKind.i64 ((↑g9.fst : Int) + (1 : Int)) + (↑x11 : Int))))
                                                                            (0 : Int) ==
                                                                          (0 : Int)) =
                                                                        true →
                                                                      ∃ (y12 : Nat),
                                                                        (g9.fst + y12 < List.length l ∧
                                                                            (0 : Int) ≤ g9.snd.snd ∧
                                                                              putAll g9.snd.fst
                                                                                    (de (some y12) (List.drop (g9.fst + (1 : Nat) + y12) l) (pts (List.drop (g9.fst + (1 : Nat) + y12) l))) =
                                                                                  wrT g l ∧
                                                                                g9.snd.snd +
                                                                                    bsum (de (some y12) (List.drop (g9.fst + (1 : Nat) + y12) l) (pts (List.drop (g9.fst + (1 : Nat) + y12) l))) =
                                                                                  wrN g l) ∧
                                                                          Nat.sub (List.length l) y12 < Nat.sub (List.length l) x11 ∧
                                                                            IntKind.wrap IntKind.i64 ((↑x11 : Int) + (1 : Int)) = (↑y12 : Int) ∧
                                                                              g9.snd.snd = g9.snd.snd ∧
                                                                                pts (List.drop (g9.fst + (1 : Nat) + x11) l) = pts (List.drop (g9.fst + (1 : Nat) + y12) l) ∧
                                                                                  (↑g9.fst : Int) = (↑g9.fst : Int) ∧
                                                                                    g = g ∧
                                                                                      l = l ∧
                                                                                        g9.snd.fst.fst = g9.snd.fst.fst ∧
                                                                                          g9.snd.fst.snd.fst = g9.snd.fst.snd.fst ∧ g9.snd.fst.snd.snd = g9.snd.fst.snd.snd) ∧
                                                                    ((List.getD l (Int.toNat (IntKind.wrap IntKind.i64 (IntKind.wrap IntKind.i64 ((↑g9.fst : Int) + (1 : Int)) + (↑x11 : Int))))
                                                                            (0 : Int) ==
                                                                          (0 : Int)) =
                                                                        false →
                                                                      ∃ (x13 : Nat),
                                                                        (g8.fst + x13 < List.length l ∧
                                                                            (0 : Int) ≤ g8.snd.snd ∧
                                                                              putAll g8.snd.fst
                                                                                    (zerosP x13 ++ de none (List.drop (g8.fst + (1 : Nat) + x13) l) (pts (List.drop (g8.fst + (1 : Nat) + x13) l))) =
                                                                                  wrT g l ∧
                                                                                g8.snd.snd +
                                                                                    bsum
                                                                                      (zerosP x13 ++ de none (List.drop (g8.fst + (1 : Nat) + x13) l) (pts (List.drop (g8.fst + (1 : Nat) + x13) l))) =
                                                                                  wrN g l) ∧
                                                                          (↑x11 : Int) = (↑x13 : Int) ∧
                                                                            g9.snd.snd = g8.snd.snd ∧
                                                                              pts (List.drop (g9.fst + (1 : Nat) + x11) l) = pts (List.drop (g8.fst + (1 : Nat) + x13) l) ∧
                                                                                (↑g9.fst : Int) = (↑g8.fst : Int) ∧
                                                                                  g = g ∧
                                                                                    l = l ∧
                                                                                      g9.snd.fst.fst = g8.snd.fst.fst ∧
                                                                                        g9.snd.fst.snd.fst = g8.snd.fst.snd.fst ∧ g9.snd.fst.snd.snd = g8.snd.fst.snd.snd)) ∧
                                                            (decide (IntKind.wrap IntKind.i64 (IntKind.wrap IntKind.i64 ((↑g9.fst : Int) + (1 : Int)) + (↑x11 : Int)) < (↑(List.length l) : Int)) =
                                                                false →
                                                              ∃ (x14 : Nat),
                                                                (g8.fst + x14 < List.length l ∧
                                                                    (0 : Int) ≤ g8.snd.snd ∧
                                                                      putAll g8.snd.fst
                                                                            (zerosP x14 ++ de none (List.drop (g8.fst + (1 : Nat) + x14) l) (pts (List.drop (g8.fst + (1 : Nat) + x14) l))) =
                                                                          wrT g l ∧
                                                                        g8.snd.snd +
                                                                            bsum (zerosP x14 ++ de none (List.drop (g8.fst + (1 : Nat) + x14) l) (pts (List.drop (g8.fst + (1 : Nat) + x14) l))) =
                                                                          wrN g l) ∧
                                                                  (↑x11 : Int) = (↑x14 : Int) ∧
                                                                    g9.snd.snd = g8.snd.snd ∧
                                                                      pts (List.drop (g9.fst + (1 : Nat) + x11) l) = pts (List.drop (g8.fst + (1 : Nat) + x14) l) ∧
                                                                        (↑g9.fst : Int) = (↑g8.fst : Int) ∧
                                                                          g = g ∧
                                                                            l = l ∧
                                                                              g9.snd.fst.fst = g8.snd.fst.fst ∧ g9.snd.fst.snd.fst = g8.snd.fst.snd.fst ∧ g9.snd.fst.snd.snd = g8.snd.fst.snd.snd)) ∧
                                                  ∀ (x15 : Nat),
                                                    g8.fst + x15 < List.length l ∧
                                                        (0 : Int) ≤ g8.snd.snd ∧
                                                          putAll g8.snd.fst (zerosP x15 ++ de none (List.drop (g8.fst + (1 : Nat) + x15) l) (pts (List.drop (g8.fst + (1 : Nat) + x15) l))) = wrT g l ∧
                                                            g8.snd.snd + bsum (zerosP x15 ++ de none (List.drop (g8.fst + (1 : Nat) + x15) l) (pts (List.drop (g8.fst + (1 : Nat) + x15) l))) =
                                                              wrN g l →
                                                      ∃ (g16 : Nat),
                                                        (∃ (x17 : Nat × Bool × W3 × Int),
                                                            (g16 < List.length l ∧
                                                                x17.fst ≤ List.length l ∧
                                                                  (0 : Int) ≤ x17.snd.snd.snd ∧
                                                                    putAll x17.snd.snd.fst
                                                                          ((bif x17.snd.fst then zerosP x17.fst else []) ++
                                                                            de none (List.drop (g16 + (1 : Nat)) l) (pts (List.drop (g16 + (1 : Nat)) l))) =
                                                                        wrT g l ∧
                                                                      x17.snd.snd.snd +
                                                                          bsum
                                                                            ((bif x17.snd.fst then zerosP x17.fst else []) ++
                                                                              de none (List.drop (g16 + (1 : Nat)) l) (pts (List.drop (g16 + (1 : Nat)) l))) =
                                                                        wrN g l) ∧
                                                              (↑x15 : Int) = (↑x17.fst : Int) ∧
                                                                true = x17.snd.fst ∧
                                                                  g8.snd.snd = x17.snd.snd.snd ∧
                                                                    pts (List.drop (g8.fst + (1 : Nat) + x15) l) = pts (List.drop (g16 + (1 : Nat)) l) ∧
                                                                      IntKind.wrap IntKind.i64 ((↑g8.fst : Int) + (↑x15 : Int)) = (↑g16 : Int) ∧
                                                                        g = g ∧
                                                                          l = l ∧
                                                                            g8.snd.fst.fst = x17.snd.snd.fst.fst ∧
                                                                              g8.snd.fst.snd.fst = x17.snd.snd.fst.snd.fst ∧ g8.snd.fst.snd.snd = x17.snd.snd.fst.snd.snd) ∧
                                                          ∀ (x18 : Nat × Bool × W3 × Int),
                                                            g16 < List.length l ∧
                                                                x18.fst ≤ List.length l ∧
                                                                  (0 : Int) ≤ x18.snd.snd.snd ∧
                                                                    putAll x18.snd.snd.fst
                                                                          ((bif x18.snd.fst then zerosP x18.fst else []) ++
                                                                            de none (List.drop (g16 + (1 : Nat)) l) (pts (List.drop (g16 + (1 : Nat)) l))) =
                                                                        wrT g l ∧
                                                                      x18.snd.snd.snd +
                                                                          bsum
                                                                            ((bif x18.snd.fst then zerosP x18.fst else []) ++
                                                                              de none (List.drop (g16 + (1 : Nat)) l) (pts (List.drop (g16 + (1 : Nat)) l))) =
                                                                        wrN g l →
                                                              (x18.snd.fst = true →
                                                                  ∃ (y19 : Nat × Bool × W3 × Int),
                                                                    (g16 < List.length l ∧
                                                                        y19.fst ≤ List.length l ∧
                                                                          (0 : Int) ≤ y19.snd.snd.snd ∧
                                                                            putAll y19.snd.snd.fst
                                                                                  ((bif y19.snd.fst then zerosP y19.fst else []) ++
                                                                                    de none (List.drop (g16 + (1 : Nat)) l) (pts (List.drop (g16 + (1 : Nat)) l))) =
                                                                                wrT g l ∧
                                                                              y19.snd.snd.snd +
                                                                                  bsum
                                                                                    ((bif y19.snd.fst then zerosP y19.fst else []) ++
                                                                                      de none (List.drop (g16 + (1 : Nat)) l) (pts (List.drop (g16 + (1 : Nat)) l))) =
                                                                                wrN g l) ∧
                                                                      ((match y19.snd.fst with
                                                                          | true => y19.fst + (1 : Nat)
                                                                          | false => (0 : Nat)) <
                                                                          match x18.snd.fst with
                                                                          | true => x18.fst + (1 : Nat)
                                                                          | false => (0 : Nat)) ∧
                                                                        IntKind.wrap IntKind.i64 ((↑x18.fst : Int) - min (↑x18.fst : Int) (3 : Int)) = (↑y19.fst : Int) ∧
                                                                          (min (↑x18.fst : Int) (3 : Int) == (3 : Int)) = y19.snd.fst ∧
                                                                            IntKind.wrap IntKind.i64 (x18.snd.snd.snd + (2 : Int)) = y19.snd.snd.snd ∧
                                                                              pts (List.drop (g16 + (1 : Nat)) l) = pts (List.drop (g16 + (1 : Nat)) l) ∧
                                                                                (↑g16 : Int) = (↑g16 : Int) ∧
                                                                                  g = g ∧
                                                                                    l = l ∧
                                                                                      (putT (x18.snd.snd.fst.fst, x18.snd.snd.fst.snd.fst, x18.snd.snd.fst.snd.snd)
                                                                                                ((2 : Int), min (↑x18.fst : Int) (3 : Int)).fst
                                                                                                ((2 : Int), min (↑x18.fst : Int) (3 : Int)).snd).fst.fst =
                                                                                          y19.snd.snd.fst.fst ∧
                                                                                        (putT (x18.snd.snd.fst.fst, x18.snd.snd.fst.snd.fst, x18.snd.snd.fst.snd.snd)
                                                                                                    ((2 : Int), min (↑x18.fst : Int) (3 : Int)).fst
                                                                                                    ((2 : Int), min (↑x18.fst : Int) (3 : Int)).snd).fst.snd.fst =
                                                                                            y19.snd.snd.fst.snd.fst ∧
                                                                                          (putT (x18.snd.snd.fst.fst, x18.snd.snd.fst.snd.fst, x18.snd.snd.fst.snd.snd)
                                                                                                    ((2 : Int), min (↑x18.fst : Int) (3 : Int)).fst
                                                                                                    ((2 : Int), min (↑x18.fst : Int) (3 : Int)).snd).fst.snd.snd =
                                                                                            y19.snd.snd.fst.snd.snd) ∧
                                                                (x18.snd.fst = false →
                                                                  ∃ (y20 : Nat × W3 × Int),
                                                                    (y20.fst ≤ List.length l ∧
                                                                        (0 : Int) ≤ y20.snd.snd ∧
                                                                          putAll y20.snd.fst (de none (List.drop y20.fst l) (pts (List.drop y20.fst l))) = wrT g l ∧
                                                                            y20.snd.snd + bsum (de none (List.drop y20.fst l) (pts (List.drop y20.fst l))) = wrN g l) ∧
                                                                      Nat.sub (List.length l) y20.fst < Nat.sub (List.length l) x1.fst ∧
                                                                        x18.snd.snd.snd = y20.snd.snd ∧
                                                                          pts (List.drop (g16 + (1 : Nat)) l) = pts (List.drop y20.fst l) ∧
                                                                            IntKind.wrap IntKind.i64 ((↑g16 : Int) + (1 : Int)) = (↑y20.fst : Int) ∧
                                                                              g = g ∧
                                                                                l = l ∧
                                                                                  x18.snd.snd.fst.fst = y20.snd.fst.fst ∧
                                                                                    x18.snd.snd.fst.snd.fst = y20.snd.fst.snd.fst ∧ x18.snd.snd.fst.snd.snd = y20.snd.fst.snd.snd))) ∧
          (decide ((↑x1.fst : Int) < (↑(List.length l) : Int)) = false →
            x1.snd.fst.fst = (wrT g l).fst ∧ x1.snd.fst.snd.fst = (wrT g l).snd.fst ∧ x1.snd.fst.snd.snd = (wrT g l).snd.snd ∧ x1.snd.snd = wrN g l)
--end
theorem rwritten_e (g : Int) (l : List Int) : rwritten_t g l = vcG Try.prog (Gof G8d) (oRwritten g l) Try.f72 [.ag [.v (.int .i64 g), .dat (.ints .i64 l)]] [] (.tu [.ag [.v (.string (wrT g l).1), .v (.int .i64 (wrT g l).2.1), .v (.int .i64 (wrT g l).2.2)], .v (.int .i64 (wrN g l))]) [] := by kernel_rfl
def write_t (g : Int) (l : List Int) : Prop :=
List.length l ≤ (4294967296 : Nat) ∧
  ((dchk g l != (0 : Int)) = true → { data := #[] } = (writeF g l).fst ∧ dchk g l = (writeF g l).snd) ∧
    ((dchk g l != (0 : Int)) = false →
      dchk g l = (0 : Int) ∧
        (doneT ((wrT g l).fst, (wrT g l).snd.fst, (wrT g l).snd.snd)).fst = (writeF g l).fst ∧ (doneT ((wrT g l).fst, (wrT g l).snd.fst, (wrT g l).snd.snd)).snd = (writeF g l).snd)
--end
theorem write_e (g : Int) (l : List Int) : write_t g l = vcG Try.prog (Gof G8e) (fun _ => none) Try.f47 [.ag [.v (.int .i64 g), .dat (.ints .i64 l)]] [] (.tu [.v (.string (writeF g l).1), .v (.int .i64 (writeF g l).2)]) [] := by kernel_rfl
def rwrite_t (g : Int) (l : List Int) : Prop :=
List.length l ≤ (4294967296 : Nat) ∧
  ((dchk g l != (0 : Int)) = true → { data := #[] } = (writeF g l).fst ∧ dchk g l = (writeF g l).snd) ∧
    ((dchk g l != (0 : Int)) = false →
      dchk g l = (0 : Int) ∧
        (doneT ((wrT g l).fst, (wrT g l).snd.fst, (wrT g l).snd.snd)).fst = (writeF g l).fst ∧ (doneT ((wrT g l).fst, (wrT g l).snd.fst, (wrT g l).snd.snd)).snd = (writeF g l).snd)
--end
theorem rwrite_e (g : Int) (l : List Int) : rwrite_t g l = vcG Try.prog (Gof G8e) (fun _ => none) Try.f48 [.ag [.v (.int .i64 g), .dat (.ints .i64 l)]] [] (.tu [.v (.string (writeF g l).1), .v (.int .i64 (writeF g l).2)]) [] := by kernel_rfl
def bitsD_t (g : Int) (l : List Int) : Prop :=
List.length l ≤ (4294967296 : Nat) ∧
  ((dchk g l != (0 : Int)) = true → (0 : Int) = bitsF g l ∧ dchk g l = dchk g l) ∧
    ((dchk g l != (0 : Int)) = false →
      dchk g l = (0 : Int) ∧ IntKind.wrap IntKind.i64 (IntKind.wrap IntKind.i64 ((8 : Int) * (↑(ByteArray.size (wrT g l).fst) : Int)) + (wrT g l).snd.snd) = bitsF g l ∧ (0 : Int) = dchk g l)
--end
theorem bitsD_e (g : Int) (l : List Int) : bitsD_t g l = vcG Try.prog (Gof G8e) (fun _ => none) Try.f49 [.ag [.v (.int .i64 g), .dat (.ints .i64 l)]] [] (.tu [.v (.int .i64 (bitsF g l)), .v (.int .i64 (dchk g l))]) [] := by kernel_rfl
def rbitsD_t (g : Int) (l : List Int) : Prop :=
List.length l ≤ (4294967296 : Nat) ∧
  ((dchk g l != (0 : Int)) = true → (0 : Int) = bitsF g l ∧ dchk g l = dchk g l) ∧ ((dchk g l != (0 : Int)) = false → dchk g l = (0 : Int) ∧ wrN g l = bitsF g l ∧ (0 : Int) = dchk g l)
--end
theorem rbitsD_e (g : Int) (l : List Int) : rbitsD_t g l = vcG Try.prog (Gof G8e) (fun _ => none) Try.f50 [.ag [.v (.int .i64 g), .dat (.ints .i64 l)]] [] (.tu [.v (.int .i64 (bitsF g l)), .v (.int .i64 (dchk g l))]) [] := by kernel_rfl
end Go.Proofs.Ytafabheehkmfhaa
/-
  The conditions of the functions told in the text before, and that they are the executor's. Conditions: none.
-/
namespace Go.Proofs.Ytafabheehkmfhaa
open Go Go.RowKit
set_option linter.unusedVariables false
set_option maxRecDepth 100000
def high_t (n : Int) : Prop :=
(∃ (x0 : Nat), Nat.le x0 (63 : Nat) ∧ n = n ∧ (-1 : Int) = hiM n x0 ∧ (0 : Int) = (↑x0 : Int)) ∧
  ∀ (x1 : Nat),
    Nat.le x1 (63 : Nat) →
      (decide ((↑x1 : Int) < (63 : Int)) = true →
          (0 : Int) ≤ (↑x1 : Int) ∧
            (decide (Int.fdiv n ((2 : Int) ^ min (Int.toNat (↑x1 : Int)) (IntKind.bits IntKind.i64)) > (0 : Int)) = true →
                ∃ (y2 : Nat),
                  Nat.le y2 (63 : Nat) ∧ Nat.sub (63 : Nat) y2 < Nat.sub (63 : Nat) x1 ∧ n = n ∧ (↑x1 : Int) = hiM n y2 ∧ IntKind.wrap IntKind.i64 ((↑x1 : Int) + (1 : Int)) = (↑y2 : Int)) ∧
              (decide (Int.fdiv n ((2 : Int) ^ min (Int.toNat (↑x1 : Int)) (IntKind.bits IntKind.i64)) > (0 : Int)) = false →
                ∃ (y3 : Nat), Nat.le y3 (63 : Nat) ∧ Nat.sub (63 : Nat) y3 < Nat.sub (63 : Nat) x1 ∧ n = n ∧ hiM n x1 = hiM n y3 ∧ IntKind.wrap IntKind.i64 ((↑x1 : Int) + (1 : Int)) = (↑y3 : Int))) ∧
        (decide ((↑x1 : Int) < (63 : Int)) = false → hiM n x1 = hiI n)
--end
theorem high_e (n : Int) : high_t n = vcG Try.prog (Gof G02) (one (oHigh n)) Try.f95 [.v (.int .i64 n)] [] (.v (.int .i64 (hiI n))) [] := by kernel_rfl
def rhigh_t (n : Int) : Prop :=
(∃ (x0 : Nat), (n ≤ (0 : Int) ∧ x0 = (0 : Nat) ∨ (0 : Int) < n ∧ x0 ≤ Nat.log2 (Int.toNat n) + (1 : Nat)) ∧ n = n / (2 : Int) ^ x0 ∧ (-1 : Int) = (↑x0 : Int) - (1 : Int)) ∧
  ∀ (x1 : Nat),
    n ≤ (0 : Int) ∧ x1 = (0 : Nat) ∨ (0 : Int) < n ∧ x1 ≤ Nat.log2 (Int.toNat n) + (1 : Nat) →
      (decide (n / (2 : Int) ^ x1 > (0 : Int)) = true →
          (2 : Int) ≠ (0 : Int) ∧
            ∃ (y2 : Nat),
              (n ≤ (0 : Int) ∧ y2 = (0 : Nat) ∨ (0 : Int) < n ∧ y2 ≤ Nat.log2 (Int.toNat n) + (1 : Nat)) ∧
                Nat.sub (63 : Nat) y2 < Nat.sub (63 : Nat) x1 ∧
                  IntKind.wrap IntKind.i64 (Int.tdiv (n / (2 : Int) ^ x1) (2 : Int)) = n / (2 : Int) ^ y2 ∧ IntKind.wrap IntKind.i64 ((↑x1 : Int) - (1 : Int) + (1 : Int)) = (↑y2 : Int) - (1 : Int)) ∧
        (decide (n / (2 : Int) ^ x1 > (0 : Int)) = false → (↑x1 : Int) - (1 : Int) = hiI n)
--end
theorem rhigh_e (n : Int) : rhigh_t n = vcG Try.prog (Gof G02) (one (oRhigh n)) Try.f92 [.v (.int .i64 n)] [] (.v (.int .i64 (hiI n))) [] := by kernel_rfl
def modK_t (x m : Int) : Prop :=
(decide (m < (1 : Int)) = true → (0 : Int) = modI x m) ∧
  (decide (m < (1 : Int)) = false →
    m ≠ (0 : Int) ∧ (decide (Int.tmod x m < (0 : Int)) = true → IntKind.wrap IntKind.i64 (Int.tmod x m + m) = modI x m) ∧ (decide (Int.tmod x m < (0 : Int)) = false → Int.tmod x m = modI x m))
--end
theorem modK_e (x m : Int) : modK_t x m = vcG Try.prog (Gof G02) (fun _ => none) Try.f37 [.v (.int .i64 x), .v (.int .i64 m)] [] (.v (.int .i64 (modI x m))) [] := by kernel_rfl
def atK_t (l : List Int) (i : Int) : Prop :=
(decide (i < (0 : Int)) = true → (0 : Int) = atI l i) ∧
  (decide (i < (0 : Int)) = false →
    (decide (i ≥ (↑(List.length l) : Int)) = true → (0 : Int) = atI l i) ∧
      (decide (i ≥ (↑(List.length l) : Int)) = false → (0 : Int) ≤ i ∧ i < (↑(List.length l) : Int) ∧ List.getD l (Int.toNat i) (0 : Int) = atI l i))
--end
theorem atK_e (l : List Int) (i : Int) : atK_t l i = vcG Try.prog (Gof G02) (fun _ => none) Try.f79 [.dat (.ints .i64 l), .v (.int .i64 i)] [] (.v (.int .i64 (atI l i))) [] := by kernel_rfl
def minK_t (l : List Int) : Prop :=
(decide ((↑(List.length l) : Int) < (1 : Int)) = true → False) ∧
  (decide ((↑(List.length l) : Int) < (1 : Int)) = false →
    (0 : Int) ≤ (0 : Int) ∧
      (0 : Int) < (↑(List.length l) : Int) ∧
        (∃ (x0 : Nat), ((1 : Nat) ≤ x0 ∧ x0 ≤ List.length l) ∧ l = l ∧ List.getD l (Int.toNat (0 : Int)) (0 : Int) = minL (List.take x0 l) ∧ (1 : Int) = (↑x0 : Int)) ∧
          ∀ (x1 : Nat),
            (1 : Nat) ≤ x1 ∧ x1 ≤ List.length l →
              (decide ((↑x1 : Int) < (↑(List.length l) : Int)) = true →
                  (0 : Int) ≤ (↑x1 : Int) ∧
                    (↑x1 : Int) < (↑(List.length l) : Int) ∧
                      ∃ (y2 : Nat),
                        ((1 : Nat) ≤ y2 ∧ y2 ≤ List.length l) ∧
                          Nat.sub (List.length l) y2 < Nat.sub (List.length l) x1 ∧
                            l = l ∧
                              min (minL (List.take x1 l)) (List.getD l (Int.toNat (↑x1 : Int)) (0 : Int)) = minL (List.take y2 l) ∧ IntKind.wrap IntKind.i64 ((↑x1 : Int) + (1 : Int)) = (↑y2 : Int)) ∧
                (decide ((↑x1 : Int) < (↑(List.length l) : Int)) = false → minL (List.take x1 l) = minL l))
--end
theorem minK_e (l : List Int) : minK_t l = vcG Try.prog (Gof G02) (one (oMin l)) Try.f66 [.dat (.ints .i64 l)] [] (.v (.int .i64 (minL l))) [] := by kernel_rfl
def equal_t (a b : List Int) : Prop :=
(((↑(List.length a) : Int) != (↑(List.length b) : Int)) = true → false = eqI a b) ∧
  (((↑(List.length a) : Int) != (↑(List.length b) : Int)) = false →
    (∃ (x0 : Nat), (x0 ≤ List.length a ∧ List.take x0 a = List.take x0 b) ∧ a = a ∧ b = b ∧ (0 : Int) = (↑x0 : Int) ∧ (↑(List.length a) : Int) = (↑(List.length a) : Int)) ∧
      ∀ (x1 : Nat),
        x1 ≤ List.length a ∧ List.take x1 a = List.take x1 b →
          (decide ((↑x1 : Int) < (↑(List.length a) : Int)) = true →
              (0 : Int) ≤ (↑x1 : Int) ∧
                (↑x1 : Int) < (↑(List.length a) : Int) ∧
                  (0 : Int) ≤ (↑x1 : Int) ∧
                    (↑x1 : Int) < (↑(List.length b) : Int) ∧
                      ((List.getD a (Int.toNat (↑x1 : Int)) (0 : Int) != List.getD b (Int.toNat (↑x1 : Int)) (0 : Int)) = true → false = eqI a b) ∧
                        ((List.getD a (Int.toNat (↑x1 : Int)) (0 : Int) != List.getD b (Int.toNat (↑x1 : Int)) (0 : Int)) = false →
                          ∃ (y2 : Nat),
                            (y2 ≤ List.length a ∧ List.take y2 a = List.take y2 b) ∧
                              Nat.sub (List.length a) y2 < Nat.sub (List.length a) x1 ∧
                                a = a ∧ b = b ∧ IntKind.wrap IntKind.i64 ((↑x1 : Int) + (1 : Int)) = (↑y2 : Int) ∧ (↑(List.length a) : Int) = (↑(List.length a) : Int))) ∧
            (decide ((↑x1 : Int) < (↑(List.length a) : Int)) = false → true = eqI a b))
--end
theorem equal_e (a b : List Int) : equal_t a b = vcG Try.prog (Gof G02) (one (oEq 13 12 [(12, .v (.int .i64 a.length))] a b)) Try.f70 [.dat (.ints .i64 a), .dat (.ints .i64 b)] [] (.v (.bool (eqI a b))) [] := by kernel_rfl
def sameInts_t (a b : List Int) : Prop :=
(((↑(List.length a) : Int) != (↑(List.length b) : Int)) = true → false = eqI a b) ∧
  (((↑(List.length a) : Int) != (↑(List.length b) : Int)) = false →
    (∃ (x0 : Nat), (x0 ≤ List.length a ∧ List.take x0 a = List.take x0 b) ∧ a = a ∧ b = b ∧ (0 : Int) = (↑x0 : Int)) ∧
      ∀ (x1 : Nat),
        x1 ≤ List.length a ∧ List.take x1 a = List.take x1 b →
          (decide ((↑x1 : Int) < (↑(List.length a) : Int)) = true →
              (0 : Int) ≤ (↑x1 : Int) ∧
                (↑x1 : Int) < (↑(List.length a) : Int) ∧
                  (0 : Int) ≤ (↑x1 : Int) ∧
                    (↑x1 : Int) < (↑(List.length b) : Int) ∧
                      ((List.getD a (Int.toNat (↑x1 : Int)) (0 : Int) != List.getD b (Int.toNat (↑x1 : Int)) (0 : Int)) = true → false = eqI a b) ∧
                        ((List.getD a (Int.toNat (↑x1 : Int)) (0 : Int) != List.getD b (Int.toNat (↑x1 : Int)) (0 : Int)) = false →
                          ∃ (y2 : Nat),
                            (y2 ≤ List.length a ∧ List.take y2 a = List.take y2 b) ∧
                              Nat.sub (List.length a) y2 < Nat.sub (List.length a) x1 ∧ a = a ∧ b = b ∧ IntKind.wrap IntKind.i64 ((↑x1 : Int) + (1 : Int)) = (↑y2 : Int))) ∧
            (decide ((↑x1 : Int) < (↑(List.length a) : Int)) = false → true = eqI a b))
--end
theorem sameInts_e (a b : List Int) : sameInts_t a b = vcG Try.prog (Gof G02) (one (oEq 5 0 [] a b)) Try.f74 [.dat (.ints .i64 a), .dat (.ints .i64 b)] [] (.v (.bool (eqI a b))) [] := by kernel_rfl
def ownInts_t (l : List Int) : Prop :=
((0 : Nat) + List.length l) * (8 : Nat) ≤ (140737488355328 : Nat) ∧ [] ++ l = l
--end
theorem ownInts_e (l : List Int) : ownInts_t l = vcG Try.prog (Gof G02) (fun _ => none) Try.f68 [.dat (.ints .i64 l)] [] (.o 2000) [(2000, .row 3 (.ints .i64 l))] := by kernel_rfl
def rpoints_t (l : List Int) : Prop :=
(∃ (x0 : Nat), Nat.le x0 (List.length l) ∧ l = l ∧ (0 : Int) = pts (List.take x0 l) ∧ (0 : Int) = (↑x0 : Int)) ∧
  ∀ (x1 : Nat),
    Nat.le x1 (List.length l) →
      (decide ((↑x1 : Int) < (↑(List.length l) : Int)) = true →
          (0 : Int) ≤ (↑x1 : Int) ∧
            (↑x1 : Int) < (↑(List.length l) : Int) ∧
              (decide (List.getD l (Int.toNat (↑x1 : Int)) (0 : Int) < (0 : Int)) = true →
                  ∃ (y2 : Nat),
                    Nat.le y2 (List.length l) ∧
                      Nat.sub (List.length l) y2 < Nat.sub (List.length l) x1 ∧
                        l = l ∧ IntKind.wrap IntKind.i64 (pts (List.take x1 l) + (1 : Int)) = pts (List.take y2 l) ∧ IntKind.wrap IntKind.i64 ((↑x1 : Int) + (1 : Int)) = (↑y2 : Int)) ∧
                (decide (List.getD l (Int.toNat (↑x1 : Int)) (0 : Int) < (0 : Int)) = false →
                  (0 : Int) ≤ (↑x1 : Int) ∧
                    (↑x1 : Int) < (↑(List.length l) : Int) ∧
                      ∃ (y3 : Nat),
                        Nat.le y3 (List.length l) ∧
                          Nat.sub (List.length l) y3 < Nat.sub (List.length l) x1 ∧
                            l = l ∧
                              IntKind.wrap IntKind.i64 (pts (List.take x1 l) + List.getD l (Int.toNat (↑x1 : Int)) (0 : Int)) = pts (List.take y3 l) ∧
                                IntKind.wrap IntKind.i64 ((↑x1 : Int) + (1 : Int)) = (↑y3 : Int))) ∧
        (decide ((↑x1 : Int) < (↑(List.length l) : Int)) = false → pts (List.take x1 l) = pts l)
--end
theorem rpoints_e (l : List Int) : rpoints_t l = vcG Try.prog (Gof G02) (one (oRpoints l)) Try.f69 [.dat (.ints .i64 l)] [] (.v (.int .i64 (pts l))) [] := by kernel_rfl
def add_t (n s : Int) : Prop :=
min (IntKind.wrap IntKind.i64 (s + n)) (1048576 : Int) = min (s + n) (1048576 : Int)
--end
theorem add_e (n s : Int) : add_t n s = vcG Try.prog (Gof G02) (fun _ => none) Try.f82 [.v (.int .i64 n), .p 0 0 0] [(0, .cells 3 [.v (.int .i64 s)])] (.tu []) [(0, .cells 3 [.v (.int .i64 (min (s + n) 1048576))])] := by kernel_rfl
def bits_t (n : Int) : Prop :=
n ≤ (9223372036854775807 : Int) ∧ IntKind.wrap IntKind.i64 (hiI n + (1 : Int)) = hiI n + (1 : Int)
--end
theorem bits_e (n : Int) : bits_t n = vcG Try.prog (Gof G8a) (fun _ => none) Try.f91 [.v (.int .i64 n)] [] (.v (.int .i64 (hiI n + 1))) [] := by kernel_rfl
def rbits_t (n : Int) : Prop :=
n ≤ (9223372036854775807 : Int) ∧ IntKind.wrap IntKind.i64 (hiI n + (1 : Int)) = hiI n + (1 : Int)
--end
theorem rbits_e (n : Int) : rbits_t n = vcG Try.prog (Gof G8a) (fun _ => none) Try.f85 [.v (.int .i64 n)] [] (.v (.int .i64 (hiI n + 1))) [] := by kernel_rfl
def points_t (g : Int) (l : List Int) : Prop :=
(∃ (x0 : Nat), Nat.le x0 (List.length l) ∧ l = l ∧ (↑(List.length l) : Int) = (↑(List.length l) : Int) ∧ (0 : Int) = (↑x0 : Int) ∧ (0 : Int) = min (pts (List.take x0 l)) (1048576 : Int)) ∧
  ∀ (x1 : Nat),
    Nat.le x1 (List.length l) →
      (decide ((↑x1 : Int) < (↑(List.length l) : Int)) = true →
          (0 : Int) ≤ (↑x1 : Int) ∧
            (↑x1 : Int) < (↑(List.length l) : Int) ∧
              (decide (List.getD l (Int.toNat (↑x1 : Int)) (0 : Int) < (0 : Int)) = true →
                  (0 : Int) ≤ (1 : Int) ∧
                    (1 : Int) ≤ (1048576 : Int) ∧
                      (0 : Int) ≤ min (pts (List.take x1 l)) (1048576 : Int) ∧
                        min (pts (List.take x1 l)) (1048576 : Int) ≤ (1048576 : Int) ∧
                          ∃ (y2 : Nat),
                            Nat.le y2 (List.length l) ∧
                              Nat.sub (List.length l) y2 < Nat.sub (List.length l) x1 ∧
                                l = l ∧
                                  (↑(List.length l) : Int) = (↑(List.length l) : Int) ∧
                                    IntKind.wrap IntKind.i64 ((↑x1 : Int) + (1 : Int)) = (↑y2 : Int) ∧
                                      min (min (pts (List.take x1 l)) (1048576 : Int) + (1 : Int)) (1048576 : Int) = min (pts (List.take y2 l)) (1048576 : Int)) ∧
                (decide (List.getD l (Int.toNat (↑x1 : Int)) (0 : Int) < (0 : Int)) = false →
                  (0 : Int) ≤ min (List.getD l (Int.toNat (↑x1 : Int)) (0 : Int)) (1048576 : Int) ∧
                    min (List.getD l (Int.toNat (↑x1 : Int)) (0 : Int)) (1048576 : Int) ≤ (1048576 : Int) ∧
                      (0 : Int) ≤ min (pts (List.take x1 l)) (1048576 : Int) ∧
                        min (pts (List.take x1 l)) (1048576 : Int) ≤ (1048576 : Int) ∧
                          ∃ (y3 : Nat),
                            Nat.le y3 (List.length l) ∧
                              Nat.sub (List.length l) y3 < Nat.sub (List.length l) x1 ∧
                                l = l ∧
                                  (↑(List.length l) : Int) = (↑(List.length l) : Int) ∧
                                    IntKind.wrap IntKind.i64 ((↑x1 : Int) + (1 : Int)) = (↑y3 : Int) ∧
                                      min (min (pts (List.take x1 l)) (1048576 : Int) + min (List.getD l (Int.toNat (↑x1 : Int)) (0 : Int)) (1048576 : Int)) (1048576 : Int) =
                                        min (pts (List.take y3 l)) (1048576 : Int))) ∧
        (decide ((↑x1 : Int) < (↑(List.length l) : Int)) = false → min (pts (List.take x1 l)) (1048576 : Int) = min (pts l) (1048576 : Int))
--end
theorem points_e (g : Int) (l : List Int) : points_t g l = vcG Try.prog (Gof G8a) (one (oPoints g l)) Try.f67 [.ag [.v (.int .i64 g), .dat (.ints .i64 l)]] [] (.v (.int .i64 (min (pts l) 1048576))) [] := by kernel_rfl
def ownDist_t (g : Int) (l : List Int) : Prop :=
List.length l ≤ (4294967296 : Nat) ∧ g = g ∧ l = l
--end
theorem ownDist_e (g : Int) (l : List Int) : ownDist_t g l = vcG Try.prog (Gof G8a) (fun _ => none) Try.f41 [.ag [.v (.int .i64 g), .dat (.ints .i64 l)]] [] (.ag [.v (.int .i64 g), .o 2000]) [(2000, .row 3 (.ints .i64 l))] := by kernel_rfl
def sameDist_t (a : Int) (x : List Int) (b : Int) (y : List Int) : Prop :=
((a == b) = true → List.length x ≤ (4294967296 : Nat) ∧ eqI x y = (a == b && eqI x y)) ∧ ((a == b) = false → false = (a == b && eqI x y))
--end
theorem sameDist_e (a : Int) (x : List Int) (b : Int) (y : List Int) : sameDist_t a x b y = vcG Try.prog (Gof G8a) (fun _ => none) Try.f52 [.ag [.v (.int .i64 a), .dat (.ints .i64 x)], .ag [.v (.int .i64 b), .dat (.ints .i64 y)]] [] (.v (.bool (a == b && eqI x y))) [] := by kernel_rfl
def rcheck_t (g : Int) (l : List Int) : Prop :=
(decide (g < (5 : Int)) = true → (31 : Int) = dchk g l) ∧
  (decide (g < (5 : Int)) = false →
    (decide (g > (12 : Int)) = true → (31 : Int) = dchk g l) ∧
      (decide (g > (12 : Int)) = false →
        (decide ((↑(List.length l) : Int) < (1 : Int)) = true → (23 : Int) = dchk g l) ∧
          (decide ((↑(List.length l) : Int) < (1 : Int)) = false →
            (decide ((↑(List.length l) : Int) > (256 : Int)) = true → (23 : Int) = dchk g l) ∧
              (decide ((↑(List.length l) : Int) > (256 : Int)) = false →
                (0 : Int) ≤ IntKind.wrap IntKind.i64 ((↑(List.length l) : Int) - (1 : Int)) ∧
                  IntKind.wrap IntKind.i64 ((↑(List.length l) : Int) - (1 : Int)) < (↑(List.length l) : Int) ∧
                    ((List.getD l (Int.toNat (IntKind.wrap IntKind.i64 ((↑(List.length l) : Int) - (1 : Int)))) (0 : Int) == (0 : Int)) = true → (23 : Int) = dchk g l) ∧
                      ((List.getD l (Int.toNat (IntKind.wrap IntKind.i64 ((↑(List.length l) : Int) - (1 : Int)))) (0 : Int) == (0 : Int)) = false →
                        (∃ (x0 : Nat), (x0 ≤ List.length l ∧ ∀ (x1 : Int), x1 ∈ List.take x0 l → (-1 : Int) ≤ x1 ∧ x1 ≤ (2 : Int) ^ Int.toNat g) ∧ (0 : Int) = (↑x0 : Int) ∧ g = g ∧ l = l) ∧
                          ∀ (x2 : Nat),
                            (x2 ≤ List.length l ∧ ∀ (x3 : Int), x3 ∈ List.take x2 l → (-1 : Int) ≤ x3 ∧ x3 ≤ (2 : Int) ^ Int.toNat g) →
                              (decide ((↑x2 : Int) < (↑(List.length l) : Int)) = true →
                                  (0 : Int) ≤ (↑x2 : Int) ∧
                                    (↑x2 : Int) < (↑(List.length l) : Int) ∧
                                      (decide (List.getD l (Int.toNat (↑x2 : Int)) (0 : Int) < (-1 : Int)) = true → (23 : Int) = dchk g l) ∧
                                        (decide (List.getD l (Int.toNat (↑x2 : Int)) (0 : Int) < (-1 : Int)) = false →
                                          (0 : Int) ≤ (↑x2 : Int) ∧
                                            (↑x2 : Int) < (↑(List.length l) : Int) ∧
                                              (0 : Int) ≤ IntKind.wrap IntKind.u64 g ∧
                                                (decide
                                                        (List.getD l (Int.toNat (↑x2 : Int)) (0 : Int) >
                                                          IntKind.wrap IntKind.i64 ((1 : Int) * (2 : Int) ^ min (Int.toNat (IntKind.wrap IntKind.u64 g)) (IntKind.bits IntKind.i64))) =
                                                      true →
                                                    (23 : Int) = dchk g l) ∧
                                                  (decide
                                                        (List.getD l (Int.toNat (↑x2 : Int)) (0 : Int) >
                                                          IntKind.wrap IntKind.i64 ((1 : Int) * (2 : Int) ^ min (Int.toNat (IntKind.wrap IntKind.u64 g)) (IntKind.bits IntKind.i64))) =
                                                      false →
                                                    ∃ (y4 : Nat),
                                                      (y4 ≤ List.length l ∧ ∀ (x5 : Int), x5 ∈ List.take y4 l → (-1 : Int) ≤ x5 ∧ x5 ≤ (2 : Int) ^ Int.toNat g) ∧
                                                        Nat.sub (List.length l) y4 < Nat.sub (List.length l) x2 ∧ IntKind.wrap IntKind.i64 ((↑x2 : Int) + (1 : Int)) = (↑y4 : Int) ∧ g = g ∧ l = l))) ∧
                                (decide ((↑x2 : Int) < (↑(List.length l) : Int)) = false →
                                  List.length l ≤ (65536 : Nat) ∧
                                    (List.all l fun (x : Int) => decide (x ≤ (65536 : Int))) = true ∧
                                      (0 : Int) ≤ IntKind.wrap IntKind.u64 g ∧
                                        ((pts l != IntKind.wrap IntKind.i64 ((1 : Int) * (2 : Int) ^ min (Int.toNat (IntKind.wrap IntKind.u64 g)) (IntKind.bits IntKind.i64))) = true →
                                            (23 : Int) = dchk g l) ∧
                                          ((pts l != IntKind.wrap IntKind.i64 ((1 : Int) * (2 : Int) ^ min (Int.toNat (IntKind.wrap IntKind.u64 g)) (IntKind.bits IntKind.i64))) = false →
                                            (0 : Int) = dchk g l)))))))
--end
theorem rcheck_e (g : Int) (l : List Int) : rcheck_t g l = vcG Try.prog (Gof G8a) (one (oRcheck g l)) Try.f42 [.ag [.v (.int .i64 g), .dat (.ints .i64 l)]] [] (.v (.int .i64 (dchk g l))) [] := by kernel_rfl
def same_t (a : Int) (x : List Int) (b : Int) (y : List Int) : Prop :=
((a == b) = true → List.length x ≤ (4294967296 : Nat) ∧ eqI x y = (a == b && eqI x y)) ∧ ((a == b) = false → false = (a == b && eqI x y))
--end
theorem same_e (a : Int) (x : List Int) (b : Int) (y : List Int) : same_t a x b y = vcG Try.prog (Gof G8a) (fun _ => none) Try.f45 [.ag [.v (.int .i64 a), .dat (.ints .i64 x)], .ag [.v (.int .i64 b), .dat (.ints .i64 y)]] [] (.v (.bool (a == b && eqI x y))) [] := by kernel_rfl
def rsame_t (a : Int) (x : List Int) (b : Int) (y : List Int) : Prop :=
((a != b) = true → false = (a == b && eqI x y)) ∧
  ((a != b) = false →
    (((↑(List.length x) : Int) != (↑(List.length y) : Int)) = true → false = (a == b && eqI x y)) ∧
      (((↑(List.length x) : Int) != (↑(List.length y) : Int)) = false →
        (∃ (x0 : Nat), (x0 ≤ List.length x ∧ List.take x0 x = List.take x0 y) ∧ (0 : Int) = (↑x0 : Int) ∧ a = a ∧ x = x ∧ b = b ∧ y = y) ∧
          ∀ (x1 : Nat),
            x1 ≤ List.length x ∧ List.take x1 x = List.take x1 y →
              (decide ((↑x1 : Int) < (↑(List.length x) : Int)) = true →
                  (0 : Int) ≤ (↑x1 : Int) ∧
                    (↑x1 : Int) < (↑(List.length x) : Int) ∧
                      (0 : Int) ≤ (↑x1 : Int) ∧
                        (↑x1 : Int) < (↑(List.length y) : Int) ∧
                          ((List.getD x (Int.toNat (↑x1 : Int)) (0 : Int) != List.getD y (Int.toNat (↑x1 : Int)) (0 : Int)) = true → false = (a == b && eqI x y)) ∧
                            ((List.getD x (Int.toNat (↑x1 : Int)) (0 : Int) != List.getD y (Int.toNat (↑x1 : Int)) (0 : Int)) = false →
                              ∃ (y2 : Nat),
                                (y2 ≤ List.length x ∧ List.take y2 x = List.take y2 y) ∧
                                  Nat.sub (List.length x) y2 < Nat.sub (List.length x) x1 ∧ IntKind.wrap IntKind.i64 ((↑x1 : Int) + (1 : Int)) = (↑y2 : Int) ∧ a = a ∧ x = x ∧ b = b ∧ y = y)) ∧
                (decide ((↑x1 : Int) < (↑(List.length x) : Int)) = false → true = (a == b && eqI x y))))
--end
theorem rsame_e (a : Int) (x : List Int) (b : Int) (y : List Int) : rsame_t a x b y = vcG Try.prog (Gof G8a) (one (oRsame a b x y)) Try.f46 [.ag [.v (.int .i64 a), .dat (.ints .i64 x)], .ag [.v (.int .i64 b), .dat (.ints .i64 y)]] [] (.v (.bool (a == b && eqI x y))) [] := by kernel_rfl
def size_t (g : Int) (l : List Int) : Prop :=
(decide (g < (0 : Int)) = true → (0 : Int) = dsize g) ∧
  (decide (g < (0 : Int)) = false →
    (decide (g > (12 : Int)) = true → (0 : Int) = dsize g) ∧
      (decide (g > (12 : Int)) = false → (0 : Int) ≤ g ∧ IntKind.wrap IntKind.i64 ((1 : Int) * (2 : Int) ^ min (Int.toNat g) (IntKind.bits IntKind.i64)) = dsize g))
--end
theorem size_e (g : Int) (l : List Int) : size_t g l = vcG Try.prog (Gof G8a) (fun _ => none) Try.f43 [.ag [.v (.int .i64 g), .dat (.ints .i64 l)]] [] (.v (.int .i64 (dsize g))) [] := by kernel_rfl
def rsize_t (g : Int) (l : List Int) : Prop :=
(decide (g < (0 : Int)) = true → (0 : Int) = dsize g) ∧
  (decide (g < (0 : Int)) = false →
    (decide (g > (12 : Int)) = true → (0 : Int) = dsize g) ∧
      (decide (g > (12 : Int)) = false →
        (0 : Int) ≤ IntKind.wrap IntKind.u64 g ∧ IntKind.wrap IntKind.i64 ((1 : Int) * (2 : Int) ^ min (Int.toNat (IntKind.wrap IntKind.u64 g)) (IntKind.bits IntKind.i64)) = dsize g))
--end
theorem rsize_e (g : Int) (l : List Int) : rsize_t g l = vcG Try.prog (Gof G8a) (fun _ => none) Try.f44 [.ag [.v (.int .i64 g), .dat (.ints .i64 l)]] [] (.v (.int .i64 (dsize g))) [] := by kernel_rfl
def check_t (g : Int) (l : List Int) : Prop :=
(decide (g < (5 : Int)) = true → (31 : Int) = dchk g l) ∧
  (decide (g < (5 : Int)) = false →
    (decide (g > (12 : Int)) = true → (31 : Int) = dchk g l) ∧
      (decide (g > (12 : Int)) = false →
        (decide ((↑(List.length l) : Int) < (1 : Int)) = true → (23 : Int) = dchk g l) ∧
          (decide ((↑(List.length l) : Int) < (1 : Int)) = false →
            (decide ((↑(List.length l) : Int) > (256 : Int)) = true → (23 : Int) = dchk g l) ∧
              (decide ((↑(List.length l) : Int) > (256 : Int)) = false →
                (0 : Int) ≤ IntKind.wrap IntKind.i64 ((↑(List.length l) : Int) - (1 : Int)) ∧
                  IntKind.wrap IntKind.i64 ((↑(List.length l) : Int) - (1 : Int)) < (↑(List.length l) : Int) ∧
                    ((List.getD l (Int.toNat (IntKind.wrap IntKind.i64 ((↑(List.length l) : Int) - (1 : Int)))) (0 : Int) == (0 : Int)) = true → (23 : Int) = dchk g l) ∧
                      ((List.getD l (Int.toNat (IntKind.wrap IntKind.i64 ((↑(List.length l) : Int) - (1 : Int)))) (0 : Int) == (0 : Int)) = false →
                        (0 : Nat) < List.length l ∧
                          List.length l ≤ (4294967296 : Nat) ∧
                            (decide (minL l < (-1 : Int)) = true → (23 : Int) = dchk g l) ∧
                              (decide (minL l < (-1 : Int)) = false →
                                List.length l ≤ (4294967296 : Nat) ∧
                                  (0 : Int) ≤ g ∧
                                    ((min (pts l) (1048576 : Int) != IntKind.wrap IntKind.i64 ((1 : Int) * (2 : Int) ^ min (Int.toNat g) (IntKind.bits IntKind.i64))) = true → (23 : Int) = dchk g l) ∧
                                      ((min (pts l) (1048576 : Int) != IntKind.wrap IntKind.i64 ((1 : Int) * (2 : Int) ^ min (Int.toNat g) (IntKind.bits IntKind.i64))) = false →
                                        (0 : Int) = dchk g l)))))))
--end
theorem check_e (g : Int) (l : List Int) : check_t g l = vcG Try.prog (Gof G8b) (fun _ => none) Try.f39 [.ag [.v (.int .i64 g), .dat (.ints .i64 l)]] [] (.v (.int .i64 (dchk g l))) [] := by kernel_rfl
def shape_t (n : Int) : Prop :=
IntKind.wrap IntKind.i64 (n + (1 : Int)) ≤ (9223372036854775807 : Int) ∧
  (0 : Int) ≤ hiI (IntKind.wrap IntKind.i64 (n + (1 : Int))) + (1 : Int) ∧
    hiI (IntKind.wrap IntKind.i64 (n + (1 : Int))) + (1 : Int) = shB n ∧
      IntKind.wrap IntKind.i64
          (IntKind.wrap IntKind.i64
              (IntKind.wrap IntKind.i64 ((1 : Int) * (2 : Int) ^ min (Int.toNat (hiI (IntKind.wrap IntKind.i64 (n + (1 : Int))) + (1 : Int))) (IntKind.bits IntKind.i64)) - (1 : Int)) -
            IntKind.wrap IntKind.i64 (n + (1 : Int))) =
        shT n
--end
theorem shape_e (n : Int) : shape_t n = vcG Try.prog (Gof G8b) (fun _ => none) Try.f84 [.v (.int .i64 n)] [] (.tu [.v (.int .i64 (shB n)), .v (.int .i64 (shT n))]) [] := by kernel_rfl
def times_t (l : List Int) (n x : Int) : Prop :=
(∃ (x0 : Nat), Nat.le x0 (Int.toNat n) ∧ n = n ∧ x = x ∧ (0 : Int) = (↑x0 : Int) ∧ l = l ++ List.replicate x0 x) ∧
  ∀ (x1 : Nat),
    Nat.le x1 (Int.toNat n) →
      (decide ((↑x1 : Int) < n) = true →
          (List.length (l ++ List.replicate x1 x) + (1 : Nat)) * (8 : Nat) ≤ (140737488355328 : Nat) ∧
            ∃ (y2 : Nat),
              Nat.le y2 (Int.toNat n) ∧
                Nat.sub (Int.toNat n) y2 < Nat.sub (Int.toNat n) x1 ∧
                  n = n ∧ x = x ∧ IntKind.wrap IntKind.i64 ((↑x1 : Int) + (1 : Int)) = (↑y2 : Int) ∧ l ++ List.replicate x1 x ++ [x] = l ++ List.replicate y2 x) ∧
        (decide ((↑x1 : Int) < n) = false → l ++ List.replicate x1 x = l ++ List.replicate (Int.toNat n) x)
--end
theorem times_e (l : List Int) (n x : Int) : times_t l n x = vcG Try.prog (Gof G8a) (one (oTimes l n x)) Try.f73 [.o 0, .v (.int .i64 n), .v (.int .i64 x)] [(0, .row 3 (.ints .i64 l))] (.o 2000) [(2000, .row 3 (.ints .i64 (l ++ List.replicate n.toNat x)))] := by kernel_rfl
def times0_t (n x : Int) : Prop :=
(∃ (x0 : Nat), Nat.le x0 (Int.toNat n) ∧ n = n ∧ x = x ∧ (0 : Int) = (↑x0 : Int) ∧ List.length ([] ++ List.replicate x0 x) = (0 : Nat)) ∧
  ∀ (x1 : Nat),
    Nat.le x1 (Int.toNat n) →
      (decide ((↑x1 : Int) < n) = true →
          (List.length ([] ++ List.replicate x1 x) + (1 : Nat)) * (8 : Nat) ≤ (140737488355328 : Nat) ∧
            ∃ (y2 : Nat),
              Nat.le y2 (Int.toNat n) ∧
                Nat.sub (Int.toNat n) y2 < Nat.sub (Int.toNat n) x1 ∧
                  n = n ∧ x = x ∧ IntKind.wrap IntKind.i64 ((↑x1 : Int) + (1 : Int)) = (↑y2 : Int) ∧ [] ++ List.replicate x1 x ++ [x] = [] ++ List.replicate y2 x) ∧
        (decide ((↑x1 : Int) < n) = false → [] ++ List.replicate x1 x = List.replicate (Int.toNat n) x)
--end
theorem times0_e (n x : Int) : times0_t n x = vcG Try.prog (Gof G8a) (one (oTimes [] n x)) Try.f73 [.v (.slice none 0 0), .v (.int .i64 n), .v (.int .i64 x)] [] (.o 2000) [(2000, .row 3 (.ints .i64 (List.replicate n.toNat x)))] := by kernel_rfl
end Go.Proofs.Ytafabheehkmfhaa
/-
  Small facts on wraps, powers, lists, that the conditions' proofs share. Conditions: each theorem's own.
-/
namespace Go.Proofs.Ytafabheehkmfhaa
open Go
set_option linter.unusedVariables false
set_option linter.unusedSimpArgs false
theorem wr {n : Int} (h1 : -9223372036854775808 ≤ n) (h2 : n ≤ 9223372036854775807) : IntKind.wrap IntKind.i64 n = n := IntWalk.i64_in n ⟨h1, h2⟩
theorem wru {n : Int} (h1 : 0 ≤ n) (h2 : n ≤ 18446744073709551615) : IntKind.wrap IntKind.u64 n = n := IntWalk.u64_in n ⟨h1, h2⟩
theorem b64 : IntKind.bits IntKind.i64 = 64 := rfl
theorem bu64 : IntKind.bits IntKind.u64 = 64 := rfl
theorem pow_mono {a b : Nat} (h : a ≤ b) : (2 : Int) ^ a ≤ 2 ^ b := by
  have := Nat.pow_le_pow_right (n := 2) (by omega) h
  exact_mod_cast this
theorem pow_pos' (a : Nat) : (0 : Int) < 2 ^ a := by
  have := Nat.pow_pos (n := a) (show 0 < 2 by omega)
  exact_mod_cast this
theorem pow_cast (a : Nat) : (2 : Int) ^ a = ((2 ^ a : Nat) : Int) := by simp
theorem shl1 {g : Int} (h0 : 0 ≤ g) (h : g ≤ 62) : IntKind.wrap IntKind.i64 ((1 : Int) * (2 : Int) ^ min (Int.toNat g) (IntKind.bits IntKind.i64)) = 2 ^ g.toNat := by
  rw [b64, Nat.min_eq_left (by omega), Int.one_mul]
  have h1 := pow_mono (show g.toNat ≤ 62 by omega)
  have h2 := pow_pos' g.toNat
  exact wr (by omega) (by omega)
theorem take_succ {α : Type} (l : List α) (d : α) {i : Nat} (h : i < l.length) : l.take (i + 1) = l.take i ++ [l.getD i d] := by
  rw [List.take_add_one, List.getD_eq_getElem?_getD, List.getElem?_eq_getElem h]
  rfl
theorem toNat_cast (i : Nat) : (i : Int).toNat = i := Int.toNat_natCast i
theorem nle {a b : Nat} : Nat.le a b ↔ a ≤ b := Iff.rfl
theorem getD_mem' {l : List Int} {i : Nat} (h : i < l.length) : l.getD i 0 ∈ l := by
  rw [List.getD_eq_getElem?_getD, List.getElem?_eq_getElem h]
  exact List.getElem_mem h
theorem tdiv2 {a : Int} (h : 0 ≤ a) : Int.tdiv a 2 = a / 2 := Int.tdiv_eq_ediv_of_nonneg h
theorem fdivp {a b : Int} (h : 0 ≤ b) : Int.fdiv a b = a / b := by
  rw [Int.fdiv_eq_ediv_of_nonneg _ h]
end Go.Proofs.Ytafabheehkmfhaa
/-
  Chapter 8: the small functions answer as they are said to. Conditions: each theorem's own.
-/
namespace Go.Proofs.Ytafabheehkmfhaa
open Go Go.RowKit
set_option linter.unusedVariables false
set_option linter.unusedSimpArgs false
set_option maxRecDepth 100000
theorem log2_lt63 {n : Int} (h : n ≤ 9223372036854775807) : Nat.log2 n.toNat ≤ 62 := by
  by_cases h0 : n.toNat = 0
  · rw [h0]; decide
  · have := (Nat.log2_lt h0 (k := 63)).2 (by omega)
    omega
theorem div_pos_iff {n : Int} (h : 0 < n) (i : Nat) : 0 < n / 2 ^ i ↔ i ≤ Nat.log2 n.toNat := by
  rw [Nat.le_log2 (by omega)]
  have h1 : 0 < n / 2 ^ i ↔ 1 * 2 ^ i ≤ n := by
    rw [← Int.le_ediv_iff_mul_le (pow_pos' i)]
    omega
  rw [h1, pow_cast]
  omega
theorem high_v (n : Int) (h0 : n ≤ 9223372036854775807) : high_t n := by
  unfold high_t
  have hl := log2_lt63 h0
  refine ⟨⟨0, by rw [nle]; omega, rfl, by unfold hiM; cases decide (n ≤ 0) <;> simp <;> omega, rfl⟩, fun i hi => ⟨fun hlt => ?_, fun hge => ?_⟩⟩
  · simp only [decide_eq_true_eq] at hlt
    rw [nle] at hi
    rw [b64, toNat_cast, Nat.min_eq_left (by omega), fdivp (by have := pow_pos' i; omega)]
    refine ⟨by omega, fun hp => ⟨i + 1, by rw [nle]; omega, by show 63 - (i+1) < 63 - i; omega, by trivial, ?_, by rw [wr (by omega) (by omega)]; simp⟩, fun hp => ⟨i + 1, by rw [nle]; omega, by show 63 - (i+1) < 63 - i; omega, by trivial, ?_, by rw [wr (by omega) (by omega)]; simp⟩⟩
    · simp only [gt_iff_lt, decide_eq_true_eq] at hp
      have hn : 0 < n := by
        rcases Int.lt_or_le 0 n with h | h
        · exact h
        · have := Int.ediv_nonpos_of_nonpos_of_neg h (pow_pos' i)
          omega
      have := (div_pos_iff hn i).1 hp
      unfold hiM
      rw [decide_eq_false (by omega)]
      simp only [cond_false]
      omega
    · simp only [gt_iff_lt, decide_eq_false_iff_not] at hp
      unfold hiM
      by_cases hn : 0 < n
      · have : ¬ i ≤ Nat.log2 n.toNat := fun h => hp ((div_pos_iff hn i).2 h)
        rw [decide_eq_false (by omega)]
        simp only [cond_false]
        omega
      · rw [decide_eq_true (by omega)]
        rfl
  · simp only [decide_eq_false_iff_not] at hge
    rw [nle] at hi
    unfold hiM hiI
    cases decide (n ≤ 0)
    · simp only [cond_false]; omega
    · rfl

theorem rhigh_v (n : Int) (h0 : n ≤ 9223372036854775807) : rhigh_t n := by
  unfold rhigh_t
  have hl := log2_lt63 h0
  refine ⟨⟨0, ?_, by simp, rfl⟩, fun i hi => ⟨fun hp => ?_, fun hp => ?_⟩⟩
  · by_cases h : n ≤ 0
    · exact .inl ⟨h, rfl⟩
    · exact .inr ⟨by omega, by omega⟩
  · simp only [gt_iff_lt, decide_eq_true_eq] at hp
    have hn : 0 < n := by
      rcases Int.lt_or_le 0 n with h | h
      · exact h
      · have := Int.ediv_nonpos_of_nonpos_of_neg h (pow_pos' i)
        omega
    have h1 := (div_pos_iff hn i).1 hp
    have hle := Int.ediv_le_self (2 ^ i) (Int.le_of_lt hn)
    refine ⟨by omega, i + 1, .inr ⟨hn, by omega⟩, ?_, ?_, ?_⟩
    · show 63 - (i + 1) < 63 - i
      omega
    · rw [tdiv2 (by omega), Int.pow_succ, ← Int.ediv_ediv_of_nonneg (Int.le_of_lt (pow_pos' i))]
      exact wr (by omega) (by omega)
    · rw [wr (by omega) (by omega)]; simp
  · simp only [gt_iff_lt, decide_eq_false_iff_not] at hp
    unfold hiI
    by_cases hn : 0 < n
    · have : ¬ i ≤ Nat.log2 n.toNat := fun h => hp ((div_pos_iff hn i).2 h)
      rw [decide_eq_false (by omega)]
      simp only [cond_false]
      omega
    · rw [decide_eq_true (by omega)]
      simp only [cond_true]
      omega
theorem tmod_pos {x m : Int} (hm : 0 < m) : (Int.tmod x m < 0 → Int.tmod x m + m = x % m) ∧ (¬ Int.tmod x m < 0 → Int.tmod x m = x % m) := by
  have h1 := Int.emod_nonneg x (show m ≠ 0 by omega)
  have h2 := Int.emod_lt_of_pos x hm
  have h3 := Int.tmod_eq_emod (a := x) (b := m)
  constructor
  · intro h
    split at h3 <;> omega
  · intro h
    split at h3 <;> omega
theorem mod_v (x m : Int) (hx : inW x = true) (hm : inW m = true) : modK_t x m := by
  unfold modK_t
  simp only [inW, Bool.and_eq_true, decide_eq_true_eq] at hx hm
  refine ⟨fun h => ?_, fun h => ⟨?_, fun h2 => ?_, fun h2 => ?_⟩⟩
  · unfold modI; rw [h]; rfl
  · simp only [decide_eq_false_iff_not] at h; omega
  · have h' := h
    simp only [decide_eq_false_iff_not, decide_eq_true_eq] at h h2
    have h1 := Int.emod_nonneg x (show m ≠ 0 by omega)
    have h3 := Int.emod_lt_of_pos x (show 0 < m by omega)
    have := (tmod_pos (x := x) (show 0 < m by omega)).1 h2
    rw [this, wr (by omega) (by omega)]
    unfold modI; rw [h']; rfl
  · have h' := h
    simp only [decide_eq_false_iff_not] at h h2
    rw [(tmod_pos (x := x) (show 0 < m by omega)).2 h2]
    unfold modI; rw [h']; rfl
theorem at_v (l : List Int) (i : Int) : atK_t l i := by
  unfold atK_t atI
  refine ⟨fun h => by rw [h]; rfl, fun h => ⟨fun h2 => ?_, fun h2 => ?_⟩⟩
  · simp only [ge_iff_le] at h2; rw [h, h2]; rfl
  · simp only [ge_iff_le] at h2
    rw [h, h2]
    simp only [decide_eq_false_iff_not] at h h2
    exact ⟨by omega, by omega, rfl⟩
theorem minL_snoc (l : List Int) (z : Int) (h : l ≠ []) : minL (l ++ [z]) = min (minL l) z := by
  cases l with
  | nil => exact absurd rfl h
  | cons x r => simp [minL, List.foldl_append]
theorem min_v (l : List Int) (h0 : 0 < l.length) (h1 : l.length ≤ 4294967296) : minK_t l := by
  unfold minK_t
  refine ⟨fun h => by simp only [decide_eq_true_eq] at h; omega, fun h => ⟨by omega, by omega, ⟨1, ⟨by omega, by omega⟩, rfl, ?_, rfl⟩, fun i hi => ⟨fun hlt => ?_, fun hge => ?_⟩⟩⟩
  · cases l with
    | nil => simp at h0
    | cons x r => simp [minL]
  · simp only [decide_eq_true_eq] at hlt
    have hlt' : i < l.length := by omega
    refine ⟨by omega, by omega, i + 1, ⟨by omega, by omega⟩, by show l.length - (i+1) < l.length - i; omega, by trivial, ?_, by rw [wr (by omega) (by omega)]; simp⟩
    rw [take_succ l 0 hlt', toNat_cast, minL_snoc]
    intro hn
    have := congrArg List.length hn
    simp only [List.length_take, List.length_nil] at this
    omega
  · simp only [decide_eq_false_iff_not] at hge
    rw [List.take_of_length_le (by omega)]
theorem eq_false_of_getD {a b : List Int} (h : a.length = b.length) {i : Nat} (hi : i < a.length) (hne : a.getD i 0 ≠ b.getD i 0) : eqI a b = false := by
  unfold eqI
  rw [beq_eq_false_iff_ne]
  rintro rfl
  exact hne rfl
theorem take_step {a b : List Int} {i : Nat} (ha : i < a.length) (hb : i < b.length) (h : a.take i = b.take i) (he : a.getD i 0 = b.getD i 0) : a.take (i + 1) = b.take (i + 1) := by
  rw [take_succ a 0 ha, take_succ b 0 hb, h, he]
theorem eq_true_of_take {a b : List Int} (h : a.length = b.length) {i : Nat} (hi : a.length ≤ i) (ht : a.take i = b.take i) : eqI a b = true := by
  rw [List.take_of_length_le hi, List.take_of_length_le (by omega)] at ht
  unfold eqI
  rw [ht]
  simp
theorem eq_len {a b : List Int} (h : ((a.length : Int) != (b.length : Int)) = true) : eqI a b = false := by
  unfold eqI
  rw [beq_eq_false_iff_ne]
  rintro rfl
  simp at h
theorem equal_v (a b : List Int) (h0 : a.length ≤ 4294967296) : equal_t a b := by
  unfold equal_t
  refine ⟨fun h => (eq_len h).symm, fun h => ?_⟩
  have hl : a.length = b.length := by have h' := h; simp at h'; omega
  refine ⟨⟨0, ⟨by omega, rfl⟩, rfl, rfl, rfl, rfl⟩, fun i hi => ⟨fun hlt => ?_, fun hge => ?_⟩⟩
  · simp only [decide_eq_true_eq] at hlt
    simp only [toNat_cast]
    refine ⟨by omega, by omega, by omega, by omega, fun hne => ?_, fun he => ?_⟩
    · exact (eq_false_of_getD hl (i := i) (by omega) (by simpa using hne)).symm
    · exact ⟨i + 1, ⟨by omega, take_step (by omega) (by omega) hi.2 (by simpa using he)⟩, by show a.length - (i+1) < a.length - i; omega, by trivial, by trivial, by rw [wr (by omega) (by omega)]; simp, by trivial⟩
  · simp only [decide_eq_false_iff_not] at hge
    exact (eq_true_of_take hl (by omega) hi.2).symm
theorem sameInts_v (a b : List Int) (h0 : a.length ≤ 4294967296) : sameInts_t a b := by
  unfold sameInts_t
  refine ⟨fun h => (eq_len h).symm, fun h => ?_⟩
  have hl : a.length = b.length := by have h' := h; simp at h'; omega
  refine ⟨⟨0, ⟨by omega, rfl⟩, rfl, rfl, rfl⟩, fun i hi => ⟨fun hlt => ?_, fun hge => ?_⟩⟩
  · simp only [decide_eq_true_eq] at hlt
    simp only [toNat_cast]
    refine ⟨by omega, by omega, by omega, by omega, fun hne => ?_, fun he => ?_⟩
    · exact (eq_false_of_getD hl (i := i) (by omega) (by simpa using hne)).symm
    · exact ⟨i + 1, ⟨by omega, take_step (by omega) (by omega) hi.2 (by simpa using he)⟩, by show a.length - (i+1) < a.length - i; omega, by trivial, by trivial, by rw [wr (by omega) (by omega)]; simp⟩
  · simp only [decide_eq_false_iff_not] at hge
    exact (eq_true_of_take hl (by omega) hi.2).symm
theorem pts_snoc (l : List Int) (p : Int) : pts (l ++ [p]) = pts l + pt p := by simp [pts, List.foldl_append]
theorem pt_nonneg (p : Int) : 0 ≤ pt p := by
  unfold pt
  by_cases h : p < 0
  · rw [decide_eq_true h]; simp
  · rw [decide_eq_false h]; simp only [cond_false]; omega
theorem snoc_ind {P : List Int → Prop} (h0 : P []) (h1 : ∀ l z, P l → P (l ++ [z])) (l : List Int) : P l := by
  have : P l.reverse.reverse := by
    induction l.reverse with
    | nil => exact h0
    | cons x r ih => rw [List.reverse_cons]; exact h1 _ _ ih
  rwa [List.reverse_reverse] at this
theorem pts_nonneg (l : List Int) : 0 ≤ pts l := by
  induction l using snoc_ind with
  | h0 => simp [pts]
  | h1 l z ih => rw [pts_snoc]; have := pt_nonneg z; omega
theorem pts_app (a b : List Int) : pts (a ++ b) = pts a + pts b := by
  induction b using snoc_ind with
  | h0 => simp [pts]
  | h1 b z ih => rw [← List.append_assoc, pts_snoc, ih, pts_snoc]; omega
theorem pts_take_le (l : List Int) (i : Nat) : pts (l.take i) ≤ pts l := by
  have h := pts_app (l.take i) (l.drop i)
  rw [List.take_append_drop] at h
  have := pts_nonneg (l.drop i)
  omega
theorem pts_le (l : List Int) (m : Int) (hm : 1 ≤ m) (h : ∀ x ∈ l, x ≤ m) : pts l ≤ m * l.length := by
  induction l using snoc_ind with
  | h0 => simp [pts]
  | h1 l z ih =>
    have hz : pt z ≤ m := by
      have := h z (by simp)
      unfold pt
      by_cases h : z < 0
      · rw [decide_eq_true h]; simpa using hm
      · rw [decide_eq_false h]; simpa using this
    have := ih (fun x hx => h x (by simp [hx]))
    rw [pts_snoc, List.length_append]
    simp only [List.length_cons, List.length_nil]
    have e : m * ((l.length + (0 + 1) : Nat) : Int) = m * l.length + m := by
      rw [Int.natCast_add, Int.mul_add]; simp
    omega
theorem pt_neg {p : Int} (h : decide (p < 0) = true) : pt p = 1 := by unfold pt; rw [h]; rfl
theorem pt_pos {p : Int} (h : decide (p < 0) = false) : pt p = p := by unfold pt; rw [h]; rfl
theorem rpoints_v (l : List Int) (h0 : l.length ≤ 65536) (h1 : l.all (fun x => decide (x ≤ 65536)) = true) : rpoints_t l := by
  unfold rpoints_t
  have hb : pts l ≤ 65536 * l.length := pts_le l 65536 (by omega) (fun x hx => by simpa using List.all_eq_true.1 h1 x hx)
  refine ⟨⟨0, by rw [nle]; omega, rfl, rfl, rfl⟩, fun i hi => ⟨fun hlt => ?_, fun hge => ?_⟩⟩
  · simp only [decide_eq_true_eq] at hlt
    rw [nle] at hi
    simp only [toNat_cast]
    have hlt' : i < l.length := by omega
    have hs : pts (l.take (i + 1)) = pts (l.take i) + pt (l.getD i 0) := by rw [take_succ l 0 hlt', pts_snoc]
    have b1 := pts_take_le l (i + 1)
    have b2 := pts_nonneg (l.take i)
    have b3 := pt_nonneg (l.getD i 0)
    refine ⟨by omega, by omega, fun hn => ?_, fun hn => ⟨by omega, by omega, ?_⟩⟩
    · have := pt_neg hn
      exact ⟨i + 1, by rw [nle]; omega, by show l.length - (i+1) < l.length - i; omega, by trivial, by rw [wr (by omega) (by omega)]; omega, by rw [wr (by omega) (by omega)]; simp⟩
    · have := pt_pos hn
      exact ⟨i + 1, by rw [nle]; omega, by show l.length - (i+1) < l.length - i; omega, by trivial, by rw [wr (by omega) (by omega)]; omega, by rw [wr (by omega) (by omega)]; simp⟩
  · simp only [decide_eq_false_iff_not] at hge
    rw [List.take_of_length_le (by omega)]
theorem add_v (n s : Int) (h0 : 0 ≤ n) (h1 : n ≤ 1048576) (h2 : 0 ≤ s) (h3 : s ≤ 1048576) : add_t n s := by
  unfold add_t
  rw [wr (by omega) (by omega)]
theorem bits_v (n : Int) (h : n ≤ 9223372036854775807) : bits_t n := by
  have := log2_lt63 h
  refine ⟨h, wr ?_ ?_⟩ <;> (unfold hiI; cases decide (n ≤ 0) <;> simp only [cond_true, cond_false] <;> omega)
theorem points_v (g : Int) (l : List Int) (h : l.length ≤ 4294967296) : points_t g l := by
  unfold points_t
  refine ⟨⟨0, by rw [nle]; omega, rfl, rfl, rfl, rfl⟩, fun i hi => ⟨fun hlt => ?_, fun hge => ?_⟩⟩
  · simp only [decide_eq_true_eq] at hlt
    rw [nle] at hi
    simp only [toNat_cast]
    have hlt' : i < l.length := by omega
    have hs : pts (l.take (i + 1)) = pts (l.take i) + pt (l.getD i 0) := by rw [take_succ l 0 hlt', pts_snoc]
    have b2 := pts_nonneg (l.take i)
    have b3 := pt_nonneg (l.getD i 0)
    refine ⟨by omega, by omega, fun hn => ?_, fun hn => ?_⟩
    · have := pt_neg hn
      exact ⟨by omega, by omega, by omega, by omega, i + 1, by rw [nle]; omega, by show l.length - (i+1) < l.length - i; omega, by trivial, by trivial, by rw [wr (by omega) (by omega)]; simp, by omega⟩
    · have := pt_pos hn
      exact ⟨by omega, by omega, by omega, by omega, i + 1, by rw [nle]; omega, by show l.length - (i+1) < l.length - i; omega, by trivial, by trivial, by rw [wr (by omega) (by omega)]; simp, by omega⟩
  · simp only [decide_eq_false_iff_not] at hge
    rw [List.take_of_length_le (by omega)]
theorem sameDist_v (a : Int) (x : List Int) (b : Int) (y : List Int) (h : x.length ≤ 4294967296) : sameDist_t a x b y :=
  ⟨fun e => ⟨h, by rw [e]; rfl⟩, fun e => by rw [e]; rfl⟩
theorem same_v (a : Int) (x : List Int) (b : Int) (y : List Int) (h : x.length ≤ 4294967296) : same_t a x b y :=
  ⟨fun e => ⟨h, by rw [e]; rfl⟩, fun e => by rw [e]; rfl⟩
theorem rsame_v (a : Int) (x : List Int) (b : Int) (y : List Int) (h : x.length ≤ 4294967296) : rsame_t a x b y := by
  unfold rsame_t
  refine ⟨fun e => ?_, fun e => ?_⟩
  · have : (a == b) = false := by simpa [bne] using e
    rw [this]; rfl
  · have : (a == b) = true := by simpa [bne] using e
    rw [this]
    simp only [Bool.true_and]
    refine ⟨fun h => (eq_len h).symm, fun h => ?_⟩
    have hl : x.length = y.length := by have h' := h; simp at h'; omega
    refine ⟨⟨0, ⟨by omega, by trivial⟩, by trivial, by trivial, by trivial, by trivial, by trivial⟩, fun i hi => ⟨fun hlt => ?_, fun hge => ?_⟩⟩
    · simp only [decide_eq_true_eq] at hlt
      simp only [toNat_cast]
      refine ⟨by omega, by omega, by omega, by omega, fun hne => ?_, fun he => ?_⟩
      · exact (eq_false_of_getD hl (i := i) (by omega) (by simpa using hne)).symm
      · exact ⟨i + 1, ⟨by omega, take_step (by omega) (by omega) hi.2 (by simpa using he)⟩, by show x.length - (i+1) < x.length - i; omega, by rw [wr (by omega) (by omega)]; simp, by trivial, by trivial, by trivial, by trivial⟩
    · simp only [decide_eq_false_iff_not] at hge
      exact (eq_true_of_take hl (by omega) hi.2).symm
theorem dsize_in {g : Int} (h1 : decide (g < 0) = false) (h2 : decide (12 < g) = false) : dsize g = 2 ^ g.toNat := by
  unfold dsize; rw [h1, h2]; rfl
theorem size_v (g : Int) (l : List Int) : size_t g l := by
  unfold size_t
  refine ⟨fun h => by unfold dsize; rw [h]; rfl, fun h => ⟨fun h2 => ?_, fun h2 => ?_⟩⟩
  · simp only [gt_iff_lt] at h2; unfold dsize; rw [h, h2]; rfl
  · simp only [gt_iff_lt] at h2
    rw [dsize_in h h2]
    simp only [decide_eq_false_iff_not] at h h2
    exact ⟨by omega, shl1 (by omega) (by omega)⟩
theorem rsize_v (g : Int) (l : List Int) : rsize_t g l := by
  unfold rsize_t
  refine ⟨fun h => by unfold dsize; rw [h]; rfl, fun h => ⟨fun h2 => ?_, fun h2 => ?_⟩⟩
  · simp only [gt_iff_lt] at h2; unfold dsize; rw [h, h2]; rfl
  · simp only [gt_iff_lt] at h2
    rw [dsize_in h h2]
    simp only [decide_eq_false_iff_not] at h h2
    rw [wru (by omega) (by omega)]
    exact ⟨by omega, shl1 (by omega) (by omega)⟩
theorem times_v (l : List Int) (n x : Int) (h0 : l.length ≤ 65536) (h1 : n ≤ 65536) : times_t l n x := by
  unfold times_t
  refine ⟨⟨0, by rw [nle]; omega, rfl, rfl, rfl, by simp⟩, fun i hi => ⟨fun hlt => ?_, fun hge => ?_⟩⟩
  · simp only [decide_eq_true_eq] at hlt
    rw [nle] at hi
    refine ⟨by simp; omega, i + 1, by rw [nle]; omega, by show n.toNat - (i+1) < n.toNat - i; omega, by trivial, by trivial, by rw [wr (by omega) (by omega)]; simp, ?_⟩
    rw [List.replicate_succ', List.append_assoc]
  · simp only [decide_eq_false_iff_not] at hge
    rw [nle] at hi
    rw [show i = n.toNat by omega]
theorem times0_v (n x : Int) (h1 : n ≤ 65536) : times0_t n x := by
  unfold times0_t
  refine ⟨⟨0, by rw [nle]; omega, rfl, rfl, rfl, by simp⟩, fun i hi => ⟨fun hlt => ?_, fun hge => ?_⟩⟩
  · simp only [decide_eq_true_eq] at hlt
    rw [nle] at hi
    refine ⟨by simp; omega, i + 1, by rw [nle]; omega, by show n.toNat - (i+1) < n.toNat - i; omega, by trivial, by trivial, by rw [wr (by omega) (by omega)]; simp, ?_⟩
    rw [List.replicate_succ', List.append_assoc]
  · simp only [decide_eq_false_iff_not] at hge
    rw [nle] at hi
    rw [show i = n.toNat by omega]
    simp
theorem shape_v (n : Int) (h0 : 0 ≤ n) (h1 : n ≤ 1073741824) : shape_t n := by
  unfold shape_t
  have hw : IntKind.wrap IntKind.i64 (n + 1) = n + 1 := wr (by omega) (by omega)
  simp only [hw]
  have hn : (n + 1).toNat ≠ 0 := by omega
  have hl := (Nat.log2_lt hn (k := 31)).2 (by omega)
  have hh : hiI (n + 1) = Nat.log2 (n + 1).toNat := by unfold hiI; rw [decide_eq_false (by omega)]; rfl
  have hb : shB n = (Nat.log2 (n + 1).toNat : Nat) + 1 := by unfold shB; rw [hh]
  refine ⟨by omega, by omega, rfl, ?_⟩
  rw [shl1 (by omega) (by omega)]
  unfold shT
  have e : (hiI (n + 1) + 1).toNat = (shB n).toNat := rfl
  rw [e]
  have hp := pow_mono (show (shB n).toNat ≤ 31 by omega)
  have hp2 := pow_pos' (shB n).toNat
  rw [wr (n := (2 : Int) ^ (shB n).toNat - 1) (by omega) (by omega), wr (by omega) (by omega)]

theorem pts_mem {l : List Int} {x : Int} (h : x ∈ l) : pt x ≤ pts l := by
  obtain ⟨a, b, rfl⟩ := List.append_of_mem h
  have h1 := pts_app a (x :: b)
  have h2 := pts_app [x] b
  have h3 := pts_nonneg a
  have h4 := pts_nonneg b
  have h5 : pts [x] = pt x := by simp [pts]
  have e : x :: b = [x] ++ b := rfl
  rw [e] at h1 ⊢
  omega
theorem dchk_out {g : Int} {l : List Int} (h : (decide (g < 5) || decide (12 < g)) = true) : dchk g l = 31 := by unfold dchk; rw [h]; rfl
theorem dchk_in {g : Int} {l : List Int} (h1 : decide (g < 5) = false) (h2 : decide (12 < g) = false) : dchk g l = cond (dbad g l) 23 0 := by unfold dchk; rw [h1, h2]; rfl
theorem dbad_iff (g : Int) (l : List Int) : dbad g l = true ↔ l.length < 1 ∨ 256 < l.length ∨ l.getD (l.length - 1) 0 = 0 ∨ (∃ x ∈ l, x < -1) ∨ pts l ≠ 2 ^ g.toNat := by
  unfold dbad
  simp only [Bool.or_eq_true, decide_eq_true_eq, beq_iff_eq, List.any_eq_true, Bool.not_eq_true', beq_eq_false_iff_ne, ne_eq]
  constructor
  · rintro ((((h | h) | h) | h) | h)
    · exact .inl h
    · exact .inr (.inl h)
    · exact .inr (.inr (.inl h))
    · exact .inr (.inr (.inr (.inl h)))
    · exact .inr (.inr (.inr (.inr h)))
  · rintro (h | h | h | h | h)
    · exact .inl (.inl (.inl (.inl h)))
    · exact .inl (.inl (.inl (.inr h)))
    · exact .inl (.inl (.inr h))
    · exact .inl (.inr h)
    · exact .inr h
theorem bad23 {g : Int} {l : List Int} (h1 : decide (g < 5) = false) (h2 : decide (12 < g) = false) (h : l.length < 1 ∨ 256 < l.length ∨ l.getD (l.length - 1) 0 = 0 ∨ (∃ x ∈ l, x < -1) ∨ pts l ≠ 2 ^ g.toNat) : (23 : Int) = dchk g l := by
  rw [dchk_in h1 h2, (dbad_iff g l).2 h]; rfl
theorem good0 {g : Int} {l : List Int} (h1 : decide (g < 5) = false) (h2 : decide (12 < g) = false) (h : ¬ (l.length < 1 ∨ 256 < l.length ∨ l.getD (l.length - 1) 0 = 0 ∨ (∃ x ∈ l, x < -1) ∨ pts l ≠ 2 ^ g.toNat)) : (0 : Int) = dchk g l := by
  have : dbad g l = false := by
    cases hb : dbad g l
    · rfl
    · exact absurd ((dbad_iff g l).1 hb) h
  rw [dchk_in h1 h2, this]; rfl
theorem minL_lt (l : List Int) (h : l ≠ []) (c : Int) : minL l < c ↔ ∃ x ∈ l, x < c := by
  induction l using snoc_ind with
  | h0 => exact absurd rfl h
  | h1 l z ih =>
    by_cases hl : l = []
    · subst hl; simp [minL]
    · rw [minL_snoc l z hl]
      have := ih hl
      constructor
      · intro h1
        by_cases hz : z < c
        · exact ⟨z, by simp, hz⟩
        · obtain ⟨x, hx, hxc⟩ := this.1 (by omega)
          exact ⟨x, by simp [hx], hxc⟩
      · rintro ⟨x, hx, hxc⟩
        simp only [List.mem_append, List.mem_singleton] at hx
        rcases hx with hx | rfl
        · have := this.2 ⟨x, hx, hxc⟩
          omega
        · omega
theorem pow12 {g : Int} (h2 : g ≤ 12) : (2 : Int) ^ g.toNat ≤ 4096 := by
  have := pow_mono (show g.toNat ≤ 12 by omega)
  omega
theorem rcheck_v (g : Int) (l : List Int) : rcheck_t g l := by
  unfold rcheck_t
  refine ⟨fun h => (dchk_out (by rw [h]; rfl)).symm, fun h5 => ⟨fun h => (dchk_out (by simp only [gt_iff_lt] at h; rw [h, Bool.or_true])).symm, fun h12 => ⟨fun h => bad23 h5 h12 (.inl (by simp only [decide_eq_true_eq] at h; omega)), fun h1 => ⟨fun h => bad23 h5 h12 (.inr (.inl (by simp at h; omega))), fun h2 => ?_⟩⟩⟩⟩
  simp only [decide_eq_false_iff_not, gt_iff_lt] at h1 h2
  have h5' := h5
  have h12' := h12
  simp only [decide_eq_false_iff_not, gt_iff_lt] at h5' h12'
  have hw : IntKind.wrap IntKind.i64 ((l.length : Int) - 1) = (l.length : Int) - 1 := wr (by omega) (by omega)
  have ht : ((l.length : Int) - 1).toNat = l.length - 1 := by omega
  have hg : IntKind.wrap IntKind.u64 g = g := wru (by omega) (by omega)
  simp only [hw, ht, hg, shl1 (show 0 ≤ g by omega) (show g ≤ 62 by omega), toNat_cast]
  have p12 := pow12 (show g ≤ 12 by omega)
  have p0 := pow_pos' g.toNat
  refine ⟨by omega, by omega, fun h => bad23 h5 h12 (.inr (.inr (.inl (by simpa using h)))), fun h3 => ⟨⟨0, ⟨by omega, fun x hx => by simp at hx⟩, by trivial, by trivial, by trivial⟩, fun i hi => ⟨fun hlt => ?_, fun hge => ?_⟩⟩⟩
  · simp only [decide_eq_true_eq] at hlt
    have hlt' : i < l.length := by omega
    refine ⟨by omega, by omega, fun hn => bad23 h5 h12 (.inr (.inr (.inr (.inl ⟨_, getD_mem' hlt', by simpa using hn⟩)))), fun hn => ⟨by omega, by omega, by omega, fun hb => bad23 h5 h12 (.inr (.inr (.inr (.inr ?_)))), fun hb => ?_⟩⟩
    · simp only [gt_iff_lt, decide_eq_true_eq] at hb
      have := pts_mem (getD_mem' hlt')
      have hp : pt (l.getD i 0) = l.getD i 0 := pt_pos (decide_eq_false (by omega))
      omega
    · simp only [gt_iff_lt, decide_eq_false_iff_not] at hn hb
      refine ⟨i + 1, ⟨by omega, fun x hx => ?_⟩, by show l.length - (i + 1) < l.length - i; omega, by rw [wr (by omega) (by omega)]; simp, by trivial, by trivial⟩
      rw [take_succ l 0 hlt', List.mem_append, List.mem_singleton] at hx
      rcases hx with hx | rfl
      · exact hi.2 x hx
      · omega
  · simp only [decide_eq_false_iff_not] at hge
    have hall := hi.2
    rw [List.take_of_length_le (by omega)] at hall
    refine ⟨by omega, List.all_eq_true.2 fun x hx => by have := hall x hx; simp only [decide_eq_true_eq]; omega, by omega, fun hb => bad23 h5 h12 (.inr (.inr (.inr (.inr (by simpa using hb))))), fun hb => good0 h5 h12 ?_⟩
    rintro (c | c | c | ⟨x, hx, hxc⟩ | c)
    · omega
    · omega
    · rw [c] at h3; simp at h3
    · have := hall x hx; omega
    · exact c (by simpa using hb)
theorem check_v (g : Int) (l : List Int) (h0 : l.length ≤ 4294967296) : check_t g l := by
  unfold check_t
  refine ⟨fun h => (dchk_out (by rw [h]; rfl)).symm, fun h5 => ⟨fun h => (dchk_out (by simp only [gt_iff_lt] at h; rw [h, Bool.or_true])).symm, fun h12 => ⟨fun h => bad23 h5 h12 (.inl (by simp only [decide_eq_true_eq] at h; omega)), fun h1 => ⟨fun h => bad23 h5 h12 (.inr (.inl (by simp at h; omega))), fun h2 => ?_⟩⟩⟩⟩
  simp only [decide_eq_false_iff_not, gt_iff_lt] at h1 h2
  have h5' := h5
  have h12' := h12
  simp only [decide_eq_false_iff_not, gt_iff_lt] at h5' h12'
  have hw : IntKind.wrap IntKind.i64 ((l.length : Int) - 1) = (l.length : Int) - 1 := wr (by omega) (by omega)
  have ht : ((l.length : Int) - 1).toNat = l.length - 1 := by omega
  simp only [hw, ht, shl1 (show 0 ≤ g by omega) (show g ≤ 62 by omega), toNat_cast]
  have p12 := pow12 (show g ≤ 12 by omega)
  have p0 := pow_pos' g.toNat
  have hne : l ≠ [] := by rintro rfl; simp at h1
  refine ⟨by omega, by omega, fun h => bad23 h5 h12 (.inr (.inr (.inl (by simpa using h)))), fun h3 => ⟨by omega, h0, fun hm => bad23 h5 h12 (.inr (.inr (.inr (.inl ((minL_lt l hne _).1 (by simpa using hm)))))), fun hm => ⟨h0, by omega, fun hb => bad23 h5 h12 (.inr (.inr (.inr (.inr ?_)))), fun hb => good0 h5 h12 ?_⟩⟩⟩
  · have : min (pts l) 1048576 ≠ 2 ^ g.toNat := by simpa using hb
    omega
  · have hb' : min (pts l) 1048576 = 2 ^ g.toNat := by simpa using hb
    rintro (c | c | c | c | c)
    · omega
    · omega
    · rw [c] at h3; simp at h3
    · have := (minL_lt l hne _).2 c
      simp only [decide_eq_false_iff_not] at hm
      omega
    · omega
theorem ownInts_v (l : List Int) (h : l.length ≤ 4294967296) : ownInts_t l := by
  refine ⟨by omega, rfl⟩
/-! ### tables -/
theorem high_sound : Sound Try.prog 95 sHigh.ctr := sHigh.sound (by kernel_rfl) sHigh_enc fun n hc => by
  have h0 := hc _ (.head _)
  exact satG G02_ok mixed Try.func95 (high_e n) (high_v n h0)
theorem rhigh_sound : Sound Try.prog 92 sHigh.ctr := sHigh.sound (by kernel_rfl) sHigh_enc fun n hc => by
  have h0 := hc _ (.head _)
  exact satG G02_ok mixed Try.func92 (rhigh_e n) (rhigh_v n h0)
theorem add_sound : Sound Try.prog 82 sAdd.ctr := sAdd.sound (by kernel_rfl) sAdd_enc fun ⟨n, s⟩ hc => by
  have h0 := hc _ (.head _)
  have h1 := hc _ (.tail _ (.head _))
  have h2 := hc _ (.tail _ (.tail _ (.head _)))
  have h3 := hc _ (.tail _ (.tail _ (.tail _ (.head _))))
  exact satG G02_ok mixed Try.func82 (add_e n s) (add_v n s h0 h1 h2 h3)
theorem minK_sound : Sound Try.prog 66 sMin.ctr := sMin.sound (by kernel_rfl) sMin_enc fun l hc => by
  have h0 := hc _ (.head _)
  have h1 := hc _ (.tail _ (.head _))
  exact satG G02_ok mixed Try.func66 (minK_e l) (min_v l h0 h1)
theorem equal_sound : Sound Try.prog 70 sEq.ctr := sEq.sound (by kernel_rfl) sEq_enc fun ⟨a, b⟩ hc => by
  have h0 := hc _ (.head _)
  exact satG G02_ok mixed Try.func70 (equal_e a b) (equal_v a b h0)
theorem sameInts_sound : Sound Try.prog 74 sEq.ctr := sEq.sound (by kernel_rfl) sEq_enc fun ⟨a, b⟩ hc => by
  have h0 := hc _ (.head _)
  exact satG G02_ok mixed Try.func74 (sameInts_e a b) (sameInts_v a b h0)
theorem ownInts_sound : Sound Try.prog 68 sOwn.ctr := sOwn.sound (by kernel_rfl) sOwn_enc fun l hc => by
  have h0 := hc _ (.head _)
  exact satG G02_ok mixed Try.func68 (ownInts_e l) (ownInts_v l h0)
theorem rpoints_sound : Sound Try.prog 69 sRpoints.ctr := sRpoints.sound (by kernel_rfl) sRpoints_enc fun l hc => by
  have h0 := hc _ (.head _)
  have h1 := hc _ (.tail _ (.head _))
  exact satG G02_ok mixed Try.func69 (rpoints_e l) (rpoints_v l h0 h1)
theorem modK_sound : Sound Try.prog 37 sMod.ctr := sMod.sound (by kernel_rfl) sMod_enc fun ⟨x, m⟩ hc => by
  have h0 := hc _ (.head _)
  have h1 := hc _ (.tail _ (.head _))
  exact satG G02_ok mixed Try.func37 (modK_e x m) (mod_v x m h0 h1)
theorem atK_sound : Sound Try.prog 79 sAt.ctr := sAt.sound (by kernel_rfl) sAt_enc fun ⟨l, i⟩ hc => by
  exact satG G02_ok mixed Try.func79 (atK_e l i) (at_v l i)
theorem G8a_ok : AllOk Try.prog G8a := .cons high_sound <| .cons rhigh_sound <| .cons add_sound <| .cons minK_sound <| .cons equal_sound <| .cons sameInts_sound <| .cons ownInts_sound <| .cons rpoints_sound <| .cons modK_sound <| .cons atK_sound G02_ok
theorem bits_sound : Sound Try.prog 91 sBits.ctr := sBits.sound (by kernel_rfl) sBits_enc fun n hc => by
  have h0 := hc _ (.head _)
  exact satG G8a_ok mixed Try.func91 (bits_e n) (bits_v n h0)
theorem rbits_sound : Sound Try.prog 85 sBits.ctr := sBits.sound (by kernel_rfl) sBits_enc fun n hc => by
  have h0 := hc _ (.head _)
  exact satG G8a_ok mixed Try.func85 (rbits_e n) (bits_v n h0)
theorem points_sound : Sound Try.prog 67 sPoints.ctr := sPoints.sound (by kernel_rfl) sPoints_enc fun ⟨g, l⟩ hc => by
  have h0 := hc _ (.head _)
  exact satG G8a_ok mixed Try.func67 (points_e g l) (points_v g l h0)
theorem ownDist_sound : Sound Try.prog 41 sOwnD.ctr := sOwnD.sound (by kernel_rfl) sOwnD_enc fun ⟨g, l⟩ hc => by
  have h0 := hc _ (.head _)
  exact satG G8a_ok mixed Try.func41 (ownDist_e g l) (⟨h0, rfl, rfl⟩)
theorem sameDist_sound : Sound Try.prog 52 sEqD.ctr := sEqD.sound (by kernel_rfl) sEqD_enc fun ⟨a, x, b, y⟩ hc => by
  have h0 := hc _ (.head _)
  exact satG G8a_ok mixed Try.func52 (sameDist_e a x b y) (sameDist_v a x b y h0)
theorem rcheck_sound : Sound Try.prog 42 sCheck.ctr := sCheck.sound (by kernel_rfl) sCheck_enc fun ⟨g, l⟩ hc => by
  have h0 := hc _ (.head _)
  exact satG G8a_ok mixed Try.func42 (rcheck_e g l) (rcheck_v g l)
theorem same_sound : Sound Try.prog 45 sEqD.ctr := sEqD.sound (by kernel_rfl) sEqD_enc fun ⟨a, x, b, y⟩ hc => by
  have h0 := hc _ (.head _)
  exact satG G8a_ok mixed Try.func45 (same_e a x b y) (same_v a x b y h0)
theorem rsame_sound : Sound Try.prog 46 sEqD.ctr := sEqD.sound (by kernel_rfl) sEqD_enc fun ⟨a, x, b, y⟩ hc => by
  have h0 := hc _ (.head _)
  exact satG G8a_ok mixed Try.func46 (rsame_e a x b y) (rsame_v a x b y h0)
theorem size_sound : Sound Try.prog 43 sSize.ctr := sSize.sound (by kernel_rfl) sSize_enc fun ⟨g, l⟩ hc => by
  exact satG G8a_ok mixed Try.func43 (size_e g l) (size_v g l)
theorem rsize_sound : Sound Try.prog 44 sSize.ctr := sSize.sound (by kernel_rfl) sSize_enc fun ⟨g, l⟩ hc => by
  exact satG G8a_ok mixed Try.func44 (rsize_e g l) (rsize_v g l)
theorem G8b_ok : AllOk Try.prog G8b := .cons bits_sound <| .cons rbits_sound <| .cons points_sound <| .cons ownDist_sound <| .cons sameDist_sound <| .cons rcheck_sound <| .cons same_sound <| .cons rsame_sound <| .cons size_sound <| .cons rsize_sound G8a_ok
theorem check_sound : Sound Try.prog 39 sCheck.ctr := sCheck.sound (by kernel_rfl) sCheck_enc fun ⟨g, l⟩ hc => by
  have h0 := hc _ (.head _)
  exact satG G8b_ok mixed Try.func39 (check_e g l) (check_v g l h0)
theorem shape_sound : Sound Try.prog 84 sShape.ctr := sShape.sound (by kernel_rfl) sShape_enc fun n hc => by
  have h0 := hc _ (.head _)
  have h1 := hc _ (.tail _ (.head _))
  exact satG G8b_ok mixed Try.func84 (shape_e n) (shape_v n h0 h1)
theorem G8c_ok : AllOk Try.prog G8c := .cons check_sound <| .cons shape_sound G8b_ok
end Go.Proofs.Ytafabheehkmfhaa
/-
  Chapter 8: what is written. Conditions: each theorem's own.
-/
namespace Go.Proofs.Ytafabheehkmfhaa
open Go Go.RowKit
set_option linter.unusedVariables false
set_option linter.unusedSimpArgs false
set_option maxRecDepth 100000
structure Valid (g : Int) (l : List Int) : Prop where
  g5 : 5 ≤ g
  g12 : g ≤ 12
  len1 : 1 ≤ l.length
  len2 : l.length ≤ 256
  last : l.getD (l.length - 1) 0 ≠ 0
  low : ∀ x ∈ l, -1 ≤ x
  sum : pts l = 2 ^ g.toNat
theorem Valid.of {g : Int} {l : List Int} (h : dchk g l = 0) : Valid g l := by
  cases h5 : decide (g < 5)
  · cases h12 : decide (12 < g)
    · cases hb : dbad g l
      · have := fun c => Bool.false_ne_true (hb ▸ (dbad_iff g l).2 c)
        simp only [decide_eq_false_iff_not] at h5 h12
        exact ⟨by omega, by omega, by have h1 : ¬ l.length < 1 := fun c => this (.inl c); omega, by have h1 : ¬ 256 < l.length := fun c => this (.inr (.inl c)); omega, fun c => this (.inr (.inr (.inl c))), fun x hx => by
          have h1 : ¬ x < -1 := fun c => this (.inr (.inr (.inr (.inl ⟨x, hx, c⟩))))
          omega, by
          have := fun c => this (.inr (.inr (.inr (.inr c))))
          exact Classical.byContradiction this⟩
      · rw [dchk_in h5 h12, hb] at h; cases h
    · rw [dchk_out (by rw [h12, Bool.or_true])] at h; cases h
  · rw [dchk_out (by rw [h5, Bool.true_or])] at h; cases h
theorem drop_cons {l : List Int} {i : Nat} (h : i < l.length) : l.drop i = l.getD i 0 :: l.drop (i + 1) := by
  rw [List.drop_eq_getElem_cons h, List.getD_eq_getElem?_getD, List.getElem?_eq_getElem h]
  rfl
theorem pts_cons (p : Int) (r : List Int) : pts (p :: r) = pt p + pts r := by
  have := pts_app [p] r
  have h5 : pts [p] = pt p := by simp [pts]
  rw [h5] at this
  exact this
theorem pts_drop_le (l : List Int) (i : Nat) : pts (l.drop i) ≤ pts l := by
  have h := pts_app (l.take i) (l.drop i)
  rw [List.take_append_drop] at h
  have := pts_nonneg (l.take i)
  omega
theorem pt_ge (p : Int) (h : -1 ≤ p) : p ≤ pt p ∧ (p ≠ 0 → pt p = max p 1) ∧ (p = 0 → pt p = 0) := by
  unfold pt
  by_cases h0 : p < 0
  · rw [decide_eq_true h0]; simp only [cond_true]; omega
  · rw [decide_eq_false h0]; simp only [cond_false]; omega
/-- bounds of a value's form -/
structure ShB (left : Int) : Prop where
  b1 : 1 ≤ shB left
  b2 : shB left ≤ 13
  lo : 2 ^ (shB left - 1).toNat ≤ left + 1
  hi : left + 1 < 2 ^ (shB left).toNat
  dbl : (2 : Int) ^ (shB left).toNat = 2 * 2 ^ (shB left - 1).toNat
theorem shB_ok {left : Int} (h0 : 0 ≤ left) (h1 : left ≤ 4096) : ShB left := by
  have hn : (left + 1).toNat ≠ 0 := by omega
  have hl := (Nat.log2_lt hn (k := 13)).2 (by omega)
  have hh : shB left = (Nat.log2 (left + 1).toNat : Nat) + 1 := by unfold shB hiI; rw [decide_eq_false (by omega)]; rfl
  have e1 : (shB left - 1).toNat = Nat.log2 (left + 1).toNat := by omega
  have e2 : (shB left).toNat = Nat.log2 (left + 1).toNat + 1 := by omega
  have p1 := (Nat.le_log2 hn (k := Nat.log2 (left + 1).toNat)).1 (Nat.le_refl _)
  have p2 := (Nat.log2_lt hn (k := Nat.log2 (left + 1).toNat + 1)).1 (by omega)
  refine ⟨by omega, by omega, ?_, ?_, ?_⟩
  · rw [e1, pow_cast]; omega
  · rw [e2, pow_cast]; omega
  · rw [e1, e2, Int.pow_succ]; omega
theorem shT_eq (left : Int) : shT left = 2 ^ (shB left).toNat - 1 - (left + 1) := rfl
theorem de_step {l : List Int} {i : Nat} (h : i < l.length) : de none (l.drop i) (pts (l.drop i)) = valP (pts (l.drop i)) (l.getD i 0) :: deP l i := by
  have e := drop_cons h
  unfold deP
  generalize hL : pts (l.drop i) = left
  rw [e]
  rfl
theorem putAll_cons (w : W3) (kv : Int × Int) (r : List (Int × Int)) : putAll w (kv :: r) = putAll (putT w kv.1 kv.2).1 r := rfl
theorem zerosP_ge {z : Nat} (h : 3 ≤ z) : zerosP z = (2, 3) :: zerosP (z - 3) := by
  unfold zerosP
  have e1 : z / 3 = (z - 3) / 3 + 1 := by omega
  have e2 : z % 3 = (z - 3) % 3 := by omega
  rw [e1, e2, List.replicate_succ, List.cons_append]
theorem zerosP_lt {z : Nat} (h : z < 3) : zerosP z = [(2, (z : Int))] := by
  unfold zerosP
  have e1 : z / 3 = 0 := by omega
  have e2 : z % 3 = z := by omega
  rw [e1, e2]
  rfl
/-- the run of zeros ends here -/
theorem de_end {l : List Int} {j z : Nat} {left : Int} (h : l.length ≤ j ∨ l.getD j 0 ≠ 0) : de (some z) (l.drop j) left = zerosP z ++ de none (l.drop j) left := by
  by_cases hj : j < l.length
  · have hne : l.getD j 0 ≠ 0 := by
      rcases h with h | h
      · omega
      · exact h
    rw [drop_cons hj]
    have hb : (l.getD j 0 == 0) = false := by simpa using hne
    simp only [de, hb, cond_false]
  · rw [List.drop_eq_nil_of_le (by omega)]
    simp only [de, List.append_nil]
theorem de_zero {l : List Int} {j z : Nat} {left : Int} (hj : j < l.length) (h : l.getD j 0 = 0) : de (some z) (l.drop j) left = de (some (z + 1)) (l.drop (j + 1)) left := by
  rw [drop_cons hj]
  have hb : (l.getD j 0 == 0) = true := by simpa using h
  simp only [de, hb, cond_true]
theorem pts_zero {l : List Int} {j : Nat} (hj : j < l.length) (h : l.getD j 0 = 0) : pts (l.drop j) = pts (l.drop (j + 1)) := by
  rw [drop_cons hj, pts_cons, h]
  have : pt 0 = 0 := rfl
  omega
theorem deP_zero {l : List Int} {i : Nat} (hi : i < l.length) (h : l.getD i 0 = 0) : deP l i = de (some 0) (l.drop (i + 1)) (pts (l.drop (i + 1))) := by
  unfold deP
  rw [h]
  simp only [beq_self_eq_true, cond_true]
  rw [pts_zero hi h]
theorem deP_not {l : List Int} {i : Nat} (hi : i < l.length) (h : l.getD i 0 ≠ 0) : deP l i = de none (l.drop (i + 1)) (pts (l.drop (i + 1))) := by
  unfold deP
  have hb : (l.getD i 0 == 0) = false := by simpa using h
  rw [hb]
  simp only [cond_false]
  have := pts_cons (l.getD i 0) (l.drop (i + 1))
  rw [← drop_cons hi] at this
  congr 1
  omega
structure At (l : List Int) (i : Nat) : Prop where
  lt : i < l.length
  p1 : -1 ≤ l.getD i 0
  p2 : l.getD i 0 ≤ pts (l.drop i)
  l0 : 0 ≤ pts (l.drop i)
  l1 : pts (l.drop i) ≤ 4096
  sh : ShB (pts (l.drop i))
  t0 : 0 ≤ shT (pts (l.drop i))
  t1 : shT (pts (l.drop i)) ≤ 8192
  sum : pts (l.drop i) = pt (l.getD i 0) + pts (l.drop (i + 1))
theorem Valid.at_ {g : Int} {l : List Int} (h : Valid g l) {i : Nat} (hi : i < l.length) : At l i := by
  have h4096 : pts l ≤ 4096 := by rw [h.sum]; exact pow12 h.g12
  have hle := pts_drop_le l i
  have h0 := pts_nonneg (l.drop i)
  have hs := shB_ok h0 (by omega)
  have hp := h.low _ (getD_mem' hi)
  have hsum : pts (l.drop i) = pt (l.getD i 0) + pts (l.drop (i + 1)) := by
    have := pts_cons (l.getD i 0) (l.drop (i + 1))
    rwa [← drop_cons hi] at this
  have h2 := pts_nonneg (l.drop (i + 1))
  have h3 := (pt_ge _ hp).1
  have e := shT_eq (pts (l.drop i))
  have m := pow_mono (show (shB (pts (l.drop i))).toNat ≤ 13 by have := hs.b2; omega)
  have := hs.hi
  exact ⟨hi, hp, by omega, h0, by omega, hs, by omega, by omega, hsum⟩
theorem written_v (g : Int) (l : List Int) (h : dchk g l = 0) : written_t g l := by
  have V := Valid.of h
  have hw5 : IntKind.wrap IntKind.i64 (g - 5) = g - 5 := wr (by have := V.g5; omega) (by have := V.g12; omega)
  have hg0 : 0 ≤ g := by have := V.g5; omega
  have hg1 : g ≤ 62 := by have := V.g12; omega
  have hlen := V.len2
  unfold written_t
  simp only [hw5, shl1 hg0 hg1, toNat_cast, eq_self, true_and, and_true, gt_iff_lt, ge_iff_le, decide_eq_true_eq, decide_eq_false_iff_not]
  refine ⟨hg0, ⟨(0, (putT zW 4 (g - 5)).1), ⟨by omega, ?_⟩, ?_⟩, ?_⟩
  · show putAll _ (de none l (pts l)) = _
    rw [V.sum]
    rfl
  · refine ⟨V.sum.symm, rfl, rfl, rfl, rfl⟩
  rintro ⟨i, w⟩ ⟨hi, hW⟩
  simp only at hi hW
  refine ⟨fun hlt => ?_, fun hge => ?_⟩
  · have hlt' : i < l.length := by simp only at hlt; omega
    have A := V.at_ hlt'
    rw [de_step hlt', putAll_cons] at hW
    have hA1 := A.p1
    have hA2 := A.p2
    have hA3 := A.l0
    have hA4 := A.l1
    have hA5 := A.sh.b1
    have hA6 := A.sh.b2
    have hA7 := A.t0
    have hA8 := A.t1
    have w1 : IntKind.wrap IntKind.i64 (l.getD i 0 + 1) = l.getD i 0 + 1 := wr (by omega) (by omega)
    have w2 : IntKind.wrap IntKind.i64 (shB (pts (l.drop i)) - 1) = shB (pts (l.drop i)) - 1 := wr (by omega) (by omega)
    have w3 : IntKind.wrap IntKind.i64 (l.getD i 0 + 1 + shT (pts (l.drop i))) = l.getD i 0 + 1 + shT (pts (l.drop i)) := wr (by omega) (by omega)
    simp only [w1, w2, w3, shl1 (show 0 ≤ shB (pts (l.drop i)) - 1 by omega) (show shB (pts (l.drop i)) - 1 ≤ 62 by omega)]
    refine ⟨by omega, by omega, by omega, by omega, i, ⟨fun c1 => ?_, fun c1 => ⟨by omega, fun c2 => ?_, fun c2 => ?_⟩⟩, ?_⟩
    · have e : valP (pts (l.drop i)) (l.getD i 0) = (shB (pts (l.drop i)) - 1, l.getD i 0 + 1) := by unfold valP; rw [decide_eq_true c1]; rfl
      rw [e] at hW
      exact ⟨_, ⟨hlt', hW⟩, rfl, rfl, rfl, rfl, rfl, rfl⟩
    · have e : valP (pts (l.drop i)) (l.getD i 0) = (shB (pts (l.drop i)), l.getD i 0 + 1) := by unfold valP; rw [decide_eq_false c1, decide_eq_true c2]; rfl
      rw [e] at hW
      exact ⟨_, ⟨hlt', hW⟩, rfl, rfl, rfl, rfl, rfl, rfl⟩
    · have e : valP (pts (l.drop i)) (l.getD i 0) = (shB (pts (l.drop i)), l.getD i 0 + 1 + shT (pts (l.drop i))) := by unfold valP; rw [decide_eq_false c1, decide_eq_false c2]; rfl
      rw [e] at hW
      exact ⟨_, ⟨hlt', hW⟩, rfl, rfl, rfl, rfl, rfl, rfl⟩
    · rintro w2 ⟨_, hW2⟩
      refine ⟨fun hne => ?_, fun he => ?_⟩
      · have hne' : l.getD i 0 ≠ 0 := by simpa using hne
        rw [deP_not hlt' hne'] at hW2
        have hm := (pt_ge _ A.p1).2.1 hne'
        have hs := A.sum
        refine ⟨(i + 1, w2), ⟨by omega, hW2⟩, by show l.length - (i + 1) < l.length - i; omega, ?_⟩
        simp only
        ((repeat' (refine And.intro ?_ ?_)) <;> first | rfl | exact True.intro | omega | (rw [wr (by omega) (by omega)]; done) | (rw [wr (by omega) (by omega)]; first | rfl | omega | (simp; done)))
      · have he' : l.getD i 0 = 0 := by simpa using he
        rw [deP_zero hlt' he'] at hW2
        have hz := pts_zero hlt' he'
        refine ⟨i, ⟨i, ⟨(i, 0, w2), ⟨by (try dsimp only); omega, hlt', by (try dsimp only); omega, hW2⟩, rfl, hz, rfl, rfl, rfl, rfl⟩, ?_⟩, ?_⟩
        · rintro ⟨j, z, w3⟩ ⟨j1, j2, j4, hW3⟩
          simp only at j1 j2 j4 hW3
          have wj : IntKind.wrap IntKind.i64 ((j : Int) + 1) = ((j + 1 : Nat) : Int) := by rw [wr (by omega) (by omega)]; simp
          simp only [wj, toNat_cast]
          refine ⟨fun hlt2 => ⟨by omega, by omega, fun h0 => ?_, fun h0 => ?_⟩, fun hge2 => ?_⟩
          · have h0' : l.getD (j + 1) 0 = 0 := by simpa using h0
            have j3 : j + 1 < l.length := by omega
            rw [de_zero j3 h0', pts_zero j3 h0'] at hW3
            have hz3 := pts_zero j3 h0'
            refine ⟨(j + 1, z + 1, w3), ⟨by (try dsimp only); omega, j3, by (try dsimp only); omega, hW3⟩, by show l.length - (j + 1) < l.length - j; omega, by (try dsimp only); first | (rw [wr (by omega) (by omega)]; done) | (rw [wr (by omega) (by omega)]; omega) | (rw [wr (by omega) (by omega)]; simp; done) | (rw [wr (by omega) (by omega)]; simp; omega), hz3, by trivial, rfl, rfl, rfl⟩
          · have h0' : l.getD (j + 1) 0 ≠ 0 := by simpa using h0
            rw [de_end (.inr h0')] at hW3
            exact ⟨(j, z, w3), ⟨by omega, j2, j4, hW3⟩, rfl, rfl, rfl, rfl, rfl, rfl⟩
          · rw [de_end (.inl (by omega))] at hW3
            exact ⟨(j, z, w3), ⟨by omega, j2, j4, hW3⟩, rfl, rfl, rfl, rfl, rfl, rfl⟩
        · rintro ⟨j, z, w3⟩ ⟨j1, j2, j4, hW3⟩
          simp only at j1 j2 j4 hW3
          refine ⟨i, ⟨(j, z, w3), ⟨j1, j2, j4, hW3⟩, rfl, rfl, rfl, rfl, rfl, rfl⟩, ?_⟩
          rintro ⟨j, z, w3⟩ ⟨j1, j2, j4, hW3⟩
          simp only at j1 j2 j4 hW3
          refine ⟨fun h3 => ?_, fun h3 => ?_⟩
          · simp only at h3
            rw [zerosP_ge (by omega), List.cons_append, putAll_cons] at hW3
            exact ⟨(j, z - 3, _), ⟨j1, j2, by (try dsimp only); omega, hW3⟩, by show z - 3 < z; omega, by (try dsimp only); first | (rw [wr (by omega) (by omega)]; done) | (rw [wr (by omega) (by omega)]; omega) | (rw [wr (by omega) (by omega)]; simp; done) | (rw [wr (by omega) (by omega)]; simp; omega), rfl, rfl, rfl, rfl, rfl⟩
          · simp only at h3
            rw [zerosP_lt (by omega), List.singleton_append, putAll_cons] at hW3
            exact ⟨(j + 1, _), ⟨by omega, hW3⟩, by show l.length - (j + 1) < l.length - i; omega, rfl, by rw [wr (by omega) (by omega)]; simp, rfl, rfl, rfl⟩
  · have e : l.drop i = [] := List.drop_eq_nil_of_le (by simp only at hge; omega)
    rw [e] at hW
    have hW' : w = wrT g l := hW
    rw [hW']
    exact ⟨rfl, rfl, rfl⟩
end Go.Proofs.Ytafabheehkmfhaa
/-
  Chapter 8: what the reference writes; how many bits there are. Conditions: each theorem's own.
-/
namespace Go.Proofs.Ytafabheehkmfhaa
open Go Go.RowKit
set_option linter.unusedVariables false
set_option linter.unusedSimpArgs false
set_option maxRecDepth 100000
theorem bsum_app (a b : List (Int × Int)) : bsum (a ++ b) = bsum a + bsum b := by
  induction a with
  | nil => simp [bsum]
  | cons x r ih => simp only [List.cons_append, bsum, ih]; omega
theorem bsum_zeros (z : Nat) : bsum (zerosP z) = 2 * ((z / 3 : Nat) + 1) := by
  unfold zerosP
  rw [bsum_app]
  have : ∀ n : Nat, bsum (List.replicate n ((2 : Int), (3 : Int))) = 2 * n := by
    intro n
    induction n with
    | zero => rfl
    | succ n ih => rw [List.replicate_succ, bsum, ih]; simp only; omega
  rw [this]
  simp only [bsum]
  omega
theorem valP_b {left p : Int} (h : ShB left) : 0 ≤ (valP left p).1 ∧ (valP left p).1 ≤ 13 := by
  have h1 := h.b1
  have h2 := h.b2
  unfold valP
  cases decide (p + 1 < shT left)
  · cases decide (p + 1 < 2 ^ (shB left - 1).toNat)
    · simp only [cond_false]; omega
    · simp only [cond_false, cond_true]; omega
  · simp only [cond_true]; omega
theorem bsum_de (l : List Int) : ∀ o : Option Nat, (∀ x ∈ l, -1 ≤ x) → pts l ≤ 4096 → 0 ≤ bsum (de o l (pts l)) ∧ bsum (de o l (pts l)) ≤ (match o with | none => 0 | some z => (z : Int) + 2) + 16 * l.length := by
  induction l with
  | nil =>
    intro o _ _
    cases o with
    | none => simp [de, bsum]
    | some z =>
      simp only [de, bsum_zeros, List.length_nil]
      omega
  | cons p r ih =>
    intro o hl hp
    have hs : ShB (pts (p :: r)) := shB_ok (pts_nonneg _) hp
    have hv := valP_b (p := p) hs
    have hc := pts_cons p r
    have hpn := pt_nonneg p
    have hr := pts_nonneg r
    have hl' : ∀ x ∈ r, -1 ≤ x := fun x hx => hl x (by simp [hx])
    cases hz : (p == 0)
    · have e : pts (p :: r) - pt p = pts r := by omega
      have h1 := ih none hl' (by omega)
      simp only at h1
      cases o with
      | none =>
        simp only [de, hz, cond_false, bsum, e, List.length_cons]
        omega
      | some z =>
        simp only [de, hz, cond_false, bsum_app, bsum, bsum_zeros, e, List.length_cons]
        omega
    · have hp0 : p = 0 := by simpa using hz
      have e : pts (p :: r) = pts r := by rw [hc, hp0]; simp [pt]
      cases o with
      | none =>
        have h1 := ih (some 0) hl' (by omega)
        simp only at h1
        simp only [de, hz, cond_true, bsum, List.length_cons]
        rw [e] at hv ⊢
        omega
      | some z =>
        have h1 := ih (some (z + 1)) hl' (by omega)
        simp only at h1
        simp only [de, hz, cond_true, List.length_cons]
        rw [e]
        omega
theorem Valid.drop {g : Int} {l : List Int} (V : Valid g l) (o : Option Nat) (j : Nat) : 0 ≤ bsum (de o (l.drop j) (pts (l.drop j))) := by
  refine (bsum_de (l.drop j) o (fun x hx => V.low x (List.mem_of_mem_drop hx)) ?_).1
  have h4096 : pts l ≤ 4096 := by rw [V.sum]; exact pow12 V.g12
  have := pts_drop_le l j
  omega
theorem Valid.wrN {g : Int} {l : List Int} (V : Valid g l) : wrN g l ≤ 5000 ∧ 4 ≤ wrN g l := by
  have h4096 : pts l ≤ 4096 := by rw [V.sum]; exact pow12 V.g12
  have := bsum_de l none V.low h4096
  have hl := V.len2
  unfold Proofs.Ytafabheehkmfhaa.wrN
  rw [← V.sum]
  simp only at this
  omega
theorem take1 {l : List Int} {i : Nat} (h : i < l.length) : (l.drop i).take 1 = [l.getD i 0] := by rw [drop_cons h]; rfl
theorem pts_one (p : Int) : pts [p] = pt p := by simp [pts]
theorem rwritten_v (g : Int) (l : List Int) (h : dchk g l = 0) : rwritten_t g l := by
  have V := Valid.of h
  have hw5 : IntKind.wrap IntKind.i64 (g - 5) = g - 5 := wr (by have := V.g5; omega) (by have := V.g12; omega)
  have hg0 : 0 ≤ g := by have := V.g5; omega
  have hg1 : g ≤ 62 := by have := V.g12; omega
  have hgu : IntKind.wrap IntKind.u64 g = g := wru hg0 (by omega)
  have hlen := V.len2
  have hN := V.wrN
  unfold rwritten_t
  simp only [hw5, hgu, shl1 hg0 hg1, toNat_cast, eq_self, true_and, and_true, gt_iff_lt, ge_iff_le, decide_eq_true_eq, decide_eq_false_iff_not]
  refine ⟨hg0, ⟨(0, (putT zW 4 (g - 5)).1, 4), ⟨by (try dsimp only); omega, by (try dsimp only); omega, ?_, ?_⟩, ?_⟩, ?_⟩
  · show putAll _ (de none l (pts l)) = _
    rw [V.sum]
    rfl
  · show 4 + bsum (de none l (pts l)) = _
    rw [V.sum]
    rfl
  · refine ⟨rfl, V.sum.symm, rfl, rfl, rfl, rfl⟩
  rintro ⟨i, w, n⟩ ⟨hi, hn, hW, hS⟩
  simp only at hi hn hW hS
  refine ⟨fun hlt => ?_, fun hge => ?_⟩
  · have hlt' : i < l.length := by simp only at hlt; omega
    have A := V.at_ hlt'
    have hW0 := hW
    have hS0 := hS
    have hA1 := A.p1
    have hA2 := A.p2
    have hA3 := A.l0
    have hA4 := A.l1
    have hA5 := A.sh.b1
    have hA6 := A.sh.b2
    have hA7 := A.t0
    have hA8 := A.t1
    have m13 := pow_mono (show (shB (pts (l.drop i))).toNat ≤ 13 by omega)
    have m0 := pow_pos' (shB (pts (l.drop i))).toNat
    have w0 : IntKind.wrap IntKind.i64 (pts (l.drop i) + 1) = pts (l.drop i) + 1 := wr (by omega) (by omega)
    have w1 : IntKind.wrap IntKind.i64 (l.getD i 0 + 1) = l.getD i 0 + 1 := wr (by omega) (by omega)
    have w2 : IntKind.wrap IntKind.i64 (shB (pts (l.drop i)) - 1) = shB (pts (l.drop i)) - 1 := wr (by omega) (by omega)
    have w3 : IntKind.wrap IntKind.i64 (l.getD i 0 + 1 + shT (pts (l.drop i))) = l.getD i 0 + 1 + shT (pts (l.drop i)) := wr (by omega) (by omega)
    have w4 : hiI (pts (l.drop i) + 1) + 1 = shB (pts (l.drop i)) := rfl
    have w5 : IntKind.wrap IntKind.u64 (shB (pts (l.drop i))) = shB (pts (l.drop i)) := wru (by omega) (by omega)
    have w6 : IntKind.wrap IntKind.u64 (shB (pts (l.drop i)) - 1) = shB (pts (l.drop i)) - 1 := wru (by omega) (by omega)
    have w7 : IntKind.wrap IntKind.i64 (2 ^ (shB (pts (l.drop i))).toNat - 1) = 2 ^ (shB (pts (l.drop i))).toNat - 1 := wr (by omega) (by omega)
    have w8 : IntKind.wrap IntKind.i64 (2 ^ (shB (pts (l.drop i))).toNat - 1 - (pts (l.drop i) + 1)) = shT (pts (l.drop i)) := wr (n := shT (pts (l.drop i))) (by omega) (by omega)
    simp only [w0, w1, w4, w2, w5, w6, shl1 (show 0 ≤ shB (pts (l.drop i)) by omega) (show shB (pts (l.drop i)) ≤ 62 by omega), w7, w8, w3, shl1 (show 0 ≤ shB (pts (l.drop i)) - 1 by omega) (show shB (pts (l.drop i)) - 1 ≤ 62 by omega)]
    refine ⟨by omega, by omega, by omega, by omega, (i, w, n), ⟨fun c1 => ?_, fun c1 => ⟨by omega, fun c2 => ?_, fun c2 => ?_⟩⟩, ?_⟩
    · have e : valP (pts (l.drop i)) (l.getD i 0) = (shB (pts (l.drop i)) - 1, l.getD i 0 + 1) := by unfold valP; rw [decide_eq_true c1]; rfl
      exact ⟨(_, _), ⟨hlt', hn, hW0, hS0, e.symm⟩, rfl, rfl, rfl, rfl, rfl, rfl, rfl, rfl⟩
    · have e : valP (pts (l.drop i)) (l.getD i 0) = (shB (pts (l.drop i)), l.getD i 0 + 1 + shT (pts (l.drop i))) := by unfold valP; rw [decide_eq_false c1, decide_eq_false (by omega)]; rfl
      exact ⟨(_, _), ⟨hlt', hn, hW0, hS0, e.symm⟩, rfl, rfl, rfl, rfl, rfl, rfl, rfl, rfl⟩
    · have e : valP (pts (l.drop i)) (l.getD i 0) = (shB (pts (l.drop i)), l.getD i 0 + 1) := by unfold valP; rw [decide_eq_false c1, decide_eq_true (by omega)]; rfl
      exact ⟨(_, _), ⟨hlt', hn, hW0, hS0, e.symm⟩, rfl, rfl, rfl, rfl, rfl, rfl, rfl, rfl⟩
    · rintro ⟨b, v⟩ ⟨_, _, _, _, hv⟩
      simp only at hv
      have hvb := valP_b (p := l.getD i 0) A.sh
      rw [← hv] at hvb
      simp only at hvb
      rw [de_step hlt', putAll_cons, ← hv] at hW
      rw [de_step hlt', bsum, ← hv] at hS
      simp only at hW hS
      have wi : IntKind.wrap IntKind.i64 ((i : Int) + 1) = ((i + 1 : Nat) : Int) := by rw [wr (by omega) (by omega)]; simp
      have t1 : (l.drop i).take (i + 1 - i) = [l.getD i 0] := by rw [show i + 1 - i = 1 by omega]; exact take1 hlt'
      have hsum := A.sum
      have hnn := pts_nonneg (l.drop (i + 1))
      have hpn := pt_nonneg (l.getD i 0)
      simp only [wi, toNat_cast, t1, pts_one]
      refine ⟨by omega, by omega, by omega, by simp, by simp only [List.all_cons, List.all_nil, Bool.and_true, decide_eq_true_eq]; omega, by omega, by omega, fun hne => ?_, fun he => ?_⟩
      · have hne' : l.getD i 0 ≠ 0 := by simpa using hne
        rw [deP_not hlt' hne'] at hW hS
        have hb := V.drop none (i + 1)
        exact ⟨(i + 1, (putT w b v).1, n + b), ⟨by (try dsimp only); omega, by (try dsimp only); omega, hW, by show n + b + bsum (de none (l.drop (i + 1)) (pts (l.drop (i + 1)))) = _; omega⟩, by show l.length - (i + 1) < l.length - i; omega, by (try dsimp only); first | (rw [wr (by omega) (by omega)]; done) | (rw [wr (by omega) (by omega)]; omega) | (rw [wr (by omega) (by omega)]; simp; done) | (rw [wr (by omega) (by omega)]; simp; omega), by (try dsimp only); first | (rw [wr (by omega) (by omega)]; done) | (rw [wr (by omega) (by omega)]; omega) | (rw [wr (by omega) (by omega)]; simp; done) | (rw [wr (by omega) (by omega)]; simp; omega), by trivial, rfl, rfl, rfl⟩
      · have he' : l.getD i 0 = 0 := by simpa using he
        rw [deP_zero hlt' he'] at hW hS
        have hz := pts_zero hlt' he'
        have hb := V.drop (some 0) (i + 1)
        have hpt : pt (l.getD i 0) = 0 := by rw [he']; rfl
        refine ⟨(i, (putT w b v).1, n + b), ⟨(i, (putT w b v).1, n + b), ⟨0, ⟨by (try dsimp only); omega, by (try dsimp only); omega, hW, by show n + b + bsum (de (some 0) (l.drop (i + 1)) (pts (l.drop (i + 1)))) = _; omega⟩, rfl, by (try dsimp only); first | (rw [wr (by omega) (by omega)]; done) | (rw [wr (by omega) (by omega)]; omega) | (rw [wr (by omega) (by omega)]; simp; done) | (rw [wr (by omega) (by omega)]; simp; omega), by show IntKind.wrap IntKind.i64 (pts (l.drop i) - pt (l.getD i 0)) = pts (l.drop (i + 1)); rw [wr (by omega) (by omega)]; omega, rfl, rfl, rfl, rfl⟩, ?_⟩, ?_⟩
        · rintro z ⟨z1, z2, hW3, hS3⟩
          dsimp only at z1 z2 hW3 hS3
          have wj : IntKind.wrap IntKind.i64 (((i + 1 : Nat) : Int) + (z : Int)) = ((i + 1 + z : Nat) : Int) := by rw [wr (by omega) (by omega)]; simp
          simp only [wi, wj, toNat_cast]
          refine ⟨fun hlt2 => ⟨by omega, by omega, fun h0 => ?_, fun h0 => ?_⟩, fun hge2 => ?_⟩
          · have h0' : l.getD (i + 1 + z) 0 = 0 := by simpa using h0
            have j3 : i + 1 + z < l.length := by omega
            rw [de_zero j3 h0', pts_zero j3 h0'] at hW3 hS3
            have hz3 := pts_zero j3 h0'
            exact ⟨z + 1, ⟨by (try dsimp only); omega, z2, hW3, hS3⟩, by show l.length - (z + 1) < l.length - z; omega, by (try dsimp only); first | (rw [wr (by omega) (by omega)]; done) | (rw [wr (by omega) (by omega)]; omega) | (rw [wr (by omega) (by omega)]; simp; done) | (rw [wr (by omega) (by omega)]; simp; omega), hz3⟩
          · have h0' : l.getD (i + 1 + z) 0 ≠ 0 := by simpa using h0
            rw [de_end (.inr h0')] at hW3 hS3
            exact ⟨z, ⟨z1, z2, hW3, hS3⟩, by ((repeat' (refine And.intro ?_ ?_)) <;> first | rfl | exact True.intro | omega | (rw [wr (by omega) (by omega)]; done) | (rw [wr (by omega) (by omega)]; first | rfl | omega | (simp; done)))⟩
          · rw [de_end (.inl (by omega))] at hW3 hS3
            exact ⟨z, ⟨z1, z2, hW3, hS3⟩, by ((repeat' (refine And.intro ?_ ?_)) <;> first | rfl | exact True.intro | omega | (rw [wr (by omega) (by omega)]; done) | (rw [wr (by omega) (by omega)]; first | rfl | omega | (simp; done)))⟩
        · rintro z ⟨z1, z2, hW3, hS3⟩
          dsimp only at z1 z2 hW3 hS3
          have e1 : i + z + 1 = i + 1 + z := by omega
          refine ⟨i + z, ⟨(z, true, (putT w b v).1, n + b), ⟨z1, by (try dsimp only); omega, z2, ?_, ?_⟩, ?_⟩, ?_⟩
          · rw [e1]; exact hW3
          · rw [e1]; exact hS3
          · rw [e1]
            ((repeat' (refine And.intro ?_ ?_)) <;> first | rfl | exact True.intro | omega | (rw [wr (by omega) (by omega)]; done) | (rw [wr (by omega) (by omega)]; first | rfl | omega | (simp; done)))
          rintro ⟨y, again, w4, m⟩ ⟨y1, y2, y3, hW4, hS4⟩
          dsimp only at y1 y2 y3 hW4 hS4
          have hb4 := V.drop none (i + z + 1)
          refine ⟨fun ha => ?_, fun ha => ?_⟩
          · dsimp only at ha
            subst ha
            simp only [cond_true] at hW4 hS4
            by_cases h3 : 3 ≤ y
            · have hm : min (y : Int) 3 = 3 := by omega
              rw [zerosP_ge h3, List.cons_append, putAll_cons] at hW4
              rw [zerosP_ge h3, List.cons_append, bsum, bsum_app, bsum_zeros] at hS4
              simp only [hm]
              refine ⟨(y - 3, true, (putT w4 2 3).1, m + 2), ⟨y1, by (try dsimp only); omega, by (try dsimp only); omega, hW4, ?_⟩, by show y - 3 + 1 < y + 1; omega, by ((repeat' (refine And.intro ?_ ?_)) <;> first | rfl | exact True.intro | omega | (rw [wr (by omega) (by omega)]; done) | (rw [wr (by omega) (by omega)]; first | rfl | omega | (simp; done)))⟩
              show m + 2 + bsum (zerosP (y - 3) ++ _) = _
              rw [bsum_app, bsum_zeros]
              dsimp only at hS4
              omega
            · have hm : min (y : Int) 3 = y := by omega
              rw [zerosP_lt (by omega), List.singleton_append, putAll_cons] at hW4
              rw [zerosP_lt (by omega), List.singleton_append, bsum] at hS4
              dsimp only at hS4
              have hb3 : ((y : Int) == 3) = false := by simp; omega
              simp only [hm, hb3]
              refine ⟨(0, false, (putT w4 2 y).1, m + 2), ⟨y1, by (try dsimp only); omega, by (try dsimp only); omega, hW4, ?_⟩, by show 0 < y + 1; omega, by ((repeat' (refine And.intro ?_ ?_)) <;> first | rfl | exact True.intro | omega | (rw [wr (by omega) (by omega)]; done) | (rw [wr (by omega) (by omega)]; first | rfl | omega | (simp; done)))⟩
              show m + 2 + bsum (de none (l.drop (i + z + 1)) (pts (l.drop (i + z + 1)))) = _
              omega
          · dsimp only at ha
            subst ha
            exact ⟨(i + z + 1, w4, m), ⟨by (try dsimp only); omega, y3, hW4, hS4⟩, by show l.length - (i + z + 1) < l.length - i; omega, by ((repeat' (refine And.intro ?_ ?_)) <;> first | rfl | exact True.intro | omega | (rw [wr (by omega) (by omega)]; done) | (rw [wr (by omega) (by omega)]; first | rfl | omega | (simp; done)))⟩
  · have e : l.drop i = [] := List.drop_eq_nil_of_le (by simp only at hge; omega)
    rw [e] at hW hS
    have hW' : w = wrT g l := hW
    have hS' : n + 0 = Proofs.Ytafabheehkmfhaa.wrN g l := hS
    rw [hW']
    exact ⟨rfl, rfl, rfl, by (try dsimp only); omega⟩
end Go.Proofs.Ytafabheehkmfhaa

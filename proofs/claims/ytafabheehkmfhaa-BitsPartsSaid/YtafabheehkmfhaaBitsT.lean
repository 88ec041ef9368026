/-
  The readers of package bits and of its reference. Conditions: each theorem's own.
-/
import Derived.Test.YtafabheehkmfhaaBitsS
namespace Go.Proofs.Ytafabheehkmfhaa
open Go.RowKit Go.PlainAid
set_option linter.unusedVariables false
set_option linter.unusedSimpArgs false

theorem pow_le62 (n : Nat) (h : n ≤ 61) : 2 ^ n ≤ 2305843009213693952 := by
  have : 2 ^ n ≤ 2 ^ 61 := Nat.pow_le_pow_right (by omega) h
  simpa using this
theorem or_add2 (p b n : Nat) (hn : n ≤ 60) (hp : p < 2 ^ n) (hb : b ≤ 1) : bits .or .i64 (p : Int) ((b : Int) * 2 ^ n) = (p : Int) + (b : Int) * 2 ^ n := by
  have h8 := pow_le62 n (by omega)
  have hle : b * 2 ^ n ≤ 2305843009213693952 := Nat.le_trans (Nat.mul_le_mul_right _ hb) (by omega)
  have e : ((b : Int) * 2 ^ n) = ((b * 2 ^ n : Nat) : Int) := by simp
  rw [e, i64_or_nat _ _ (by omega) (by omega)]
  rw [Nat.or_comm, Nat.mul_comm, ← Nat.two_pow_add_eq_or_of_lt hp]
  omega
theorem wrap_small2 (b n : Nat) (hn : n ≤ 60) (hb : b ≤ 1) : wrap64 ((b : Int) * 2 ^ n) = (b : Int) * 2 ^ n := by
  have h8 := pow_le62 n (by omega)
  have hle : b * 2 ^ n ≤ 2305843009213693952 := Nat.le_trans (Nat.mul_le_mul_right _ hb) (by omega)
  have e : ((b : Int) * 2 ^ n) = ((b * 2 ^ n : Nat) : Int) := by simp
  rw [e]
  exact IntWalk.wrap64_in _ ⟨by omega, by omega⟩
/-- the number of n bits of a string from a bit on -/
def peekN (s : ByteArray) (bit n : Nat) : Nat := leN s.data.toList / 2 ^ bit % 2 ^ n
theorem peekN_lt (s : ByteArray) (bit n : Nat) : peekN s bit n < 2 ^ n := mod_bit_lt _ _
def bitN (s : ByteArray) (k : Nat) : Nat := leN s.data.toList / 2 ^ k % 2
theorem bitN_le (s : ByteArray) (k : Nat) : bitN s k ≤ 1 := by unfold bitN; omega
theorem peekN_next (s : ByteArray) (bit n : Nat) : peekN s bit (n + 1) = peekN s bit n + bitN s (bit + n) * 2 ^ n := by
  unfold peekN bitN
  rw [mod_bit, Nat.div_div_eq_div_mul, ← Nat.pow_add]
theorem bitN_end (s : ByteArray) (k : Nat) (h : 8 * s.size ≤ k) : bitN s k = 0 := by
  unfold bitN
  rw [leN_beyond _ _ (by rw [size_le]; exact h)]
theorem getbyte (s : ByteArray) (i : Nat) (h : i < s.size) : s[i].toNat = (s.data.toList[i]'(by rw [size_le]; exact h)).toNat := by
  simp
  rfl
theorem bt_nat (s : ByteArray) (i : Nat) (h : i < s.size) : bt s i = ((s[i].toNat : Nat) : Int) := (get_bt s i h).symm
theorem bitN_byte (s : ByteArray) (k : Nat) (h : k < 8 * s.size) : (bt s (k / 8) / 2 ^ (k % 8) % 2) = (bitN s k : Int) := by
  have h8 : k / 8 < s.size := by omega
  rw [bt_nat s _ h8, getbyte s _ h8]
  unfold bitN
  rw [← leN_bit s.data.toList k (by rw [size_le]; exact h8)]
  simp
theorem ofInt_u8 (a : Nat) (ha : a < 256) : (BitVec.ofInt 8 (a : Int)).toNat = a := by
  rw [BitVec.ofInt_natCast, BitVec.toNat_ofNat]; exact Nat.mod_eq_of_lt (by omega)
theorem u8_and_one (Y : Nat) (h : Y < 256) : bits .and .u8 (Y : Int) 1 = ((Y % 2 : Nat) : Int) := by
  show IntKind.u8.wrap ((BitVec.ofInt 8 (Y : Int) &&& BitVec.ofInt 8 ((1 : Nat) : Int)).toNat : Int) = _
  rw [BitVec.toNat_and, ofInt_u8 Y h, ofInt_u8 1 (by omega), Nat.and_one_is_mod, IntKind.wrap_u8]
  omega
theorem byte_shift (s : ByteArray) (k : Nat) (h : k < 8 * s.size) : ∃ Y : Nat, Y < 256 ∧ bt s (k / 8) / 2 ^ (k % 8) = (Y : Int) ∧ Y % 2 = bitN s k := by
  have h8 : k / 8 < s.size := by omega
  refine ⟨s[k / 8].toNat / 2 ^ (k % 8), ?_, ?_, ?_⟩
  · exact Nat.lt_of_le_of_lt (Nat.div_le_self _ _) (UInt8.toNat_lt _)
  · rw [bt_nat s _ h8]; simp
  · rw [getbyte s _ h8, leN_bit s.data.toList k (by rw [size_le]; exact h8)]; rfl
theorem peek_step (s : ByteArray) (k x j b : Nat) (h : k < 8 * s.size) (hb : bitN s k = b) (hj : j ≤ 60) (hx : x < 2 ^ j) :
    bits .or .i64 (x : Int) (wrap64 (wrap64 (bits .and .u8 (bt s (k / 8) / 2 ^ (k % 8)) 1) * 2 ^ j)) = ((x + b * 2 ^ j : Nat) : Int) := by
  obtain ⟨Y, h1, h2, h3⟩ := byte_shift s k h
  have hb1 : b ≤ 1 := by rw [← hb]; exact bitN_le _ _
  rw [h2, u8_and_one Y h1, h3, hb, IntWalk.wrap64_in (b : Int) ⟨by omega, by omega⟩, wrap_small2 b j hj hb1, or_add2 x b j hj hx hb1]
  simp
theorem number_step (s : ByteArray) (k x j b : Nat) (h : k < 8 * s.size) (hb : bitN s k = b) (hj : j ≤ 60) (hx : x < 2 ^ j) :
    wrap64 ((x : Int) + wrap64 (bits .and .i64 (bt s (k / 8) / 2 ^ (k % 8)) 1 * 2 ^ j)) = ((x + b * 2 ^ j : Nat) : Int) := by
  obtain ⟨Y, h1, h2, h3⟩ := byte_shift s k h
  have hb1 : b ≤ 1 := by rw [← hb]; exact bitN_le _ _
  have h8 := pow_le62 j (by omega)
  have hle : b * 2 ^ j ≤ 2305843009213693952 := Nat.le_trans (Nat.mul_le_mul_right _ hb1) (by omega)
  rw [h2, show (1 : Int) = ((1 : Nat) : Int) from rfl, i64_and_nat _ _ (by omega) (by omega), Nat.and_one_is_mod, h3, hb, wrap_small2 b j hj hb1]
  have e : (x : Int) + (b : Int) * 2 ^ j = ((x + b * 2 ^ j : Nat) : Int) := by simp
  rw [e]
  exact IntWalk.wrap64_in _ ⟨by omega, by omega⟩
def PeekRel (s : ByteArray) (bit n : Nat) (out i : Value) : Prop := ∃ j : Nat, j ≤ n ∧ i = .int .i64 j ∧ out = .int .i64 (peekN s bit j)
set_option maxHeartbeats 2000000 in
theorem peek_core (s : ByteArray) (bit n : Nat) (w : World) (hs : s.size ≤ 1048576) (hb : bit ≤ 8 * s.size) (hn : n ≤ 32) :
    Calls Try.prog 63 #[.agg #[.string s, .int .i64 bit], .int .i64 n] w fun e w' => e = .returned (.int .i64 (peekN s bit n)) ∧ Below w.heap.size w w' := by
  go_enter Try.func63, Try.ntmps63
  go_wp2
  go_loop [5, 9] (fun out i => PeekRel s bit n out i) (fun _ i => n - (intOf i).toNat)
  case atStart => exact ⟨0, Nat.zero_le _, rfl, by simp [peekN, Nat.mod_one]⟩
  case round =>
    obtain ⟨j, hj, rfl, rfl⟩ := hrel
    by_cases hlt : j < n
    · have hx := peekN_lt s bit j
      obtain ⟨x, ex⟩ : ∃ x, peekN s bit j = x := ⟨_, rfl⟩
      rw [ex] at hx ⊢
      have Ex := Lib.hid ex
      clear ex
      by_cases hend : bit + j < 8 * s.size
      · have hbt := get_bt s
        obtain ⟨b, eb⟩ : ∃ b, bitN s (bit + j) = b := ⟨_, rfl⟩
        have Hst := Lib.hid (peek_step s (bit + j) x j b hend eb (by omega) hx)
        have Eb := Lib.hid eb
        clear eb
        go_wp2_with fail
        refine ⟨⟨j + 1, by omega, by go_num, ?_⟩, by simp [intOf]; omega⟩
        rw [Hst.out, peekN_next, Ex.out, Eb.out]
      · have Eb := Lib.hid (bitN_end s (bit + j) (by omega))
        go_wp2_with fail
        refine ⟨⟨j + 1, by omega, by go_num, ?_⟩, by simp [intOf]; omega⟩
        rw [peekN_next, Ex.out, Eb.out, Nat.zero_mul, Nat.add_zero]
    · have : j = n := by omega
      subst this
      go_wp2
      go_ret
      exact ⟨rfl, by go_grown⟩
set_option maxHeartbeats 2000000 in
theorem number_core (s : ByteArray) (bit n : Nat) (w : World) (hs : s.size ≤ 1048576) (hb : bit ≤ 8 * s.size) (hn : n ≤ 32) :
    Calls Try.prog 64 #[.agg #[.string s, .int .i64 bit], .int .i64 n] w fun e w' => e = .returned (.int .i64 (peekN s bit n)) ∧ Below w.heap.size w w' := by
  go_enter Try.func64, Try.ntmps64
  go_wp2
  go_loop [5, 6] (fun out i => PeekRel s bit n out i) (fun _ i => n - (intOf i).toNat)
  case atStart => exact ⟨0, Nat.zero_le _, rfl, by simp [peekN, Nat.mod_one]⟩
  case round =>
    obtain ⟨j, hj, rfl, rfl⟩ := hrel
    by_cases hlt : j < n
    · have hx := peekN_lt s bit j
      obtain ⟨x, ex⟩ : ∃ x, peekN s bit j = x := ⟨_, rfl⟩
      rw [ex] at hx ⊢
      have Ex := Lib.hid ex
      clear ex
      by_cases hend : bit + j < 8 * s.size
      · have hbt := get_bt s
        have hlo := bt_nonneg s ((bit + j) / 8)
        have hhi := bt_le s ((bit + j) / 8)
        obtain ⟨b, eb⟩ : ∃ b, bitN s (bit + j) = b := ⟨_, rfl⟩
        have Hst := Lib.hid (number_step s (bit + j) x j b hend eb (by omega) hx)
        have Eb := Lib.hid eb
        clear eb
        go_wp2_with fail
        refine ⟨⟨j + 1, by omega, by go_num, ?_⟩, by simp [intOf]; omega⟩
        rw [Hst.out, peekN_next, Ex.out, Eb.out]
      · have Eb := Lib.hid (bitN_end s (bit + j) (by omega))
        go_wp2_with fail
        refine ⟨⟨j + 1, by omega, by go_num, ?_⟩, by simp [intOf]; omega⟩
        rw [peekN_next, Ex.out, Eb.out, Nat.zero_mul, Nat.add_zero]
    · have : j = n := by omega
      subst this
      go_wp2
      go_ret
      exact ⟨rfl, by go_grown⟩
end Go.Proofs.Ytafabheehkmfhaa

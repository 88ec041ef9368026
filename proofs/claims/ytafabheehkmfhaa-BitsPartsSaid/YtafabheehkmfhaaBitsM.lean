/-
  Plain mathematics of bits: strings of bytes as numbers (little-endian), a writer as a number and its length. Conditions: none.
-/
import Derived.Test.YtafabheehkmfhaaBase
namespace Go.Proofs.Ytafabheehkmfhaa
set_option linter.unusedVariables false

def toLE : Nat → Nat → List UInt8
  | 0, _ => []
  | k + 1, W => UInt8.ofNat (W % 256) :: toLE k (W / 256)
def leN : List UInt8 → Nat
  | [] => 0
  | b :: l => b.toNat + 256 * leN l

theorem toLE_length (k : Nat) : ∀ W, (toLE k W).length = k := by
  induction k with
  | zero => intro W; rfl
  | succ k ih => intro W; simp [toLE, ih]
theorem pow256 (k : Nat) : 256 ^ k = 2 ^ (8 * k) := by rw [Nat.pow_mul]
theorem leN_toLE (k : Nat) : ∀ W, leN (toLE k W) = W % 256 ^ k := by
  induction k with
  | zero => intro W; simp [toLE, leN, Nat.mod_one]
  | succ k ih =>
    intro W
    have h : (W % 256) % 256 = W % 256 := Nat.mod_mod _ _
    have e : (UInt8.ofNat (W % 256)).toNat = W % 256 := by rw [UInt8.toNat_ofNat']; omega
    simp only [toLE, leN, ih, e]
    rw [Nat.pow_succ, Nat.mul_comm (256 ^ k) 256, Nat.mod_mul]
theorem leN_lt (l : List UInt8) : leN l < 256 ^ l.length := by
  induction l with
  | nil => simp [leN]
  | cons b l ih =>
    have hb : b.toNat < 256 := b.toNat_lt
    simp only [leN, List.length_cons, Nat.pow_succ]
    omega
theorem toLE_leN (l : List UInt8) : toLE l.length (leN l) = l := by
  induction l with
  | nil => rfl
  | cons b l ih =>
    have hb : b.toNat < 256 := b.toNat_lt
    simp only [leN, List.length_cons, toLE]
    have h1 : (b.toNat + 256 * leN l) % 256 = b.toNat := by omega
    have h2 : (b.toNat + 256 * leN l) / 256 = leN l := by omega
    rw [h1, h2, ih]
    simp
theorem toLE_mod (k : Nat) : ∀ W, toLE k (W % 256 ^ k) = toLE k W := by
  induction k with
  | zero => intro W; rfl
  | succ k ih =>
    intro W
    simp only [toLE]
    have e1 : W % 256 ^ (k + 1) % 256 = W % 256 := by
      rw [Nat.pow_succ, Nat.mul_comm, Nat.mod_mul]; omega
    have e2 : W % 256 ^ (k + 1) / 256 = (W / 256) % 256 ^ k := by
      rw [Nat.pow_succ, Nat.mul_comm, Nat.mod_mul]; omega
    rw [e1, e2, ih]
theorem toLE_congr (k : Nat) {W W' : Nat} (h : W % 256 ^ k = W' % 256 ^ k) : toLE k W = toLE k W' := by
  rw [← toLE_mod, h, toLE_mod]
theorem toLE_snoc (k : Nat) : ∀ W, toLE (k + 1) W = toLE k W ++ [UInt8.ofNat (W / 256 ^ k % 256)] := by
  induction k with
  | zero => intro W; simp [toLE]
  | succ k ih =>
    intro W
    rw [toLE, ih, toLE, List.cons_append, Nat.div_div_eq_div_mul, Nat.pow_succ, Nat.mul_comm 256]
theorem leN_append (a b : List UInt8) : leN (a ++ b) = leN a + 256 ^ a.length * leN b := by
  induction a with
  | nil => simp [leN]
  | cons x a ih =>
    simp only [List.cons_append, leN, ih, List.length_cons, Nat.pow_succ]
    rw [Nat.mul_add, Nat.mul_comm (256 ^ a.length) 256, Nat.mul_assoc, Nat.add_assoc]
theorem leN_byte : ∀ (l : List UInt8) (i : Nat) (h : i < l.length), l[i].toNat = leN l / 256 ^ i % 256
  | b :: l, 0, h => by
    have hb : b.toNat < 256 := b.toNat_lt
    simp [leN]
  | b :: l, i + 1, h => by
    have hb : b.toNat < 256 := b.toNat_lt
    have e : (b.toNat + 256 * leN l) / 256 = leN l := by omega
    have := leN_byte l i (by simpa using h)
    simp only [List.getElem_cons_succ, leN]
    rw [this, Nat.pow_succ, Nat.mul_comm (256 ^ i) 256, ← Nat.div_div_eq_div_mul, e]
/-- the bit k of a string, as the program takes it -/
theorem leN_bit (l : List UInt8) (k : Nat) (h : k / 8 < l.length) : l[k / 8].toNat / 2 ^ (k % 8) % 2 = leN l / 2 ^ k % 2 := by
  rw [leN_byte l _ h]
  have e : (2 : Nat) ^ k = 256 ^ (k / 8) * 2 ^ (k % 8) := by
    rw [pow256, ← Nat.pow_add]; congr 1; omega
  rw [e, ← Nat.div_div_eq_div_mul]
  generalize leN l / 256 ^ (k / 8) = X
  have hk : k % 8 < 8 := Nat.mod_lt _ (by omega)
  generalize k % 8 = r at hk
  have e2 : (256 : Nat) = 2 ^ r * 2 ^ (8 - r) := by rw [← Nat.pow_add]; rw [show r + (8 - r) = 8 from by omega]
  rw [e2, Nat.mod_mul_right_div_self, Nat.mod_mod_of_dvd]
  exact ⟨2 ^ (7 - r), by rw [← Nat.pow_succ']; congr 1; omega⟩
theorem leN_beyond (l : List UInt8) (k : Nat) (h : 8 * l.length ≤ k) : leN l / 2 ^ k = 0 := by
  apply Nat.div_eq_of_lt
  refine Nat.lt_of_lt_of_le (leN_lt l) ?_
  rw [pow256]
  exact Nat.pow_le_pow_right (by omega) h

/-- A writer of L bits that say the number W: the whole bytes, the rest, how many bits the rest has. -/
def wS (L W : Nat) : ByteArray := ⟨(toLE (L / 8) W).toArray⟩
def wP (L W : Nat) : Nat := W / 2 ^ (8 * (L / 8)) % 2 ^ (L % 8)
theorem wS_size (L W : Nat) : (wS L W).size = L / 8 := by
  show (toLE (L / 8) W).toArray.size = _
  simp [toLE_length]
theorem wP_lt (L W : Nat) : wP L W < 2 ^ (L % 8) := Nat.mod_lt _ (Nat.pow_pos (by omega))
theorem pow_lt8 (n : Nat) (h : n < 8) : 2 ^ n ≤ 128 := by
  have : 2 ^ n ≤ 2 ^ 7 := Nat.pow_le_pow_right (by omega) (by omega)
  simpa using this
theorem wP_eq (L W : Nat) (hW : W < 2 ^ L) : wP L W = W / 2 ^ (8 * (L / 8)) := by
  unfold wP
  apply Nat.mod_eq_of_lt
  rw [Nat.div_lt_iff_lt_mul (Nat.pow_pos (by omega)), ← Nat.pow_add]
  rwa [show L % 8 + 8 * (L / 8) = L from by omega]
/-- one bit more, in the same byte -/
theorem bit_same (L W b : Nat) (hb : b ≤ 1) (hW : W < 2 ^ L) (h7 : L % 8 < 7) :
    wS (L + 1) (W + b * 2 ^ L) = wS L W ∧ wP (L + 1) (W + b * 2 ^ L) = wP L W + b * 2 ^ (L % 8) ∧ (L + 1) % 8 = L % 8 + 1 := by
  have e8 : (L + 1) / 8 = L / 8 := by omega
  have hd : (2 : Nat) ^ L = 2 ^ (8 * (L / 8)) * 2 ^ (L % 8) := by rw [← Nat.pow_add]; congr 1; omega
  have hW' : W + b * 2 ^ L < 2 ^ (L + 1) := by
    rw [Nat.pow_succ]
    rcases Nat.le_one_iff_eq_zero_or_eq_one.1 hb with rfl | rfl <;> omega
  refine ⟨?_, ?_, by omega⟩
  · unfold wS
    rw [e8]
    congr 2
    apply toLE_congr
    rw [pow256, hd, ← Nat.mul_assoc, Nat.mul_comm b, Nat.mul_assoc, Nat.add_mul_mod_self_left]
  · rw [wP_eq _ _ hW', wP_eq _ _ hW, e8, hd, ← Nat.mul_assoc, Nat.mul_comm b, Nat.mul_assoc, Nat.add_mul_div_left _ _ (Nat.pow_pos (by omega))]
/-- the eighth bit: the byte is put -/
theorem bit_full (L W b : Nat) (hb : b ≤ 1) (hW : W < 2 ^ L) (h7 : L % 8 = 7) :
    wS (L + 1) (W + b * 2 ^ L) = wS L W ++ ⟨#[UInt8.ofNat (wP L W + b * 128)]⟩ ∧ wP (L + 1) (W + b * 2 ^ L) = 0 ∧ (L + 1) % 8 = 0 := by
  have e8 : (L + 1) / 8 = L / 8 + 1 := by omega
  have hd : (2 : Nat) ^ L = 2 ^ (8 * (L / 8)) * 128 := by
    rw [show (128 : Nat) = 2 ^ 7 from rfl, ← Nat.pow_add]; congr 1; omega
  have hW' : W + b * 2 ^ L < 2 ^ (L + 1) := by
    rw [Nat.pow_succ]
    rcases Nat.le_one_iff_eq_zero_or_eq_one.1 hb with rfl | rfl <;> omega
  refine ⟨?_, ?_, by omega⟩
  · unfold wS
    rw [e8, toLE_snoc]
    have e1 : toLE (L / 8) (W + b * 2 ^ L) = toLE (L / 8) W := by
      apply toLE_congr
      rw [pow256, hd, ← Nat.mul_assoc, Nat.mul_comm b, Nat.mul_assoc, Nat.add_mul_mod_self_left]
    have e2 : (W + b * 2 ^ L) / 256 ^ (L / 8) % 256 = wP L W + b * 128 := by
      rw [wP_eq _ _ hW, pow256, hd, ← Nat.mul_assoc, Nat.mul_comm b, Nat.mul_assoc, Nat.add_mul_div_left _ _ (Nat.pow_pos (by omega))]
      apply Nat.mod_eq_of_lt
      have : W / 2 ^ (8 * (L / 8)) < 128 := by
        rw [Nat.div_lt_iff_lt_mul (Nat.pow_pos (by omega)), Nat.mul_comm, ← hd]; exact hW
      omega
    rw [e1, e2]
    apply ByteArray.ext
    simp
  · unfold wP
    rw [show (L + 1) % 8 = 0 from by omega]
    simp [Nat.mod_one]
theorem size_le (s : ByteArray) : s.data.toList.length = s.size := by simp
/-- Every right writer is one of these. -/
theorem writer_form (s : ByteArray) (p n : Nat) (hn : n < 8) (hp : p < 2 ^ n) :
    ∃ L W, L = 8 * s.size + n ∧ W = leN s.data.toList + p * 2 ^ (8 * s.size) ∧ W < 2 ^ L ∧ s = wS L W ∧ p = wP L W ∧ n = L % 8 := by
  have hl := leN_lt s.data.toList
  rw [size_le, pow256] at hl
  have hW : leN s.data.toList + p * 2 ^ (8 * s.size) < 2 ^ (8 * s.size + n) := by
    rw [Nat.pow_add]
    calc leN s.data.toList + p * 2 ^ (8 * s.size) < 2 ^ (8 * s.size) + p * 2 ^ (8 * s.size) := by omega
      _ = (p + 1) * 2 ^ (8 * s.size) := by rw [Nat.add_mul, Nat.one_mul, Nat.add_comm]
      _ ≤ 2 ^ n * 2 ^ (8 * s.size) := Nat.mul_le_mul_right _ hp
      _ = _ := Nat.mul_comm _ _
  refine ⟨_, _, rfl, rfl, hW, ?_, ?_, by omega⟩
  · unfold wS
    rw [show (8 * s.size + n) / 8 = s.size from by omega]
    have : toLE s.size (leN s.data.toList + p * 2 ^ (8 * s.size)) = s.data.toList := by
      have e : toLE s.size (leN s.data.toList + p * 2 ^ (8 * s.size)) = toLE s.size (leN s.data.toList) := by
        apply toLE_congr
        rw [pow256, Nat.mul_comm, Nat.add_mul_mod_self_left]
      rw [e, ← size_le, toLE_leN]
    rw [this]
  · rw [wP_eq _ _ hW, show (8 * s.size + n) / 8 = s.size from by omega, Nat.mul_comm p, Nat.add_mul_div_left _ _ (Nat.pow_pos (by omega)), Nat.div_eq_of_lt hl, Nat.zero_add]
/-- bits of a number, the lowest one first -/
def bitsOf (v : Nat) : Nat → List Nat
  | 0 => []
  | n + 1 => v % 2 :: bitsOf (v / 2) n
theorem bitsOf_length (n : Nat) : ∀ v, (bitsOf v n).length = n := by
  induction n with
  | zero => intro v; rfl
  | succ n ih => intro v; simp [bitsOf, ih]
theorem bitsOf_get : ∀ (n v i : Nat), i < n → (bitsOf v n)[i]? = some (v / 2 ^ i % 2)
  | n + 1, v, 0, _ => by simp [bitsOf]
  | n + 1, v, i + 1, h => by
    rw [bitsOf, List.getElem?_cons_succ, bitsOf_get n (v / 2) i (by omega), Nat.div_div_eq_div_mul, Nat.pow_succ, Nat.mul_comm 2]
theorem mod_bit (v i : Nat) : v % 2 ^ (i + 1) = v % 2 ^ i + (v / 2 ^ i % 2) * 2 ^ i := by
  rw [Nat.pow_succ, Nat.mod_mul, Nat.mul_comm (2 ^ i)]
theorem mod_bit_lt (v i : Nat) : v % 2 ^ i < 2 ^ i := Nat.mod_lt _ (Nat.pow_pos (by omega))
end Go.Proofs.Ytafabheehkmfhaa

/-
  BitsBack's mathematics: numbers with their sizes written one behind the other, and read back; and the walks of 'size' and 'value'. Conditions: each theorem's own.
-/
import Derived.Test.YtafabheehkmfhaaBitsL
import Derived.Test.YtafabheehkmfhaaMod
namespace Go.Proofs.Ytafabheehkmfhaa
open Go.RowKit Go.PlainAid
set_option linter.unusedVariables false
set_option linter.unusedSimpArgs false

def szN (k : Int) : Nat := (k % 33).toNat
def vlN (k : Int) : Nat := ((k % 1099511627776 / 33) % 2 ^ szN k).toNat
theorem szN_le (k : Int) : szN k ≤ 32 := by unfold szN; omega
theorem szN_int (k : Int) : ((szN k : Nat) : Int) = k % 33 := by unfold szN; omega
theorem vlN_int (k : Int) : ((vlN k : Nat) : Int) = (k % 1099511627776 / 33) % 2 ^ szN k := by
  unfold vlN
  have : (0 : Int) < 2 ^ szN k := Int.pow_pos (by omega)
  have := Int.emod_nonneg (k % 1099511627776 / 33) (show (2 : Int) ^ szN k ≠ 0 by omega)
  omega
theorem vlN_lt (k : Int) : vlN k < 2 ^ szN k := by
  have h := vlN_int k
  have hp : (0 : Int) < 2 ^ szN k := Int.pow_pos (by omega)
  have h2 := Int.emod_lt_of_pos (k % 1099511627776 / 33) hp
  have e : (2 : Int) ^ szN k = ((2 ^ szN k : Nat) : Int) := by simp
  rw [← h] at h2
  rw [e] at h2
  omega
def accB : List Int → Nat × Nat := List.foldl (fun a z => (a.1 + szN z, a.2 + vlN z * 2 ^ a.1)) (0, 0)
def accL (l : List Int) : Nat := (accB l).1
def accW (l : List Int) : Nat := (accB l).2
theorem accL_snoc (l : List Int) (z : Int) : accL (l ++ [z]) = accL l + szN z := by simp [accL, accB]
theorem accW_snoc (l : List Int) (z : Int) : accW (l ++ [z]) = accW l + vlN z * 2 ^ accL l := by simp [accL, accW, accB]
/-- induction from the end -/
theorem snoc_ind {P : List Int → Prop} (h0 : P []) (h1 : ∀ l z, P l → P (l ++ [z])) (l : List Int) : P l := by
  have : ∀ l : List Int, P l.reverse := by
    intro l
    induction l with
    | nil => exact h0
    | cons z l ih => rw [List.reverse_cons]; exact h1 _ _ ih
  have := this l.reverse
  rwa [List.reverse_reverse] at this
theorem accW_lt (l : List Int) : accW l < 2 ^ accL l := by
  refine snoc_ind (P := fun l => accW l < 2 ^ accL l) (by simp [accW, accL, accB]) (fun l z ih => ?_) l
  rw [accW_snoc, accL_snoc]
  have := put_lt (accL l) (accW l) (vlN z) (szN z) ih
  rwa [Nat.mod_eq_of_lt (vlN_lt z)] at this
theorem accL_le (l : List Int) : accL l ≤ 32 * l.length := by
  refine snoc_ind (P := fun l => accL l ≤ 32 * l.length) (by simp [accL, accB]) (fun l z ih => ?_) l
  rw [accL_snoc]
  have := szN_le z
  simp
  omega
theorem accL_take (l : List Int) (k : Nat) : accL (l.take k) ≤ accL l := by
  revert k
  refine snoc_ind (P := fun l => ∀ k, accL (l.take k) ≤ accL l) (by simp [accL, accB]) (fun l z ih k => ?_) l
  by_cases h : k ≤ l.length
  · rw [List.take_append_of_le_length h, accL_snoc]
    have := ih k
    omega
  · rw [List.take_of_length_le (by simp; omega)]
    omega
theorem read_low (W v L a b : Nat) (h : a + b ≤ L) : (W + v * 2 ^ L) / 2 ^ a % 2 ^ b = W / 2 ^ a % 2 ^ b := by
  have e : (2 : Nat) ^ L = 2 ^ a * (2 ^ b * 2 ^ (L - a - b)) := by rw [← Nat.pow_add, ← Nat.pow_add]; congr 1; omega
  rw [e, show v * (2 ^ a * (2 ^ b * 2 ^ (L - a - b))) = 2 ^ a * (2 ^ b * (v * 2 ^ (L - a - b))) from by ac_rfl, Nat.add_mul_div_left _ _ (Nat.pow_pos (by omega)), Nat.add_mul_mod_self_left]
theorem accW_read (l : List Int) (k : Nat) (hk : k < l.length) : accW l / 2 ^ accL (l.take k) % 2 ^ szN l[k] = vlN l[k] := by
  revert k
  refine snoc_ind (P := fun l => ∀ k (hk : k < l.length), accW l / 2 ^ accL (l.take k) % 2 ^ szN l[k] = vlN l[k]) (fun k hk => by simp at hk) (fun l z ih k hk => ?_) l
  by_cases h : k < l.length
  · have e : (l ++ [z])[k] = l[k] := List.getElem_append_left h
    rw [e, List.take_append_of_le_length (by omega), accW_snoc, read_low, ih k h]
    have h1 := accL_take l (k + 1)
    rw [List.take_succ_eq_append_getElem h, accL_snoc] at h1
    exact h1
  · have hk' : k = l.length := by simp at hk; omega
    subst hk'
    have e : (l ++ [z])[l.length] = z := by simp
    rw [e, List.take_append_of_le_length (Nat.le_refl _), List.take_length, accW_snoc, Nat.mul_comm (vlN z), Nat.add_mul_div_left _ _ (Nat.pow_pos (by omega)), Nat.div_eq_of_lt (accW_lt l), Nat.zero_add, Nat.mod_eq_of_lt (vlN_lt z)]
theorem leN_wS (L W : Nat) (h : W < 2 ^ (8 * (L / 8))) : leN (wS L W).data.toList = W := by
  unfold wS
  simp only []
  rw [leN_toLE, pow256, Nat.mod_eq_of_lt h]

theorem size_any (k : Int) (hk : InR k) (w : World) :
    Calls Try.prog 35 #[.int .i64 k] w fun e w' => e = .returned (.int .i64 (szN k)) ∧ w = w' := by
  rw [szN_int]
  go_enter Try.func35, Try.ntmps35
  go_wp2_with fail
  refine (mod_pos k 33 hk (by omega) _).mono ?_
  rintro e w' ⟨rfl, rfl⟩
  go_wp2
  go_ret
  exact ⟨rfl, rfl⟩
set_option maxHeartbeats 1000000 in
theorem value_any (k : Int) (hk : InR k) (w : World) :
    Calls Try.prog 36 #[.int .i64 k] w fun e w' => e = .returned (.int .i64 (vlN k)) ∧ w = w' := by
  have HV := Lib.hid (vlN_int k)
  have hs := szN_le k
  obtain ⟨x, hx⟩ : ∃ x, szN k = x := ⟨_, rfl⟩
  have hwp : wrap64 ((2 : Int) ^ x) = 2 ^ x := by
    have := wrap_pow (x : Int) (by omega)
    simpa using this
  obtain ⟨y, hy⟩ : ∃ y, k % 1099511627776 = y := ⟨_, rfl⟩
  have hy1 : 0 ≤ y := by omega
  have hy2 : y < 1099511627776 := by omega
  rw [hx, hy] at HV
  rw [hx] at hs
  have HX := Lib.hid hx
  have HY := Lib.hid hy
  clear hx hy
  go_enter Try.func36, Try.ntmps36
  go_wp2_with fail
  refine (mod_pos k 1099511627776 hk (by omega) _).mono ?_
  rintro e w' ⟨rfl, rfl⟩
  rw [HY.out]
  go_wp2_with fail
  refine (size_any k hk _).mono ?_
  rintro e w' ⟨rfl, rfl⟩
  rw [HX.out]
  go_wp2_with fail
  have hpx : (2 : Int) ^ x ≤ 4294967296 := by
    have : 2 ^ x ≤ 2 ^ 32 := Nat.pow_le_pow_right (by omega) hs
    have e : (2 : Int) ^ x = ((2 ^ x : Nat) : Int) := by simp
    rw [e]; omega
  have hpp : (1 : Int) ≤ 2 ^ x := Int.pow_pos (by omega)
  refine (mod_pos _ _ ⟨by omega, by omega⟩ ⟨hpp, by omega⟩ _).mono ?_
  rintro e w' ⟨rfl, rfl⟩
  rw [← HV.out]
  go_wp2
  go_ret
  exact ⟨rfl, rfl⟩
end Go.Proofs.Ytafabheehkmfhaa

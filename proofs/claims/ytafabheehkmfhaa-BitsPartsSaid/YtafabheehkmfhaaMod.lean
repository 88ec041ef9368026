/-
  cheesepresskit.Mod: the remainder from 0 on. Conditions: numbers of int's range.
-/
import Derived.Test.YtafabheehkmfhaaIn
namespace Go.Proofs.Ytafabheehkmfhaa
open Go.RowKit
set_option linter.unusedVariables false
theorem ret_int' {k : IntKind} {a b : Int} (h : a = b) : Ending.returned (.int k a) = .returned (.int k b) := by rw [h]
theorem tmod_emod (n m : Int) : n.tmod m % m = n % m := by
  have h := Int.tmod_add_mul_tdiv n m
  have h2 := Int.add_mul_emod_self_left (n.tmod m) m (n.tdiv m)
  rw [h] at h2
  exact h2.symm
theorem tmod_neg_fix (n m : Int) (hm : 1 ≤ m) (h : n.tmod m < 0) : n.tmod m + m = n % m := by
  rw [← tmod_emod n m, ← Int.add_emod_right]
  have := Int.lt_tmod_of_pos n (show 0 < m by omega)
  exact (Int.emod_eq_of_lt (by omega) (by omega)).symm
theorem tmod_pos_fix (n m : Int) (hm : 1 ≤ m) (h : 0 ≤ n.tmod m) : n.tmod m = n % m := by
  rw [← tmod_emod n m]
  have := Int.tmod_lt_of_pos n (show 0 < m by omega)
  exact (Int.emod_eq_of_lt h (by omega)).symm
set_option maxHeartbeats 400000 in
theorem mod_pos (n m : Int) (hn : -9223372036854775808 ≤ n ∧ n ≤ 9223372036854775807) (hm : 1 ≤ m ∧ m ≤ 9223372036854775807) (w : World) :
    Calls Try.prog 37 #[.int .i64 n, .int .i64 m] w fun e w' => e = .returned (.int .i64 (n % m)) ∧ w = w' := by
  obtain ⟨h1, h2⟩ := hn
  obtain ⟨h3, h4⟩ := hm
  have hlo := Int.lt_tmod_of_pos n (show 0 < m by omega)
  have hhi := Int.tmod_lt_of_pos n (show 0 < m by omega)
  go_enter Try.func37, Try.ntmps37
  go_wp2
  all_goals
    go_ret
    refine ⟨?_, rfl⟩
    first
      | exact ret_int' (tmod_pos_fix n m h3 (by assumption))
      | exact ret_int' ((IntWalk.wrap64_in _ ⟨by omega, by omega⟩).trans (tmod_neg_fix n m h3 (by assumption)))
      | exact ret_int' (tmod_neg_fix n m h3 (by assumption))
end Go.Proofs.Ytafabheehkmfhaa

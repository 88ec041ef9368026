/-
  What a slice of ints that came in is, for the walks. Conditions: none.
-/
import Derived.Test.YtafabheehkmfhaaBase
import Derived.Lib.SmallJoins
namespace Go.Proofs.Ytafabheehkmfhaa
open Go.ChangeShapes Go.WideShapes Go.ChangeAt Go.RowKit
set_option linter.unusedVariables false

/-- A slice of ints that came in: the numbers zs up to its capacity, the first n of which are its elements. -/
structure IntsIn (w : World) (A : Option Addr) (n cap : Nat) (zs : List Int) : Prop where
  le : n ≤ cap
  max : cap ≤ 9223372036854775807
  len : zs.length = cap
  nil : A = none → cap = 0
  at_ : 0 < cap → ∃ b off, A = some ⟨b, off, none⟩ ∧ b < w.heap.size ∧ ∀ i, i < zs.length → w.cell? ⟨b, off + i, none⟩ = some (.int .i64 (zs.getD i 0))
  rng : ∀ z ∈ zs, -9223372036854775808 ≤ z ∧ z ≤ 9223372036854775807

theorem IntsIn.opens1 {H : Type} {enc : TypeId × Value → H} {w : World} {held : Bool} {fuel : Nat} {v : Value} {x : DataW H × List MemPlace}
    (h : DataW.trod enc Try.prog w 0 (fun _ => true) held fuel 44 [v] = some x) :
    ∃ A n cap zs, [v] = [.slice A n cap] ∧ IntsIn w A n cap zs := by
  rcases open_ints Try.underlying44 Try.underlying3 (by kernel_rfl) h with ⟨hcs, _⟩ | ⟨a, l, c, zs, hcs, _, hl, hm, hz, _, hcell, hwz⟩
  · exact ⟨none, 0, 0, [], hcs, ⟨Nat.le_refl _, by omega, rfl, fun _ => rfl, fun h => by omega, fun z hz => by cases hz⟩⟩
  · refine ⟨some a, l, c, zs, hcs, ⟨hl, hm, by simpa using hz, (fun h => by cases h), fun hpos => ?_, fun z hz => Go.bounds_i64 (hwz z hz)⟩⟩
    obtain ⟨b, off, rfl, hc⟩ := ints_at hcell (by have : zs.length = c := by simpa using hz
                                                  omega)
    refine ⟨b, off, rfl, ?_, hc⟩
    exact World.block_lt_of_cell? w _ (hc 0 (by have : zs.length = c := by simpa using hz
                                                omega))
theorem IntsIn.opens {H : Type} {enc : TypeId × Value → H} {w : World} {held : Bool} {fuel : Nat} {A : Option Addr} {n cap : Nat} {x : DataW H × List MemPlace}
    (h : DataW.trod enc Try.prog w 0 (fun _ => true) held fuel 44 [.slice A n cap] = some x) : ∃ zs, IntsIn w A n cap zs := by
  obtain ⟨A', n', cap', zs, e, hI⟩ := IntsIn.opens1 h
  simp only [List.cons.injEq, Value.slice.injEq, and_true] at e
  obtain ⟨rfl, rfl, rfl⟩ := e
  exact ⟨zs, hI⟩
/-- the slice as my walks read it: its elements as a list of values -/
theorem IntsIn.reads {w : World} {A : Option Addr} {n cap : Nat} {zs : List Int} (h : IntsIn w A n cap zs) : Reads w w.heap.size 1 A n ((zs.take n).map fun z => Value.int .i64 z) := by
  have hl := h.len
  have hle := h.le
  refine ⟨by simp; omega, fun hn => ?_⟩
  obtain ⟨b, off, rfl, hb, hc⟩ := h.at_ (by omega)
  refine ⟨_, rfl, hb, fun j u hu => ?_⟩
  simp only [List.getElem?_map, List.getElem?_take, Option.map_eq_some_iff] at hu
  obtain ⟨z, hz, rfl⟩ := hu
  split at hz
  · rw [show (⟨b, off, none⟩ : Addr).add j = ⟨b, off + j, none⟩ from by unfold Addr.add; split <;> simp_all]
    rw [hc j (by have := (List.getElem?_eq_some_iff.1 hz).1; omega)]
    simp [List.getD, hz]
  · cases hz
end Go.Proofs.Ytafabheehkmfhaa

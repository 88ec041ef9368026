/-
  BitsKnown: the chapter's examples. Conditions: none.
-/
import Derived.Test.YtafabheehkmfhaaBitsL
namespace Go.Proofs.Ytafabheehkmfhaa
open Go.RowKit Go.PlainAid
set_option linter.unusedVariables false
set_option linter.unusedSimpArgs false

def kS : ByteArray := ⟨#[37, 3]⟩
theorem k_read0 (w : World) : Calls Try.prog 25 #[.string ⟨#[37, 3]⟩, .int .i64 0] w fun e w' => e = .returned (.tuple #[.agg #[.string ⟨#[37, 3]⟩, .int .i64 0], .int .i64 0]) ∧ Below w.heap.size w w' := by
  have := read_any ⟨#[37, 3]⟩ 0 w (by decide)
  rwa [show readR ⟨#[37, 3]⟩ 0 = .tuple #[.agg #[.string ⟨#[37, 3]⟩, .int .i64 0], .int .i64 0] from by kernel_rfl] at this
theorem k_take1 (w : World) : Calls Try.prog 27 #[.agg #[.string ⟨#[37, 3]⟩, .int .i64 0], .int .i64 3] w fun e w' => e = .returned (.tuple #[.agg #[.string ⟨#[37, 3]⟩, .int .i64 3], .int .i64 5, .int .i64 0]) ∧ Below w.heap.size w w' := by
  have := take_any ⟨#[37, 3]⟩ 0 3 w (by decide)
  rwa [show takeR ⟨#[37, 3]⟩ 0 3 = .tuple #[.agg #[.string ⟨#[37, 3]⟩, .int .i64 3], .int .i64 5, .int .i64 0] from by kernel_rfl] at this
theorem k_take2 (w : World) : Calls Try.prog 27 #[.agg #[.string ⟨#[37, 3]⟩, .int .i64 3], .int .i64 7] w fun e w' => e = .returned (.tuple #[.agg #[.string ⟨#[37, 3]⟩, .int .i64 10], .int .i64 100, .int .i64 0]) ∧ Below w.heap.size w w' := by
  have := take_any ⟨#[37, 3]⟩ 3 7 w (by decide)
  rwa [show takeR ⟨#[37, 3]⟩ 3 7 = .tuple #[.agg #[.string ⟨#[37, 3]⟩, .int .i64 10], .int .i64 100, .int .i64 0] from by kernel_rfl] at this
theorem k_take3 (w : World) : Calls Try.prog 27 #[.agg #[.string ⟨#[37, 3]⟩, .int .i64 10], .int .i64 7] w fun e w' => e = .returned (.tuple #[.agg #[.string ⟨#[]⟩, .int .i64 0], .int .i64 0, .int .i64 5]) ∧ Below w.heap.size w w' := by
  have := take_any ⟨#[37, 3]⟩ 10 7 w (by decide)
  rwa [show takeR ⟨#[37, 3]⟩ 10 7 = .tuple #[.agg #[.string ⟨#[]⟩, .int .i64 0], .int .i64 0, .int .i64 5] from by kernel_rfl] at this
theorem k_take4 (w : World) : Calls Try.prog 27 #[.agg #[.string ⟨#[37, 3]⟩, .int .i64 0], .int .i64 33] w fun e w' => e = .returned (.tuple #[.agg #[.string ⟨#[]⟩, .int .i64 0], .int .i64 0, .int .i64 2]) ∧ Below w.heap.size w w' := by
  have := take_any ⟨#[37, 3]⟩ 0 33 w (by decide)
  rwa [show takeR ⟨#[37, 3]⟩ 0 33 = .tuple #[.agg #[.string ⟨#[]⟩, .int .i64 0], .int .i64 0, .int .i64 2] from by kernel_rfl] at this
theorem k_peek (w : World) : Calls Try.prog 29 #[.agg #[.string ⟨#[37, 3]⟩, .int .i64 0], .int .i64 32] w fun e w' => e = .returned (.tuple #[.int .i64 805, .int .i64 0]) ∧ Below w.heap.size w w' := by
  have := Peek_any ⟨#[37, 3]⟩ 0 32 w (by decide)
  rwa [show peekR ⟨#[37, 3]⟩ 0 32 = .tuple #[.int .i64 805, .int .i64 0] from by kernel_rfl] at this
theorem k_left (w : World) : Calls Try.prog 31 #[.agg #[.string ⟨#[37, 3]⟩, .int .i64 0]] w fun e w' => e = .returned (.tuple #[.int .i64 16, .int .i64 0]) ∧ Below w.heap.size w w' := by
  have := left_any ⟨#[37, 3]⟩ 0 w (by decide)
  rwa [show leftR ⟨#[37, 3]⟩ 0 = .tuple #[.int .i64 16, .int .i64 0] from by kernel_rfl] at this
theorem k_next1 (w : World) : Calls Try.prog 33 #[.agg #[.string ⟨#[37, 3]⟩, .int .i64 3]] w fun e w' => e = .returned (.tuple #[.int .i64 1, .int .i64 0]) ∧ Below w.heap.size w w' := by
  have := next_any ⟨#[37, 3]⟩ 3 w (by decide)
  rwa [show nextR ⟨#[37, 3]⟩ 3 = .tuple #[.int .i64 1, .int .i64 0] from by kernel_rfl] at this
theorem k_next2 (w : World) : Calls Try.prog 33 #[.agg #[.string ⟨#[37, 3]⟩, .int .i64 8]] w fun e w' => e = .returned (.tuple #[.int .i64 1, .int .i64 0]) ∧ Below w.heap.size w w' := by
  have := next_any ⟨#[37, 3]⟩ 8 w (by decide)
  rwa [show nextR ⟨#[37, 3]⟩ 8 = .tuple #[.int .i64 1, .int .i64 0] from by kernel_rfl] at this
theorem k_put1 (w : World) : Calls Try.prog 17 #[.agg #[.string ⟨#[]⟩, .int .i64 0, .int .i64 0], .int .i64 3, .int .i64 8] w fun e w' => e = .returned (.tuple #[.agg #[.string ⟨#[]⟩, .int .i64 0, .int .i64 0], .int .i64 2]) ∧ Below w.heap.size w w' := by
  have := put_any ⟨#[]⟩ 0 0 3 8 w
  rwa [show putR ⟨#[]⟩ 0 0 3 8 = .tuple #[.agg #[.string ⟨#[]⟩, .int .i64 0, .int .i64 0], .int .i64 2] from by kernel_rfl] at this
theorem k_put2 (w : World) : Calls Try.prog 17 #[.agg #[.string ⟨#[]⟩, .int .i64 0, .int .i64 0], .int .i64 33, .int .i64 0] w fun e w' => e = .returned (.tuple #[.agg #[.string ⟨#[]⟩, .int .i64 0, .int .i64 0], .int .i64 2]) ∧ Below w.heap.size w w' := by
  have := put_any ⟨#[]⟩ 0 0 33 0 w
  rwa [show putR ⟨#[]⟩ 0 0 33 0 = .tuple #[.agg #[.string ⟨#[]⟩, .int .i64 0, .int .i64 0], .int .i64 2] from by kernel_rfl] at this
theorem k_read1 (w : World) : Calls Try.prog 25 #[.string ⟨#[97]⟩, .int .i64 2] w fun e w' => e = .returned (.tuple #[.agg #[.string ⟨#[]⟩, .int .i64 0], .int .i64 2]) ∧ Below w.heap.size w w' := by
  have := read_any ⟨#[97]⟩ 2 w (by decide)
  rwa [show readR ⟨#[97]⟩ 2 = .tuple #[.agg #[.string ⟨#[]⟩, .int .i64 0], .int .i64 2] from by kernel_rfl] at this
theorem k_align (w : World) : Calls Try.prog 19 #[.agg #[.string ⟨#[]⟩, .int .i64 5, .int .i64 3]] w fun e w' => e = .returned (.tuple #[.agg #[.string ⟨#[5]⟩, .int .i64 0, .int .i64 0], .int .i64 0]) ∧ Below w.heap.size w w' := by
  have := align_any ⟨#[]⟩ 5 3 w
  rwa [show alignR ⟨#[]⟩ 5 3 = .tuple #[.agg #[.string ⟨#[5]⟩, .int .i64 0, .int .i64 0], .int .i64 0] from by kernel_rfl] at this

set_option maxRecDepth 100000 in
set_option maxHeartbeats 4000000 in
theorem known_any (w : World) : Calls Try.prog 5 #[] w fun e w' => e = .returned (.bool true) ∧ Below w.heap.size w w' := by
  go_enter Try.func5, Try.ntmps5
  go_wp2_with fail
  refine (k_read0 _).mono ?_
  rintro e w1 ⟨rfl, hb⟩
  have hz1 := hb.size
  try simp only [World.size_alloc, World.size_setCell, World.size_drew] at hz1
  have HW1 : Hid (Below w.heap.size w w1) := by
    refine Lib.hid (Below.trans ?_ (hb.mono ?_))
    · go_grown
    · try simp
      try omega
  clear hb
  go_wp2_with fail
  refine (k_take1 _).mono ?_
  rintro e w2 ⟨rfl, hb⟩
  have hz2 := hb.size
  try simp only [World.size_alloc, World.size_setCell, World.size_drew] at hz2
  have HW2 : Hid (Below w.heap.size w w2) := by
    have h0 := HW1.out
    have h1 := h0.size
    refine Lib.hid (Below.trans ?_ (hb.mono ?_))
    · go_grown
    · try simp
      try omega
  have bA : Blk w2 (w1.heap.size) 34 #[.string ⟨#[37, 3]⟩, .int .i64 0] := Blk.below (by (repeat' (first | (with_reducible exact Blk.new _ _ _) | (with_reducible exact Blk.new_at _ _ _ _ (by (simp <;> omega))) | (with_reducible refine Blk.drew ?_) | (with_reducible refine Blk.alloc ?_ _) | (with_reducible refine Blk.far ?_ (by (simp <;> omega)) _)))) hb (by (try simp only [World.size_alloc, World.size_setCell, World.size_drew]); omega)
  have cA0 := bA.cell 0
  have cA1 := bA.cell 1
  simp only [List.getElem?_toArray, List.getElem?_cons_zero, List.getElem?_cons_succ] at cA0 cA1
  have fA0 := bA.frozen 0
  have fA1 := bA.frozen 1
  have lA := bA.lt
  have HA := Lib.hid bA
  clear bA
  clear hb
  go_wp2_with fail
  refine (k_take2 _).mono ?_
  rintro e w3 ⟨rfl, hb⟩
  have hz3 := hb.size
  try simp only [World.size_alloc, World.size_setCell, World.size_drew] at hz3
  have HW3 : Hid (Below w.heap.size w w3) := by
    have h0 := HW2.out
    have h1 := h0.size
    refine Lib.hid (Below.trans ?_ (hb.mono ?_))
    · go_grown
    · try simp
      try omega
  have bB : Blk w3 (w2.heap.size) 34 #[.string ⟨#[37, 3]⟩, .int .i64 3] := Blk.below (by (repeat' (first | (with_reducible exact Blk.new _ _ _) | (with_reducible exact Blk.new_at _ _ _ _ (by (simp <;> omega))) | (with_reducible refine Blk.drew ?_) | (with_reducible refine Blk.alloc ?_ _) | (with_reducible refine Blk.far ?_ (by (simp <;> omega)) _)))) hb (by (try simp only [World.size_alloc, World.size_setCell, World.size_drew]); omega)
  have cB0 := bB.cell 0
  have cB1 := bB.cell 1
  simp only [List.getElem?_toArray, List.getElem?_cons_zero, List.getElem?_cons_succ] at cB0 cB1
  have fB0 := bB.frozen 0
  have fB1 := bB.frozen 1
  have lB := bB.lt
  have HB := Lib.hid bB
  clear bB
  have bA := Blk.next HA (fun h => by (repeat' (first | (with_reducible exact h) | (with_reducible refine Blk.drew ?_) | (with_reducible refine Blk.drewN ?_ _) | (with_reducible refine Blk.alloc ?_ _) | (with_reducible refine Blk.far ?_ (by (simp <;> omega)) _)))) hb (by have := HA.out.lt; (try simp only [World.size_alloc, World.size_setCell, World.size_drew]); omega)
  clear HA lA cA0 fA0 cA1 fA1
  have cA0 := bA.cell 0
  have cA1 := bA.cell 1
  simp only [List.getElem?_toArray, List.getElem?_cons_zero, List.getElem?_cons_succ] at cA0 cA1
  have fA0 := bA.frozen 0
  have fA1 := bA.frozen 1
  have lA := bA.lt
  have HA := Lib.hid bA
  clear bA
  clear hb
  go_wp2_with fail
  refine (k_take3 _).mono ?_
  rintro e w4 ⟨rfl, hb⟩
  have hz4 := hb.size
  try simp only [World.size_alloc, World.size_setCell, World.size_drew] at hz4
  have HW4 : Hid (Below w.heap.size w w4) := by
    have h0 := HW3.out
    have h1 := h0.size
    refine Lib.hid (Below.trans ?_ (hb.mono ?_))
    · go_grown
    · try simp
      try omega
  have bA := Blk.next HA (fun h => by (repeat' (first | (with_reducible exact h) | (with_reducible refine Blk.drew ?_) | (with_reducible refine Blk.drewN ?_ _) | (with_reducible refine Blk.alloc ?_ _) | (with_reducible refine Blk.far ?_ (by (simp <;> omega)) _)))) hb (by have := HA.out.lt; (try simp only [World.size_alloc, World.size_setCell, World.size_drew]); omega)
  clear HA lA cA0 fA0 cA1 fA1
  have cA0 := bA.cell 0
  have cA1 := bA.cell 1
  simp only [List.getElem?_toArray, List.getElem?_cons_zero, List.getElem?_cons_succ] at cA0 cA1
  have fA0 := bA.frozen 0
  have fA1 := bA.frozen 1
  have lA := bA.lt
  have HA := Lib.hid bA
  clear bA
  have bB := Blk.next HB (fun h => by (repeat' (first | (with_reducible exact h) | (with_reducible refine Blk.drew ?_) | (with_reducible refine Blk.drewN ?_ _) | (with_reducible refine Blk.alloc ?_ _) | (with_reducible refine Blk.far ?_ (by (simp <;> omega)) _)))) hb (by have := HB.out.lt; (try simp only [World.size_alloc, World.size_setCell, World.size_drew]); omega)
  clear HB lB cB0 fB0 cB1 fB1
  have cB0 := bB.cell 0
  have cB1 := bB.cell 1
  simp only [List.getElem?_toArray, List.getElem?_cons_zero, List.getElem?_cons_succ] at cB0 cB1
  have fB0 := bB.frozen 0
  have fB1 := bB.frozen 1
  have lB := bB.lt
  have HB := Lib.hid bB
  clear bB
  clear hb
  go_wp2_with fail
  refine (k_peek _).mono ?_
  rintro e w5 ⟨rfl, hb⟩
  have hz5 := hb.size
  try simp only [World.size_alloc, World.size_setCell, World.size_drew] at hz5
  have HW5 : Hid (Below w.heap.size w w5) := by
    have h0 := HW4.out
    have h1 := h0.size
    refine Lib.hid (Below.trans ?_ (hb.mono ?_))
    · go_grown
    · try simp
      try omega
  have bA := Blk.next HA (fun h => by (repeat' (first | (with_reducible exact h) | (with_reducible refine Blk.drew ?_) | (with_reducible refine Blk.drewN ?_ _) | (with_reducible refine Blk.alloc ?_ _) | (with_reducible refine Blk.far ?_ (by (simp <;> omega)) _)))) hb (by have := HA.out.lt; (try simp only [World.size_alloc, World.size_setCell, World.size_drew]); omega)
  clear HA lA cA0 fA0 cA1 fA1
  have cA0 := bA.cell 0
  have cA1 := bA.cell 1
  simp only [List.getElem?_toArray, List.getElem?_cons_zero, List.getElem?_cons_succ] at cA0 cA1
  have fA0 := bA.frozen 0
  have fA1 := bA.frozen 1
  have lA := bA.lt
  have HA := Lib.hid bA
  clear bA
  have bB := Blk.next HB (fun h => by (repeat' (first | (with_reducible exact h) | (with_reducible refine Blk.drew ?_) | (with_reducible refine Blk.drewN ?_ _) | (with_reducible refine Blk.alloc ?_ _) | (with_reducible refine Blk.far ?_ (by (simp <;> omega)) _)))) hb (by have := HB.out.lt; (try simp only [World.size_alloc, World.size_setCell, World.size_drew]); omega)
  clear HB lB cB0 fB0 cB1 fB1
  have cB0 := bB.cell 0
  have cB1 := bB.cell 1
  simp only [List.getElem?_toArray, List.getElem?_cons_zero, List.getElem?_cons_succ] at cB0 cB1
  have fB0 := bB.frozen 0
  have fB1 := bB.frozen 1
  have lB := bB.lt
  have HB := Lib.hid bB
  clear bB
  clear hb
  go_wp2_with fail
  refine (k_left _).mono ?_
  rintro e w6 ⟨rfl, hb⟩
  have hz6 := hb.size
  try simp only [World.size_alloc, World.size_setCell, World.size_drew] at hz6
  have HW6 : Hid (Below w.heap.size w w6) := by
    have h0 := HW5.out
    have h1 := h0.size
    refine Lib.hid (Below.trans ?_ (hb.mono ?_))
    · go_grown
    · try simp
      try omega
  have bA := Blk.next HA (fun h => by (repeat' (first | (with_reducible exact h) | (with_reducible refine Blk.drew ?_) | (with_reducible refine Blk.drewN ?_ _) | (with_reducible refine Blk.alloc ?_ _) | (with_reducible refine Blk.far ?_ (by (simp <;> omega)) _)))) hb (by have := HA.out.lt; (try simp only [World.size_alloc, World.size_setCell, World.size_drew]); omega)
  clear HA lA cA0 fA0 cA1 fA1
  have cA0 := bA.cell 0
  have cA1 := bA.cell 1
  simp only [List.getElem?_toArray, List.getElem?_cons_zero, List.getElem?_cons_succ] at cA0 cA1
  have fA0 := bA.frozen 0
  have fA1 := bA.frozen 1
  have lA := bA.lt
  have HA := Lib.hid bA
  clear bA
  have bB := Blk.next HB (fun h => by (repeat' (first | (with_reducible exact h) | (with_reducible refine Blk.drew ?_) | (with_reducible refine Blk.drewN ?_ _) | (with_reducible refine Blk.alloc ?_ _) | (with_reducible refine Blk.far ?_ (by (simp <;> omega)) _)))) hb (by have := HB.out.lt; (try simp only [World.size_alloc, World.size_setCell, World.size_drew]); omega)
  clear HB lB cB0 fB0 cB1 fB1
  have cB0 := bB.cell 0
  have cB1 := bB.cell 1
  simp only [List.getElem?_toArray, List.getElem?_cons_zero, List.getElem?_cons_succ] at cB0 cB1
  have fB0 := bB.frozen 0
  have fB1 := bB.frozen 1
  have lB := bB.lt
  have HB := Lib.hid bB
  clear bB
  clear hb
  go_wp2_with fail
  refine (k_next1 _).mono ?_
  rintro e w7 ⟨rfl, hb⟩
  have hz7 := hb.size
  try simp only [World.size_alloc, World.size_setCell, World.size_drew] at hz7
  have HW7 : Hid (Below w.heap.size w w7) := by
    have h0 := HW6.out
    have h1 := h0.size
    refine Lib.hid (Below.trans ?_ (hb.mono ?_))
    · go_grown
    · try simp
      try omega
  have bA := Blk.next HA (fun h => by (repeat' (first | (with_reducible exact h) | (with_reducible refine Blk.drew ?_) | (with_reducible refine Blk.drewN ?_ _) | (with_reducible refine Blk.alloc ?_ _) | (with_reducible refine Blk.far ?_ (by (simp <;> omega)) _)))) hb (by have := HA.out.lt; (try simp only [World.size_alloc, World.size_setCell, World.size_drew]); omega)
  clear HA lA cA0 fA0 cA1 fA1
  have cA0 := bA.cell 0
  have cA1 := bA.cell 1
  simp only [List.getElem?_toArray, List.getElem?_cons_zero, List.getElem?_cons_succ] at cA0 cA1
  have fA0 := bA.frozen 0
  have fA1 := bA.frozen 1
  have lA := bA.lt
  have HA := Lib.hid bA
  clear bA
  clear hb
  go_wp2_with fail
  refine (k_next2 _).mono ?_
  rintro e w8 ⟨rfl, hb⟩
  have hz8 := hb.size
  try simp only [World.size_alloc, World.size_setCell, World.size_drew] at hz8
  have HW8 : Hid (Below w.heap.size w w8) := by
    have h0 := HW7.out
    have h1 := h0.size
    refine Lib.hid (Below.trans ?_ (hb.mono ?_))
    · go_grown
    · try simp
      try omega
  have bA := Blk.next HA (fun h => by (repeat' (first | (with_reducible exact h) | (with_reducible refine Blk.drew ?_) | (with_reducible refine Blk.drewN ?_ _) | (with_reducible refine Blk.alloc ?_ _) | (with_reducible refine Blk.far ?_ (by (simp <;> omega)) _)))) hb (by have := HA.out.lt; (try simp only [World.size_alloc, World.size_setCell, World.size_drew]); omega)
  clear HA lA cA0 fA0 cA1 fA1
  have cA0 := bA.cell 0
  have cA1 := bA.cell 1
  simp only [List.getElem?_toArray, List.getElem?_cons_zero, List.getElem?_cons_succ] at cA0 cA1
  have fA0 := bA.frozen 0
  have fA1 := bA.frozen 1
  have lA := bA.lt
  have HA := Lib.hid bA
  clear bA
  clear hb
  go_wp2_with fail
  refine (k_put1 _).mono ?_
  rintro e w9 ⟨rfl, hb⟩
  have hz9 := hb.size
  try simp only [World.size_alloc, World.size_setCell, World.size_drew] at hz9
  have HW9 : Hid (Below w.heap.size w w9) := by
    have h0 := HW8.out
    have h1 := h0.size
    refine Lib.hid (Below.trans ?_ (hb.mono ?_))
    · go_grown
    · try simp
      try omega
  have bA := Blk.next HA (fun h => by (repeat' (first | (with_reducible exact h) | (with_reducible refine Blk.drew ?_) | (with_reducible refine Blk.drewN ?_ _) | (with_reducible refine Blk.alloc ?_ _) | (with_reducible refine Blk.far ?_ (by (simp <;> omega)) _)))) hb (by have := HA.out.lt; (try simp only [World.size_alloc, World.size_setCell, World.size_drew]); omega)
  clear HA lA cA0 fA0 cA1 fA1
  have cA0 := bA.cell 0
  have cA1 := bA.cell 1
  simp only [List.getElem?_toArray, List.getElem?_cons_zero, List.getElem?_cons_succ] at cA0 cA1
  have fA0 := bA.frozen 0
  have fA1 := bA.frozen 1
  have lA := bA.lt
  have HA := Lib.hid bA
  clear bA
  clear hb
  go_wp2_with fail
  refine (k_put2 _).mono ?_
  rintro e w10 ⟨rfl, hb⟩
  have hz10 := hb.size
  try simp only [World.size_alloc, World.size_setCell, World.size_drew] at hz10
  have HW10 : Hid (Below w.heap.size w w10) := by
    have h0 := HW9.out
    have h1 := h0.size
    refine Lib.hid (Below.trans ?_ (hb.mono ?_))
    · go_grown
    · try simp
      try omega
  have bA := Blk.next HA (fun h => by (repeat' (first | (with_reducible exact h) | (with_reducible refine Blk.drew ?_) | (with_reducible refine Blk.drewN ?_ _) | (with_reducible refine Blk.alloc ?_ _) | (with_reducible refine Blk.far ?_ (by (simp <;> omega)) _)))) hb (by have := HA.out.lt; (try simp only [World.size_alloc, World.size_setCell, World.size_drew]); omega)
  clear HA lA cA0 fA0 cA1 fA1
  have cA0 := bA.cell 0
  have cA1 := bA.cell 1
  simp only [List.getElem?_toArray, List.getElem?_cons_zero, List.getElem?_cons_succ] at cA0 cA1
  have fA0 := bA.frozen 0
  have fA1 := bA.frozen 1
  have lA := bA.lt
  have HA := Lib.hid bA
  clear bA
  clear hb
  go_wp2_with fail
  refine (k_take4 _).mono ?_
  rintro e w11 ⟨rfl, hb⟩
  have hz11 := hb.size
  try simp only [World.size_alloc, World.size_setCell, World.size_drew] at hz11
  have HW11 : Hid (Below w.heap.size w w11) := by
    have h0 := HW10.out
    have h1 := h0.size
    refine Lib.hid (Below.trans ?_ (hb.mono ?_))
    · go_grown
    · try simp
      try omega
  clear hb
  go_wp2_with fail
  refine (k_read1 _).mono ?_
  rintro e w12 ⟨rfl, hb⟩
  have hz12 := hb.size
  try simp only [World.size_alloc, World.size_setCell, World.size_drew] at hz12
  have HW12 : Hid (Below w.heap.size w w12) := by
    have h0 := HW11.out
    have h1 := h0.size
    refine Lib.hid (Below.trans ?_ (hb.mono ?_))
    · go_grown
    · try simp
      try omega
  clear hb
  go_wp2_with fail
  refine (k_align _).mono ?_
  rintro e w13 ⟨rfl, hb⟩
  have hz13 := hb.size
  try simp only [World.size_alloc, World.size_setCell, World.size_drew] at hz13
  have HW13 : Hid (Below w.heap.size w w13) := by
    have h0 := HW12.out
    have h1 := h0.size
    refine Lib.hid (Below.trans ?_ (hb.mono ?_))
    · go_grown
    · try simp
      try omega
  clear hb
  go_wp2_with fail
  refine (awake_any _).mono ?_
  rintro e w14 ⟨rfl, hb⟩
  have hz14 := hb.size
  try simp only [World.size_alloc, World.size_setCell, World.size_drew] at hz14
  have HW14 : Hid (Below w.heap.size w w14) := by
    have h0 := HW13.out
    have h1 := h0.size
    refine Lib.hid (Below.trans ?_ (hb.mono ?_))
    · go_grown
    · try simp
      try omega
  have bA : Blk w14 (w13.heap.size) 23 #[.string ⟨#[5]⟩, .int .i64 0, .int .i64 0] := Blk.below (by (repeat' (first | (with_reducible exact Blk.new _ _ _) | (with_reducible exact Blk.new_at _ _ _ _ (by (simp <;> omega))) | (with_reducible refine Blk.drew ?_) | (with_reducible refine Blk.alloc ?_ _) | (with_reducible refine Blk.far ?_ (by (simp <;> omega)) _)))) hb (by (try simp only [World.size_alloc, World.size_setCell, World.size_drew]); omega)
  have cA0 := bA.cell 0
  have cA1 := bA.cell 1
  have cA2 := bA.cell 2
  simp only [List.getElem?_toArray, List.getElem?_cons_zero, List.getElem?_cons_succ] at cA0 cA1 cA2
  have fA0 := bA.frozen 0
  have fA1 := bA.frozen 1
  have fA2 := bA.frozen 2
  have lA := bA.lt
  have HA := Lib.hid bA
  clear bA
  clear hb
  go_wp2
  go_ret
  exact ⟨rfl, HW14.out⟩
end Go.Proofs.Ytafabheehkmfhaa

/-
  The laws' own helpers of chapter 02: shown, taken, awake. Conditions: none.
-/
import Derived.Test.YtafabheehkmfhaaBitsV
namespace Go.Proofs.Ytafabheehkmfhaa
open Go.RowKit Go.PlainAid
set_option linter.unusedVariables false
set_option linter.unusedSimpArgs false

theorem put_c1 (w : World) : Calls Try.prog 17 #[.agg #[.string ⟨#[]⟩, .int .i64 0, .int .i64 0], .int .i64 3, .int .i64 5] w fun e w' => e = .returned (.tuple #[.agg #[.string ⟨#[]⟩, .int .i64 5, .int .i64 3], .int .i64 0]) ∧ Below w.heap.size w w' := by
  have := put_any ⟨#[]⟩ 0 0 3 5 w
  rwa [show putR ⟨#[]⟩ 0 0 3 5 = .tuple #[.agg #[.string ⟨#[]⟩, .int .i64 5, .int .i64 3], .int .i64 0] from by kernel_rfl] at this
theorem put_c2 (w : World) : Calls Try.prog 17 #[.agg #[.string ⟨#[]⟩, .int .i64 5, .int .i64 3], .int .i64 7, .int .i64 100] w fun e w' => e = .returned (.tuple #[.agg #[.string ⟨#[37]⟩, .int .i64 3, .int .i64 2], .int .i64 0]) ∧ Below w.heap.size w w' := by
  have := put_any ⟨#[]⟩ 5 3 7 100 w
  rwa [show putR ⟨#[]⟩ 5 3 7 100 = .tuple #[.agg #[.string ⟨#[37]⟩, .int .i64 3, .int .i64 2], .int .i64 0] from by kernel_rfl] at this
theorem done_c1 (w : World) : Calls Try.prog 21 #[.agg #[.string ⟨#[37]⟩, .int .i64 3, .int .i64 2]] w fun e w' => e = .returned (.tuple #[.string ⟨#[37, 3]⟩, .int .i64 0]) ∧ Below w.heap.size w w' := by
  refine done_of _ _ _ _ 0 0 0 w fun w => ?_
  have := align_any ⟨#[37]⟩ 3 2 w
  rwa [show alignR ⟨#[37]⟩ 3 2 = .tuple #[.agg #[.string ⟨#[37, 3]⟩, .int .i64 0, .int .i64 0], .int .i64 0] from by kernel_rfl] at this
set_option maxHeartbeats 1000000 in
theorem shown_any (w : World) : Calls Try.prog 56 #[] w fun e w' => e = .returned (.tuple #[.agg #[.string ⟨#[37]⟩, .int .i64 3, .int .i64 2], .bool true]) ∧ Below w.heap.size w w' := by
  go_enter Try.func56, Try.ntmps56
  go_wp2_with fail
  refine (put_c1 _).mono ?_
  rintro e w1 ⟨rfl, hb⟩
  have hz1 := hb.size
  try simp only [World.size_alloc, World.size_setCell, World.size_drew] at hz1
  have HW1 : Hid (Below w.heap.size w w1) := by
    refine Lib.hid (Below.trans ?_ (hb.mono ?_))
    · go_grown
    · try simp
      try omega
  have bZ : Blk w1 (w.heap.size) 23 #[.string ⟨#[]⟩, .int .i64 0, .int .i64 0] := Blk.below (by (repeat' (first | (with_reducible exact Blk.new _ _ _) | (with_reducible exact Blk.new_at _ _ _ _ (by (simp <;> omega))) | (with_reducible refine Blk.drew ?_) | (with_reducible refine Blk.alloc ?_ _) | (with_reducible refine Blk.far ?_ (by (simp <;> omega)) _)))) hb (by (try simp only [World.size_alloc, World.size_setCell, World.size_drew]); omega)
  have cZ0 := bZ.cell 0
  have cZ1 := bZ.cell 1
  have cZ2 := bZ.cell 2
  simp only [List.getElem?_toArray, List.getElem?_cons_zero, List.getElem?_cons_succ] at cZ0 cZ1 cZ2
  have fZ0 := bZ.frozen 0
  have fZ1 := bZ.frozen 1
  have fZ2 := bZ.frozen 2
  have lZ := bZ.lt
  have HZ := Lib.hid bZ
  clear bZ
  clear hb
  go_wp2_with fail
  refine (put_c2 _).mono ?_
  rintro e w2 ⟨rfl, hb⟩
  have hz2 := hb.size
  try simp only [World.size_alloc, World.size_setCell, World.size_drew] at hz2
  have HW2 : Hid (Below w.heap.size w w2) := by
    have h0 := HW1.out
    have h1 := h0.size
    refine Lib.hid (Below.trans ?_ (hb.mono ?_))
    · go_grown
    · try simp
      try omega
  have bX : Blk w2 (w1.heap.size) 23 #[.string ⟨#[]⟩, .int .i64 5, .int .i64 3] := Blk.below (by (repeat' (first | (with_reducible exact Blk.new _ _ _) | (with_reducible exact Blk.new_at _ _ _ _ (by (simp <;> omega))) | (with_reducible refine Blk.drew ?_) | (with_reducible refine Blk.alloc ?_ _) | (with_reducible refine Blk.far ?_ (by (simp <;> omega)) _)))) hb (by (try simp only [World.size_alloc, World.size_setCell, World.size_drew]); omega)
  have cX0 := bX.cell 0
  have cX1 := bX.cell 1
  have cX2 := bX.cell 2
  simp only [List.getElem?_toArray, List.getElem?_cons_zero, List.getElem?_cons_succ] at cX0 cX1 cX2
  have fX0 := bX.frozen 0
  have fX1 := bX.frozen 1
  have fX2 := bX.frozen 2
  have lX := bX.lt
  have HX := Lib.hid bX
  clear bX
  have bZ := Blk.next HZ (fun h => by (repeat' (first | (with_reducible exact h) | (with_reducible refine Blk.drew ?_) | (with_reducible refine Blk.drewN ?_ _) | (with_reducible refine Blk.alloc ?_ _) | (with_reducible refine Blk.far ?_ (by (simp <;> omega)) _)))) hb (by have := HZ.out.lt; (try simp only [World.size_alloc, World.size_setCell, World.size_drew]); omega)
  clear HZ lZ cZ0 fZ0 cZ1 fZ1 cZ2 fZ2
  have cZ0 := bZ.cell 0
  have cZ1 := bZ.cell 1
  have cZ2 := bZ.cell 2
  simp only [List.getElem?_toArray, List.getElem?_cons_zero, List.getElem?_cons_succ] at cZ0 cZ1 cZ2
  have fZ0 := bZ.frozen 0
  have fZ1 := bZ.frozen 1
  have fZ2 := bZ.frozen 2
  have lZ := bZ.lt
  have HZ := Lib.hid bZ
  clear bZ
  clear hb
  go_wp2
  refine bodyPost_ret (by simp [results, Try.results56, go_sem, *]; try rfl) rfl ?_
  refine ⟨rfl, ?_⟩
  have h0 := HW2.out
  have h1 := h0.size
  go_grown

/-- the answer of 'taken': is the number of n bits this one? -/
def takenB (s : ByteArray) (b n want : Int) : Bool := takeE s b n == 0 && ((peekN s b.toNat n.toNat : Nat) : Int) == want
theorem take_ok (s : ByteArray) (b n : Int) (w : World) (hs : s.size ≤ 9223372036854775807) (h : takeE s b n = 0) :
    Calls Try.prog 27 #[.agg #[.string s, .int .i64 b], .int .i64 n] w fun e w' => e = .returned (.tuple #[.agg #[.string s, .int .i64 (b + n)], .int .i64 (peekN s b.toNat n.toNat), .int .i64 0]) ∧ Below w.heap.size w w' := by
  have := take_any s b n w hs
  unfold takeR at this
  rwa [if_pos h] at this
theorem take_no (s : ByteArray) (b n c : Int) (w : World) (hs : s.size ≤ 9223372036854775807) (h : takeE s b n = c) (h0 : c ≠ 0) :
    Calls Try.prog 27 #[.agg #[.string s, .int .i64 b], .int .i64 n] w fun e w' => e = .returned (.tuple #[.agg #[.string ⟨#[]⟩, .int .i64 0], .int .i64 0, .int .i64 c]) ∧ Below w.heap.size w w' := by
  have := take_any s b n w hs
  unfold takeR at this
  rwa [h, if_neg h0] at this
set_option maxHeartbeats 1000000 in
theorem taken_true (s : ByteArray) (b n want : Int) (w : World) (hs : s.size ≤ 9223372036854775807) (h : takeE s b n = 0) (hw : ((peekN s b.toNat n.toNat : Nat) : Int) = want) :
    Calls Try.prog 57 #[.agg #[.string s, .int .i64 b], .int .i64 n, .int .i64 want] w fun e w' => e = .returned (.bool true) ∧ Below w.heap.size w w' := by
  have Hh := Lib.hid h
  have Hw := Lib.hid hw
  clear h hw
  go_enter Try.func57, Try.ntmps57
  go_wp2_with fail
  refine (take_ok s b n _ hs Hh.out).mono ?_
  rintro e w1 ⟨rfl, hb⟩
  rw [Hw.out]
  have hz1 := hb.size
  try simp only [World.size_alloc, World.size_setCell, World.size_drew] at hz1
  have HW1 : Hid (Below w.heap.size w w1) := by
    refine Lib.hid (Below.trans ?_ (hb.mono ?_))
    · go_grown
    · try simp
      try omega
  clear hb
  go_wp2
  go_ret
  refine ⟨by simp, ?_⟩
  have h0 := HW1.out
  have h1 := h0.size
  go_grown
set_option maxHeartbeats 1000000 in
theorem awake_any (w : World) : Calls Try.prog 14 #[] w fun e w' => e = .returned (.bool true) ∧ Below w.heap.size w w' := by
  go_enter Try.func14, Try.ntmps14
  go_wp2_with fail
  refine (shown_any _).mono ?_
  rintro e w1 ⟨rfl, hb⟩
  have hz1 := hb.size
  try simp only [World.size_alloc, World.size_setCell, World.size_drew] at hz1
  have HW1 : Hid (Below w.heap.size w w1) := by
    refine Lib.hid (Below.trans ?_ (hb.mono ?_))
    · go_grown
    · try simp
      try omega
  clear hb
  go_wp2_with fail
  refine (done_c1 _).mono ?_
  rintro e w2 ⟨rfl, hb⟩
  have hz2 := hb.size
  try simp only [World.size_alloc, World.size_setCell, World.size_drew] at hz2
  have HW2 : Hid (Below w.heap.size w w2) := by
    have h0 := HW1.out
    have h1 := h0.size
    refine Lib.hid (Below.trans ?_ (hb.mono ?_))
    · go_grown
    · try simp
      try omega
  have bX : Blk w2 (w1.heap.size) 23 #[.string ⟨#[37]⟩, .int .i64 3, .int .i64 2] := Blk.below (by (repeat' (first | (with_reducible exact Blk.new _ _ _) | (with_reducible exact Blk.new_at _ _ _ _ (by (simp <;> omega))) | (with_reducible refine Blk.drew ?_) | (with_reducible refine Blk.alloc ?_ _) | (with_reducible refine Blk.far ?_ (by (simp <;> omega)) _)))) hb (by (try simp only [World.size_alloc, World.size_setCell, World.size_drew]); omega)
  have cX0 := bX.cell 0
  have cX1 := bX.cell 1
  have cX2 := bX.cell 2
  simp only [List.getElem?_toArray, List.getElem?_cons_zero, List.getElem?_cons_succ] at cX0 cX1 cX2
  have fX0 := bX.frozen 0
  have fX1 := bX.frozen 1
  have fX2 := bX.frozen 2
  have lX := bX.lt
  have HX := Lib.hid bX
  clear bX
  clear hb
  go_wp2_with fail
  refine (taken_true _ _ _ _ _ (by decide) (by kernel_rfl) (by kernel_rfl)).mono ?_
  rintro e w3 ⟨rfl, hb⟩
  have hz3 := hb.size
  try simp only [World.size_alloc, World.size_setCell, World.size_drew] at hz3
  have HW3 : Hid (Below w.heap.size w w3) := by
    have h0 := HW2.out
    have h1 := h0.size
    refine Lib.hid (Below.trans ?_ (hb.mono ?_))
    · go_grown
    · try simp
      try omega
  clear hb
  go_wp2
  go_ret
  exact ⟨rfl, HW3.out⟩
end Go.Proofs.Ytafabheehkmfhaa

/-
  BitsReads: the walk. Conditions: the numbers are of int's range, the string's length fits.
-/
import Derived.Test.YtafabheehkmfhaaBitsL
import Derived.Test.YtafabheehkmfhaaIn
namespace Go.Proofs.Ytafabheehkmfhaa
open Go.RowKit Go.PlainAid
set_option linter.unusedVariables false
set_option linter.unusedSimpArgs false

theorem readR_form (s : ByteArray) (b : Int) : ∃ (s2 : ByteArray) (b2 c : Int), readR s b = .tuple #[.agg #[.string s2, .int .i64 b2], .int .i64 c] := by
  unfold readR
  split
  · exact ⟨_, _, _, rfl⟩
  · split <;> exact ⟨_, _, _, rfl⟩
theorem takeR_form (s : ByteArray) (b n : Int) : ∃ (s2 : ByteArray) (b2 x c : Int), takeR s b n = .tuple #[.agg #[.string s2, .int .i64 b2], .int .i64 x, .int .i64 c] := by
  unfold takeR
  split <;> exact ⟨_, _, _, _, rfl⟩
theorem peekR_form (s : ByteArray) (b n : Int) : ∃ (x c : Int), peekR s b n = .tuple #[.int .i64 x, .int .i64 c] := by
  unfold peekR
  split <;> exact ⟨_, _, rfl⟩
theorem leftR_form (s : ByteArray) (b : Int) : ∃ (x c : Int), leftR s b = .tuple #[.int .i64 x, .int .i64 c] := by
  unfold leftR
  split <;> exact ⟨_, _, rfl⟩
theorem nextR_form (s : ByteArray) (b : Int) : ∃ (x c : Int), nextR s b = .tuple #[.int .i64 x, .int .i64 c] := by
  unfold nextR
  split <;> exact ⟨_, _, rfl⟩
/-- from 'what is answered' to a named answer -/
theorem ret_is {f : Nat} {args : Array Value} {V V' : Value} {w : World} (h : Calls Try.prog f args w fun e w' => e = .returned V ∧ Below w.heap.size w w') (e : V = V') :
    Calls Try.prog f args w fun e w' => e = .returned V' ∧ Below w.heap.size w w' := by rwa [e] at h

theorem reads_awake (s : ByteArray) (b n at_ : Int) (w : World) (g1 : (60 : Int) < (s.size : Int)) (hs : s.size ≤ 9223372036854775807) :
    Calls Try.prog 4 #[.string s, .int .i64 b, .int .i64 n, .int .i64 at_] w fun e w' => e = .returned (.bool true) ∧ Below w.heap.size w w' := by
  go_enter Try.func4, Try.ntmps4
  go_wp2_with fail
  refine (awake_any _).mono ?_
  rintro e w1 ⟨rfl, hb⟩
  have hz1 := hb.size
  try simp only [World.size_alloc, World.size_setCell, World.size_drew] at hz1
  have HW1 : Hid (Below w.heap.size w w1) := by
    refine Lib.hid (Below.trans ?_ (hb.mono ?_))
    · go_grown
    · try simp
      try omega
  have zw1 := HW1.out.size
  clear hb
  go_wp2
  go_ret
  exact ⟨rfl, HW1.out⟩
set_option maxRecDepth 100000 in
set_option maxHeartbeats 4000000 in
theorem reads_main (s : ByteArray) (b n at_ : Int) (w : World) (g1 : ¬ (60 : Int) < (s.size : Int)) (hs : s.size ≤ 9223372036854775807) :
    Calls Try.prog 4 #[.string s, .int .i64 b, .int .i64 n, .int .i64 at_] w fun e w' => e = .returned (.bool true) ∧ Below w.heap.size w w' := by
  obtain ⟨c, hc⟩ : ∃ c, rchk s b = c := ⟨_, rfl⟩
  obtain ⟨s1, b1, c1, h1⟩ := readR_form s at_
  obtain ⟨s2, b2, x2, c2, h2⟩ := takeR_form s b n
  obtain ⟨x3, c3, h3⟩ := peekR_form s b n
  obtain ⟨x4, c4, h4⟩ := leftR_form s b
  obtain ⟨x5, c5, h5⟩ := nextR_form s b
  have Hc := Lib.hid hc
  have H1 := Lib.hid h1
  have H2 := Lib.hid h2
  have H3 := Lib.hid h3
  have H4 := Lib.hid h4
  have H5 := Lib.hid h5
  clear hc h1 h2 h3 h4 h5
  go_enter Try.func4, Try.ntmps4
  go_wp2_with fail
  go_region_held3 (fun w' => w'.cell? ⟨w.heap.size, 0, none⟩ = some (.string s) ∧ w'.cell? ⟨w.heap.size, 1, none⟩ = some (.int .i64 b) ∧ Blk w' w.heap.size 34 #[.string s, .int .i64 b] ∧ Below w.heap.size w w')
    (first | exact ⟨k0, k1, k3, k4⟩ | (refine ⟨?_, ?_, ?_, ?_⟩ <;> first | (simp [go_sem]; done) | exact (Blk.new _ _ _).drew | exact (Below.alloc (Below.refl _ _) (Nat.le_refl _) _).drew))
    (first | (go_at_call 23; refine (right_is s b c _ hs Hc.out).mono ?_; rintro e w' ⟨rfl, hb⟩; obtain ⟨q0, q1, q3, q4⟩ := ‹_ ∧ _ ∧ Blk _ _ _ _ ∧ Below w.heap.size w _›; have k3 := q3.below hb q3.lt; have k4 := q4.trans (hb.mono (Nat.le_of_lt q3.lt)); have k0 := (k3.cell 0); have k1 := (k3.cell 1); simp only [List.getElem?_toArray, List.getElem?_cons_zero, List.getElem?_cons_succ] at k0 k1) | (go_at_call 24; refine (rright_is s b c _ hs Hc.out).mono ?_; rintro e w' ⟨rfl, hb⟩; obtain ⟨q0, q1, q3, q4⟩ := ‹_ ∧ _ ∧ Blk _ _ _ _ ∧ Below w.heap.size w _›; have k3 := q3.below hb q3.lt; have k4 := q4.trans (hb.mono (Nat.le_of_lt q3.lt)); have k0 := (k3.cell 0); have k1 := (k3.cell 1); simp only [List.getElem?_toArray, List.getElem?_cons_zero, List.getElem?_cons_succ] at k0 k1))
  have HW1 := Lib.hid k4
  have bX := k3
  clear q0 q1 q3 q4 k0 k1 k3 k4 hb
  have cX0 := bX.cell 0
  have cX1 := bX.cell 1
  simp only [List.getElem?_toArray, List.getElem?_cons_zero, List.getElem?_cons_succ] at cX0 cX1
  have fX0 := bX.frozen 0
  have fX1 := bX.frozen 1
  have lX := bX.lt
  have HX := Lib.hid bX
  clear bX
  go_wp2_with fail
  refine (ret_is (read_any s at_ _ hs) H1.out).mono ?_
  rintro e w2 ⟨rfl, hb⟩
  have hz2 := hb.size
  try simp only [World.size_alloc, World.size_setCell, World.size_drew] at hz2
  have HW2 : Hid (Below w.heap.size w w2) := by
    have h0 := HW1.out
    have h1 := h0.size
    refine Lib.hid (Below.trans ?_ (hb.mono ?_))
    · go_grown
    · try simp
      try omega
  have zw2 := HW2.out.size
  have bX := Blk.next HX (fun h => by (repeat' (first | (with_reducible exact h) | (with_reducible refine Blk.drew ?_) | (with_reducible refine Blk.drewN ?_ _) | (with_reducible refine Blk.alloc ?_ _) | (with_reducible refine Blk.far ?_ (by (simp <;> omega)) _)))) hb (by have := HX.out.lt; (try simp only [World.size_alloc, World.size_setCell, World.size_drew]); omega)
  clear HX lX cX0 fX0 cX1 fX1
  have cX0 := bX.cell 0
  have cX1 := bX.cell 1
  simp only [List.getElem?_toArray, List.getElem?_cons_zero, List.getElem?_cons_succ] at cX0 cX1
  have fX0 := bX.frozen 0
  have fX1 := bX.frozen 1
  have lX := bX.lt
  have HX := Lib.hid bX
  clear bX
  have n1 : ¬ w.heap.size = w2.heap.size := by omega
  have n1' : ¬ w2.heap.size = w.heap.size := by omega
  clear hb
  go_wp2_with fail
  refine (ret_is (rread_any s at_ _ hs) H1.out).mono ?_
  rintro e w3 ⟨rfl, hb⟩
  have hz3 := hb.size
  try simp only [World.size_alloc, World.size_setCell, World.size_drew] at hz3
  have HW3 : Hid (Below w.heap.size w w3) := by
    have h0 := HW2.out
    have h1 := h0.size
    refine Lib.hid (Below.trans ?_ (hb.mono ?_))
    · go_grown
    · try simp
      try omega
  have zw3 := HW3.out.size
  have bX := Blk.next HX (fun h => by (repeat' (first | (with_reducible exact h) | (with_reducible refine Blk.drew ?_) | (with_reducible refine Blk.drewN ?_ _) | (with_reducible refine Blk.alloc ?_ _) | (with_reducible refine Blk.far ?_ (by (simp <;> omega)) _)))) hb (by have := HX.out.lt; (try simp only [World.size_alloc, World.size_setCell, World.size_drew]); omega)
  clear HX lX cX0 fX0 cX1 fX1
  have cX0 := bX.cell 0
  have cX1 := bX.cell 1
  simp only [List.getElem?_toArray, List.getElem?_cons_zero, List.getElem?_cons_succ] at cX0 cX1
  have fX0 := bX.frozen 0
  have fX1 := bX.frozen 1
  have lX := bX.lt
  have HX := Lib.hid bX
  clear bX
  have bY : Blk w3 (w2.heap.size) 34 #[.string s1, .int .i64 b1] := Blk.below (by (repeat' (first | (with_reducible exact Blk.new _ _ _) | (with_reducible exact Blk.new_at _ _ _ _ (by (simp <;> omega))) | (with_reducible refine Blk.drew ?_) | (with_reducible refine Blk.alloc ?_ _) | (with_reducible refine Blk.far ?_ (by (simp <;> omega)) _)))) hb (by (try simp only [World.size_alloc, World.size_setCell, World.size_drew]); omega)
  have cY0 := bY.cell 0
  have cY1 := bY.cell 1
  simp only [List.getElem?_toArray, List.getElem?_cons_zero, List.getElem?_cons_succ] at cY0 cY1
  have fY0 := bY.frozen 0
  have fY1 := bY.frozen 1
  have lY := bY.lt
  have HY := Lib.hid bY
  clear bY
  have n2 : ¬ w.heap.size = w3.heap.size := by omega
  have n2' : ¬ w3.heap.size = w.heap.size := by omega
  have n3 : ¬ w2.heap.size = w3.heap.size := by omega
  have n3' : ¬ w3.heap.size = w2.heap.size := by omega
  clear hb
  go_wp2_with fail
  refine (ret_is (take_any s b n _ hs) H2.out).mono ?_
  rintro e w4 ⟨rfl, hb⟩
  have hz4 := hb.size
  try simp only [World.size_alloc, World.size_setCell, World.size_drew] at hz4
  have HW4 : Hid (Below w.heap.size w w4) := by
    have h0 := HW3.out
    have h1 := h0.size
    refine Lib.hid (Below.trans ?_ (hb.mono ?_))
    · go_grown
    · try simp
      try omega
  have zw4 := HW4.out.size
  have bX := Blk.next HX (fun h => by (repeat' (first | (with_reducible exact h) | (with_reducible refine Blk.drew ?_) | (with_reducible refine Blk.drewN ?_ _) | (with_reducible refine Blk.alloc ?_ _) | (with_reducible refine Blk.far ?_ (by (simp <;> omega)) _)))) hb (by have := HX.out.lt; (try simp only [World.size_alloc, World.size_setCell, World.size_drew]); omega)
  clear HX lX cX0 fX0 cX1 fX1
  have cX0 := bX.cell 0
  have cX1 := bX.cell 1
  simp only [List.getElem?_toArray, List.getElem?_cons_zero, List.getElem?_cons_succ] at cX0 cX1
  have fX0 := bX.frozen 0
  have fX1 := bX.frozen 1
  have lX := bX.lt
  have HX := Lib.hid bX
  clear bX
  have bY := Blk.next HY (fun h => by (repeat' (first | (with_reducible exact h) | (with_reducible refine Blk.drew ?_) | (with_reducible refine Blk.drewN ?_ _) | (with_reducible refine Blk.alloc ?_ _) | (with_reducible refine Blk.far ?_ (by (simp <;> omega)) _)))) hb (by have := HY.out.lt; (try simp only [World.size_alloc, World.size_setCell, World.size_drew]); omega)
  clear HY lY cY0 fY0 cY1 fY1
  have cY0 := bY.cell 0
  have cY1 := bY.cell 1
  simp only [List.getElem?_toArray, List.getElem?_cons_zero, List.getElem?_cons_succ] at cY0 cY1
  have fY0 := bY.frozen 0
  have fY1 := bY.frozen 1
  have lY := bY.lt
  have HY := Lib.hid bY
  clear bY
  have bZ : Blk w4 (w3.heap.size) 34 #[.string s1, .int .i64 b1] := Blk.below (by (repeat' (first | (with_reducible exact Blk.new _ _ _) | (with_reducible exact Blk.new_at _ _ _ _ (by (simp <;> omega))) | (with_reducible refine Blk.drew ?_) | (with_reducible refine Blk.alloc ?_ _) | (with_reducible refine Blk.far ?_ (by (simp <;> omega)) _)))) hb (by (try simp only [World.size_alloc, World.size_setCell, World.size_drew]); omega)
  have cZ0 := bZ.cell 0
  have cZ1 := bZ.cell 1
  simp only [List.getElem?_toArray, List.getElem?_cons_zero, List.getElem?_cons_succ] at cZ0 cZ1
  have fZ0 := bZ.frozen 0
  have fZ1 := bZ.frozen 1
  have lZ := bZ.lt
  have HZ := Lib.hid bZ
  clear bZ
  clear hb
  go_wp2_with fail
  refine (ret_is (rtake_any s b n _ hs) H2.out).mono ?_
  rintro e w5 ⟨rfl, hb⟩
  have hz5 := hb.size
  try simp only [World.size_alloc, World.size_setCell, World.size_drew] at hz5
  have HW5 : Hid (Below w.heap.size w w5) := by
    have h0 := HW4.out
    have h1 := h0.size
    refine Lib.hid (Below.trans ?_ (hb.mono ?_))
    · go_grown
    · try simp
      try omega
  have zw5 := HW5.out.size
  have bX := Blk.next HX (fun h => by (repeat' (first | (with_reducible exact h) | (with_reducible refine Blk.drew ?_) | (with_reducible refine Blk.drewN ?_ _) | (with_reducible refine Blk.alloc ?_ _) | (with_reducible refine Blk.far ?_ (by (simp <;> omega)) _)))) hb (by have := HX.out.lt; (try simp only [World.size_alloc, World.size_setCell, World.size_drew]); omega)
  clear HX lX cX0 fX0 cX1 fX1
  have cX0 := bX.cell 0
  have cX1 := bX.cell 1
  simp only [List.getElem?_toArray, List.getElem?_cons_zero, List.getElem?_cons_succ] at cX0 cX1
  have fX0 := bX.frozen 0
  have fX1 := bX.frozen 1
  have lX := bX.lt
  have HX := Lib.hid bX
  clear bX
  have bY := (((HY.out.set_ 0 (.string s2)).set_ 1 (.int .i64 b2))).below hb (by simp; omega)
  have bZ := (((HZ.out.far (p := ⟨w2.heap.size, 0, none⟩) n3' (.string s2)).far (p := ⟨w2.heap.size, 1, none⟩) n3' (.int .i64 b2))).below hb (by simp; omega)
  clear HY HZ cY0 cY1 fY0 fY1 lY cZ0 cZ1 fZ0 fZ1 lZ hb
  simp at bY
  have cY0 := bY.cell 0
  have cY1 := bY.cell 1
  simp only [List.getElem?_toArray, List.getElem?_cons_zero, List.getElem?_cons_succ] at cY0 cY1
  have fY0 := bY.frozen 0
  have fY1 := bY.frozen 1
  have lY := bY.lt
  have HY := Lib.hid bY
  clear bY
  have cZ0 := bZ.cell 0
  have cZ1 := bZ.cell 1
  simp only [List.getElem?_toArray, List.getElem?_cons_zero, List.getElem?_cons_succ] at cZ0 cZ1
  have fZ0 := bZ.frozen 0
  have fZ1 := bZ.frozen 1
  have lZ := bZ.lt
  have HZ := Lib.hid bZ
  clear bZ
  go_wp2_with fail
  refine (ret_is (Peek_any s b n _ hs) H3.out).mono ?_
  rintro e w6 ⟨rfl, hb⟩
  have hz6 := hb.size
  try simp only [World.size_alloc, World.size_setCell, World.size_drew] at hz6
  have HW6 : Hid (Below w.heap.size w w6) := by
    have h0 := HW5.out
    have h1 := h0.size
    refine Lib.hid (Below.trans ?_ (hb.mono ?_))
    · go_grown
    · try simp
      try omega
  have zw6 := HW6.out.size
  have bX := ((HX.out.far (p := ⟨w3.heap.size, 0, none⟩) n2 (.string s2)).far (p := ⟨w3.heap.size, 1, none⟩) n2 (.int .i64 b2)) |>.below hb (by simp; omega)
  clear HX cX0 cX1 fX0 fX1 lX HY cY0 cY1 fY0 fY1 lY HZ cZ0 cZ1 fZ0 fZ1 lZ hb
  have cX0 := bX.cell 0
  have cX1 := bX.cell 1
  simp only [List.getElem?_toArray, List.getElem?_cons_zero, List.getElem?_cons_succ] at cX0 cX1
  have fX0 := bX.frozen 0
  have fX1 := bX.frozen 1
  have lX := bX.lt
  have HX := Lib.hid bX
  clear bX
  go_wp2_with fail
  refine (ret_is (rPeek_any s b n _ hs) H3.out).mono ?_
  rintro e w7 ⟨rfl, hb⟩
  have hz7 := hb.size
  try simp only [World.size_alloc, World.size_setCell, World.size_drew] at hz7
  have HW7 : Hid (Below w.heap.size w w7) := by
    have h0 := HW6.out
    have h1 := h0.size
    refine Lib.hid (Below.trans ?_ (hb.mono ?_))
    · go_grown
    · try simp
      try omega
  have zw7 := HW7.out.size
  have bX := Blk.next HX (fun h => by (repeat' (first | (with_reducible exact h) | (with_reducible refine Blk.drew ?_) | (with_reducible refine Blk.drewN ?_ _) | (with_reducible refine Blk.alloc ?_ _) | (with_reducible refine Blk.far ?_ (by (simp <;> omega)) _)))) hb (by have := HX.out.lt; (try simp only [World.size_alloc, World.size_setCell, World.size_drew]); omega)
  clear HX lX cX0 fX0 cX1 fX1
  have cX0 := bX.cell 0
  have cX1 := bX.cell 1
  simp only [List.getElem?_toArray, List.getElem?_cons_zero, List.getElem?_cons_succ] at cX0 cX1
  have fX0 := bX.frozen 0
  have fX1 := bX.frozen 1
  have lX := bX.lt
  have HX := Lib.hid bX
  clear bX
  clear hb
  go_wp2_with fail
  refine (ret_is (left_any s b _ hs) H4.out).mono ?_
  rintro e w8 ⟨rfl, hb⟩
  have hz8 := hb.size
  try simp only [World.size_alloc, World.size_setCell, World.size_drew] at hz8
  have HW8 : Hid (Below w.heap.size w w8) := by
    have h0 := HW7.out
    have h1 := h0.size
    refine Lib.hid (Below.trans ?_ (hb.mono ?_))
    · go_grown
    · try simp
      try omega
  have zw8 := HW8.out.size
  have bX := Blk.next HX (fun h => by (repeat' (first | (with_reducible exact h) | (with_reducible refine Blk.drew ?_) | (with_reducible refine Blk.drewN ?_ _) | (with_reducible refine Blk.alloc ?_ _) | (with_reducible refine Blk.far ?_ (by (simp <;> omega)) _)))) hb (by have := HX.out.lt; (try simp only [World.size_alloc, World.size_setCell, World.size_drew]); omega)
  clear HX lX cX0 fX0 cX1 fX1
  have cX0 := bX.cell 0
  have cX1 := bX.cell 1
  simp only [List.getElem?_toArray, List.getElem?_cons_zero, List.getElem?_cons_succ] at cX0 cX1
  have fX0 := bX.frozen 0
  have fX1 := bX.frozen 1
  have lX := bX.lt
  have HX := Lib.hid bX
  clear bX
  clear hb
  go_wp2_with fail
  refine (ret_is (rleft_any s b _ hs) H4.out).mono ?_
  rintro e w9 ⟨rfl, hb⟩
  have hz9 := hb.size
  try simp only [World.size_alloc, World.size_setCell, World.size_drew] at hz9
  have HW9 : Hid (Below w.heap.size w w9) := by
    have h0 := HW8.out
    have h1 := h0.size
    refine Lib.hid (Below.trans ?_ (hb.mono ?_))
    · go_grown
    · try simp
      try omega
  have zw9 := HW9.out.size
  have bX := Blk.next HX (fun h => by (repeat' (first | (with_reducible exact h) | (with_reducible refine Blk.drew ?_) | (with_reducible refine Blk.drewN ?_ _) | (with_reducible refine Blk.alloc ?_ _) | (with_reducible refine Blk.far ?_ (by (simp <;> omega)) _)))) hb (by have := HX.out.lt; (try simp only [World.size_alloc, World.size_setCell, World.size_drew]); omega)
  clear HX lX cX0 fX0 cX1 fX1
  have cX0 := bX.cell 0
  have cX1 := bX.cell 1
  simp only [List.getElem?_toArray, List.getElem?_cons_zero, List.getElem?_cons_succ] at cX0 cX1
  have fX0 := bX.frozen 0
  have fX1 := bX.frozen 1
  have lX := bX.lt
  have HX := Lib.hid bX
  clear bX
  clear hb
  go_wp2_with fail
  refine (ret_is (next_any s b _ hs) H5.out).mono ?_
  rintro e w10 ⟨rfl, hb⟩
  have hz10 := hb.size
  try simp only [World.size_alloc, World.size_setCell, World.size_drew] at hz10
  have HW10 : Hid (Below w.heap.size w w10) := by
    have h0 := HW9.out
    have h1 := h0.size
    refine Lib.hid (Below.trans ?_ (hb.mono ?_))
    · go_grown
    · try simp
      try omega
  have zw10 := HW10.out.size
  have bX := Blk.next HX (fun h => by (repeat' (first | (with_reducible exact h) | (with_reducible refine Blk.drew ?_) | (with_reducible refine Blk.drewN ?_ _) | (with_reducible refine Blk.alloc ?_ _) | (with_reducible refine Blk.far ?_ (by (simp <;> omega)) _)))) hb (by have := HX.out.lt; (try simp only [World.size_alloc, World.size_setCell, World.size_drew]); omega)
  clear HX lX cX0 fX0 cX1 fX1
  have cX0 := bX.cell 0
  have cX1 := bX.cell 1
  simp only [List.getElem?_toArray, List.getElem?_cons_zero, List.getElem?_cons_succ] at cX0 cX1
  have fX0 := bX.frozen 0
  have fX1 := bX.frozen 1
  have lX := bX.lt
  have HX := Lib.hid bX
  clear bX
  clear hb
  go_wp2_with fail
  refine (ret_is (rnext_any s b _ hs) H5.out).mono ?_
  rintro e w11 ⟨rfl, hb⟩
  have hz11 := hb.size
  try simp only [World.size_alloc, World.size_setCell, World.size_drew] at hz11
  have HW11 : Hid (Below w.heap.size w w11) := by
    have h0 := HW10.out
    have h1 := h0.size
    refine Lib.hid (Below.trans ?_ (hb.mono ?_))
    · go_grown
    · try simp
      try omega
  have zw11 := HW11.out.size
  clear hb
  go_wp2_with fail
  refine (awake_any _).mono ?_
  rintro e w12 ⟨rfl, hb⟩
  have hz12 := hb.size
  try simp only [World.size_alloc, World.size_setCell, World.size_drew] at hz12
  have HW12 : Hid (Below w.heap.size w w12) := by
    have h0 := HW11.out
    have h1 := h0.size
    refine Lib.hid (Below.trans ?_ (hb.mono ?_))
    · go_grown
    · try simp
      try omega
  have zw12 := HW12.out.size
  clear hb
  go_wp2
  go_ret
  exact ⟨rfl, HW12.out⟩
theorem reads_any (s : ByteArray) (b n at_ : Int) (w : World) (hs : s.size ≤ 9223372036854775807) (hb : InR b) (hn : InR n) (ha : InR at_) :
    Calls Try.prog 4 #[.string s, .int .i64 b, .int .i64 n, .int .i64 at_] w fun e w' => e = .returned (.bool true) ∧ Below w.heap.size w w' := by
  by_cases h : (60 : Int) < (s.size : Int)
  · exact reads_awake s b n at_ w h hs
  · exact reads_main s b n at_ w h hs
end Go.Proofs.Ytafabheehkmfhaa

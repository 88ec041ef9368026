/-
  BitsWrites: the walk. Conditions: the numbers are of int's range, the string's length fits.
-/
import Derived.Test.YtafabheehkmfhaaBitsL
import Derived.Test.YtafabheehkmfhaaIn
import Derived.Deep.DeepCutAuto
namespace Go.Proofs.Ytafabheehkmfhaa
open Go.RowKit Go.PlainAid
set_option linter.unusedVariables false
set_option linter.unusedSimpArgs false

theorem writes_awake (s : ByteArray) (p n k v : Int) (w : World) (hs : s.size ≤ 9223372036854775807)
    (h : (60 < s.size ∧ s.size < 1048574) ∨ 1048578 < s.size) :
    Calls Try.prog 3 #[.agg #[.string s, .int .i64 p, .int .i64 n], .int .i64 k, .int .i64 v] w fun e w' => e = .returned (.bool true) ∧ Below w.heap.size w w' := by
  rcases h with ⟨h1, h2⟩ | h1
  · have g1 : (60 : Int) < (s.size : Int) := by omega
    have g2 : (s.size : Int) < 1048574 := by omega
    go_enter Try.func3, Try.ntmps3
    go_wp2_with fail
    refine (awake_any _).mono ?_
    rintro e w1 ⟨rfl, hb⟩
    have hz1 := hb.size
    try simp only [World.size_alloc, World.size_setCell, World.size_drew] at hz1
    have HW1 : Hid (Below w.heap.size w w1) := by
      refine Lib.hid (Below.trans ?_ (hb.mono ?_))
      · go_grown
      · try simp
        try omega
    have zw1 := HW1.out.size
    clear hb
    go_wp2
    go_ret
    exact ⟨rfl, HW1.out⟩
  · have g1 : (60 : Int) < (s.size : Int) := by omega
    have g2 : ¬ (s.size : Int) < 1048574 := by omega
    have g3 : (1048578 : Int) < (s.size : Int) := by omega
    go_enter Try.func3, Try.ntmps3
    go_wp2_with fail
    refine (awake_any _).mono ?_
    rintro e w1 ⟨rfl, hb⟩
    have hz1 := hb.size
    try simp only [World.size_alloc, World.size_setCell, World.size_drew] at hz1
    have HW1 : Hid (Below w.heap.size w w1) := by
      refine Lib.hid (Below.trans ?_ (hb.mono ?_))
      · go_grown
      · try simp
        try omega
    have zw1 := HW1.out.size
    clear hb
    go_wp2
    go_ret
    exact ⟨rfl, HW1.out⟩
theorem put_is (s : ByteArray) (p n k v : Int) (V : Value) (h : putR s p n k v = V) (w : World) :
    Calls Try.prog 17 #[.agg #[.string s, .int .i64 p, .int .i64 n], .int .i64 k, .int .i64 v] w fun e w' => e = .returned V ∧ Below w.heap.size w w' := by
  have := put_any s p n k v w
  rwa [h] at this
theorem rput_is (s : ByteArray) (p n k v : Int) (V : Value) (h : putR s p n k v = V) (w : World) :
    Calls Try.prog 18 #[.agg #[.string s, .int .i64 p, .int .i64 n], .int .i64 k, .int .i64 v] w fun e w' => e = .returned V ∧ Below w.heap.size w w' := by
  have := rput_any s p n k v w
  rwa [h] at this
theorem align_is (s : ByteArray) (p n : Int) (V : Value) (h : alignR s p n = V) (w : World) :
    Calls Try.prog 19 #[.agg #[.string s, .int .i64 p, .int .i64 n]] w fun e w' => e = .returned V ∧ Below w.heap.size w w' := by
  have := align_any s p n w
  rwa [h] at this
theorem ralign_is (s : ByteArray) (p n : Int) (V : Value) (h : alignR s p n = V) (w : World) :
    Calls Try.prog 20 #[.agg #[.string s, .int .i64 p, .int .i64 n]] w fun e w' => e = .returned V ∧ Below w.heap.size w w' := by
  have := ralign_any s p n w
  rwa [h] at this
theorem done_is (s : ByteArray) (p n : Int) (s2 : ByteArray) (p2 m2 c2 : Int) (h : alignR s p n = .tuple #[.agg #[.string s2, .int .i64 p2, .int .i64 m2], .int .i64 c2]) (w : World) :
    Calls Try.prog 21 #[.agg #[.string s, .int .i64 p, .int .i64 n]] w fun e w' => e = .returned (.tuple #[.string s2, .int .i64 c2]) ∧ Below w.heap.size w w' :=
  done_of s s2 p n p2 m2 c2 w (align_is s p n _ h)
theorem rdone_is (s : ByteArray) (p n : Int) (s2 : ByteArray) (p2 m2 c2 : Int) (h : alignR s p n = .tuple #[.agg #[.string s2, .int .i64 p2, .int .i64 m2], .int .i64 c2]) (w : World) :
    Calls Try.prog 22 #[.agg #[.string s, .int .i64 p, .int .i64 n]] w fun e w' => e = .returned (.tuple #[.string s2, .int .i64 c2]) ∧ Below w.heap.size w w' :=
  rdone_of s s2 p n p2 m2 c2 w (ralign_is s p n _ h)
set_option maxRecDepth 100000 in
set_option maxHeartbeats 4000000 in
theorem writes_main (s : ByteArray) (p n k v : Int) (w : World) (hs : s.size ≤ 9223372036854775807)
    (g1 : ¬ (60 : Int) < (s.size : Int) ∨ ((60 : Int) < (s.size : Int) ∧ ¬ (s.size : Int) < 1048574)) (g3 : ¬ (1048578 : Int) < (s.size : Int)) :
    Calls Try.prog 3 #[.agg #[.string s, .int .i64 p, .int .i64 n], .int .i64 k, .int .i64 v] w fun e w' => e = .returned (.bool true) ∧ Below w.heap.size w w' := by
  obtain ⟨c, hc⟩ : ∃ c, wchk s p n = c := ⟨_, rfl⟩
  obtain ⟨s1, p1, m1, c1, hP⟩ := putR_form s p n k v
  obtain ⟨s2, p2, m2, c2, hA⟩ := alignR_form s p n
  have Hc := Lib.hid hc
  have HP := Lib.hid hP
  have HA := Lib.hid hA
  have HS := Lib.hid hs
  clear hc hP hA hs
  go_enter Try.func3, Try.ntmps3
  rcases g1 with g1 | ⟨g1, g2⟩
  all_goals
    go_wp2_with fail
    go_region_held3 (fun w' => w'.cell? ⟨w.heap.size, 0, none⟩ = some (.string s) ∧ w'.cell? ⟨w.heap.size, 1, none⟩ = some (.int .i64 p) ∧ w'.cell? ⟨w.heap.size, 2, none⟩ = some (.int .i64 n) ∧ Blk w' w.heap.size 23 #[.string s, .int .i64 p, .int .i64 n] ∧ Below w.heap.size w w')
      (first | exact ⟨k0, k1, k2, k3, k4⟩ | (refine ⟨?_, ?_, ?_, ?_, ?_⟩ <;> first | (simp [go_sem]; done) | exact (Blk.new _ _ _).drew | exact (Below.alloc (Below.refl _ _) (Nat.le_refl _) _).drew))
      (first | (go_at_call 15; refine (check_is s p n _ c Hc.out).mono ?_; rintro e w' ⟨rfl, hb⟩; obtain ⟨q0, q1, q2, q3, q4⟩ := ‹_ ∧ _ ∧ _ ∧ Blk _ _ _ _ ∧ Below w.heap.size w _›; have k3 := q3.below hb q3.lt; have k4 := q4.trans (hb.mono (Nat.le_of_lt q3.lt)); have k0 := (k3.cell 0); have k1 := (k3.cell 1); have k2 := (k3.cell 2); simp only [List.getElem?_toArray, List.getElem?_cons_zero, List.getElem?_cons_succ] at k0 k1 k2) | (go_at_call 16; refine (rcheck_is s p n _ c Hc.out).mono ?_; rintro e w' ⟨rfl, hb⟩; obtain ⟨q0, q1, q2, q3, q4⟩ := ‹_ ∧ _ ∧ _ ∧ Blk _ _ _ _ ∧ Below w.heap.size w _›; have k3 := q3.below hb q3.lt; have k4 := q4.trans (hb.mono (Nat.le_of_lt q3.lt)); have k0 := (k3.cell 0); have k1 := (k3.cell 1); have k2 := (k3.cell 2); simp only [List.getElem?_toArray, List.getElem?_cons_zero, List.getElem?_cons_succ] at k0 k1 k2))
    obtain ⟨w1, rfl⟩ : ∃ w1, w' = w1 := ⟨_, rfl⟩
    have HW1 := Lib.hid k4
    have bX := k3
    clear q0 q1 q2 q3 q4 k0 k1 k2 k3 k4 hb
    have cX0 := bX.cell 0
    have cX1 := bX.cell 1
    have cX2 := bX.cell 2
    simp only [List.getElem?_toArray, List.getElem?_cons_zero, List.getElem?_cons_succ] at cX0 cX1 cX2
    have fX0 := bX.frozen 0
    have fX1 := bX.frozen 1
    have fX2 := bX.frozen 2
    have lX := bX.lt
    have HX := Lib.hid bX
    clear bX
    go_wp2_with fail
    refine (put_is s p n k v _ HP.out _).mono ?_
    rintro e w2 ⟨rfl, hb⟩
    have hz2 := hb.size
    try simp only [World.size_alloc, World.size_setCell, World.size_drew] at hz2
    have HW2 : Hid (Below w.heap.size w w2) := by
      have h0 := HW1.out
      have h1 := h0.size
      refine Lib.hid (Below.trans ?_ (hb.mono ?_))
      · go_grown
      · try simp
        try omega
    have zw2 := HW2.out.size
    have bX := Blk.next HX (fun h => by (repeat' (first | (with_reducible exact h) | (with_reducible refine Blk.drew ?_) | (with_reducible refine Blk.drewN ?_ _) | (with_reducible refine Blk.alloc ?_ _) | (with_reducible refine Blk.far ?_ (by (simp <;> omega)) _)))) hb (by have := HX.out.lt; (try simp only [World.size_alloc, World.size_setCell, World.size_drew]); omega)
    clear HX lX cX0 fX0 cX1 fX1 cX2 fX2
    have cX0 := bX.cell 0
    have cX1 := bX.cell 1
    have cX2 := bX.cell 2
    simp only [List.getElem?_toArray, List.getElem?_cons_zero, List.getElem?_cons_succ] at cX0 cX1 cX2
    have fX0 := bX.frozen 0
    have fX1 := bX.frozen 1
    have fX2 := bX.frozen 2
    have lX := bX.lt
    have HX := Lib.hid bX
    clear bX
    have n1 : ¬ w.heap.size = w2.heap.size := by omega
    have n1' : ¬ w2.heap.size = w.heap.size := by omega
    clear hb
    go_wp2_with fail
    refine (rput_is s p n k v _ HP.out _).mono ?_
    rintro e w3 ⟨rfl, hb⟩
    have hz3 := hb.size
    try simp only [World.size_alloc, World.size_setCell, World.size_drew] at hz3
    have HW3 : Hid (Below w.heap.size w w3) := by
      have h0 := HW2.out
      have h1 := h0.size
      refine Lib.hid (Below.trans ?_ (hb.mono ?_))
      · go_grown
      · try simp
        try omega
    have zw3 := HW3.out.size
    have bX := Blk.next HX (fun h => by (repeat' (first | (with_reducible exact h) | (with_reducible refine Blk.drew ?_) | (with_reducible refine Blk.drewN ?_ _) | (with_reducible refine Blk.alloc ?_ _) | (with_reducible refine Blk.far ?_ (by (simp <;> omega)) _)))) hb (by have := HX.out.lt; (try simp only [World.size_alloc, World.size_setCell, World.size_drew]); omega)
    clear HX lX cX0 fX0 cX1 fX1 cX2 fX2
    have cX0 := bX.cell 0
    have cX1 := bX.cell 1
    have cX2 := bX.cell 2
    simp only [List.getElem?_toArray, List.getElem?_cons_zero, List.getElem?_cons_succ] at cX0 cX1 cX2
    have fX0 := bX.frozen 0
    have fX1 := bX.frozen 1
    have fX2 := bX.frozen 2
    have lX := bX.lt
    have HX := Lib.hid bX
    clear bX
    have bY : Blk w3 (w2.heap.size) 23 #[.string s1, .int .i64 p1, .int .i64 m1] := Blk.below (by (repeat' (first | (with_reducible exact Blk.new _ _ _) | (with_reducible exact Blk.new_at _ _ _ _ (by (simp <;> omega))) | (with_reducible refine Blk.drew ?_) | (with_reducible refine Blk.alloc ?_ _) | (with_reducible refine Blk.far ?_ (by (simp <;> omega)) _)))) hb (by (try simp only [World.size_alloc, World.size_setCell, World.size_drew]); omega)
    have cY0 := bY.cell 0
    have cY1 := bY.cell 1
    have cY2 := bY.cell 2
    simp only [List.getElem?_toArray, List.getElem?_cons_zero, List.getElem?_cons_succ] at cY0 cY1 cY2
    have fY0 := bY.frozen 0
    have fY1 := bY.frozen 1
    have fY2 := bY.frozen 2
    have lY := bY.lt
    have HY := Lib.hid bY
    clear bY
    have n2 : ¬ w.heap.size = w3.heap.size := by omega
    have n2' : ¬ w3.heap.size = w.heap.size := by omega
    have n3 : ¬ w2.heap.size = w3.heap.size := by omega
    have n3' : ¬ w3.heap.size = w2.heap.size := by omega
    clear hb
    go_wp2_with fail
    refine (align_is s p n _ HA.out _).mono ?_
    rintro e w4 ⟨rfl, hb⟩
    have hz4 := hb.size
    try simp only [World.size_alloc, World.size_setCell, World.size_drew] at hz4
    have HW4 : Hid (Below w.heap.size w w4) := by
      have h0 := HW3.out
      have h1 := h0.size
      refine Lib.hid (Below.trans ?_ (hb.mono ?_))
      · go_grown
      · try simp
        try omega
    have zw4 := HW4.out.size
    have bX := Blk.next HX (fun h => by (repeat' (first | (with_reducible exact h) | (with_reducible refine Blk.drew ?_) | (with_reducible refine Blk.drewN ?_ _) | (with_reducible refine Blk.alloc ?_ _) | (with_reducible refine Blk.far ?_ (by (simp <;> omega)) _)))) hb (by have := HX.out.lt; (try simp only [World.size_alloc, World.size_setCell, World.size_drew]); omega)
    clear HX lX cX0 fX0 cX1 fX1 cX2 fX2
    have cX0 := bX.cell 0
    have cX1 := bX.cell 1
    have cX2 := bX.cell 2
    simp only [List.getElem?_toArray, List.getElem?_cons_zero, List.getElem?_cons_succ] at cX0 cX1 cX2
    have fX0 := bX.frozen 0
    have fX1 := bX.frozen 1
    have fX2 := bX.frozen 2
    have lX := bX.lt
    have HX := Lib.hid bX
    clear bX
    have bY := Blk.next HY (fun h => by (repeat' (first | (with_reducible exact h) | (with_reducible refine Blk.drew ?_) | (with_reducible refine Blk.drewN ?_ _) | (with_reducible refine Blk.alloc ?_ _) | (with_reducible refine Blk.far ?_ (by (simp <;> omega)) _)))) hb (by have := HY.out.lt; (try simp only [World.size_alloc, World.size_setCell, World.size_drew]); omega)
    clear HY lY cY0 fY0 cY1 fY1 cY2 fY2
    have cY0 := bY.cell 0
    have cY1 := bY.cell 1
    have cY2 := bY.cell 2
    simp only [List.getElem?_toArray, List.getElem?_cons_zero, List.getElem?_cons_succ] at cY0 cY1 cY2
    have fY0 := bY.frozen 0
    have fY1 := bY.frozen 1
    have fY2 := bY.frozen 2
    have lY := bY.lt
    have HY := Lib.hid bY
    clear bY
    have bZ : Blk w4 (w3.heap.size) 23 #[.string s1, .int .i64 p1, .int .i64 m1] := Blk.below (by (repeat' (first | (with_reducible exact Blk.new _ _ _) | (with_reducible exact Blk.new_at _ _ _ _ (by (simp <;> omega))) | (with_reducible refine Blk.drew ?_) | (with_reducible refine Blk.alloc ?_ _) | (with_reducible refine Blk.far ?_ (by (simp <;> omega)) _)))) hb (by (try simp only [World.size_alloc, World.size_setCell, World.size_drew]); omega)
    have cZ0 := bZ.cell 0
    have cZ1 := bZ.cell 1
    have cZ2 := bZ.cell 2
    simp only [List.getElem?_toArray, List.getElem?_cons_zero, List.getElem?_cons_succ] at cZ0 cZ1 cZ2
    have fZ0 := bZ.frozen 0
    have fZ1 := bZ.frozen 1
    have fZ2 := bZ.frozen 2
    have lZ := bZ.lt
    have HZ := Lib.hid bZ
    clear bZ
    clear hb
    go_wp2_with fail
    refine (ralign_is s p n _ HA.out _).mono ?_
    rintro e w5 ⟨rfl, hb⟩
    have hz5 := hb.size
    try simp only [World.size_alloc, World.size_setCell, World.size_drew] at hz5
    have HW5 : Hid (Below w.heap.size w w5) := by
      have h0 := HW4.out
      have h1 := h0.size
      refine Lib.hid (Below.trans ?_ (hb.mono ?_))
      · go_grown
      · try simp
        try omega
    have zw5 := HW5.out.size
    have bX := Blk.next HX (fun h => by (repeat' (first | (with_reducible exact h) | (with_reducible refine Blk.drew ?_) | (with_reducible refine Blk.drewN ?_ _) | (with_reducible refine Blk.alloc ?_ _) | (with_reducible refine Blk.far ?_ (by (simp <;> omega)) _)))) hb (by have := HX.out.lt; (try simp only [World.size_alloc, World.size_setCell, World.size_drew]); omega)
    clear HX lX cX0 fX0 cX1 fX1 cX2 fX2
    have cX0 := bX.cell 0
    have cX1 := bX.cell 1
    have cX2 := bX.cell 2
    simp only [List.getElem?_toArray, List.getElem?_cons_zero, List.getElem?_cons_succ] at cX0 cX1 cX2
    have fX0 := bX.frozen 0
    have fX1 := bX.frozen 1
    have fX2 := bX.frozen 2
    have lX := bX.lt
    have HX := Lib.hid bX
    clear bX
    have bY := ((((HY.out.set_ 0 (.string s2)).set_ 1 (.int .i64 p2)).set_ 2 (.int .i64 m2))).below hb (by simp; omega)
    have bZ := ((((HZ.out.far (p := ⟨w2.heap.size, 0, none⟩) n3' (.string s2)).far (p := ⟨w2.heap.size, 1, none⟩) n3' (.int .i64 p2)).far (p := ⟨w2.heap.size, 2, none⟩) n3' (.int .i64 m2))).below hb (by simp; omega)
    clear HY HZ cY0 cY1 cY2 fY0 fY1 fY2 lY cZ0 cZ1 cZ2 fZ0 fZ1 fZ2 lZ hb
    simp only [Array.setIfInBounds, List.set_toArray, List.size_toArray, List.length_cons, List.length_nil] at bY
    simp at bY
    have cY0 := bY.cell 0
    have cY1 := bY.cell 1
    have cY2 := bY.cell 2
    simp only [List.getElem?_toArray, List.getElem?_cons_zero, List.getElem?_cons_succ] at cY0 cY1 cY2
    have fY0 := bY.frozen 0
    have fY1 := bY.frozen 1
    have fY2 := bY.frozen 2
    have lY := bY.lt
    have HY := Lib.hid bY
    clear bY
    have cZ0 := bZ.cell 0
    have cZ1 := bZ.cell 1
    have cZ2 := bZ.cell 2
    simp only [List.getElem?_toArray, List.getElem?_cons_zero, List.getElem?_cons_succ] at cZ0 cZ1 cZ2
    have fZ0 := bZ.frozen 0
    have fZ1 := bZ.frozen 1
    have fZ2 := bZ.frozen 2
    have lZ := bZ.lt
    have HZ := Lib.hid bZ
    clear bZ
    go_wp2_with fail
    refine (done_is s p n s2 p2 m2 c2 HA.out _).mono ?_
    rintro e w6 ⟨rfl, hb⟩
    have zX := HX.out.lt
    have HW6 : Hid (Below w.heap.size w w6) := by
      refine Lib.hid (Below.trans ?_ (hb.mono ?_))
      · have h5 := HW5.out
        go_grown
      · simp
        omega
    have bX := ((HX.out.far (p := ⟨w3.heap.size, 0, none⟩) n2 (.string s2)).far (p := ⟨w3.heap.size, 1, none⟩) n2 (.int .i64 p2)).far (p := ⟨w3.heap.size, 2, none⟩) n2 (.int .i64 m2) |>.below hb (by simp; omega)
    clear HX cX0 cX1 cX2 fX0 fX1 fX2 lX HY cY0 cY1 cY2 fY0 fY1 fY2 lY HZ cZ0 cZ1 cZ2 fZ0 fZ1 fZ2 lZ hb
    have cX0 := bX.cell 0
    have cX1 := bX.cell 1
    have cX2 := bX.cell 2
    simp only [List.getElem?_toArray, List.getElem?_cons_zero, List.getElem?_cons_succ] at cX0 cX1 cX2
    have fX0 := bX.frozen 0
    have fX1 := bX.frozen 1
    have fX2 := bX.frozen 2
    have lX := bX.lt
    have HX := Lib.hid bX
    clear bX
    go_wp2_with fail
    refine (rdone_is s p n s2 p2 m2 c2 HA.out _).mono ?_
    rintro e w7 ⟨rfl, hb⟩
    have HW7 := Lib.hid (HW6.out.trans (hb.mono (by have := HW6.out.size; omega)))
    clear HX cX0 cX1 cX2 fX0 fX1 fX2 lX hb
    go_wp2_with fail
    refine (awake_any _).mono ?_
    rintro e w8 ⟨rfl, hb⟩
    have HW8 := Lib.hid (HW7.out.trans (hb.mono HW7.out.size))
    clear hb
    go_wp2
    go_ret
    exact ⟨rfl, HW8.out⟩
theorem writes_any (s : ByteArray) (p n k v : Int) (w : World) (hs : s.size ≤ 9223372036854775807) (hp : InR p) (hn : InR n) (hk : InR k) (hv : InR v) :
    Calls Try.prog 3 #[.agg #[.string s, .int .i64 p, .int .i64 n], .int .i64 k, .int .i64 v] w fun e w' => e = .returned (.bool true) ∧ Below w.heap.size w w' := by
  by_cases h : (60 < s.size ∧ s.size < 1048574) ∨ 1048578 < s.size
  · exact writes_awake s p n k v w hs h
  · exact writes_main s p n k v w hs (by omega) (by omega)
end Go.Proofs.Ytafabheehkmfhaa

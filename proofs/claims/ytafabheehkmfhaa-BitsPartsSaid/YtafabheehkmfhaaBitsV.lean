/-
  Take of package bits, and the reference's readers: one answer. Conditions: none on the arguments (numbers are of int's range).
-/
import Derived.Test.YtafabheehkmfhaaBitsU
namespace Go.Proofs.Ytafabheehkmfhaa
open Go.RowKit Go.PlainAid
set_option linter.unusedVariables false
set_option linter.unusedSimpArgs false

set_option maxHeartbeats 2000000 in
theorem take_any (s : ByteArray) (b n : Int) (w : World) (hs : s.size ≤ 9223372036854775807) :
    Calls Try.prog 27 #[.agg #[.string s, .int .i64 b], .int .i64 n] w fun e w' => e = .returned (takeR s b n) ∧ Below w.heap.size w w' := by
  obtain ⟨c, hc⟩ : ∃ c, askE s b n = c := ⟨_, rfl⟩
  by_cases h0 : c = 0
  · subst h0
    obtain ⟨B, N, rfl, rfl, hB, hS, hN⟩ := askE_nat hc
    by_cases hlt : 8 * s.size < B + N
    · have ht : (8 : Int) * (s.size : Int) - (B : Int) < (N : Int) := by omega
      have Ht := Lib.hid (show takeE s B N = 5 by unfold takeE; rw [if_pos ⟨hc, by omega⟩])
      have Hc := Lib.hid hc
      clear hc
      go_enter Try.func27, Try.ntmps27
      go_wp2_with fail
      refine (asked_is s B N 0 _ hs Hc.out).mono ?_
      rintro e w1 ⟨rfl, hb⟩
      obtain ⟨hcc, hff⟩ := bcell hb
      have hz := hb.size
      simp only [World.size_alloc] at hz
      have HW := Lib.hid ((((Below.refl _ _).alloc (Nat.le_refl _) _).alloc (by simp) _).trans (hb.mono (by simp; omega)) : Below w.heap.size w w1)
      clear hb
      go_wp2
      refine bodyPost_ret (by simp [results, Try.results27, go_sem, hcc]; try rfl) rfl ?_
      exact ⟨ret_tup (by unfold takeR; rw [Ht.out, if_neg (by decide)]; try rfl), ((HW.out.setCell (by simp) _).setCell (by simp) _)⟩
    · have ht : ¬ (8 : Int) * (s.size : Int) - (B : Int) < (N : Int) := by omega
      have Ht := Lib.hid (show takeE s B N = 0 by unfold takeE; rw [if_neg (by omega)]; exact hc)
      have Hc := Lib.hid hc
      clear hc
      go_enter Try.func27, Try.ntmps27
      go_wp2_with fail
      refine (asked_is s B N 0 _ hs Hc.out).mono ?_
      rintro e w1 ⟨rfl, hb⟩
      obtain ⟨hcc, hff⟩ := bcell hb
      have hz := hb.size
      simp only [World.size_alloc] at hz
      have HW := Lib.hid ((((Below.refl _ _).alloc (Nat.le_refl _) _).alloc (by simp) _).trans (hb.mono (by simp; omega)) : Below w.heap.size w w1)
      have hX : Blk w1 w.heap.size 34 #[.string s, .int .i64 B] := ((Blk.new w 34 #[.string s, .int .i64 B]).alloc _).below hb (by simp; omega)
      have hZ : Blk w1 (w.heap.size + 1) 34 #[.string ⟨#[]⟩, .int .i64 0] := by
        have := (Blk.new (w.alloc (.cells #[.string s, .int .i64 B] 34)) 34 #[.string ⟨#[]⟩, .int .i64 0]).below hb (by simp)
        simpa using this
      have HX := Lib.hid hX
      have HZ := Lib.hid hZ
      clear hb hX hZ
      go_wp2_with fail
      refine (peek_core s B N _ hS hB hN).mono ?_
      rintro e w2 ⟨rfl, hb⟩
      have hz2 := hb.size
      have hX2 := HX.out.below hb HX.out.lt
      have hZ2 := HZ.out.below hb HZ.out.lt
      have c0 := hX2.cell 0
      have c1 := hX2.cell 1
      have d0 := hZ2.cell 0
      have d1 := hZ2.cell 1
      simp only [List.getElem?_toArray, List.getElem?_cons_zero, List.getElem?_cons_succ] at c0 c1 d0 d1
      have f0 := hX2.frozen 0
      have f1 := hX2.frozen 1
      have g0 := hZ2.frozen 0
      have g1 := hZ2.frozen 1
      have HW2 := Lib.hid (HW.out.trans (hb.mono (by omega)))
      clear hb hcc hff hX2 hZ2
      obtain ⟨x, ex⟩ : ∃ x : Int, ((peekN s B N : Nat) : Int) = x := ⟨_, rfl⟩
      rw [ex]
      have Ex := Lib.hid ex
      clear ex
      go_wp2
      refine bodyPost_ret (by simp [results, Try.results27, go_sem, d0, d1]; try rfl) rfl ?_
      exact ⟨ret_tup (by unfold takeR; rw [Ht.out, if_pos rfl]; simp only [Int.toNat_natCast, Ex.out]; try rfl), (((HW2.out.setCell (by simp) _).setCell (by simp) _).setCell (by simp) _)⟩
  · have h1 : (c != 0) = true := by simpa using h0
    have h2 : (c == 0) = false := by simpa using h0
    have Ht := Lib.hid (show takeE s b n = c by unfold takeE; rw [if_neg (by rintro ⟨h, _⟩; exact h0 (hc.symm.trans h))]; exact hc)
    have Hc := Lib.hid hc
    have H0 := Lib.hid h0
    clear hc h0
    go_enter Try.func27, Try.ntmps27
    go_wp2_with fail
    refine (asked_is s b n c _ hs Hc.out).mono ?_
    rintro e w1 ⟨rfl, hb⟩
    obtain ⟨hcc, hff⟩ := bcell hb
    have hz := hb.size
    simp only [World.size_alloc] at hz
    have HW := Lib.hid ((((Below.refl _ _).alloc (Nat.le_refl _) _).alloc (by simp) _).trans (hb.mono (by simp; omega)) : Below w.heap.size w w1)
    clear hb
    go_wp2
    refine bodyPost_ret (by simp [results, Try.results27, go_sem, hcc]; try rfl) rfl ?_
    exact ⟨ret_tup (by unfold takeR; rw [Ht.out, if_neg H0.out]; try rfl), ((HW.out.setCell (by simp) _).setCell (by simp) _)⟩
set_option maxHeartbeats 1000000 in
theorem rright_any (s : ByteArray) (b : Int) (w : World) (hs : s.size ≤ 9223372036854775807) :
    Calls Try.prog 24 #[.agg #[.string s, .int .i64 b]] w fun e w' => e = .returned (.int .i64 (rchk s b)) ∧ Below w.heap.size w w' := by
  by_cases h1 : 1048576 < s.size
  · have h2 : (1048576 : Int) < (s.size : Int) := by omega
    go_enter Try.func24, Try.ntmps24
    go_wp2
    go_ret
    exact ⟨ret_int (by unfold rchk; rw [if_pos h1]), by go_grown⟩
  · have h2 : (s.size : Int) ≤ 1048576 := by omega
    go_enter Try.func24, Try.ntmps24
    go_wp2
    all_goals
      go_ret
      refine ⟨ret_int ?_, by go_grown⟩
      unfold rchk
      rw [if_neg h1]
      (repeat' split) <;> omega
theorem rright_is (s : ByteArray) (b c : Int) (w : World) (hs : s.size ≤ 9223372036854775807) (h : rchk s b = c) :
    Calls Try.prog 24 #[.agg #[.string s, .int .i64 b]] w fun e w' => e = .returned (.int .i64 c) ∧ Below w.heap.size w w' := by
  have := rright_any s b w hs
  rwa [h] at this
set_option maxHeartbeats 1000000 in
theorem rread_any (s : ByteArray) (at_ : Int) (w : World) (hs : s.size ≤ 9223372036854775807) :
    Calls Try.prog 26 #[.string s, .int .i64 at_] w fun e w' => e = .returned (readR s at_) ∧ Below w.heap.size w w' := by
  by_cases h1 : 1048576 < s.size
  · have h2 : (1048576 : Int) < (s.size : Int) := by omega
    go_enter Try.func26, Try.ntmps26
    go_wp2
    go_returns
    exact ⟨ret_tup (by unfold readR; rw [if_pos h1]), by go_grown⟩
  · have h2 : (s.size : Int) ≤ 1048576 := by omega
    go_enter Try.func26, Try.ntmps26
    go_wp2
    all_goals
      go_returns
      refine ⟨ret_tup ?_, by go_grown⟩
      unfold readR
      rw [if_neg h1]
    · rw [if_pos (by omega)]
    · rw [if_neg (by omega)]
    · rw [if_pos (by omega)]
set_option maxHeartbeats 1000000 in
theorem rleft_any (s : ByteArray) (b : Int) (w : World) (hs : s.size ≤ 9223372036854775807) :
    Calls Try.prog 32 #[.agg #[.string s, .int .i64 b]] w fun e w' => e = .returned (leftR s b) ∧ Below w.heap.size w w' := by
  obtain ⟨c, hc⟩ : ∃ c, rchk s b = c := ⟨_, rfl⟩
  by_cases h0 : c = 0
  · subst h0
    obtain ⟨B, rfl, hB, hS⟩ := rchk_nat hc
    have Hc := Lib.hid hc
    clear hc
    go_enter Try.func32, Try.ntmps32
    go_wp2_with fail
    refine (rright_is s B 0 _ hs Hc.out).mono ?_
    rintro e w1 ⟨rfl, hb⟩
    obtain ⟨hcc, hff⟩ := bcell hb
    have hz := hb.size
    simp only [World.size_alloc] at hz
    have HW := Lib.hid (((Below.refl _ _).alloc (Nat.le_refl _) _).trans (hb.mono (by simp)) : Below w.heap.size w w1)
    clear hb
    go_wp2
    go_ret2
    exact ⟨ret_tup (by unfold leftR; rw [if_pos Hc.out]; rfl), HW.out⟩
  · have h1 : (c != 0) = true := by simpa using h0
    have Hc := Lib.hid hc
    clear hc
    go_enter Try.func32, Try.ntmps32
    go_wp2_with fail
    refine (rright_is s b c _ hs Hc.out).mono ?_
    rintro e w1 ⟨rfl, hb⟩
    obtain ⟨hcc, hff⟩ := bcell hb
    have HW := Lib.hid (((Below.refl _ _).alloc (Nat.le_refl _) _).trans (hb.mono (by simp)) : Below w.heap.size w w1)
    clear hb
    go_wp2
    go_ret2
    exact ⟨ret_tup (by unfold leftR; rw [Hc.out, if_neg h0]; rfl), HW.out⟩
set_option maxHeartbeats 1000000 in
theorem rnext_any (s : ByteArray) (b : Int) (w : World) (hs : s.size ≤ 9223372036854775807) :
    Calls Try.prog 34 #[.agg #[.string s, .int .i64 b]] w fun e w' => e = .returned (nextR s b) ∧ Below w.heap.size w w' := by
  obtain ⟨c, hc⟩ : ∃ c, rchk s b = c := ⟨_, rfl⟩
  by_cases h0 : c = 0
  · subst h0
    obtain ⟨B, rfl, hB, hS⟩ := rchk_nat hc
    have Hc := Lib.hid hc
    clear hc
    go_enter Try.func34, Try.ntmps34
    go_wp2_with fail
    refine (rright_is s B 0 _ hs Hc.out).mono ?_
    rintro e w1 ⟨rfl, hb⟩
    obtain ⟨hcc, hff⟩ := bcell hb
    have hz := hb.size
    simp only [World.size_alloc] at hz
    have HW := Lib.hid (((Below.refl _ _).alloc (Nat.le_refl _) _).trans (hb.mono (by simp)) : Below w.heap.size w w1)
    clear hb
    go_wp2
    go_ret2
    exact ⟨ret_tup (by unfold nextR; rw [if_pos Hc.out]; rfl), HW.out⟩
  · have h1 : (c != 0) = true := by simpa using h0
    have Hc := Lib.hid hc
    clear hc
    go_enter Try.func34, Try.ntmps34
    go_wp2_with fail
    refine (rright_is s b c _ hs Hc.out).mono ?_
    rintro e w1 ⟨rfl, hb⟩
    obtain ⟨hcc, hff⟩ := bcell hb
    have HW := Lib.hid (((Below.refl _ _).alloc (Nat.le_refl _) _).trans (hb.mono (by simp)) : Below w.heap.size w w1)
    clear hb
    go_wp2
    go_ret2
    exact ⟨ret_tup (by unfold nextR; rw [Hc.out, if_neg h0]; rfl), HW.out⟩
set_option maxHeartbeats 1000000 in
theorem rPeek_any (s : ByteArray) (b n : Int) (w : World) (hs : s.size ≤ 9223372036854775807) :
    Calls Try.prog 30 #[.agg #[.string s, .int .i64 b], .int .i64 n] w fun e w' => e = .returned (peekR s b n) ∧ Below w.heap.size w w' := by
  obtain ⟨c, hc⟩ : ∃ c, rchk s b = c := ⟨_, rfl⟩
  by_cases h0 : c = 0
  · subst h0
    obtain ⟨B, rfl, hB, hS⟩ := rchk_nat hc
    have Hc := Lib.hid hc
    clear hc
    go_enter Try.func30, Try.ntmps30
    go_wp2_with fail
    refine (rright_is s B 0 _ hs Hc.out).mono ?_
    rintro e w1 ⟨rfl, hb⟩
    obtain ⟨hcc, hff⟩ := bcell hb
    have hz := hb.size
    simp only [World.size_alloc] at hz
    have HW := Lib.hid (((Below.refl _ _).alloc (Nat.le_refl _) _).trans (hb.mono (by simp)) : Below w.heap.size w w1)
    clear hb
    by_cases h1 : n < 0
    · go_wp2
      go_ret2
      exact ⟨ret_tup (by have h9 : askE s B n = 2 := (by unfold askE; rw [if_pos Hc.out, if_pos (.inl h1)]); unfold peekR; rw [h9, if_neg (by decide)]; try rfl), HW.out⟩
    · by_cases h2 : 32 < n
      · go_wp2
        go_ret2
        exact ⟨ret_tup (by have h9 : askE s B n = 2 := (by unfold askE; rw [if_pos Hc.out, if_pos (.inr h2)]); unfold peekR; rw [h9, if_neg (by decide)]; try rfl), HW.out⟩
      · obtain ⟨N, rfl⟩ := Int.eq_ofNat_of_zero_le (Int.not_lt.1 h1)
        go_wp2_with fail
        refine (number_core s B N _ hS hB (by omega)).mono ?_
        rintro e w2 ⟨rfl, hb⟩
        have HW2 := Lib.hid (HW.out.trans (hb.mono (by omega)))
        clear hb hcc hff
        go_wp2
        go_ret2
        exact ⟨ret_tup (by have h9 : askE s B N = 0 := (by unfold askE; rw [if_pos Hc.out, if_neg (by omega)]); unfold peekR; rw [if_pos h9]; try rfl), HW2.out⟩
  · have h1 : (c != 0) = true := by simpa using h0
    have h2 : (c == 0) = false := by simpa using h0
    have Hc := Lib.hid hc
    have H0 := Lib.hid h0
    clear hc h0
    go_enter Try.func30, Try.ntmps30
    go_wp2_with fail
    refine (rright_is s b c _ hs Hc.out).mono ?_
    rintro e w1 ⟨rfl, hb⟩
    obtain ⟨hcc, hff⟩ := bcell hb
    have HW := Lib.hid (((Below.refl _ _).alloc (Nat.le_refl _) _).trans (hb.mono (by simp)) : Below w.heap.size w w1)
    clear hb
    go_wp2
    go_ret2
    exact ⟨ret_tup (by have h9 : askE s b n = c := (by unfold askE; rw [Hc.out, if_neg H0.out]); unfold peekR; rw [h9, if_neg H0.out]; try rfl), HW.out⟩
theorem rPeek_ok (s : ByteArray) (b n : Int) (w : World) (hs : s.size ≤ 9223372036854775807) (h : askE s b n = 0) :
    Calls Try.prog 30 #[.agg #[.string s, .int .i64 b], .int .i64 n] w fun e w' => e = .returned (.tuple #[.int .i64 (peekN s b.toNat n.toNat), .int .i64 0]) ∧ Below w.heap.size w w' := by
  have := rPeek_any s b n w hs
  unfold peekR at this
  rwa [if_pos h] at this
theorem rPeek_no (s : ByteArray) (b n c : Int) (w : World) (hs : s.size ≤ 9223372036854775807) (h : askE s b n = c) (h0 : c ≠ 0) :
    Calls Try.prog 30 #[.agg #[.string s, .int .i64 b], .int .i64 n] w fun e w' => e = .returned (.tuple #[.int .i64 0, .int .i64 c]) ∧ Below w.heap.size w w' := by
  have := rPeek_any s b n w hs
  unfold peekR at this
  rwa [h, if_neg h0] at this
set_option maxHeartbeats 2000000 in
theorem rtake_any (s : ByteArray) (b n : Int) (w : World) (hs : s.size ≤ 9223372036854775807) :
    Calls Try.prog 28 #[.agg #[.string s, .int .i64 b], .int .i64 n] w fun e w' => e = .returned (takeR s b n) ∧ Below w.heap.size w w' := by
  obtain ⟨c, hc⟩ : ∃ c, askE s b n = c := ⟨_, rfl⟩
  by_cases h0 : c = 0
  · subst h0
    obtain ⟨B, N, rfl, rfl, hB, hS, hN⟩ := askE_nat hc
    obtain ⟨x, ex⟩ : ∃ x : Int, ((peekN s B N : Nat) : Int) = x := ⟨_, rfl⟩
    have Ex := Lib.hid ex
    clear ex
    by_cases hlt : 8 * s.size < B + N
    · have ht : (8 : Int) * (s.size : Int) < (B : Int) + (N : Int) := by omega
      have Ht := Lib.hid (show takeE s B N = 5 by unfold takeE; rw [if_pos ⟨hc, by omega⟩])
      have Hc := Lib.hid hc
      clear hc
      go_enter Try.func28, Try.ntmps28
      go_wp2_with fail
      refine (rPeek_ok s B N _ hs Hc.out).mono ?_
      rintro e w1 ⟨rfl, hb⟩
      simp only [Int.toNat_natCast, Ex.out]
      obtain ⟨hcc, hff⟩ := bcell hb
      have hz := hb.size
      simp only [World.size_alloc] at hz
      have HW := Lib.hid ((((Below.refl _ _).alloc (Nat.le_refl _) _).alloc (by simp) _).trans (hb.mono (by simp; omega)) : Below w.heap.size w w1)
      clear hb
      go_wp2
      refine bodyPost_ret (by simp [results, Try.results28, go_sem, hcc]; try rfl) rfl ?_
      exact ⟨ret_tup (by unfold takeR; rw [Ht.out, if_neg (by decide)]; try rfl), ((HW.out.setCell (by simp) _).setCell (by simp) _)⟩
    · have ht : ¬ (8 : Int) * (s.size : Int) < (B : Int) + (N : Int) := by omega
      have Ht := Lib.hid (show takeE s B N = 0 by unfold takeE; rw [if_neg (by omega)]; exact hc)
      have Hc := Lib.hid hc
      clear hc
      go_enter Try.func28, Try.ntmps28
      go_wp2_with fail
      refine (rPeek_ok s B N _ hs Hc.out).mono ?_
      rintro e w1 ⟨rfl, hb⟩
      simp only [Int.toNat_natCast, Ex.out]
      obtain ⟨hcc, hff⟩ := bcell hb
      have hz := hb.size
      simp only [World.size_alloc] at hz
      have HW := Lib.hid ((((Below.refl _ _).alloc (Nat.le_refl _) _).alloc (by simp) _).trans (hb.mono (by simp; omega)) : Below w.heap.size w w1)
      have hX : Blk w1 w.heap.size 34 #[.string s, .int .i64 B] := ((Blk.new w 34 #[.string s, .int .i64 B]).alloc _).below hb (by simp; omega)
      have hZ : Blk w1 (w.heap.size + 1) 34 #[.string ⟨#[]⟩, .int .i64 0] := by
        have := (Blk.new (w.alloc (.cells #[.string s, .int .i64 B] 34)) 34 #[.string ⟨#[]⟩, .int .i64 0]).below hb (by simp)
        simpa using this
      have c0 := hX.cell 0
      have c1 := hX.cell 1
      have d0 := hZ.cell 0
      have d1 := hZ.cell 1
      simp only [List.getElem?_toArray, List.getElem?_cons_zero, List.getElem?_cons_succ] at c0 c1 d0 d1
      have f0 := hX.frozen 0
      have f1 := hX.frozen 1
      have g0 := hZ.frozen 0
      have g1 := hZ.frozen 1
      clear hb hX hZ hcc hff
      go_wp2
      refine bodyPost_ret (by simp [results, Try.results28, go_sem, d0, d1]; try rfl) rfl ?_
      exact ⟨ret_tup (by unfold takeR; rw [Ht.out, if_pos rfl]; simp only [Int.toNat_natCast, Ex.out]; try rfl), (((HW.out.setCell (by simp) _).setCell (by simp) _).setCell (by simp) _)⟩
  · have h1 : (c != 0) = true := by simpa using h0
    have h2 : (c == 0) = false := by simpa using h0
    have Ht := Lib.hid (show takeE s b n = c by unfold takeE; rw [if_neg (by rintro ⟨h, _⟩; exact h0 (hc.symm.trans h))]; exact hc)
    have Hc := Lib.hid hc
    have H0 := Lib.hid h0
    clear hc h0
    go_enter Try.func28, Try.ntmps28
    go_wp2_with fail
    refine (rPeek_no s b n c _ hs Hc.out H0.out).mono ?_
    rintro e w1 ⟨rfl, hb⟩
    obtain ⟨hcc, hff⟩ := bcell hb
    have hz := hb.size
    simp only [World.size_alloc] at hz
    have HW := Lib.hid ((((Below.refl _ _).alloc (Nat.le_refl _) _).alloc (by simp) _).trans (hb.mono (by simp; omega)) : Below w.heap.size w w1)
    clear hb
    go_wp2
    refine bodyPost_ret (by simp [results, Try.results28, go_sem, hcc]; try rfl) rfl ?_
    exact ⟨ret_tup (by unfold takeR; rw [Ht.out, if_neg H0.out]; try rfl), ((HW.out.setCell (by simp) _).setCell (by simp) _)⟩
end Go.Proofs.Ytafabheehkmfhaa

/-
  BitsBack: the walk. Conditions: the slice is one that can come in.
-/
import Derived.Test.YtafabheehkmfhaaBitsBM
import Derived.Test.YtafabheehkmfhaaBitsK
import Derived.Test.YtafabheehkmfhaaBitsLR
import Derived.Deep.DeepCutAuto
namespace Go.Proofs.Ytafabheehkmfhaa
open Go.RowKit Go.PlainAid
set_option linter.unusedVariables false
set_option linter.unusedSimpArgs false

def BackRel1 (B : Nat) (w1 : World) (l : List Int) (many i : Value) (wr : World) : Prop :=
  ∃ k : Nat, k ≤ l.length ∧ i = .int .i64 k ∧ many = .int .i64 (accL (l.take k)) ∧ Blk wr B 23 (WCells (accL (l.take k)) (accW (l.take k))) ∧ Below w1.heap.size w1 wr
theorem isW_acc (l : List Int) (hl : l.length ≤ 40) (s : ByteArray) (p n : Int) (hs : s = wS (accL l) (accW l)) (hp : p = (wP (accL l) (accW l) : Nat)) (hn : n = (accL l % 8 : Nat)) : IsW s p n (accL l) (accW l) :=
  ⟨hs, hp, hn, accW_lt l, by have := accL_le l; omega⟩
theorem back_put (l : List Int) (z : Int) (hl : l.length ≤ 40) : putOut (accL l) (accW l) (szN z) (vlN z) = .tuple #[.agg #[.string (wS (accL (l ++ [z])) (accW (l ++ [z]))), .int .i64 (wP (accL (l ++ [z])) (accW (l ++ [z]))), .int .i64 ((accL (l ++ [z]) % 8 : Nat) : Int)], .int .i64 0] := by
  rw [accL_snoc, accW_snoc, putOut_ok]
  have := accL_le l
  have := szN_le z
  omega
def BackCut (w1 wr : World) (C C2 : Array Value) (s7 s8 : Value) (wx : World) : Prop :=
  ∃ g, s7 = .pointer (some ⟨g, 0, none⟩) ∧ s8 = .int .i64 0 ∧ w1.heap.size ≠ g ∧ Blk wx g 23 C2 ∧ Blk wx w1.heap.size 23 C ∧ Below w1.heap.size w1 wx
theorem wcells0 : WCells 0 0 = #[.string ⟨#[]⟩, .int .i64 0, .int .i64 0] := by kernel_rfl
/-- the whole string of a writer -/
def fullS (L W : Nat) : ByteArray := wS (8 * ((L + 7) / 8)) W
theorem fullS_size (L W : Nat) : (fullS L W).size = (L + 7) / 8 := by unfold fullS; rw [wS_size]; omega
theorem fullS_num (L W : Nat) (h : W < 2 ^ L) : leN (fullS L W).data.toList = W := by
  unfold fullS
  refine leN_wS _ _ (Nat.lt_of_lt_of_le h (Nat.pow_le_pow_right (by omega) (by omega)))
theorem done_full (s : ByteArray) (p n : Int) (L W : Nat) (w : World) (h : IsW s p n L W) (hL : L ≤ 8388600) :
    Calls Try.prog 21 #[.agg #[.string s, .int .i64 p, .int .i64 n]] w fun e w' => e = .returned (.tuple #[.string (fullS L W), .int .i64 0]) ∧ Below w.heap.size w w' := by
  refine done_of s _ p n _ _ 0 w (fun w => ret_is (align_core s p n L W w h) (putOut_ok (by omega))) |>.mono fun e w' ⟨he, hb⟩ => ⟨?_, hb⟩
  rw [he]
  have e1 : L + (8 - L % 8) % 8 = 8 * ((L + 7) / 8) := by omega
  rw [Nat.zero_mul, Nat.add_zero, e1]
  rfl
def BackRel2 (B : Nat) (w1 : World) (S : ByteArray) (l : List Int) (i : Value) (wr : World) : Prop :=
  ∃ k : Nat, k ≤ l.length ∧ i = .int .i64 k ∧ Blk wr B 34 #[.string S, .int .i64 (accL (l.take k))] ∧ Below w1.heap.size w1 wr
def BackCut2 (B : Nat) (w1 : World) (C C2 : Array Value) (x : Int) (s7 s8 s9 : Value) (wx : World) : Prop :=
  ∃ g, s7 = .pointer (some ⟨g, 0, none⟩) ∧ s8 = .int .i64 x ∧ s9 = .int .i64 0 ∧ B ≠ g ∧ Blk wx g 34 C2 ∧ Blk wx B 34 C ∧ Below w1.heap.size w1 wx
theorem take_back (S : ByteArray) (l : List Int) (j : Nat) (z : Int) (w : World) (hj : j < l.length) (hz : l[j] = z) (hl : l.length ≤ 40) (h1 : S.size = (accL l + 7) / 8) (h2 : leN S.data.toList = accW l) :
    Calls Try.prog 27 #[.agg #[.string S, .int .i64 (accL (l.take j))], .int .i64 (szN z)] w fun e w' => e = .returned (.tuple #[.agg #[.string S, .int .i64 ((accL (l.take j) : Int) + (szN z : Int))], .int .i64 (vlN z), .int .i64 0]) ∧ Below w.heap.size w w' := by
  have hL := accL_le l
  have ht := accL_take l (j + 1)
  rw [List.take_succ_eq_append_getElem hj, hz, accL_snoc] at ht
  have hs := szN_le z
  have hr : rchk S (accL (l.take j)) = 0 := by
    unfold rchk
    rw [if_neg (by omega), if_neg (by omega)]
  have ha : askE S (accL (l.take j)) (szN z) = 0 := by
    unfold askE
    rw [if_pos hr, if_neg (by omega)]
  have hE : takeE S (accL (l.take j)) (szN z) = 0 := by
    unfold takeE
    rw [if_neg (by omega)]
    exact ha
  refine ret_is (take_ok S _ _ w (by omega) hE) ?_
  have hp : peekN S (accL (l.take j)) (szN z) = vlN z := by
    unfold peekN
    rw [h2, ← hz]
    exact accW_read l j hj
  simp only [Int.toNat_natCast, hp]
set_option maxRecDepth 100000 in
set_option maxHeartbeats 4000000 in
theorem back_main (A : Option Addr) (b off n cap : Nat) (l : List Int) (w : World) (hl : l.length = n) (hn : n ≤ 40) (hA : 0 < n → A = some ⟨b, off, none⟩ ∧ b < w.heap.size) (hc : ∀ i, i < n → w.cell? ⟨b, off + i, none⟩ = some (.int .i64 (l.getD i 0))) (hr : ∀ z ∈ l, InR z) :
    Calls Try.prog 6 #[.slice A n cap] w fun e w' => e = .returned (.bool true) ∧ Below w.heap.size w w' := by
  have HA := Lib.hid hA
  clear hA
  have HC := Lib.hid hc
  have HR := Lib.hid hr
  have HL := Lib.hid hl
  clear hc hr hl
  have g1 : ¬ (40 : Int) < (n : Int) := by omega
  go_enter Try.func6, Try.ntmps6
  go_wp2_with fail
  refine (known_any _).mono ?_
  rintro e w1 ⟨rfl, hb⟩
  have hz1 := hb.size
  try simp only [World.size_alloc, World.size_setCell, World.size_drew] at hz1
  have HW1 : Hid (Below w.heap.size w w1) := by
    refine Lib.hid (Below.trans ?_ (hb.mono ?_))
    · go_grown
    · try simp
      try omega
  have zw1 := HW1.out.size
  clear hb
  go_wp2_with fail
  go_loopw [5, 6] (fun many i wr => BackRel1 w1.heap.size w1 l many i wr) (fun _ i _ => n - (intOf i).toNat)
  case atStart =>
    refine ⟨0, Nat.zero_le _, rfl, rfl, ?_, (Below.refl _ _).alloc (Nat.le_refl _) _⟩
    show Blk _ _ _ (WCells 0 0)
    rw [wcells0]
    exact Blk.new _ _ _
  case round =>
    obtain ⟨k, hk, rfl, rfl, hB, hW⟩ := hrel
    have HB := Lib.hid hB
    have HWr := Lib.hid hW
    clear hB hW
    by_cases hlt : k < n
    · obtain ⟨rfl, hb0⟩ := HA.out (by omega)
      have hki : k < l.length := by rw [HL.out]; exact hlt
      obtain ⟨z, hz⟩ : ∃ z, l.getD k 0 = z := ⟨_, rfl⟩
      have hz' : l[k] = z := by rw [← hz]; simp [List.getD, hki]
      have hrz : InR z := HR.out z (by rw [← hz']; exact List.getElem_mem hki)
      have cz : wr.cell? ⟨b, off + k, none⟩ = some (.int .i64 z) := by
        rw [HWr.out.cell (by show b < _; omega), HW1.out.cell (by show b < _; omega), HC.out k hlt, hz]
      obtain ⟨s1, p1, n1, es, ep, en, ec⟩ := WCells_form (accL (l.take k)) (accW (l.take k))
      have bX := HB.out
      rw [ec] at bX
      have HE := Lib.hid (isW_acc (l.take k) (by simp; omega) s1 p1 n1 es ep en)
      have Hz := Lib.hid hz'
      clear es ep en hz hz'
      have cX0 := bX.cell 0
      have cX1 := bX.cell 1
      have cX2 := bX.cell 2
      simp only [List.getElem?_toArray, List.getElem?_cons_zero, List.getElem?_cons_succ] at cX0 cX1 cX2
      have fX0 := bX.frozen 0
      have fX1 := bX.frozen 1
      have fX2 := bX.frozen 2
      have lX := bX.lt
      have HX := Lib.hid bX
      clear bX
      obtain ⟨s2, p2, n2, es2, ep2, en2, ec2⟩ := WCells_form (accL (l.take k ++ [z])) (accW (l.take k ++ [z]))
      have HO : Hid (putOut (accL (l.take k)) (accW (l.take k)) (szN z) (vlN z) = .tuple #[.agg #[.string s2, .int .i64 p2, .int .i64 n2], .int .i64 0]) := by
        refine Lib.hid ?_
        rw [back_put _ _ (by simp; omega), es2, ep2, en2]
      have hn2 : n2 = ((accL (l.take k ++ [z]) % 8 : Nat) : Int) := en2
      have hs2 : s2.size = accL (l.take k ++ [z]) / 8 := by rw [es2, wS_size]
      have Hn2 := Lib.hid hn2
      have Hs2 := Lib.hid hs2
      have Hc2 := Lib.hid ec2
      clear es2 ep2 en2 ec2 hn2 hs2
      have hb1 : b < w1.heap.size := by omega
      have hb2 : b < wr.heap.size := by omega
      have hl0 : (0 : Int) ≤ (k : Int) := by omega
      have hl1 : (k : Int) < (n : Int) := by omega
      go_wp2_with fail
      go_cut [7, 8] (fun s7 s8 wx => BackCut w1 wr #[.string s1, .int .i64 p1, .int .i64 n1] #[.string s2, .int .i64 p2, .int .i64 n2] s7 s8 wx)
      case first =>
        go_region_held3 (fun w' => w'.cell? ⟨w1.heap.size, 0, none⟩ = some (.string s1) ∧ w'.cell? ⟨w1.heap.size, 1, none⟩ = some (.int .i64 p1) ∧ w'.cell? ⟨w1.heap.size, 2, none⟩ = some (.int .i64 n1) ∧ w'.cell? ⟨b, off + k, none⟩ = some (.int .i64 z) ∧ Blk w' w1.heap.size 23 #[.string s1, .int .i64 p1, .int .i64 n1] ∧ Below w1.heap.size w1 w')
          (first | exact ⟨k0, k1, k2, k5, k3, k4⟩ | ((repeat' (refine And.intro ?_ ?_)) <;> first | (simp [go_sem]; done) | (simp [go_sem, *]; done) | exact HX.out | exact HX.out.drew | exact HWr.out.drew | exact HWr.out | exact k3.alloc _ | exact k4.alloc k4.size _ | exact (HX.out.alloc _).drew | exact ((k3.far (by simp; omega) _).far (by simp; omega) _).far (by simp; omega) _ | exact ((k4.setCell (by simp; omega) _).setCell (by simp; omega) _).setCell (by simp; omega) _ | exact (HWr.out.alloc HWr.out.size _).drew | exact (k3.alloc _).cell 0 | exact (k3.alloc _).cell 1 | exact (k3.alloc _).cell 2 | exact (World.cell?_alloc_lt _ _ ⟨b, off + k, none⟩ (Nat.lt_of_lt_of_le hb1 k4.size)).trans k5 | exact (World.cell?_alloc_lt wr _ ⟨b, off + k, none⟩ hb2).trans cz | fail))
          (first | (go_at_call 35; refine (size_any z hrz _).mono ?_; rintro e w' ⟨rfl, rfl⟩) | (go_at_call 36; refine (value_any z hrz _).mono ?_; rintro e w' ⟨rfl, rfl⟩) | (go_at_call 17; refine (ret_is (put_core s1 p1 n1 _ _ (szN z) (vlN z) _ HE.out (szN_le z) (vlN_lt z)) HO.out).mono ?_; rintro e w' ⟨rfl, hb⟩; obtain ⟨q0, q1, q2, q5, q3, q4⟩ := ‹_ ∧ _ ∧ _ ∧ _ ∧ Blk _ _ _ _ ∧ Below w1.heap.size w1 _›; have k3 := q3.below hb q3.lt; have k4 := q4.trans (hb.mono (Nat.le_of_lt q3.lt)); have k0 := (k3.cell 0); have k1 := (k3.cell 1); have k2 := (k3.cell 2); simp only [List.getElem?_toArray, List.getElem?_cons_zero, List.getElem?_cons_succ] at k0 k1 k2; have k5 := (hb.cell (p := ⟨b, off + k, none⟩) (by have := q3.lt; show b < _; omega)).trans q5; obtain ⟨hcq, hfq⟩ := bcell hb; have hzq := hb.size))
        all_goals
          go_wp2_with fail
          go_meet
          first
            | exact ⟨w'.heap.size, rfl, rfl, Nat.ne_of_lt k3.lt, Blk.new _ _ _, k3.alloc _, k4.alloc k4.size _⟩
            | (refine ⟨wr.heap.size, rfl, rfl, Nat.ne_of_lt lX, ?_, ((k3.far (by simp; omega) _).far (by simp; omega) _).far (by simp; omega) _, ((k4.setCell (by simp; omega) _).setCell (by simp; omega) _).setCell (by simp; omega) _⟩
               have hN := (((((Blk.new wr 23 #[.string ⟨#[]⟩, .int .i64 0, .int .i64 0]).drew.below hb (by simp)).set_ 0 (.string s2)).set_ 1 (.int .i64 p2)).set_ 2 (.int .i64 n2))
               simpa using hN)
      case rest =>
        obtain ⟨g, rfl, rfl, hg, hN, hX2, hW2⟩ := hcut
        clear cX0 cX1 cX2 fX0 fX1 fX2 lX HX
        have bN := hN
        have bX := hX2
        have cz2 : wc.cell? ⟨b, off + k, none⟩ = some (.int .i64 z) := by
          rw [hW2.cell (by show b < _; omega), HW1.out.cell (by show b < _; omega), HC.out k hlt]
          rw [← Hz.out]
          simp [List.getD, hki]
        have HW2 := Lib.hid hW2
        have hgne : ¬ w1.heap.size = g := hg
        have hgne' : ¬ g = w1.heap.size := fun h => hg h.symm
        clear hN hX2 hW2 cz hg
        have cN0 := bN.cell 0
        have cN1 := bN.cell 1
        have cN2 := bN.cell 2
        simp only [List.getElem?_toArray, List.getElem?_cons_zero, List.getElem?_cons_succ] at cN0 cN1 cN2
        have fN0 := bN.frozen 0
        have fN1 := bN.frozen 1
        have fN2 := bN.frozen 2
        have lN := bN.lt
        have HN := Lib.hid bN
        clear bN
        have cX0 := bX.cell 0
        have cX1 := bX.cell 1
        have cX2 := bX.cell 2
        simp only [List.getElem?_toArray, List.getElem?_cons_zero, List.getElem?_cons_succ] at cX0 cX1 cX2
        have fX0 := bX.frozen 0
        have fX1 := bX.frozen 1
        have fX2 := bX.frozen 2
        have lX := bX.lt
        have HX := Lib.hid bX
        clear bX
        have hts : (8 * (s2.size : Int) + n2 != (accL (l.take k) : Int) + (szN z : Int)) = false := by
          rw [Hn2.out, Hs2.out, accL_snoc]
          simp
          omega
        have hs2b : s2.size ≤ 200 := by
          rw [Hs2.out]
          have := accL_le (l.take k ++ [z])
          simp at this
          omega
        have hMb := accL_le (l.take k)
        have hMb2 : accL (l.take k) ≤ 1280 := by simp at hMb; omega
        have hn2a : 0 ≤ n2 := by rw [Hn2.out]; omega
        have hn2b : n2 ≤ 7 := by rw [Hn2.out]; omega
        have hzb := szN_le z
        clear hMb
        obtain ⟨M, hM⟩ : ∃ M, accL (l.take k) = M := ⟨_, rfl⟩
        rw [hM] at hts hMb2 ⊢
        have HM := Lib.hid hM
        clear hM
        go_wp2_with fail
        refine (size_any z hrz _).mono ?_
        rintro e w' ⟨rfl, rfl⟩
        go_wp2
        go_roundw
        case rel =>
          refine ⟨k + 1, by omega, by go_num, ?_, ?_, ?_⟩
          · rw [List.take_succ_eq_append_getElem hki, Hz.out, accL_snoc, HM.out]
            simp
          · rw [List.take_succ_eq_append_getElem hki, Hz.out, Hc2.out]
            have := ((HX.out.set_ 0 (.string s2)).set_ 1 (.int .i64 p2)).set_ 2 (.int .i64 n2)
            simpa using this
          · exact ((HW2.out.setCell (by simp) _).setCell (by simp) _).setCell (by simp) _
        case measure => simp [intOf]; omega
    · have hkn : k = n := by have := HL.out; omega
      subst hkn
      have hlk : l.take k = l := List.take_of_length_le (by rw [HL.out]; omega)
      rw [hlk] at HB ⊢
      obtain ⟨s1, p1, n1, es, ep, en, ec⟩ := WCells_form (accL l) (accW l)
      have bX := HB.out
      rw [ec] at bX
      have HE := Lib.hid (isW_acc l (by rw [HL.out]; exact hn) s1 p1 n1 es ep en)
      have hLl := accL_le l
      rw [HL.out] at hLl
      clear es ep en ec HB hlk
      have cX0 := bX.cell 0
      have cX1 := bX.cell 1
      have cX2 := bX.cell 2
      simp only [List.getElem?_toArray, List.getElem?_cons_zero, List.getElem?_cons_succ] at cX0 cX1 cX2
      have fX0 := bX.frozen 0
      have fX1 := bX.frozen 1
      have fX2 := bX.frozen 2
      have lX := bX.lt
      have HX := Lib.hid bX
      clear bX
      obtain ⟨S, hS⟩ : ∃ S, fullS (accL l) (accW l) = S := ⟨_, rfl⟩
      have hS1 : S.size = (accL l + 7) / 8 := by rw [← hS, fullS_size]
      have hS2 : leN S.data.toList = accW l := by rw [← hS]; exact fullS_num _ _ (accW_lt l)
      have HSn := Lib.hid hS
      have HS1 := Lib.hid hS1
      have HS2 := Lib.hid hS2
      have hSz : S.size ≤ 200 := by omega
      clear hS hS1 hS2
      go_wp2_with fail
      refine (done_full s1 p1 n1 (accL l) (accW l) _ HE.out (by omega)).mono ?_
      rintro e w2 ⟨rfl, hb⟩
      rw [HSn.out]
      have HW2 := Lib.hid (HWr.out.trans (hb.mono HWr.out.size))
      clear HX cX0 cX1 cX2 fX0 fX1 fX2 lX hb
      go_wp2_with fail
      refine (ret_is (read_any S 0 _ (by omega)) (show readR S 0 = .tuple #[.agg #[.string S, .int .i64 0], .int .i64 0] from (by unfold readR; rw [if_neg (by omega), if_neg (by omega)]; rfl))).mono ?_
      rintro e w3 ⟨rfl, hb⟩
      have HW3 := Lib.hid (HW2.out.trans (hb.mono HW2.out.size))
      have hz3 := HW3.out.size
      clear hb
      have hsz : ((S.size : Int) != ((accL l : Int) + 7) / 8) = false := by
        rw [HS1.out]
        simp
      obtain ⟨M, hM⟩ : ∃ M, accL l = M := ⟨_, rfl⟩
      rw [hM] at hsz hLl ⊢
      have HM := Lib.hid hM
      clear hM
      go_wp2_with fail
      go_loopw [13] (fun i wr => BackRel2 w3.heap.size w3 S l i wr) (fun i _ => k - (intOf i).toNat)
      case atStart => exact ⟨0, Nat.zero_le _, rfl, Blk.new _ _ _, (Below.refl _ _).alloc (Nat.le_refl _) _⟩
      case round =>
        obtain ⟨j, hj, rfl, hB, hW⟩ := hrel
        have bX := hB
        have HWj := Lib.hid hW
        have zwj := hW.size
        clear hB hW
        have cX0 := bX.cell 0
        have cX1 := bX.cell 1
        simp only [List.getElem?_toArray, List.getElem?_cons_zero, List.getElem?_cons_succ] at cX0 cX1
        have fX0 := bX.frozen 0
        have fX1 := bX.frozen 1
        have lX := bX.lt
        have HX := Lib.hid bX
        clear bX
        by_cases hlt : j < k
        · obtain ⟨rfl, hb0⟩ := HA.out (by omega)
          have hji : j < l.length := by rw [HL.out]; exact hlt
          obtain ⟨z, hz⟩ : ∃ z, l.getD j 0 = z := ⟨_, rfl⟩
          have hz' : l[j] = z := by rw [← hz]; simp [List.getD, hji]
          have hrz : InR z := HR.out z (by rw [← hz']; exact List.getElem_mem hji)
          have cz : wr.cell? ⟨b, off + j, none⟩ = some (.int .i64 z) := by
            rw [HWj.out.cell (by show b < _; omega), HW3.out.cell (by show b < _; omega), HW1.out.cell (by show b < _; omega), HC.out j hlt, hz]
          have Hz := Lib.hid hz'
          have HT := Lib.hid (fun W => take_back S l j z W hji hz' (by rw [HL.out]; exact hn) HS1.out HS2.out)
          obtain ⟨m, hm⟩ : ∃ m, accL (l.take j) = m := ⟨_, rfl⟩
          rw [hm] at HX HT cX1
          have Hm := Lib.hid hm
          have hmx := accL_take l j
          rw [hm, HM.out] at hmx
          have hzx := szN_le z
          clear hz hz' hm
          have hb1 : b < w3.heap.size := by have := HW3.out.size; omega
          have hb2 : b < wr.heap.size := by omega
          have hl0 : (0 : Int) ≤ (j : Int) := by omega
          have hl1 : (j : Int) < (k : Int) := by omega
          go_wp2_with fail
          go_cut [14, 15, 16] (fun s7 s8 s9 wx => BackCut2 w3.heap.size w3 #[.string S, .int .i64 m] #[.string S, .int .i64 ((m : Int) + (szN z : Int))] (vlN z) s7 s8 s9 wx)
          case first =>
            go_region_held3 (fun w' => w'.cell? ⟨w3.heap.size, 0, none⟩ = some (.string S) ∧ w'.cell? ⟨w3.heap.size, 1, none⟩ = some (.int .i64 m) ∧ w'.cell? ⟨b, off + j, none⟩ = some (.int .i64 z) ∧ Blk w' w3.heap.size 34 #[.string S, .int .i64 m] ∧ Below w3.heap.size w3 w')
              (first | exact ⟨k0, k1, k5, k3, k4⟩ | ((repeat' (refine And.intro ?_ ?_)) <;> first | (simp [go_sem]; done) | (simp [go_sem, *]; done) | exact HX.out | exact HX.out.drew | exact HWj.out.drew | exact HWj.out | exact k3.alloc _ | exact k4.alloc k4.size _ | exact (HX.out.alloc _).drew | exact ((k3.far (by simp; omega) _).far (by simp; omega) _) | exact ((k4.setCell (by simp; omega) _).setCell (by simp; omega) _) | exact (HWj.out.alloc HWj.out.size _).drew | exact (k3.alloc _).cell 0 | exact (k3.alloc _).cell 1 | exact (World.cell?_alloc_lt _ _ ⟨b, off + j, none⟩ (Nat.lt_of_lt_of_le hb1 k4.size)).trans k5 | exact (World.cell?_alloc_lt wr _ ⟨b, off + j, none⟩ hb2).trans cz | fail))
              (first | (go_at_call 35; refine (size_any z hrz _).mono ?_; rintro e w' ⟨rfl, rfl⟩) | (go_at_call 27; refine (HT.out _).mono ?_; rintro e w' ⟨rfl, hb⟩; obtain ⟨q0, q1, q5, q3, q4⟩ := ‹_ ∧ _ ∧ _ ∧ Blk _ _ _ _ ∧ Below w3.heap.size w3 _›; have k3 := q3.below hb q3.lt; have k4 := q4.trans (hb.mono (Nat.le_of_lt q3.lt)); have k0 := (k3.cell 0); have k1 := (k3.cell 1); simp only [List.getElem?_toArray, List.getElem?_cons_zero, List.getElem?_cons_succ] at k0 k1; have k5 := (hb.cell (p := ⟨b, off + j, none⟩) (by have := q3.lt; show b < _; omega)).trans q5; obtain ⟨hcq, hfq⟩ := bcell hb; have hzq := hb.size))
            all_goals
              go_wp2_with fail
              go_meet
              first
                | exact ⟨w'.heap.size, rfl, rfl, rfl, Nat.ne_of_lt k3.lt, Blk.new _ _ _, k3.alloc _, k4.alloc k4.size _⟩
                | (refine ⟨wr.heap.size, rfl, rfl, rfl, Nat.ne_of_lt lX, ?_, ((k3.far (by simp; omega) _).far (by simp; omega) _), ((k4.setCell (by simp; omega) _).setCell (by simp; omega) _)⟩
                   have hN := ((((Blk.new wr 34 #[.string ⟨#[]⟩, .int .i64 0]).drew.below hb (by simp)).set_ 0 (.string S)).set_ 1 (.int .i64 ((m : Int) + (szN z : Int))))
                   simpa using hN)
          case rest =>
            obtain ⟨g, rfl, rfl, rfl, hg, hN, hX2, hW2⟩ := hcut
            clear cX0 cX1 fX0 fX1 lX HX
            have bN := hN
            have bX := hX2
            have cz2 : wc.cell? ⟨b, off + j, none⟩ = some (.int .i64 z) := by
              rw [hW2.cell (by show b < _; omega), HW3.out.cell (by show b < _; omega), HW1.out.cell (by show b < _; omega), HC.out j hlt]
              rw [← Hz.out]
              simp [List.getD, hji]
            have HW2 := Lib.hid hW2
            have hgne : ¬ w3.heap.size = g := hg
            have hgne' : ¬ g = w3.heap.size := fun h => hg h.symm
            clear hN hX2 hW2 cz hg
            have cN0 := bN.cell 0
            have cN1 := bN.cell 1
            simp only [List.getElem?_toArray, List.getElem?_cons_zero, List.getElem?_cons_succ] at cN0 cN1
            have fN0 := bN.frozen 0
            have fN1 := bN.frozen 1
            have lN := bN.lt
            have HN := Lib.hid bN
            clear bN
            have cX0 := bX.cell 0
            have cX1 := bX.cell 1
            simp only [List.getElem?_toArray, List.getElem?_cons_zero, List.getElem?_cons_succ] at cX0 cX1
            have fX0 := bX.frozen 0
            have fX1 := bX.frozen 1
            have lX := bX.lt
            have HX := Lib.hid bX
            clear bX
            go_wp2_with fail
            refine (value_any z hrz _).mono ?_
            rintro e w' ⟨rfl, rfl⟩
            go_wp2
            go_roundw
            case rel =>
              refine ⟨j + 1, by omega, by go_num, ?_, ?_⟩
              · rw [List.take_succ_eq_append_getElem hji, Hz.out, accL_snoc, Hm.out]
                have := ((HX.out.set_ 0 (.string S)).set_ 1 (.int .i64 ((m : Int) + (szN z : Int))))
                simpa using this
              · exact ((HW2.out.setCell (by simp) _).setCell (by simp) _)
            case measure => simp [intOf]; omega
        · have hjk : j = k := by have := HL.out; omega
          subst hjk
          have hlk : l.take j = l := List.take_of_length_le (by rw [HL.out]; omega)
          rw [hlk] at HX cX1
          have hr : rchk S (accL l) = 0 := by
            have := HS1.out
            have := HM.out
            unfold rchk
            rw [if_neg (by omega), if_neg (by omega)]
          have HLf := Lib.hid (fun W => ret_is (left_any S (accL l) W (by omega)) (show leftR S (accL l) = .tuple #[.int .i64 (8 * (S.size : Int) - (M : Int)), .int .i64 0] from (by unfold leftR; rw [if_pos hr, HM.out])))
          rw [HM.out] at HX cX1 HLf
          clear hlk hr
          have hMS : (M : Int) ≤ 8 * (S.size : Int) := by rw [HS1.out, HM.out]; omega
          go_wp2_with fail
          refine (HLf.out _).mono ?_
          rintro e w4 ⟨rfl, hb⟩
          have HW4 := Lib.hid (((HW1.out.trans (HW3.out.mono zw1)).trans (HWj.out.mono (Nat.le_trans zw1 HW3.out.size))).trans (hb.mono (by omega)) : Below w.heap.size w w4)
          clear hb HX cX0 cX1 fX0 fX1 lX
          go_wp2
          go_ret
          exact ⟨by simp, HW4.out⟩
theorem back_none (A : Option Addr) (n cap : Nat) (w : World) (g1 : (40 : Int) < (n : Int)) :
    Calls Try.prog 6 #[.slice A n cap] w fun e w' => e = .returned (.bool true) ∧ Below w.heap.size w w' := by
  go_enter Try.func6, Try.ntmps6
  go_wp2_with fail
  refine (known_any _).mono ?_
  rintro e w1 ⟨rfl, hb⟩
  have hz1 := hb.size
  try simp only [World.size_alloc, World.size_setCell, World.size_drew] at hz1
  have HW1 : Hid (Below w.heap.size w w1) := by
    refine Lib.hid (Below.trans ?_ (hb.mono ?_))
    · go_grown
    · try simp
      try omega
  have zw1 := HW1.out.size
  clear hb
  go_wp2
  go_ret
  exact ⟨rfl, HW1.out⟩
theorem back_any (A : Option Addr) (n cap : Nat) (zs : List Int) (w : World) (h : IntsIn w A n cap zs) :
    Calls Try.prog 6 #[.slice A n cap] w fun e w' => e = .returned (.bool true) ∧ Below w.heap.size w w' := by
  by_cases hn : (40 : Int) < (n : Int)
  · exact back_none A n cap w hn
  · have hlen := h.len
    have hle := h.le
    have hl : (zs.take n).length = n := by simp; omega
    have hr : ∀ z ∈ zs.take n, InR z := fun z hz => h.rng z (List.mem_of_mem_take hz)
    rcases Nat.eq_zero_or_pos n with h0 | h0
    · exact back_main A 0 0 n cap (zs.take n) w hl (by omega) (fun h => by omega) (fun i hi => by omega) hr
    · obtain ⟨b, off, e, hb, hc⟩ := h.at_ (by omega)
      refine back_main A b off n cap (zs.take n) w hl (by omega) (fun _ => ⟨e, hb⟩) (fun i hi => ?_) hr
      rw [hc i (by omega)]
      simp [List.getD, hi]
end Go.Proofs.Ytafabheehkmfhaa

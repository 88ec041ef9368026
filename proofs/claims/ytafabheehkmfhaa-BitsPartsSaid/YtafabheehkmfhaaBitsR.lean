/-
  The reference's Put and Align, and both Dones: one answer with the program's. Conditions: each theorem's own.
-/
import Derived.Test.YtafabheehkmfhaaBitsQ
namespace Go.Proofs.Ytafabheehkmfhaa
open Go.RowKit
set_option linter.unusedVariables false
set_option linter.unusedSimpArgs false

theorem WCells_form (L W : Nat) : ∃ (s : ByteArray) (p n : Int), s = wS L W ∧ p = (wP L W : Nat) ∧ n = (L % 8 : Nat) ∧ WCells L W = #[.string s, .int .i64 p, .int .i64 n] :=
  ⟨_, _, _, rfl, rfl, rfl, rfl⟩
def ZW : Array Value := #[.string ⟨#[]⟩, .int .i64 0, .int .i64 0]
def RPutRel (w : World) (L W v k : Nat) (i : Value) (wr : World) : Prop :=
  ∃ j : Nat, j ≤ k ∧ i = .int .i64 j ∧ Blk wr w.heap.size 23 (WCells (L + j) (W + v % 2 ^ j * 2 ^ L)) ∧ Blk wr (w.heap.size + 1) 23 ZW ∧ Below w.heap.size w wr
set_option maxHeartbeats 2000000 in
theorem rput_core (s : ByteArray) (p n : Int) (L W k v : Nat) (w : World) (h : IsW s p n L W) (hk : k ≤ 32) (hv : v < 2 ^ k) :
    Calls Try.prog 18 #[.agg #[.string s, .int .i64 p, .int .i64 n], .int .i64 k, .int .i64 v] w fun e w' => e = .returned (putOut L W k v) ∧ Below w.heap.size w w' := by
  have hwp : wrap64 ((2 : Int) ^ k) = 2 ^ k := by
    have := wrap_pow (k : Int) (by omega)
    simpa using this
  have hv' : (v : Int) < 2 ^ k := by
    have : ((v : Nat) : Int) < ((2 ^ k : Nat) : Int) := by omega
    simpa using this
  have hn0 : 0 ≤ n := by rw [h.n]; omega
  have hn7 : n ≤ 7 := by rw [h.n]; omega
  have hsz : s.size = L / 8 := by rw [h.s, wS_size]
  have hLe := h.le
  have hs : s.size ≤ 1048576 := by omega
  have hnL : n = (L % 8 : Nat) := h.n
  have Hv := Lib.hid hv
  have Hw := Lib.hid h
  have Hsz := Lib.hid hsz
  have HnL := Lib.hid hnL
  clear hv h hsz hnL
  by_cases hL : 1048576 < (L + k) / 8
  · have ht : (1048576 : Int) < (s.size : Int) + (n + (k : Int)) / 8 := by rw [HnL.out, Hsz.out]; omega
    have HL := Lib.hid hL
    clear hL
    go_enter Try.func18, Try.ntmps18
    go_wp2_with fail
    refine (rcheck_is s p n _ 0 Hw.out.chk).mono ?_
    rintro e w1 ⟨rfl, hb⟩
    obtain ⟨hcc, hff⟩ := bcell hb
    have hz := hb.size
    simp only [World.size_alloc] at hz
    have HW := Lib.hid ((((Below.refl _ _).alloc (Nat.le_refl _) _).alloc (by simp) _).trans (hb.mono (by simp; omega)) : Below w.heap.size w w1)
    clear hb
    go_wp2
    refine bodyPost_ret (by simp [results, Try.results18, go_sem, hcc]; try rfl) rfl ?_
    exact ⟨by rw [putOut_long HL.out], (((HW.out.setCell (by simp) _).setCell (by simp) _).setCell (by simp) _)⟩
  · have ht : ¬ (1048576 : Int) < (s.size : Int) + (n + (k : Int)) / 8 := by rw [HnL.out, Hsz.out]; omega
    have HL := Lib.hid hL
    clear hL
    go_enter Try.func18, Try.ntmps18
    go_wp2_with fail
    refine (rcheck_is s p n _ 0 Hw.out.chk).mono ?_
    rintro e w1 ⟨rfl, hb⟩
    obtain ⟨hcc, hff⟩ := bcell hb
    have hz := hb.size
    simp only [World.size_alloc] at hz
    have HW := Lib.hid ((((Below.refl _ _).alloc (Nat.le_refl _) _).alloc (by simp) _).trans (hb.mono (by simp; omega)) : Below w.heap.size w w1)
    have hX : Blk w1 w.heap.size 23 (WCells L W) := by
      rw [← Hw.out.cells]
      exact ((Blk.new w 23 #[.string s, .int .i64 p, .int .i64 n]).alloc _).below hb (by simp; omega)
    have hZ : Blk w1 (w.heap.size + 1) 23 ZW := by
      have := (Blk.new (w.alloc (.cells #[.string s, .int .i64 p, .int .i64 n] 23)) 23 ZW).below hb (by simp)
      simpa using this
    have HX := Lib.hid hX
    have HZ := Lib.hid hZ
    clear hb hX hZ
    go_wp2_with fail
    go_loopw [9] (fun i wr => RPutRel w L W v k i wr) (fun i _ => k - (intOf i).toNat)
    case atStart => exact ⟨0, Nat.zero_le _, rfl, by simpa [Nat.mod_one] using HX.out, HZ.out, HW.out⟩
    case round =>
      clear hcc hff
      obtain ⟨j, hj, rfl, hBj, hZj, hWj⟩ := hrel
      obtain ⟨s1, p1, n1, es, ep, en, ec⟩ := WCells_form (L + j) (W + v % 2 ^ j * 2 ^ L)
      have hBj' := hBj
      rw [ec] at hBj'
      have c0 := hBj'.cell 0
      have c1 := hBj'.cell 1
      have c2 := hBj'.cell 2
      simp only [List.getElem?_toArray, List.getElem?_cons_zero, List.getElem?_cons_succ] at c0 c1 c2
      have f0 := hBj'.frozen 0
      have f1 := hBj'.frozen 1
      have f2 := hBj'.frozen 2
      have hz2 := hZj.lt
      have Hes := Lib.hid es
      have Hep := Lib.hid ep
      have Hen := Lib.hid en
      have HB := Lib.hid hBj'
      have HZ' := Lib.hid hZj
      have HW' := Lib.hid hWj
      clear es ep en ec hBj hBj' hZj hWj
      by_cases hlt : j < k
      · obtain ⟨b, hb⟩ : ∃ b : Nat, v / 2 ^ j % 2 = b := ⟨_, rfl⟩
        have ha := and_bit v j b (by have := v_lt hk Hv.out; omega) hb
        have hb1 : b ≤ 1 := by omega
        have Hbb := Lib.hid hb
        clear hb
        go_wp2_with fail
        refine (rbit_any s1 p1 n1 (L + j) (W + v % 2 ^ j * 2 ^ L) b wr Hes.out Hep.out Hen.out (by omega) (put_lt L W v j Hw.out.lt) hb1).mono ?_
        rintro e w2 ⟨rfl, hb2⟩
        rw [← Hbb.out, put_next]
        obtain ⟨s2, p2, n2, es2, ep2, en2, ec2⟩ := WCells_form (L + j + 1) (W + v % 2 ^ (j + 1) * 2 ^ L)
        rw [ec2]
        have hB2 := HB.out.below hb2 (by omega)
        have c0 := hB2.cell 0
        have c1 := hB2.cell 1
        have c2 := hB2.cell 2
        simp only [List.getElem?_toArray, List.getElem?_cons_zero, List.getElem?_cons_succ] at c0 c1 c2
        have f0 := hB2.frozen 0
        have f1 := hB2.frozen 1
        have f2 := hB2.frozen 2
        have HB2 := Lib.hid hB2
        have Hb2 := Lib.hid hb2
        have Hec2 := Lib.hid ec2
        clear hb2 hB2 ec2 es2 ep2 en2
        go_wp2
        go_roundw
        case rel =>
          refine ⟨j + 1, by omega, by go_num, ?_, ?_, ?_⟩
          · have := ((HB2.out.set_ 0 (.string s2)).set_ 1 (.int .i64 p2)).set_ 2 (.int .i64 n2)
            rw [← Nat.add_assoc, Hec2.out]
            simpa using this
          · exact (((HZ'.out.below Hb2.out HZ'.out.lt).far (by simp) _).far (by simp) _).far (by simp) _
          · exact (((HW'.out.trans (Hb2.out.mono HW'.out.size)).setCell (by simp) _).setCell (by simp) _).setCell (by simp) _
        case measure => simp [intOf]; omega
      · have : j = k := by omega
        subst this
        have d0 := HZ'.out.cell 0
        have d1 := HZ'.out.cell 1
        have d2 := HZ'.out.cell 2
        unfold ZW at d0 d1 d2
        simp only [List.getElem?_toArray, List.getElem?_cons_zero, List.getElem?_cons_succ] at d0 d1 d2
        have g0 := HZ'.out.frozen 0
        have g1 := HZ'.out.frozen 1
        have g2 := HZ'.out.frozen 2
        go_wp2
        refine bodyPost_ret (by simp [results, Try.results18, go_sem, d0, d1, d2]; try rfl) rfl ?_
        refine ⟨?_, (((HW'.out.setCell (by simp) _).setCell (by simp) _).setCell (by simp) _)⟩
        rw [putOut_ok HL.out, Hes.out, Hep.out, Hen.out, v_mod Hv.out]
end Go.Proofs.Ytafabheehkmfhaa

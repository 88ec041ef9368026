/-
  Texts joined: BitsQ, BitsR, BitsS, BitsT, BitsU, BitsV, Con, D8F, D8A, D8G, D8C, D8I, D8K, D8M, D8N, D8S, D8V, D8Yf, D8Y, D8Yt, D8Vt, D8St, D8Nt. Conditions: each theorem's own.
-/
import Derived.Test.YtafabheehkmfhaaK2
import Derived.WalkKit
import Derived.IntWalk
/-
  The refusals of Put, Align and Done, and the reference's bit, Put, Align, Done. Conditions: each theorem's own.
-/
namespace Go.Proofs.Ytafabheehkmfhaa
open Go.RowKit
set_option linter.unusedVariables false
set_option linter.unusedSimpArgs false
attribute [local go_sem] conv1 isU8_mk u8Str_mk

/-- what is wrong with the numbers of Put -/
def BadArgs (k v : Int) : Prop := k < 0 ∨ (0 ≤ k ∧ 32 < k) ∨ (0 ≤ k ∧ k ≤ 32 ∧ v < 0) ∨ (0 ≤ k ∧ k ≤ 32 ∧ 0 ≤ v ∧ 2 ^ k.toNat ≤ v)
set_option maxHeartbeats 2000000 in
theorem put_bad2 (s : ByteArray) (p n k v : Int) (w : World) (h : wchk s p n = 0) (hc : BadArgs k v) :
    Calls Try.prog 17 #[.agg #[.string s, .int .i64 p, .int .i64 n], .int .i64 k, .int .i64 v] w fun e w' => e = .returned (zeroV 2) ∧ Below w.heap.size w w' := by
  have Hw := Lib.hid h
  clear h
  have ht : 0 ≤ v → (v / 2 ^ k.toNat != 0) = decide (2 ^ k.toNat ≤ v) := shr_test
  unfold BadArgs at hc
  go_enter Try.func17, Try.ntmps17
  go_wp2_with fail
  refine (check_is s p n _ 0 Hw.out).mono ?_
  rintro e w1 ⟨rfl, hb⟩
  obtain ⟨hcc, hff⟩ := bcell hb
  have hz := hb.size
  simp only [World.size_alloc] at hz
  have HW := Lib.hid ((((Below.refl _ _).alloc (Nat.le_refl _) _).alloc (by simp) _).trans (hb.mono (by simp; omega)) : Below w.heap.size w w1)
  clear hb
  rcases hc with h1 | ⟨h1, h2⟩ | ⟨h1, h2, h3⟩ | ⟨h1, h2, h3, h4⟩
  · clear ht
    go_wp2
    refine bodyPost_ret (by simp [results, Try.results17, go_sem, hcc]; try rfl) rfl ?_
    exact ⟨rfl, (((HW.out.setCell (by simp) _).setCell (by simp) _).setCell (by simp) _)⟩
  · clear ht
    go_wp2
    refine bodyPost_ret (by simp [results, Try.results17, go_sem, hcc]; try rfl) rfl ?_
    exact ⟨rfl, (((HW.out.setCell (by simp) _).setCell (by simp) _).setCell (by simp) _)⟩
  · clear ht
    go_wp2
    refine bodyPost_ret (by simp [results, Try.results17, go_sem, hcc]; try rfl) rfl ?_
    exact ⟨rfl, (((HW.out.setCell (by simp) _).setCell (by simp) _).setCell (by simp) _)⟩
  · have ht' : (v / 2 ^ k.toNat != 0) = true := by rw [ht h3]; simpa using h4
    clear ht h4
    go_wp2
    refine bodyPost_ret (by simp [results, Try.results17, go_sem, hcc]; try rfl) rfl ?_
    exact ⟨rfl, (((HW.out.setCell (by simp) _).setCell (by simp) _).setCell (by simp) _)⟩

set_option maxHeartbeats 2000000 in
theorem align_bad (s : ByteArray) (p n c : Int) (w : World) (h : wchk s p n = c) (hc : c ≠ 0) :
    Calls Try.prog 19 #[.agg #[.string s, .int .i64 p, .int .i64 n]] w fun e w' => e = .returned (zeroV c) ∧ Below w.heap.size w w' := by
  have Hw := Lib.hid h
  have hc' : (c != 0) = true := by simpa using hc
  clear h hc
  go_enter Try.func19, Try.ntmps19
  go_wp2_with fail
  refine (check_is s p n _ c Hw.out).mono ?_
  rintro e w1 ⟨rfl, hb⟩
  obtain ⟨hcc, hff⟩ := bcell hb
  have hz := hb.size
  simp only [World.size_alloc] at hz
  have HW := Lib.hid ((((Below.refl _ _).alloc (Nat.le_refl _) _).alloc (by simp) _).trans (hb.mono (by simp; omega)) : Below w.heap.size w w1)
  clear hb
  go_wp2
  refine bodyPost_ret (by simp [results, Try.results19, go_sem, hcc]; try rfl) rfl ?_
  exact ⟨rfl, (((HW.out.setCell (by simp) _).setCell (by simp) _).setCell (by simp) _)⟩

set_option maxHeartbeats 2000000 in
theorem rput_bad1 (s : ByteArray) (p n k v c : Int) (w : World) (h : wchk s p n = c) (hc : c ≠ 0) :
    Calls Try.prog 18 #[.agg #[.string s, .int .i64 p, .int .i64 n], .int .i64 k, .int .i64 v] w fun e w' => e = .returned (zeroV c) ∧ Below w.heap.size w w' := by
  have Hw := Lib.hid h
  have hc' : (c != 0) = true := by simpa using hc
  have hc2 : (c == 0) = false := by simpa using hc
  clear h hc
  go_enter Try.func18, Try.ntmps18
  go_wp2_with fail
  refine (rcheck_is s p n _ c Hw.out).mono ?_
  rintro e w1 ⟨rfl, hb⟩
  obtain ⟨hcc, hff⟩ := bcell hb
  have hz := hb.size
  simp only [World.size_alloc] at hz
  have HW := Lib.hid ((((Below.refl _ _).alloc (Nat.le_refl _) _).alloc (by simp) _).trans (hb.mono (by simp; omega)) : Below w.heap.size w w1)
  clear hb
  go_wp2
  refine bodyPost_ret (by simp [results, Try.results18, go_sem, hcc]; try rfl) rfl ?_
  exact ⟨rfl, (((HW.out.setCell (by simp) _).setCell (by simp) _).setCell (by simp) _)⟩
set_option maxHeartbeats 2000000 in
theorem rput_bad2 (s : ByteArray) (p n k v : Int) (w : World) (h : wchk s p n = 0) (hc : BadArgs k v) :
    Calls Try.prog 18 #[.agg #[.string s, .int .i64 p, .int .i64 n], .int .i64 k, .int .i64 v] w fun e w' => e = .returned (zeroV 2) ∧ Below w.heap.size w w' := by
  have Hw := Lib.hid h
  clear h
  have hwp : k ≤ 32 → wrap64 (2 ^ k.toNat) = 2 ^ k.toNat := fun h => wrap_pow k (by omega)
  unfold BadArgs at hc
  go_enter Try.func18, Try.ntmps18
  go_wp2_with fail
  refine (rcheck_is s p n _ 0 Hw.out).mono ?_
  rintro e w1 ⟨rfl, hb⟩
  obtain ⟨hcc, hff⟩ := bcell hb
  have hz := hb.size
  simp only [World.size_alloc] at hz
  have HW := Lib.hid ((((Below.refl _ _).alloc (Nat.le_refl _) _).alloc (by simp) _).trans (hb.mono (by simp; omega)) : Below w.heap.size w w1)
  clear hb
  rcases hc with h1 | ⟨h1, h2⟩ | ⟨h1, h2, h3⟩ | ⟨h1, h2, h3, h4⟩
  · clear hwp
    go_wp2
    refine bodyPost_ret (by simp [results, Try.results18, go_sem, hcc]; try rfl) rfl ?_
    exact ⟨rfl, (((HW.out.setCell (by simp) _).setCell (by simp) _).setCell (by simp) _)⟩
  · clear hwp
    go_wp2
    refine bodyPost_ret (by simp [results, Try.results18, go_sem, hcc]; try rfl) rfl ?_
    exact ⟨rfl, (((HW.out.setCell (by simp) _).setCell (by simp) _).setCell (by simp) _)⟩
  · clear hwp
    go_wp2
    refine bodyPost_ret (by simp [results, Try.results18, go_sem, hcc]; try rfl) rfl ?_
    exact ⟨rfl, (((HW.out.setCell (by simp) _).setCell (by simp) _).setCell (by simp) _)⟩
  · have hwp := hwp h2
    go_wp2
    refine bodyPost_ret (by simp [results, Try.results18, go_sem, hcc]; try rfl) rfl ?_
    exact ⟨rfl, (((HW.out.setCell (by simp) _).setCell (by simp) _).setCell (by simp) _)⟩
set_option maxHeartbeats 2000000 in
theorem ralign_bad (s : ByteArray) (p n c : Int) (w : World) (h : wchk s p n = c) (hc : c ≠ 0) :
    Calls Try.prog 20 #[.agg #[.string s, .int .i64 p, .int .i64 n]] w fun e w' => e = .returned (zeroV c) ∧ Below w.heap.size w w' := by
  have Hw := Lib.hid h
  have hc' : (c != 0) = true := by simpa using hc
  clear h hc
  go_enter Try.func20, Try.ntmps20
  go_wp2_with fail
  refine (rcheck_is s p n _ c Hw.out).mono ?_
  rintro e w1 ⟨rfl, hb⟩
  obtain ⟨hcc, hff⟩ := bcell hb
  have hz := hb.size
  simp only [World.size_alloc] at hz
  have HW := Lib.hid ((((Below.refl _ _).alloc (Nat.le_refl _) _).alloc (by simp) _).trans (hb.mono (by simp; omega)) : Below w.heap.size w w1)
  clear hb
  go_wp2
  refine bodyPost_ret (by simp [results, Try.results20, go_sem, hcc]; try rfl) rfl ?_
  exact ⟨rfl, (((HW.out.setCell (by simp) _).setCell (by simp) _).setCell (by simp) _)⟩

set_option maxHeartbeats 2000000 in
theorem rbit_core0 (s : ByteArray) (p n b : Nat) (w : World) (hn : n < 7) (hp : p < 2 ^ n) (hb : b ≤ 1) :
    Calls Try.prog 61 #[.agg #[.string s, .int .i64 p, .int .i64 n], .int .i64 b] w fun e w' => e = .returned (.agg #[.string s, .int .i64 ((p + b * 2 ^ n : Nat) : Int), .int .i64 ((n + 1 : Nat) : Int)]) ∧ Below w.heap.size w w' := by
  have hw := wrap_small b n (by omega) hb
  have ht : ((n : Int) + 1 == 8) = false := by simp; omega
  have h8 := pow_lt8 n (by omega)
  have hle : b * 2 ^ n ≤ 128 := Nat.le_trans (Nat.mul_le_mul_right _ hb) (by omega)
  have hs : wrap64 ((p : Int) + (b : Int) * 2 ^ n) = ((p + b * 2 ^ n : Nat) : Int) := by
    rw [show (p : Int) + (b : Int) * 2 ^ n = ((p + b * 2 ^ n : Nat) : Int) by simp]
    exact IntWalk.wrap64_in _ ⟨by omega, by omega⟩
  generalize p + b * 2 ^ n = q at hs ⊢
  clear hle h8
  go_enter Try.func61, Try.ntmps61
  go_wp2
  go_returns
  exact ⟨rfl, by go_grown⟩
set_option maxHeartbeats 2000000 in
theorem rbit_core7 (s : ByteArray) (p b : Nat) (w : World) (hs : s.size ≤ 1099511627776) (hp : p < 128) (hb : b ≤ 1) :
    Calls Try.prog 61 #[.agg #[.string s, .int .i64 p, .int .i64 7], .int .i64 b] w fun e w' => e = .returned (.agg #[.string (s ++ ⟨#[UInt8.ofNat (p + b * 128)]⟩), .int .i64 0, .int .i64 0]) ∧ Below w.heap.size w w' := by
  have hle : ¬ 9223372036854775807 < s.size + 1 := by omega
  go_enter Try.func61, Try.ntmps61
  go_wp2
  go_returns
  exact ⟨by simp, by go_grown⟩
theorem rbit_any (s : ByteArray) (p n : Int) (L W b : Nat) (w : World) (h : s = wS L W) (hp' : p = (wP L W : Nat)) (hn : n = (L % 8 : Nat)) (hL : L / 8 ≤ 1099511627776) (hW : W < 2 ^ L) (hb : b ≤ 1) :
    Calls Try.prog 61 #[.agg #[.string s, .int .i64 p, .int .i64 n], .int .i64 b] w fun e w' => e = .returned (.agg (WCells (L + 1) (W + b * 2 ^ L))) ∧ Below w.heap.size w w' := by
  subst h hp' hn
  have hp := wP_lt L W
  unfold WCells
  rcases Nat.lt_or_ge (L % 8) 7 with h7 | h7
  · obtain ⟨e1, e2, e3⟩ := bit_same L W b hb hW h7
    rw [e1, e2, e3]
    exact rbit_core0 _ _ _ b w h7 hp hb
  · have h7' : L % 8 = 7 := by omega
    obtain ⟨e1, e2, e3⟩ := bit_full L W b hb hW h7'
    rw [e1, e2, e3]
    rw [h7'] at hp ⊢
    exact rbit_core7 _ _ b w (by rw [wS_size]; exact hL) (by simpa using hp) hb
end Go.Proofs.Ytafabheehkmfhaa
/-
  The reference's Put and Align, and both Dones: one answer with the program's. Conditions: each theorem's own.
-/
namespace Go.Proofs.Ytafabheehkmfhaa
open Go.RowKit
set_option linter.unusedVariables false
set_option linter.unusedSimpArgs false

theorem WCells_form (L W : Nat) : ∃ (s : ByteArray) (p n : Int), s = wS L W ∧ p = (wP L W : Nat) ∧ n = (L % 8 : Nat) ∧ WCells L W = #[.string s, .int .i64 p, .int .i64 n] :=
  ⟨_, _, _, rfl, rfl, rfl, rfl⟩
def ZW : Array Value := #[.string ⟨#[]⟩, .int .i64 0, .int .i64 0]
def RPutRel (w : World) (L W v k : Nat) (i : Value) (wr : World) : Prop :=
  ∃ j : Nat, j ≤ k ∧ i = .int .i64 j ∧ Blk wr w.heap.size 23 (WCells (L + j) (W + v % 2 ^ j * 2 ^ L)) ∧ Blk wr (w.heap.size + 1) 23 ZW ∧ Below w.heap.size w wr
set_option maxHeartbeats 2000000 in
theorem rput_core (s : ByteArray) (p n : Int) (L W k v : Nat) (w : World) (h : IsW s p n L W) (hk : k ≤ 32) (hv : v < 2 ^ k) :
    Calls Try.prog 18 #[.agg #[.string s, .int .i64 p, .int .i64 n], .int .i64 k, .int .i64 v] w fun e w' => e = .returned (putOut L W k v) ∧ Below w.heap.size w w' := by
  have hwp : wrap64 ((2 : Int) ^ k) = 2 ^ k := by
    have := wrap_pow (k : Int) (by omega)
    simpa using this
  have hv' : (v : Int) < 2 ^ k := by
    have : ((v : Nat) : Int) < ((2 ^ k : Nat) : Int) := by omega
    simpa using this
  have hn0 : 0 ≤ n := by rw [h.n]; omega
  have hn7 : n ≤ 7 := by rw [h.n]; omega
  have hsz : s.size = L / 8 := by rw [h.s, wS_size]
  have hLe := h.le
  have hs : s.size ≤ 1048576 := by omega
  have hnL : n = (L % 8 : Nat) := h.n
  have Hv := Lib.hid hv
  have Hw := Lib.hid h
  have Hsz := Lib.hid hsz
  have HnL := Lib.hid hnL
  clear hv h hsz hnL
  by_cases hL : 1048576 < (L + k) / 8
  · have ht : (1048576 : Int) < (s.size : Int) + (n + (k : Int)) / 8 := by rw [HnL.out, Hsz.out]; omega
    have HL := Lib.hid hL
    clear hL
    go_enter Try.func18, Try.ntmps18
    go_wp2_with fail
    refine (rcheck_is s p n _ 0 Hw.out.chk).mono ?_
    rintro e w1 ⟨rfl, hb⟩
    obtain ⟨hcc, hff⟩ := bcell hb
    have hz := hb.size
    simp only [World.size_alloc] at hz
    have HW := Lib.hid ((((Below.refl _ _).alloc (Nat.le_refl _) _).alloc (by simp) _).trans (hb.mono (by simp; omega)) : Below w.heap.size w w1)
    clear hb
    go_wp2
    refine bodyPost_ret (by simp [results, Try.results18, go_sem, hcc]; try rfl) rfl ?_
    exact ⟨by rw [putOut_long HL.out], (((HW.out.setCell (by simp) _).setCell (by simp) _).setCell (by simp) _)⟩
  · have ht : ¬ (1048576 : Int) < (s.size : Int) + (n + (k : Int)) / 8 := by rw [HnL.out, Hsz.out]; omega
    have HL := Lib.hid hL
    clear hL
    go_enter Try.func18, Try.ntmps18
    go_wp2_with fail
    refine (rcheck_is s p n _ 0 Hw.out.chk).mono ?_
    rintro e w1 ⟨rfl, hb⟩
    obtain ⟨hcc, hff⟩ := bcell hb
    have hz := hb.size
    simp only [World.size_alloc] at hz
    have HW := Lib.hid ((((Below.refl _ _).alloc (Nat.le_refl _) _).alloc (by simp) _).trans (hb.mono (by simp; omega)) : Below w.heap.size w w1)
    have hX : Blk w1 w.heap.size 23 (WCells L W) := by
      rw [← Hw.out.cells]
      exact ((Blk.new w 23 #[.string s, .int .i64 p, .int .i64 n]).alloc _).below hb (by simp; omega)
    have hZ : Blk w1 (w.heap.size + 1) 23 ZW := by
      have := (Blk.new (w.alloc (.cells #[.string s, .int .i64 p, .int .i64 n] 23)) 23 ZW).below hb (by simp)
      simpa using this
    have HX := Lib.hid hX
    have HZ := Lib.hid hZ
    clear hb hX hZ
    go_wp2_with fail
    go_loopw [9] (fun i wr => RPutRel w L W v k i wr) (fun i _ => k - (intOf i).toNat)
    case atStart => exact ⟨0, Nat.zero_le _, rfl, by simpa [Nat.mod_one] using HX.out, HZ.out, HW.out⟩
    case round =>
      clear hcc hff
      obtain ⟨j, hj, rfl, hBj, hZj, hWj⟩ := hrel
      obtain ⟨s1, p1, n1, es, ep, en, ec⟩ := WCells_form (L + j) (W + v % 2 ^ j * 2 ^ L)
      have hBj' := hBj
      rw [ec] at hBj'
      have c0 := hBj'.cell 0
      have c1 := hBj'.cell 1
      have c2 := hBj'.cell 2
      simp only [List.getElem?_toArray, List.getElem?_cons_zero, List.getElem?_cons_succ] at c0 c1 c2
      have f0 := hBj'.frozen 0
      have f1 := hBj'.frozen 1
      have f2 := hBj'.frozen 2
      have hz2 := hZj.lt
      have Hes := Lib.hid es
      have Hep := Lib.hid ep
      have Hen := Lib.hid en
      have HB := Lib.hid hBj'
      have HZ' := Lib.hid hZj
      have HW' := Lib.hid hWj
      clear es ep en ec hBj hBj' hZj hWj
      by_cases hlt : j < k
      · obtain ⟨b, hb⟩ : ∃ b : Nat, v / 2 ^ j % 2 = b := ⟨_, rfl⟩
        have ha := and_bit v j b (by have := v_lt hk Hv.out; omega) hb
        have hb1 : b ≤ 1 := by omega
        have Hbb := Lib.hid hb
        clear hb
        go_wp2_with fail
        refine (rbit_any s1 p1 n1 (L + j) (W + v % 2 ^ j * 2 ^ L) b wr Hes.out Hep.out Hen.out (by omega) (put_lt L W v j Hw.out.lt) hb1).mono ?_
        rintro e w2 ⟨rfl, hb2⟩
        rw [← Hbb.out, put_next]
        obtain ⟨s2, p2, n2, es2, ep2, en2, ec2⟩ := WCells_form (L + j + 1) (W + v % 2 ^ (j + 1) * 2 ^ L)
        rw [ec2]
        have hB2 := HB.out.below hb2 (by omega)
        have c0 := hB2.cell 0
        have c1 := hB2.cell 1
        have c2 := hB2.cell 2
        simp only [List.getElem?_toArray, List.getElem?_cons_zero, List.getElem?_cons_succ] at c0 c1 c2
        have f0 := hB2.frozen 0
        have f1 := hB2.frozen 1
        have f2 := hB2.frozen 2
        have HB2 := Lib.hid hB2
        have Hb2 := Lib.hid hb2
        have Hec2 := Lib.hid ec2
        clear hb2 hB2 ec2 es2 ep2 en2
        go_wp2
        go_roundw
        case rel =>
          refine ⟨j + 1, by omega, by go_num, ?_, ?_, ?_⟩
          · have := ((HB2.out.set_ 0 (.string s2)).set_ 1 (.int .i64 p2)).set_ 2 (.int .i64 n2)
            rw [← Nat.add_assoc, Hec2.out]
            simpa using this
          · exact (((HZ'.out.below Hb2.out HZ'.out.lt).far (by simp) _).far (by simp) _).far (by simp) _
          · exact (((HW'.out.trans (Hb2.out.mono HW'.out.size)).setCell (by simp) _).setCell (by simp) _).setCell (by simp) _
        case measure => simp [intOf]; omega
      · have : j = k := by omega
        subst this
        have d0 := HZ'.out.cell 0
        have d1 := HZ'.out.cell 1
        have d2 := HZ'.out.cell 2
        unfold ZW at d0 d1 d2
        simp only [List.getElem?_toArray, List.getElem?_cons_zero, List.getElem?_cons_succ] at d0 d1 d2
        have g0 := HZ'.out.frozen 0
        have g1 := HZ'.out.frozen 1
        have g2 := HZ'.out.frozen 2
        go_wp2
        refine bodyPost_ret (by simp [results, Try.results18, go_sem, d0, d1, d2]; try rfl) rfl ?_
        refine ⟨?_, (((HW'.out.setCell (by simp) _).setCell (by simp) _).setCell (by simp) _)⟩
        rw [putOut_ok HL.out, Hes.out, Hep.out, Hen.out, v_mod Hv.out]
end Go.Proofs.Ytafabheehkmfhaa
/-
  The reference's Align; both Dones; what Put, Align and Done answer at any arguments, one answer for the program and the reference. Conditions: none on the arguments.
-/
namespace Go.Proofs.Ytafabheehkmfhaa
open Go.RowKit
set_option linter.unusedVariables false
set_option linter.unusedSimpArgs false

theorem done_of (s s2 : ByteArray) (p n p2 n2 c : Int) (w : World)
    (hA : ∀ w : World, Calls Try.prog 19 #[.agg #[.string s, .int .i64 p, .int .i64 n]] w fun e w' => e = .returned (.tuple #[.agg #[.string s2, .int .i64 p2, .int .i64 n2], .int .i64 c]) ∧ Below w.heap.size w w') :
    Calls Try.prog 21 #[.agg #[.string s, .int .i64 p, .int .i64 n]] w fun e w' => e = .returned (.tuple #[.string s2, .int .i64 c]) ∧ Below w.heap.size w w' := by
  have HA := Lib.hid hA
  clear hA
  go_enter Try.func21, Try.ntmps21
  go_wp2_with fail
  refine (HA.out _).mono ?_
  rintro e w1 ⟨rfl, hb⟩
  have HW := Lib.hid (((Below.refl _ _).alloc (Nat.le_refl _) _).trans (hb.mono (by simp)) : Below w.heap.size w w1)
  have hz := HW.out.size
  clear hb
  go_wp2
  go_ret2
  refine ⟨rfl, ?_⟩
  have := HW.out
  go_grown

theorem rdone_of (s s2 : ByteArray) (p n p2 n2 c : Int) (w : World)
    (hA : ∀ w : World, Calls Try.prog 20 #[.agg #[.string s, .int .i64 p, .int .i64 n]] w fun e w' => e = .returned (.tuple #[.agg #[.string s2, .int .i64 p2, .int .i64 n2], .int .i64 c]) ∧ Below w.heap.size w w') :
    Calls Try.prog 22 #[.agg #[.string s, .int .i64 p, .int .i64 n]] w fun e w' => e = .returned (.tuple #[.string s2, .int .i64 c]) ∧ Below w.heap.size w w' := by
  have HA := Lib.hid hA
  clear hA
  go_enter Try.func22, Try.ntmps22
  go_wp2_with fail
  refine (HA.out _).mono ?_
  rintro e w1 ⟨rfl, hb⟩
  have HW := Lib.hid (((Below.refl _ _).alloc (Nat.le_refl _) _).trans (hb.mono (by simp)) : Below w.heap.size w w1)
  have hz := HW.out.size
  clear hb
  go_wp2
  go_ret2
  refine ⟨rfl, ?_⟩
  have := HW.out
  go_grown
theorem rput_zero (s : ByteArray) (p n : Int) (L W k : Nat) (w : World) (h : IsW s p n L W) (hk : k ≤ 32) :
    Calls Try.prog 18 #[.agg #[.string s, .int .i64 p, .int .i64 n], .int .i64 k, .int .i64 0] w fun e w' => e = .returned (putOut L W k 0) ∧ Below w.heap.size w w' :=
  rput_core s p n L W k 0 w h hk (Nat.pow_pos (by omega))
theorem putOut_form (L W k v : Nat) : ∃ (s : ByteArray) (p n c : Int), putOut L W k v = .tuple #[.agg #[.string s, .int .i64 p, .int .i64 n], .int .i64 c] := by
  by_cases h : 1048576 < (L + k) / 8
  · exact ⟨_, _, _, _, putOut_long h⟩
  · exact ⟨_, _, _, _, putOut_ok h⟩
set_option maxHeartbeats 2000000 in
theorem ralign_core (s : ByteArray) (p n : Int) (L W : Nat) (w : World) (h : IsW s p n L W) :
    Calls Try.prog 20 #[.agg #[.string s, .int .i64 p, .int .i64 n]] w fun e w' => e = .returned (putOut L W ((8 - L % 8) % 8) 0) ∧ Below w.heap.size w w' := by
  have hn0 : 0 ≤ n := by rw [h.n]; omega
  have hn7 : n ≤ 7 := by rw [h.n]; omega
  by_cases h8 : L % 8 = 0
  · have hn : (n == 0) = true := by rw [h.n, h8]; rfl
    have Hr := Lib.hid (show putOut L W ((8 - L % 8) % 8) 0 = .tuple #[.agg #[.string s, .int .i64 p, .int .i64 n], .int .i64 0] by
      rw [h8, putOut_ok (by have := h.le; omega), Nat.add_zero, Nat.zero_mul, Nat.add_zero, ← h.s, ← h.p, ← h.n])
    have Hw := Lib.hid h
    clear h h8
    go_enter Try.func20, Try.ntmps20
    go_wp2_with fail
    refine (rcheck_is s p n _ 0 Hw.out.chk).mono ?_
    rintro e w1 ⟨rfl, hb⟩
    obtain ⟨hcc, hff⟩ := bcell hb
    have hz := hb.size
    simp only [World.size_alloc] at hz
    have HW := Lib.hid ((((Below.refl _ _).alloc (Nat.le_refl _) _).alloc (by simp) _).trans (hb.mono (by simp; omega)) : Below w.heap.size w w1)
    clear hb
    go_wp2
    refine bodyPost_ret (by simp [results, Try.results20, go_sem, hcc]; try rfl) rfl ?_
    exact ⟨by rw [Hr.out], (((HW.out.setCell (by simp) _).setCell (by simp) _).setCell (by simp) _)⟩
  · have hn : (n == 0) = false := by rw [h.n]; simp; omega
    obtain ⟨k, hk⟩ : ∃ k, (8 - L % 8) % 8 = k := ⟨_, rfl⟩
    have hk' : 8 - n = (k : Int) := by rw [h.n]; omega
    have hk8 : k < 8 := by omega
    rw [hk]
    obtain ⟨s2, p2, n2, c2, hout⟩ := putOut_form L W k 0
    have Hr := Lib.hid hout
    have Hw := Lib.hid h
    clear h h8 hk hout
    go_enter Try.func20, Try.ntmps20
    go_wp2_with fail
    refine (rcheck_is s p n _ 0 Hw.out.chk).mono ?_
    rintro e w1 ⟨rfl, hb⟩
    obtain ⟨hcc, hff⟩ := bcell hb
    have hz := hb.size
    simp only [World.size_alloc] at hz
    have HW := Lib.hid ((((Below.refl _ _).alloc (Nat.le_refl _) _).alloc (by simp) _).trans (hb.mono (by simp; omega)) : Below w.heap.size w w1)
    have hZ : Blk w1 (w.heap.size + 1) 23 ZW := by
      have := (Blk.new (w.alloc (.cells #[.string s, .int .i64 p, .int .i64 n] 23)) 23 ZW).below hb (by simp)
      simpa using this
    have HZ := Lib.hid hZ
    clear hb hZ
    go_wp2_with fail
    refine (rput_zero s p n L W k _ Hw.out (by omega)).mono ?_
    rintro e w2 ⟨rfl, hb2⟩
    rw [Hr.out]
    clear hcc hff
    have hZ2 := HZ.out.below hb2 HZ.out.lt
    have hz2 := hZ2.lt
    have d0 := hZ2.cell 0
    have d1 := hZ2.cell 1
    have d2 := hZ2.cell 2
    unfold ZW at d0 d1 d2
    simp only [List.getElem?_toArray, List.getElem?_cons_zero, List.getElem?_cons_succ] at d0 d1 d2
    have g0 := hZ2.frozen 0
    have g1 := hZ2.frozen 1
    have g2 := hZ2.frozen 2
    have HW2 := Lib.hid (HW.out.trans (hb2.mono HW.out.size))
    clear hb2 hZ2
    go_wp2
    refine bodyPost_ret (by simp [results, Try.results20, go_sem, d0, d1, d2]; try rfl) rfl ?_
    exact ⟨by rw [Hr.out], (((HW2.out.setCell (by simp) _).setCell (by simp) _).setCell (by simp) _)⟩

/-- A writer is right, or its error is not 0. -/
theorem isW_of (s : ByteArray) (p n : Int) (h : wchk s p n = 0) : ∃ L W, IsW s p n L W ∧ L = 8 * s.size + n.toNat ∧ W = leN s.data.toList + p.toNat * 2 ^ (8 * s.size) := by
  unfold wchk at h
  split at h
  · omega
  · rename_i h1
    split at h
    · omega
    · rename_i h2
      have hp : p.toNat < 2 ^ n.toNat := by
        have : p < 2 ^ n.toNat := by omega
        have e : (2 : Int) ^ n.toNat = ((2 ^ n.toNat : Nat) : Int) := by simp
        rw [e] at this
        omega
      obtain ⟨L, W, e1, e2, e3, e4, e5, e6⟩ := writer_form s p.toNat n.toNat (by omega) hp
      exact ⟨L, W, ⟨e4, by omega, by omega, e3, by omega⟩, e1, e2⟩
/-- what Put answers -/
def putR (s : ByteArray) (p n k v : Int) : Value :=
  if wchk s p n = 0 then if 0 ≤ k ∧ k ≤ 32 ∧ 0 ≤ v ∧ v < 2 ^ k.toNat then putOut (8 * s.size + n.toNat) (leN s.data.toList + p.toNat * 2 ^ (8 * s.size)) k.toNat v.toNat else zeroV 2 else zeroV (wchk s p n)
def alignR (s : ByteArray) (p n : Int) : Value :=
  if wchk s p n = 0 then putOut (8 * s.size + n.toNat) (leN s.data.toList + p.toNat * 2 ^ (8 * s.size)) ((8 - (8 * s.size + n.toNat) % 8) % 8) 0 else zeroV (wchk s p n)
theorem bad_of {k v : Int} (h : ¬ (0 ≤ k ∧ k ≤ 32 ∧ 0 ≤ v ∧ v < 2 ^ k.toNat)) : BadArgs k v := by
  unfold BadArgs
  by_cases h1 : k < 0
  · exact .inl h1
  by_cases h2 : 32 < k
  · exact .inr (.inl ⟨by omega, h2⟩)
  by_cases h3 : v < 0
  · exact .inr (.inr (.inl ⟨by omega, by omega, h3⟩))
  refine .inr (.inr (.inr ⟨by omega, by omega, by omega, ?_⟩))
  exact Int.not_lt.1 fun h4 => h ⟨by omega, by omega, by omega, h4⟩
theorem nat_args {k v : Int} (h : 0 ≤ k ∧ k ≤ 32 ∧ 0 ≤ v ∧ v < 2 ^ k.toNat) : ∃ K V : Nat, k = K ∧ v = V ∧ K ≤ 32 ∧ V < 2 ^ K ∧ k.toNat = K ∧ v.toNat = V := by
  obtain ⟨K, rfl⟩ := Int.eq_ofNat_of_zero_le h.1
  obtain ⟨V, rfl⟩ := Int.eq_ofNat_of_zero_le h.2.2.1
  refine ⟨K, V, rfl, rfl, by omega, ?_, rfl, rfl⟩
  have := h.2.2.2
  rw [Int.toNat_natCast] at this
  have e : (2 : Int) ^ K = ((2 ^ K : Nat) : Int) := by simp
  rw [e] at this
  omega
theorem put_any (s : ByteArray) (p n k v : Int) (w : World) :
    Calls Try.prog 17 #[.agg #[.string s, .int .i64 p, .int .i64 n], .int .i64 k, .int .i64 v] w fun e w' => e = .returned (putR s p n k v) ∧ Below w.heap.size w w' := by
  unfold putR
  by_cases h : wchk s p n = 0
  · rw [if_pos h]
    by_cases h2 : 0 ≤ k ∧ k ≤ 32 ∧ 0 ≤ v ∧ v < 2 ^ k.toNat
    · rw [if_pos h2]
      obtain ⟨K, V, rfl, rfl, h3, h4, h5, h6⟩ := nat_args h2
      obtain ⟨L, W, hw, rfl, rfl⟩ := isW_of s p n h
      rw [h5, h6]
      exact put_core s p n _ _ K V w hw h3 h4
    · rw [if_neg h2]
      exact put_bad2 s p n k v w h (bad_of h2)
  · rw [if_neg h]
    exact put_bad1 s p n k v _ w rfl h
theorem align_any (s : ByteArray) (p n : Int) (w : World) :
    Calls Try.prog 19 #[.agg #[.string s, .int .i64 p, .int .i64 n]] w fun e w' => e = .returned (alignR s p n) ∧ Below w.heap.size w w' := by
  unfold alignR
  by_cases h : wchk s p n = 0
  · rw [if_pos h]
    obtain ⟨L, W, hw, rfl, rfl⟩ := isW_of s p n h
    exact align_core s p n _ _ w hw
  · rw [if_neg h]
    exact align_bad s p n _ w rfl h
theorem putR_form (s : ByteArray) (p n k v : Int) : ∃ (s2 : ByteArray) (p2 n2 c : Int), putR s p n k v = .tuple #[.agg #[.string s2, .int .i64 p2, .int .i64 n2], .int .i64 c] := by
  unfold putR
  split
  · split
    · unfold putOut
      split <;> exact ⟨_, _, _, _, rfl⟩
    · exact ⟨_, _, _, _, rfl⟩
  · exact ⟨_, _, _, _, rfl⟩
theorem alignR_form (s : ByteArray) (p n : Int) : ∃ (s2 : ByteArray) (p2 n2 c : Int), alignR s p n = .tuple #[.agg #[.string s2, .int .i64 p2, .int .i64 n2], .int .i64 c] := by
  unfold alignR
  split
  · unfold putOut
    split <;> exact ⟨_, _, _, _, rfl⟩
  · exact ⟨_, _, _, _, rfl⟩
theorem rput_any (s : ByteArray) (p n k v : Int) (w : World) :
    Calls Try.prog 18 #[.agg #[.string s, .int .i64 p, .int .i64 n], .int .i64 k, .int .i64 v] w fun e w' => e = .returned (putR s p n k v) ∧ Below w.heap.size w w' := by
  unfold putR
  by_cases h : wchk s p n = 0
  · rw [if_pos h]
    by_cases h2 : 0 ≤ k ∧ k ≤ 32 ∧ 0 ≤ v ∧ v < 2 ^ k.toNat
    · rw [if_pos h2]
      obtain ⟨K, V, rfl, rfl, h3, h4, h5, h6⟩ := nat_args h2
      obtain ⟨L, W, hw, rfl, rfl⟩ := isW_of s p n h
      rw [h5, h6]
      exact rput_core s p n _ _ K V w hw h3 h4
    · rw [if_neg h2]
      exact rput_bad2 s p n k v w h (bad_of h2)
  · rw [if_neg h]
    exact rput_bad1 s p n k v _ w rfl h
theorem ralign_any (s : ByteArray) (p n : Int) (w : World) :
    Calls Try.prog 20 #[.agg #[.string s, .int .i64 p, .int .i64 n]] w fun e w' => e = .returned (alignR s p n) ∧ Below w.heap.size w w' := by
  unfold alignR
  by_cases h : wchk s p n = 0
  · rw [if_pos h]
    obtain ⟨L, W, hw, rfl, rfl⟩ := isW_of s p n h
    exact ralign_core s p n _ _ w hw
  · rw [if_neg h]
    exact ralign_bad s p n _ w rfl h
end Go.Proofs.Ytafabheehkmfhaa
/-
  The readers of package bits and of its reference. Conditions: each theorem's own.
-/
namespace Go.Proofs.Ytafabheehkmfhaa
open Go.RowKit Go.PlainAid
set_option linter.unusedVariables false
set_option linter.unusedSimpArgs false

theorem pow_le62 (n : Nat) (h : n ≤ 61) : 2 ^ n ≤ 2305843009213693952 := by
  have : 2 ^ n ≤ 2 ^ 61 := Nat.pow_le_pow_right (by omega) h
  simpa using this
theorem or_add2 (p b n : Nat) (hn : n ≤ 60) (hp : p < 2 ^ n) (hb : b ≤ 1) : bits .or .i64 (p : Int) ((b : Int) * 2 ^ n) = (p : Int) + (b : Int) * 2 ^ n := by
  have h8 := pow_le62 n (by omega)
  have hle : b * 2 ^ n ≤ 2305843009213693952 := Nat.le_trans (Nat.mul_le_mul_right _ hb) (by omega)
  have e : ((b : Int) * 2 ^ n) = ((b * 2 ^ n : Nat) : Int) := by simp
  rw [e, i64_or_nat _ _ (by omega) (by omega)]
  rw [Nat.or_comm, Nat.mul_comm, ← Nat.two_pow_add_eq_or_of_lt hp]
  omega
theorem wrap_small2 (b n : Nat) (hn : n ≤ 60) (hb : b ≤ 1) : wrap64 ((b : Int) * 2 ^ n) = (b : Int) * 2 ^ n := by
  have h8 := pow_le62 n (by omega)
  have hle : b * 2 ^ n ≤ 2305843009213693952 := Nat.le_trans (Nat.mul_le_mul_right _ hb) (by omega)
  have e : ((b : Int) * 2 ^ n) = ((b * 2 ^ n : Nat) : Int) := by simp
  rw [e]
  exact IntWalk.wrap64_in _ ⟨by omega, by omega⟩
/-- the number of n bits of a string from a bit on -/
def peekN (s : ByteArray) (bit n : Nat) : Nat := leN s.data.toList / 2 ^ bit % 2 ^ n
theorem peekN_lt (s : ByteArray) (bit n : Nat) : peekN s bit n < 2 ^ n := mod_bit_lt _ _
def bitN (s : ByteArray) (k : Nat) : Nat := leN s.data.toList / 2 ^ k % 2
theorem bitN_le (s : ByteArray) (k : Nat) : bitN s k ≤ 1 := by unfold bitN; omega
theorem peekN_next (s : ByteArray) (bit n : Nat) : peekN s bit (n + 1) = peekN s bit n + bitN s (bit + n) * 2 ^ n := by
  unfold peekN bitN
  rw [mod_bit, Nat.div_div_eq_div_mul, ← Nat.pow_add]
theorem bitN_end (s : ByteArray) (k : Nat) (h : 8 * s.size ≤ k) : bitN s k = 0 := by
  unfold bitN
  rw [leN_beyond _ _ (by rw [size_le]; exact h)]
theorem getbyte (s : ByteArray) (i : Nat) (h : i < s.size) : s[i].toNat = (s.data.toList[i]'(by rw [size_le]; exact h)).toNat := by
  simp
  rfl
theorem bt_nat (s : ByteArray) (i : Nat) (h : i < s.size) : bt s i = ((s[i].toNat : Nat) : Int) := (get_bt s i h).symm
theorem bitN_byte (s : ByteArray) (k : Nat) (h : k < 8 * s.size) : (bt s (k / 8) / 2 ^ (k % 8) % 2) = (bitN s k : Int) := by
  have h8 : k / 8 < s.size := by omega
  rw [bt_nat s _ h8, getbyte s _ h8]
  unfold bitN
  rw [← leN_bit s.data.toList k (by rw [size_le]; exact h8)]
  simp
theorem ofInt_u8 (a : Nat) (ha : a < 256) : (BitVec.ofInt 8 (a : Int)).toNat = a := by
  rw [BitVec.ofInt_natCast, BitVec.toNat_ofNat]; exact Nat.mod_eq_of_lt (by omega)
theorem u8_and_one (Y : Nat) (h : Y < 256) : bits .and .u8 (Y : Int) 1 = ((Y % 2 : Nat) : Int) := by
  show IntKind.u8.wrap ((BitVec.ofInt 8 (Y : Int) &&& BitVec.ofInt 8 ((1 : Nat) : Int)).toNat : Int) = _
  rw [BitVec.toNat_and, ofInt_u8 Y h, ofInt_u8 1 (by omega), Nat.and_one_is_mod, IntKind.wrap_u8]
  omega
theorem byte_shift (s : ByteArray) (k : Nat) (h : k < 8 * s.size) : ∃ Y : Nat, Y < 256 ∧ bt s (k / 8) / 2 ^ (k % 8) = (Y : Int) ∧ Y % 2 = bitN s k := by
  have h8 : k / 8 < s.size := by omega
  refine ⟨s[k / 8].toNat / 2 ^ (k % 8), ?_, ?_, ?_⟩
  · exact Nat.lt_of_le_of_lt (Nat.div_le_self _ _) (UInt8.toNat_lt _)
  · rw [bt_nat s _ h8]; simp
  · rw [getbyte s _ h8, leN_bit s.data.toList k (by rw [size_le]; exact h8)]; rfl
theorem peek_step (s : ByteArray) (k x j b : Nat) (h : k < 8 * s.size) (hb : bitN s k = b) (hj : j ≤ 60) (hx : x < 2 ^ j) :
    bits .or .i64 (x : Int) (wrap64 (wrap64 (bits .and .u8 (bt s (k / 8) / 2 ^ (k % 8)) 1) * 2 ^ j)) = ((x + b * 2 ^ j : Nat) : Int) := by
  obtain ⟨Y, h1, h2, h3⟩ := byte_shift s k h
  have hb1 : b ≤ 1 := by rw [← hb]; exact bitN_le _ _
  rw [h2, u8_and_one Y h1, h3, hb, IntWalk.wrap64_in (b : Int) ⟨by omega, by omega⟩, wrap_small2 b j hj hb1, or_add2 x b j hj hx hb1]
  simp
theorem number_step (s : ByteArray) (k x j b : Nat) (h : k < 8 * s.size) (hb : bitN s k = b) (hj : j ≤ 60) (hx : x < 2 ^ j) :
    wrap64 ((x : Int) + wrap64 (bits .and .i64 (bt s (k / 8) / 2 ^ (k % 8)) 1 * 2 ^ j)) = ((x + b * 2 ^ j : Nat) : Int) := by
  obtain ⟨Y, h1, h2, h3⟩ := byte_shift s k h
  have hb1 : b ≤ 1 := by rw [← hb]; exact bitN_le _ _
  have h8 := pow_le62 j (by omega)
  have hle : b * 2 ^ j ≤ 2305843009213693952 := Nat.le_trans (Nat.mul_le_mul_right _ hb1) (by omega)
  rw [h2, show (1 : Int) = ((1 : Nat) : Int) from rfl, i64_and_nat _ _ (by omega) (by omega), Nat.and_one_is_mod, h3, hb, wrap_small2 b j hj hb1]
  have e : (x : Int) + (b : Int) * 2 ^ j = ((x + b * 2 ^ j : Nat) : Int) := by simp
  rw [e]
  exact IntWalk.wrap64_in _ ⟨by omega, by omega⟩
def PeekRel (s : ByteArray) (bit n : Nat) (out i : Value) : Prop := ∃ j : Nat, j ≤ n ∧ i = .int .i64 j ∧ out = .int .i64 (peekN s bit j)
set_option maxHeartbeats 2000000 in
theorem peek_core (s : ByteArray) (bit n : Nat) (w : World) (hs : s.size ≤ 1048576) (hb : bit ≤ 8 * s.size) (hn : n ≤ 32) :
    Calls Try.prog 63 #[.agg #[.string s, .int .i64 bit], .int .i64 n] w fun e w' => e = .returned (.int .i64 (peekN s bit n)) ∧ Below w.heap.size w w' := by
  go_enter Try.func63, Try.ntmps63
  go_wp2
  go_loop [5, 9] (fun out i => PeekRel s bit n out i) (fun _ i => n - (intOf i).toNat)
  case atStart => exact ⟨0, Nat.zero_le _, rfl, by simp [peekN, Nat.mod_one]⟩
  case round =>
    obtain ⟨j, hj, rfl, rfl⟩ := hrel
    by_cases hlt : j < n
    · have hx := peekN_lt s bit j
      obtain ⟨x, ex⟩ : ∃ x, peekN s bit j = x := ⟨_, rfl⟩
      rw [ex] at hx ⊢
      have Ex := Lib.hid ex
      clear ex
      by_cases hend : bit + j < 8 * s.size
      · have hbt := get_bt s
        obtain ⟨b, eb⟩ : ∃ b, bitN s (bit + j) = b := ⟨_, rfl⟩
        have Hst := Lib.hid (peek_step s (bit + j) x j b hend eb (by omega) hx)
        have Eb := Lib.hid eb
        clear eb
        go_wp2_with fail
        refine ⟨⟨j + 1, by omega, by go_num, ?_⟩, by simp [intOf]; omega⟩
        rw [Hst.out, peekN_next, Ex.out, Eb.out]
      · have Eb := Lib.hid (bitN_end s (bit + j) (by omega))
        go_wp2_with fail
        refine ⟨⟨j + 1, by omega, by go_num, ?_⟩, by simp [intOf]; omega⟩
        rw [peekN_next, Ex.out, Eb.out, Nat.zero_mul, Nat.add_zero]
    · have : j = n := by omega
      subst this
      go_wp2
      go_ret
      exact ⟨rfl, by go_grown⟩
set_option maxHeartbeats 2000000 in
theorem number_core (s : ByteArray) (bit n : Nat) (w : World) (hs : s.size ≤ 1048576) (hb : bit ≤ 8 * s.size) (hn : n ≤ 32) :
    Calls Try.prog 64 #[.agg #[.string s, .int .i64 bit], .int .i64 n] w fun e w' => e = .returned (.int .i64 (peekN s bit n)) ∧ Below w.heap.size w w' := by
  go_enter Try.func64, Try.ntmps64
  go_wp2
  go_loop [5, 6] (fun out i => PeekRel s bit n out i) (fun _ i => n - (intOf i).toNat)
  case atStart => exact ⟨0, Nat.zero_le _, rfl, by simp [peekN, Nat.mod_one]⟩
  case round =>
    obtain ⟨j, hj, rfl, rfl⟩ := hrel
    by_cases hlt : j < n
    · have hx := peekN_lt s bit j
      obtain ⟨x, ex⟩ : ∃ x, peekN s bit j = x := ⟨_, rfl⟩
      rw [ex] at hx ⊢
      have Ex := Lib.hid ex
      clear ex
      by_cases hend : bit + j < 8 * s.size
      · have hbt := get_bt s
        have hlo := bt_nonneg s ((bit + j) / 8)
        have hhi := bt_le s ((bit + j) / 8)
        obtain ⟨b, eb⟩ : ∃ b, bitN s (bit + j) = b := ⟨_, rfl⟩
        have Hst := Lib.hid (number_step s (bit + j) x j b hend eb (by omega) hx)
        have Eb := Lib.hid eb
        clear eb
        go_wp2_with fail
        refine ⟨⟨j + 1, by omega, by go_num, ?_⟩, by simp [intOf]; omega⟩
        rw [Hst.out, peekN_next, Ex.out, Eb.out]
      · have Eb := Lib.hid (bitN_end s (bit + j) (by omega))
        go_wp2_with fail
        refine ⟨⟨j + 1, by omega, by go_num, ?_⟩, by simp [intOf]; omega⟩
        rw [peekN_next, Ex.out, Eb.out, Nat.zero_mul, Nat.add_zero]
    · have : j = n := by omega
      subst this
      go_wp2
      go_ret
      exact ⟨rfl, by go_grown⟩
end Go.Proofs.Ytafabheehkmfhaa
/-
  The readers of package bits and of its reference, at any arguments: one answer. Conditions: none on the arguments (numbers are of int's range).
-/
namespace Go.Proofs.Ytafabheehkmfhaa
open Go.RowKit Go.PlainAid
set_option linter.unusedVariables false
set_option linter.unusedSimpArgs false

/-- the error of a reader -/
def rchk (s : ByteArray) (b : Int) : Int := if 1048576 < s.size then 4 else if b < 0 ∨ 8 * (s.size : Int) < b then 2 else 0
def askE (s : ByteArray) (b n : Int) : Int := if rchk s b = 0 then if n < 0 ∨ 32 < n then 2 else 0 else rchk s b
def takeE (s : ByteArray) (b n : Int) : Int := if askE s b n = 0 ∧ 8 * (s.size : Int) < b + n then 5 else askE s b n
def readR (s : ByteArray) (at_ : Int) : Value := if 1048576 < s.size then .tuple #[.agg #[.string ⟨#[]⟩, .int .i64 0], .int .i64 4] else if at_ < 0 ∨ (s.size : Int) < at_ then .tuple #[.agg #[.string ⟨#[]⟩, .int .i64 0], .int .i64 2] else .tuple #[.agg #[.string s, .int .i64 (8 * at_)], .int .i64 0]
def peekR (s : ByteArray) (b n : Int) : Value := if askE s b n = 0 then .tuple #[.int .i64 (peekN s b.toNat n.toNat), .int .i64 0] else .tuple #[.int .i64 0, .int .i64 (askE s b n)]
def takeR (s : ByteArray) (b n : Int) : Value := if takeE s b n = 0 then .tuple #[.agg #[.string s, .int .i64 (b + n)], .int .i64 (peekN s b.toNat n.toNat), .int .i64 0] else .tuple #[.agg #[.string ⟨#[]⟩, .int .i64 0], .int .i64 0, .int .i64 (takeE s b n)]
def leftR (s : ByteArray) (b : Int) : Value := if rchk s b = 0 then .tuple #[.int .i64 (8 * s.size - b), .int .i64 0] else .tuple #[.int .i64 0, .int .i64 (rchk s b)]
def nextR (s : ByteArray) (b : Int) : Value := if rchk s b = 0 then .tuple #[.int .i64 ((b + 7) / 8), .int .i64 0] else .tuple #[.int .i64 0, .int .i64 (rchk s b)]
/-- a number of int's range -/
def InR (n : Int) : Prop := -9223372036854775808 ≤ n ∧ n ≤ 9223372036854775807

theorem ret_tup {v v' : Value} (h : v = v') : Ending.returned v = .returned v' := by rw [h]
theorem rchk_zero {s : ByteArray} {b : Int} (h : rchk s b = 0) : s.size ≤ 1048576 ∧ 0 ≤ b ∧ b ≤ 8 * (s.size : Int) := by
  unfold rchk at h
  split at h
  · omega
  · split at h
    · omega
    · omega
theorem rchk_nat {s : ByteArray} {b : Int} (h : rchk s b = 0) : ∃ B : Nat, b = B ∧ B ≤ 8 * s.size ∧ s.size ≤ 1048576 := by
  obtain ⟨h1, h2, h3⟩ := rchk_zero h
  obtain ⟨B, rfl⟩ := Int.eq_ofNat_of_zero_le h2
  exact ⟨B, rfl, by omega, h1⟩

set_option maxHeartbeats 1000000 in
theorem right_any (s : ByteArray) (b : Int) (w : World) (hs : s.size ≤ 9223372036854775807) :
    Calls Try.prog 23 #[.agg #[.string s, .int .i64 b]] w fun e w' => e = .returned (.int .i64 (rchk s b)) ∧ Below w.heap.size w w' := by
  by_cases h1 : 1048576 < s.size
  · have h2 : (1048576 : Int) < (s.size : Int) := by omega
    go_enter Try.func23, Try.ntmps23
    go_wp2
    go_ret
    exact ⟨ret_int (by unfold rchk; rw [if_pos h1]), by go_grown⟩
  · have h2 : (s.size : Int) ≤ 1048576 := by omega
    go_enter Try.func23, Try.ntmps23
    go_wp2
    all_goals
      go_ret
      refine ⟨ret_int ?_, by go_grown⟩
      unfold rchk
      rw [if_neg h1]
      (repeat' split) <;> omega
set_option maxHeartbeats 1000000 in
theorem right_is (s : ByteArray) (b c : Int) (w : World) (hs : s.size ≤ 9223372036854775807) (h : rchk s b = c) :
    Calls Try.prog 23 #[.agg #[.string s, .int .i64 b]] w fun e w' => e = .returned (.int .i64 c) ∧ Below w.heap.size w w' := by
  have := right_any s b w hs
  rwa [h] at this
set_option maxHeartbeats 1000000 in
theorem read_any (s : ByteArray) (at_ : Int) (w : World) (hs : s.size ≤ 9223372036854775807) :
    Calls Try.prog 25 #[.string s, .int .i64 at_] w fun e w' => e = .returned (readR s at_) ∧ Below w.heap.size w w' := by
  by_cases h1 : 1048576 < s.size
  · have h2 : (1048576 : Int) < (s.size : Int) := by omega
    go_enter Try.func25, Try.ntmps25
    go_wp2
    go_returns
    exact ⟨ret_tup (by unfold readR; rw [if_pos h1]), by go_grown⟩
  · have h2 : (s.size : Int) ≤ 1048576 := by omega
    go_enter Try.func25, Try.ntmps25
    go_wp2
    all_goals
      go_returns
      refine ⟨ret_tup ?_, by go_grown⟩
      unfold readR
      rw [if_neg h1]
    · rw [if_pos (by omega)]
    · rw [if_neg (by omega)]
    · rw [if_pos (by omega)]
set_option maxHeartbeats 1000000 in
theorem left_any (s : ByteArray) (b : Int) (w : World) (hs : s.size ≤ 9223372036854775807) :
    Calls Try.prog 31 #[.agg #[.string s, .int .i64 b]] w fun e w' => e = .returned (leftR s b) ∧ Below w.heap.size w w' := by
  obtain ⟨c, hc⟩ : ∃ c, rchk s b = c := ⟨_, rfl⟩
  by_cases h0 : c = 0
  · subst h0
    obtain ⟨B, rfl, hB, hS⟩ := rchk_nat hc
    have Hc := Lib.hid hc
    clear hc
    go_enter Try.func31, Try.ntmps31
    go_wp2_with fail
    refine (right_is s B 0 _ hs Hc.out).mono ?_
    rintro e w1 ⟨rfl, hb⟩
    obtain ⟨hcc, hff⟩ := bcell hb
    have hz := hb.size
    simp only [World.size_alloc] at hz
    have HW := Lib.hid (((Below.refl _ _).alloc (Nat.le_refl _) _).trans (hb.mono (by simp)) : Below w.heap.size w w1)
    clear hb
    go_wp2
    go_ret2
    exact ⟨ret_tup (by unfold leftR; rw [if_pos Hc.out]; rfl), HW.out⟩
  · have h1 : (c != 0) = true := by simpa using h0
    have Hc := Lib.hid hc
    clear hc
    go_enter Try.func31, Try.ntmps31
    go_wp2_with fail
    refine (right_is s b c _ hs Hc.out).mono ?_
    rintro e w1 ⟨rfl, hb⟩
    obtain ⟨hcc, hff⟩ := bcell hb
    have HW := Lib.hid (((Below.refl _ _).alloc (Nat.le_refl _) _).trans (hb.mono (by simp)) : Below w.heap.size w w1)
    clear hb
    go_wp2
    go_ret2
    exact ⟨ret_tup (by unfold leftR; rw [Hc.out, if_neg h0]; rfl), HW.out⟩
set_option maxHeartbeats 1000000 in
theorem next_any (s : ByteArray) (b : Int) (w : World) (hs : s.size ≤ 9223372036854775807) :
    Calls Try.prog 33 #[.agg #[.string s, .int .i64 b]] w fun e w' => e = .returned (nextR s b) ∧ Below w.heap.size w w' := by
  obtain ⟨c, hc⟩ : ∃ c, rchk s b = c := ⟨_, rfl⟩
  by_cases h0 : c = 0
  · subst h0
    obtain ⟨B, rfl, hB, hS⟩ := rchk_nat hc
    have Hc := Lib.hid hc
    clear hc
    go_enter Try.func33, Try.ntmps33
    go_wp2_with fail
    refine (right_is s B 0 _ hs Hc.out).mono ?_
    rintro e w1 ⟨rfl, hb⟩
    obtain ⟨hcc, hff⟩ := bcell hb
    have hz := hb.size
    simp only [World.size_alloc] at hz
    have HW := Lib.hid (((Below.refl _ _).alloc (Nat.le_refl _) _).trans (hb.mono (by simp)) : Below w.heap.size w w1)
    clear hb
    go_wp2
    go_ret2
    exact ⟨ret_tup (by unfold nextR; rw [if_pos Hc.out]; rfl), HW.out⟩
  · have h1 : (c != 0) = true := by simpa using h0
    have Hc := Lib.hid hc
    clear hc
    go_enter Try.func33, Try.ntmps33
    go_wp2_with fail
    refine (right_is s b c _ hs Hc.out).mono ?_
    rintro e w1 ⟨rfl, hb⟩
    obtain ⟨hcc, hff⟩ := bcell hb
    have HW := Lib.hid (((Below.refl _ _).alloc (Nat.le_refl _) _).trans (hb.mono (by simp)) : Below w.heap.size w w1)
    clear hb
    go_wp2
    go_ret2
    exact ⟨ret_tup (by unfold nextR; rw [Hc.out, if_neg h0]; rfl), HW.out⟩
set_option maxHeartbeats 1000000 in
theorem asked_any (s : ByteArray) (b n : Int) (w : World) (hs : s.size ≤ 9223372036854775807) :
    Calls Try.prog 62 #[.agg #[.string s, .int .i64 b], .int .i64 n] w fun e w' => e = .returned (.int .i64 (askE s b n)) ∧ Below w.heap.size w w' := by
  obtain ⟨c, hc⟩ : ∃ c, rchk s b = c := ⟨_, rfl⟩
  have Hc := Lib.hid hc
  clear hc
  go_enter Try.func62, Try.ntmps62
  go_wp2_with fail
  refine (right_is s b c _ hs Hc.out).mono ?_
  rintro e w1 ⟨rfl, hb⟩
  obtain ⟨hcc, hff⟩ := bcell hb
  have HW := Lib.hid (((Below.refl _ _).alloc (Nat.le_refl _) _).trans (hb.mono (by simp)) : Below w.heap.size w w1)
  clear hb
  by_cases h0 : c = 0
  · subst h0
    by_cases h1 : n < 0
    · go_wp2
      go_ret
      exact ⟨ret_int (by unfold askE; rw [if_pos Hc.out, if_pos (.inl h1)]), HW.out⟩
    · by_cases h2 : 32 < n
      · go_wp2
        go_ret
        exact ⟨ret_int (by unfold askE; rw [if_pos Hc.out, if_pos (.inr h2)]), HW.out⟩
      · go_wp2
        go_ret
        exact ⟨ret_int (by unfold askE; rw [if_pos Hc.out, if_neg (by omega)]), HW.out⟩
  · have h1 : (c == 0) = false := by simpa using h0
    have H0 := Lib.hid h0
    clear h0
    go_wp2
    go_ret
    exact ⟨ret_int (by unfold askE; rw [Hc.out, if_neg H0.out]), HW.out⟩
theorem asked_is (s : ByteArray) (b n c : Int) (w : World) (hs : s.size ≤ 9223372036854775807) (h : askE s b n = c) :
    Calls Try.prog 62 #[.agg #[.string s, .int .i64 b], .int .i64 n] w fun e w' => e = .returned (.int .i64 c) ∧ Below w.heap.size w w' := by
  have := asked_any s b n w hs
  rwa [h] at this
theorem askE_nat {s : ByteArray} {b n : Int} (h : askE s b n = 0) : ∃ B N : Nat, b = B ∧ n = N ∧ B ≤ 8 * s.size ∧ s.size ≤ 1048576 ∧ N ≤ 32 := by
  unfold askE at h
  split at h
  · rename_i h1
    obtain ⟨B, h2, h3, h4⟩ := rchk_nat h1
    split at h
    · omega
    · exact ⟨B, n.toNat, h2, by omega, h3, h4, by omega⟩
  · contradiction
set_option maxHeartbeats 1000000 in
theorem Peek_any (s : ByteArray) (b n : Int) (w : World) (hs : s.size ≤ 9223372036854775807) :
    Calls Try.prog 29 #[.agg #[.string s, .int .i64 b], .int .i64 n] w fun e w' => e = .returned (peekR s b n) ∧ Below w.heap.size w w' := by
  obtain ⟨c, hc⟩ : ∃ c, askE s b n = c := ⟨_, rfl⟩
  by_cases h0 : c = 0
  · subst h0
    obtain ⟨B, N, rfl, rfl, hB, hS, hN⟩ := askE_nat hc
    have Hc := Lib.hid hc
    clear hc
    go_enter Try.func29, Try.ntmps29
    go_wp2_with fail
    refine (asked_is s B N 0 _ hs Hc.out).mono ?_
    rintro e w1 ⟨rfl, hb⟩
    obtain ⟨hcc, hff⟩ := bcell hb
    have hz := hb.size
    simp only [World.size_alloc] at hz
    have HW := Lib.hid (((Below.refl _ _).alloc (Nat.le_refl _) _).trans (hb.mono (by simp)) : Below w.heap.size w w1)
    clear hb
    go_wp2_with fail
    refine (peek_core s B N _ hS hB hN).mono ?_
    rintro e w2 ⟨rfl, hb⟩
    have HW2 := Lib.hid (HW.out.trans (hb.mono (by omega)))
    clear hb hcc hff
    go_wp2
    go_ret2
    exact ⟨ret_tup (by unfold peekR; rw [if_pos Hc.out]; rfl), HW2.out⟩
  · have h1 : (c != 0) = true := by simpa using h0
    have Hc := Lib.hid hc
    clear hc
    go_enter Try.func29, Try.ntmps29
    go_wp2_with fail
    refine (asked_is s b n c _ hs Hc.out).mono ?_
    rintro e w1 ⟨rfl, hb⟩
    obtain ⟨hcc, hff⟩ := bcell hb
    have HW := Lib.hid (((Below.refl _ _).alloc (Nat.le_refl _) _).trans (hb.mono (by simp)) : Below w.heap.size w w1)
    clear hb
    go_wp2
    go_ret2
    exact ⟨ret_tup (by unfold peekR; rw [Hc.out, if_neg h0]; rfl), HW.out⟩
end Go.Proofs.Ytafabheehkmfhaa
/-
  Take of package bits, and the reference's readers: one answer. Conditions: none on the arguments (numbers are of int's range).
-/
namespace Go.Proofs.Ytafabheehkmfhaa
open Go.RowKit Go.PlainAid
set_option linter.unusedVariables false
set_option linter.unusedSimpArgs false

set_option maxHeartbeats 2000000 in
theorem take_any (s : ByteArray) (b n : Int) (w : World) (hs : s.size ≤ 9223372036854775807) :
    Calls Try.prog 27 #[.agg #[.string s, .int .i64 b], .int .i64 n] w fun e w' => e = .returned (takeR s b n) ∧ Below w.heap.size w w' := by
  obtain ⟨c, hc⟩ : ∃ c, askE s b n = c := ⟨_, rfl⟩
  by_cases h0 : c = 0
  · subst h0
    obtain ⟨B, N, rfl, rfl, hB, hS, hN⟩ := askE_nat hc
    by_cases hlt : 8 * s.size < B + N
    · have ht : (8 : Int) * (s.size : Int) - (B : Int) < (N : Int) := by omega
      have Ht := Lib.hid (show takeE s B N = 5 by unfold takeE; rw [if_pos ⟨hc, by omega⟩])
      have Hc := Lib.hid hc
      clear hc
      go_enter Try.func27, Try.ntmps27
      go_wp2_with fail
      refine (asked_is s B N 0 _ hs Hc.out).mono ?_
      rintro e w1 ⟨rfl, hb⟩
      obtain ⟨hcc, hff⟩ := bcell hb
      have hz := hb.size
      simp only [World.size_alloc] at hz
      have HW := Lib.hid ((((Below.refl _ _).alloc (Nat.le_refl _) _).alloc (by simp) _).trans (hb.mono (by simp; omega)) : Below w.heap.size w w1)
      clear hb
      go_wp2
      refine bodyPost_ret (by simp [results, Try.results27, go_sem, hcc]; try rfl) rfl ?_
      exact ⟨ret_tup (by unfold takeR; rw [Ht.out, if_neg (by decide)]; try rfl), ((HW.out.setCell (by simp) _).setCell (by simp) _)⟩
    · have ht : ¬ (8 : Int) * (s.size : Int) - (B : Int) < (N : Int) := by omega
      have Ht := Lib.hid (show takeE s B N = 0 by unfold takeE; rw [if_neg (by omega)]; exact hc)
      have Hc := Lib.hid hc
      clear hc
      go_enter Try.func27, Try.ntmps27
      go_wp2_with fail
      refine (asked_is s B N 0 _ hs Hc.out).mono ?_
      rintro e w1 ⟨rfl, hb⟩
      obtain ⟨hcc, hff⟩ := bcell hb
      have hz := hb.size
      simp only [World.size_alloc] at hz
      have HW := Lib.hid ((((Below.refl _ _).alloc (Nat.le_refl _) _).alloc (by simp) _).trans (hb.mono (by simp; omega)) : Below w.heap.size w w1)
      have hX : Blk w1 w.heap.size 34 #[.string s, .int .i64 B] := ((Blk.new w 34 #[.string s, .int .i64 B]).alloc _).below hb (by simp; omega)
      have hZ : Blk w1 (w.heap.size + 1) 34 #[.string ⟨#[]⟩, .int .i64 0] := by
        have := (Blk.new (w.alloc (.cells #[.string s, .int .i64 B] 34)) 34 #[.string ⟨#[]⟩, .int .i64 0]).below hb (by simp)
        simpa using this
      have HX := Lib.hid hX
      have HZ := Lib.hid hZ
      clear hb hX hZ
      go_wp2_with fail
      refine (peek_core s B N _ hS hB hN).mono ?_
      rintro e w2 ⟨rfl, hb⟩
      have hz2 := hb.size
      have hX2 := HX.out.below hb HX.out.lt
      have hZ2 := HZ.out.below hb HZ.out.lt
      have c0 := hX2.cell 0
      have c1 := hX2.cell 1
      have d0 := hZ2.cell 0
      have d1 := hZ2.cell 1
      simp only [List.getElem?_toArray, List.getElem?_cons_zero, List.getElem?_cons_succ] at c0 c1 d0 d1
      have f0 := hX2.frozen 0
      have f1 := hX2.frozen 1
      have g0 := hZ2.frozen 0
      have g1 := hZ2.frozen 1
      have HW2 := Lib.hid (HW.out.trans (hb.mono (by omega)))
      clear hb hcc hff hX2 hZ2
      obtain ⟨x, ex⟩ : ∃ x : Int, ((peekN s B N : Nat) : Int) = x := ⟨_, rfl⟩
      rw [ex]
      have Ex := Lib.hid ex
      clear ex
      go_wp2
      refine bodyPost_ret (by simp [results, Try.results27, go_sem, d0, d1]; try rfl) rfl ?_
      exact ⟨ret_tup (by unfold takeR; rw [Ht.out, if_pos rfl]; simp only [Int.toNat_natCast, Ex.out]; try rfl), (((HW2.out.setCell (by simp) _).setCell (by simp) _).setCell (by simp) _)⟩
  · have h1 : (c != 0) = true := by simpa using h0
    have h2 : (c == 0) = false := by simpa using h0
    have Ht := Lib.hid (show takeE s b n = c by unfold takeE; rw [if_neg (by rintro ⟨h, _⟩; exact h0 (hc.symm.trans h))]; exact hc)
    have Hc := Lib.hid hc
    have H0 := Lib.hid h0
    clear hc h0
    go_enter Try.func27, Try.ntmps27
    go_wp2_with fail
    refine (asked_is s b n c _ hs Hc.out).mono ?_
    rintro e w1 ⟨rfl, hb⟩
    obtain ⟨hcc, hff⟩ := bcell hb
    have hz := hb.size
    simp only [World.size_alloc] at hz
    have HW := Lib.hid ((((Below.refl _ _).alloc (Nat.le_refl _) _).alloc (by simp) _).trans (hb.mono (by simp; omega)) : Below w.heap.size w w1)
    clear hb
    go_wp2
    refine bodyPost_ret (by simp [results, Try.results27, go_sem, hcc]; try rfl) rfl ?_
    exact ⟨ret_tup (by unfold takeR; rw [Ht.out, if_neg H0.out]; try rfl), ((HW.out.setCell (by simp) _).setCell (by simp) _)⟩
set_option maxHeartbeats 1000000 in
theorem rright_any (s : ByteArray) (b : Int) (w : World) (hs : s.size ≤ 9223372036854775807) :
    Calls Try.prog 24 #[.agg #[.string s, .int .i64 b]] w fun e w' => e = .returned (.int .i64 (rchk s b)) ∧ Below w.heap.size w w' := by
  by_cases h1 : 1048576 < s.size
  · have h2 : (1048576 : Int) < (s.size : Int) := by omega
    go_enter Try.func24, Try.ntmps24
    go_wp2
    go_ret
    exact ⟨ret_int (by unfold rchk; rw [if_pos h1]), by go_grown⟩
  · have h2 : (s.size : Int) ≤ 1048576 := by omega
    go_enter Try.func24, Try.ntmps24
    go_wp2
    all_goals
      go_ret
      refine ⟨ret_int ?_, by go_grown⟩
      unfold rchk
      rw [if_neg h1]
      (repeat' split) <;> omega
theorem rright_is (s : ByteArray) (b c : Int) (w : World) (hs : s.size ≤ 9223372036854775807) (h : rchk s b = c) :
    Calls Try.prog 24 #[.agg #[.string s, .int .i64 b]] w fun e w' => e = .returned (.int .i64 c) ∧ Below w.heap.size w w' := by
  have := rright_any s b w hs
  rwa [h] at this
set_option maxHeartbeats 1000000 in
theorem rread_any (s : ByteArray) (at_ : Int) (w : World) (hs : s.size ≤ 9223372036854775807) :
    Calls Try.prog 26 #[.string s, .int .i64 at_] w fun e w' => e = .returned (readR s at_) ∧ Below w.heap.size w w' := by
  by_cases h1 : 1048576 < s.size
  · have h2 : (1048576 : Int) < (s.size : Int) := by omega
    go_enter Try.func26, Try.ntmps26
    go_wp2
    go_returns
    exact ⟨ret_tup (by unfold readR; rw [if_pos h1]), by go_grown⟩
  · have h2 : (s.size : Int) ≤ 1048576 := by omega
    go_enter Try.func26, Try.ntmps26
    go_wp2
    all_goals
      go_returns
      refine ⟨ret_tup ?_, by go_grown⟩
      unfold readR
      rw [if_neg h1]
    · rw [if_pos (by omega)]
    · rw [if_neg (by omega)]
    · rw [if_pos (by omega)]
set_option maxHeartbeats 1000000 in
theorem rleft_any (s : ByteArray) (b : Int) (w : World) (hs : s.size ≤ 9223372036854775807) :
    Calls Try.prog 32 #[.agg #[.string s, .int .i64 b]] w fun e w' => e = .returned (leftR s b) ∧ Below w.heap.size w w' := by
  obtain ⟨c, hc⟩ : ∃ c, rchk s b = c := ⟨_, rfl⟩
  by_cases h0 : c = 0
  · subst h0
    obtain ⟨B, rfl, hB, hS⟩ := rchk_nat hc
    have Hc := Lib.hid hc
    clear hc
    go_enter Try.func32, Try.ntmps32
    go_wp2_with fail
    refine (rright_is s B 0 _ hs Hc.out).mono ?_
    rintro e w1 ⟨rfl, hb⟩
    obtain ⟨hcc, hff⟩ := bcell hb
    have hz := hb.size
    simp only [World.size_alloc] at hz
    have HW := Lib.hid (((Below.refl _ _).alloc (Nat.le_refl _) _).trans (hb.mono (by simp)) : Below w.heap.size w w1)
    clear hb
    go_wp2
    go_ret2
    exact ⟨ret_tup (by unfold leftR; rw [if_pos Hc.out]; rfl), HW.out⟩
  · have h1 : (c != 0) = true := by simpa using h0
    have Hc := Lib.hid hc
    clear hc
    go_enter Try.func32, Try.ntmps32
    go_wp2_with fail
    refine (rright_is s b c _ hs Hc.out).mono ?_
    rintro e w1 ⟨rfl, hb⟩
    obtain ⟨hcc, hff⟩ := bcell hb
    have HW := Lib.hid (((Below.refl _ _).alloc (Nat.le_refl _) _).trans (hb.mono (by simp)) : Below w.heap.size w w1)
    clear hb
    go_wp2
    go_ret2
    exact ⟨ret_tup (by unfold leftR; rw [Hc.out, if_neg h0]; rfl), HW.out⟩
set_option maxHeartbeats 1000000 in
theorem rnext_any (s : ByteArray) (b : Int) (w : World) (hs : s.size ≤ 9223372036854775807) :
    Calls Try.prog 34 #[.agg #[.string s, .int .i64 b]] w fun e w' => e = .returned (nextR s b) ∧ Below w.heap.size w w' := by
  obtain ⟨c, hc⟩ : ∃ c, rchk s b = c := ⟨_, rfl⟩
  by_cases h0 : c = 0
  · subst h0
    obtain ⟨B, rfl, hB, hS⟩ := rchk_nat hc
    have Hc := Lib.hid hc
    clear hc
    go_enter Try.func34, Try.ntmps34
    go_wp2_with fail
    refine (rright_is s B 0 _ hs Hc.out).mono ?_
    rintro e w1 ⟨rfl, hb⟩
    obtain ⟨hcc, hff⟩ := bcell hb
    have hz := hb.size
    simp only [World.size_alloc] at hz
    have HW := Lib.hid (((Below.refl _ _).alloc (Nat.le_refl _) _).trans (hb.mono (by simp)) : Below w.heap.size w w1)
    clear hb
    go_wp2
    go_ret2
    exact ⟨ret_tup (by unfold nextR; rw [if_pos Hc.out]; rfl), HW.out⟩
  · have h1 : (c != 0) = true := by simpa using h0
    have Hc := Lib.hid hc
    clear hc
    go_enter Try.func34, Try.ntmps34
    go_wp2_with fail
    refine (rright_is s b c _ hs Hc.out).mono ?_
    rintro e w1 ⟨rfl, hb⟩
    obtain ⟨hcc, hff⟩ := bcell hb
    have HW := Lib.hid (((Below.refl _ _).alloc (Nat.le_refl _) _).trans (hb.mono (by simp)) : Below w.heap.size w w1)
    clear hb
    go_wp2
    go_ret2
    exact ⟨ret_tup (by unfold nextR; rw [Hc.out, if_neg h0]; rfl), HW.out⟩
set_option maxHeartbeats 1000000 in
theorem rPeek_any (s : ByteArray) (b n : Int) (w : World) (hs : s.size ≤ 9223372036854775807) :
    Calls Try.prog 30 #[.agg #[.string s, .int .i64 b], .int .i64 n] w fun e w' => e = .returned (peekR s b n) ∧ Below w.heap.size w w' := by
  obtain ⟨c, hc⟩ : ∃ c, rchk s b = c := ⟨_, rfl⟩
  by_cases h0 : c = 0
  · subst h0
    obtain ⟨B, rfl, hB, hS⟩ := rchk_nat hc
    have Hc := Lib.hid hc
    clear hc
    go_enter Try.func30, Try.ntmps30
    go_wp2_with fail
    refine (rright_is s B 0 _ hs Hc.out).mono ?_
    rintro e w1 ⟨rfl, hb⟩
    obtain ⟨hcc, hff⟩ := bcell hb
    have hz := hb.size
    simp only [World.size_alloc] at hz
    have HW := Lib.hid (((Below.refl _ _).alloc (Nat.le_refl _) _).trans (hb.mono (by simp)) : Below w.heap.size w w1)
    clear hb
    by_cases h1 : n < 0
    · go_wp2
      go_ret2
      exact ⟨ret_tup (by have h9 : askE s B n = 2 := (by unfold askE; rw [if_pos Hc.out, if_pos (.inl h1)]); unfold peekR; rw [h9, if_neg (by decide)]; try rfl), HW.out⟩
    · by_cases h2 : 32 < n
      · go_wp2
        go_ret2
        exact ⟨ret_tup (by have h9 : askE s B n = 2 := (by unfold askE; rw [if_pos Hc.out, if_pos (.inr h2)]); unfold peekR; rw [h9, if_neg (by decide)]; try rfl), HW.out⟩
      · obtain ⟨N, rfl⟩ := Int.eq_ofNat_of_zero_le (Int.not_lt.1 h1)
        go_wp2_with fail
        refine (number_core s B N _ hS hB (by omega)).mono ?_
        rintro e w2 ⟨rfl, hb⟩
        have HW2 := Lib.hid (HW.out.trans (hb.mono (by omega)))
        clear hb hcc hff
        go_wp2
        go_ret2
        exact ⟨ret_tup (by have h9 : askE s B N = 0 := (by unfold askE; rw [if_pos Hc.out, if_neg (by omega)]); unfold peekR; rw [if_pos h9]; try rfl), HW2.out⟩
  · have h1 : (c != 0) = true := by simpa using h0
    have h2 : (c == 0) = false := by simpa using h0
    have Hc := Lib.hid hc
    have H0 := Lib.hid h0
    clear hc h0
    go_enter Try.func30, Try.ntmps30
    go_wp2_with fail
    refine (rright_is s b c _ hs Hc.out).mono ?_
    rintro e w1 ⟨rfl, hb⟩
    obtain ⟨hcc, hff⟩ := bcell hb
    have HW := Lib.hid (((Below.refl _ _).alloc (Nat.le_refl _) _).trans (hb.mono (by simp)) : Below w.heap.size w w1)
    clear hb
    go_wp2
    go_ret2
    exact ⟨ret_tup (by have h9 : askE s b n = c := (by unfold askE; rw [Hc.out, if_neg H0.out]); unfold peekR; rw [h9, if_neg H0.out]; try rfl), HW.out⟩
theorem rPeek_ok (s : ByteArray) (b n : Int) (w : World) (hs : s.size ≤ 9223372036854775807) (h : askE s b n = 0) :
    Calls Try.prog 30 #[.agg #[.string s, .int .i64 b], .int .i64 n] w fun e w' => e = .returned (.tuple #[.int .i64 (peekN s b.toNat n.toNat), .int .i64 0]) ∧ Below w.heap.size w w' := by
  have := rPeek_any s b n w hs
  unfold peekR at this
  rwa [if_pos h] at this
theorem rPeek_no (s : ByteArray) (b n c : Int) (w : World) (hs : s.size ≤ 9223372036854775807) (h : askE s b n = c) (h0 : c ≠ 0) :
    Calls Try.prog 30 #[.agg #[.string s, .int .i64 b], .int .i64 n] w fun e w' => e = .returned (.tuple #[.int .i64 0, .int .i64 c]) ∧ Below w.heap.size w w' := by
  have := rPeek_any s b n w hs
  unfold peekR at this
  rwa [h, if_neg h0] at this
set_option maxHeartbeats 2000000 in
theorem rtake_any (s : ByteArray) (b n : Int) (w : World) (hs : s.size ≤ 9223372036854775807) :
    Calls Try.prog 28 #[.agg #[.string s, .int .i64 b], .int .i64 n] w fun e w' => e = .returned (takeR s b n) ∧ Below w.heap.size w w' := by
  obtain ⟨c, hc⟩ : ∃ c, askE s b n = c := ⟨_, rfl⟩
  by_cases h0 : c = 0
  · subst h0
    obtain ⟨B, N, rfl, rfl, hB, hS, hN⟩ := askE_nat hc
    obtain ⟨x, ex⟩ : ∃ x : Int, ((peekN s B N : Nat) : Int) = x := ⟨_, rfl⟩
    have Ex := Lib.hid ex
    clear ex
    by_cases hlt : 8 * s.size < B + N
    · have ht : (8 : Int) * (s.size : Int) < (B : Int) + (N : Int) := by omega
      have Ht := Lib.hid (show takeE s B N = 5 by unfold takeE; rw [if_pos ⟨hc, by omega⟩])
      have Hc := Lib.hid hc
      clear hc
      go_enter Try.func28, Try.ntmps28
      go_wp2_with fail
      refine (rPeek_ok s B N _ hs Hc.out).mono ?_
      rintro e w1 ⟨rfl, hb⟩
      simp only [Int.toNat_natCast, Ex.out]
      obtain ⟨hcc, hff⟩ := bcell hb
      have hz := hb.size
      simp only [World.size_alloc] at hz
      have HW := Lib.hid ((((Below.refl _ _).alloc (Nat.le_refl _) _).alloc (by simp) _).trans (hb.mono (by simp; omega)) : Below w.heap.size w w1)
      clear hb
      go_wp2
      refine bodyPost_ret (by simp [results, Try.results28, go_sem, hcc]; try rfl) rfl ?_
      exact ⟨ret_tup (by unfold takeR; rw [Ht.out, if_neg (by decide)]; try rfl), ((HW.out.setCell (by simp) _).setCell (by simp) _)⟩
    · have ht : ¬ (8 : Int) * (s.size : Int) < (B : Int) + (N : Int) := by omega
      have Ht := Lib.hid (show takeE s B N = 0 by unfold takeE; rw [if_neg (by omega)]; exact hc)
      have Hc := Lib.hid hc
      clear hc
      go_enter Try.func28, Try.ntmps28
      go_wp2_with fail
      refine (rPeek_ok s B N _ hs Hc.out).mono ?_
      rintro e w1 ⟨rfl, hb⟩
      simp only [Int.toNat_natCast, Ex.out]
      obtain ⟨hcc, hff⟩ := bcell hb
      have hz := hb.size
      simp only [World.size_alloc] at hz
      have HW := Lib.hid ((((Below.refl _ _).alloc (Nat.le_refl _) _).alloc (by simp) _).trans (hb.mono (by simp; omega)) : Below w.heap.size w w1)
      have hX : Blk w1 w.heap.size 34 #[.string s, .int .i64 B] := ((Blk.new w 34 #[.string s, .int .i64 B]).alloc _).below hb (by simp; omega)
      have hZ : Blk w1 (w.heap.size + 1) 34 #[.string ⟨#[]⟩, .int .i64 0] := by
        have := (Blk.new (w.alloc (.cells #[.string s, .int .i64 B] 34)) 34 #[.string ⟨#[]⟩, .int .i64 0]).below hb (by simp)
        simpa using this
      have c0 := hX.cell 0
      have c1 := hX.cell 1
      have d0 := hZ.cell 0
      have d1 := hZ.cell 1
      simp only [List.getElem?_toArray, List.getElem?_cons_zero, List.getElem?_cons_succ] at c0 c1 d0 d1
      have f0 := hX.frozen 0
      have f1 := hX.frozen 1
      have g0 := hZ.frozen 0
      have g1 := hZ.frozen 1
      clear hb hX hZ hcc hff
      go_wp2
      refine bodyPost_ret (by simp [results, Try.results28, go_sem, d0, d1]; try rfl) rfl ?_
      exact ⟨ret_tup (by unfold takeR; rw [Ht.out, if_pos rfl]; simp only [Int.toNat_natCast, Ex.out]; try rfl), (((HW.out.setCell (by simp) _).setCell (by simp) _).setCell (by simp) _)⟩
  · have h1 : (c != 0) = true := by simpa using h0
    have h2 : (c == 0) = false := by simpa using h0
    have Ht := Lib.hid (show takeE s b n = c by unfold takeE; rw [if_neg (by rintro ⟨h, _⟩; exact h0 (hc.symm.trans h))]; exact hc)
    have Hc := Lib.hid hc
    have H0 := Lib.hid h0
    clear hc h0
    go_enter Try.func28, Try.ntmps28
    go_wp2_with fail
    refine (rPeek_no s b n c _ hs Hc.out H0.out).mono ?_
    rintro e w1 ⟨rfl, hb⟩
    obtain ⟨hcc, hff⟩ := bcell hb
    have hz := hb.size
    simp only [World.size_alloc] at hz
    have HW := Lib.hid ((((Below.refl _ _).alloc (Nat.le_refl _) _).alloc (by simp) _).trans (hb.mono (by simp; omega)) : Below w.heap.size w w1)
    clear hb
    go_wp2
    refine bodyPost_ret (by simp [results, Try.results28, go_sem, hcc]; try rfl) rfl ?_
    exact ⟨ret_tup (by unfold takeR; rw [Ht.out, if_neg H0.out]; try rfl), ((HW.out.setCell (by simp) _).setCell (by simp) _)⟩
end Go.Proofs.Ytafabheehkmfhaa
/-
  Package bits by contract: Put, Done, Take, Next, and the reference's. Conditions: each theorem's own.
-/
namespace Go.Proofs.Ytafabheehkmfhaa
open Go.RowKit
set_option linter.unusedVariables false
set_option linter.unusedSimpArgs false
set_option maxRecDepth 100000
abbrev W3 : Type := ByteArray × Int × Int
def zW : W3 := (⟨#[]⟩, 0, 0)
/-- what Put answers -/
def putT (w : W3) (k v : Int) : W3 × Int :=
  if wchk w.1 w.2.1 w.2.2 = 0 then if 0 ≤ k ∧ k ≤ 32 ∧ 0 ≤ v ∧ v < 2 ^ k.toNat then
    (if 1048576 < (8 * w.1.size + w.2.2.toNat + k.toNat) / 8 then (zW, 4) else
      ((wS (8 * w.1.size + w.2.2.toNat + k.toNat) (leN w.1.data.toList + w.2.1.toNat * 2 ^ (8 * w.1.size) + v.toNat * 2 ^ (8 * w.1.size + w.2.2.toNat)),
        (wP (8 * w.1.size + w.2.2.toNat + k.toNat) (leN w.1.data.toList + w.2.1.toNat * 2 ^ (8 * w.1.size) + v.toNat * 2 ^ (8 * w.1.size + w.2.2.toNat)) : Nat), (((8 * w.1.size + w.2.2.toNat + k.toNat) % 8 : Nat) : Int)), 0)) else (zW, 2) else (zW, wchk w.1 w.2.1 w.2.2)
theorem putR_T (s : ByteArray) (p n k v : Int) : putR s p n k v = .tuple #[.agg #[.string (putT (s, p, n) k v).1.1, .int .i64 (putT (s, p, n) k v).1.2.1, .int .i64 (putT (s, p, n) k v).1.2.2], .int .i64 (putT (s, p, n) k v).2] := by
  unfold putR putT putOut zeroV
  split
  · split
    · split <;> rfl
    · rfl
  · rfl
def doneT (w : W3) : ByteArray × Int :=
  if wchk w.1 w.2.1 w.2.2 = 0 then (if 1048576 < (8 * w.1.size + w.2.2.toNat + (8 - (8 * w.1.size + w.2.2.toNat) % 8) % 8) / 8 then (⟨#[]⟩, 4) else
    (wS (8 * w.1.size + w.2.2.toNat + (8 - (8 * w.1.size + w.2.2.toNat) % 8) % 8) (leN w.1.data.toList + w.2.1.toNat * 2 ^ (8 * w.1.size) + 0 * 2 ^ (8 * w.1.size + w.2.2.toNat)), 0)) else (⟨#[]⟩, wchk w.1 w.2.1 w.2.2)
theorem alignR_T (s : ByteArray) (p n : Int) : ∃ a b, alignR s p n = .tuple #[.agg #[.string (doneT (s, p, n)).1, .int .i64 a, .int .i64 b], .int .i64 (doneT (s, p, n)).2] := by
  unfold alignR doneT putOut zeroV
  split
  · split <;> exact ⟨_, _, rfl⟩
  · exact ⟨_, _, rfl⟩
abbrev R2 : Type := ByteArray × Int
def takeT (r : R2) (n : Int) : R2 × Int × Int := if takeE r.1 r.2 n = 0 then ((r.1, r.2 + n), ((peekN r.1 r.2.toNat n.toNat : Nat) : Int), 0) else ((⟨#[]⟩, 0), 0, takeE r.1 r.2 n)
theorem takeR_T (s : ByteArray) (b n : Int) : takeR s b n = .tuple #[.agg #[.string (takeT (s, b) n).1.1, .int .i64 (takeT (s, b) n).1.2], .int .i64 (takeT (s, b) n).2.1, .int .i64 (takeT (s, b) n).2.2] := by
  unfold takeR takeT
  split <;> rfl
def nextT (r : R2) : Int × Int := if rchk r.1 r.2 = 0 then ((r.2 + 7) / 8, 0) else (0, rchk r.1 r.2)
theorem nextR_T (s : ByteArray) (b : Int) : nextR s b = .tuple #[.int .i64 (nextT (s, b)).1, .int .i64 (nextT (s, b)).2] := by
  unfold nextR nextT
  split <;> rfl
def sPut : Spec where
  ι := W3 × Int × Int
  dec l _ := match l with
    | [.ag [.v (.string s), .v (.int .i64 p), .v (.int .i64 n)], .v (.int .i64 k), .v (.int .i64 v)] => some (((s, p, n), k, v), [])
    | _ => none
  args i := [.ag [.v (.string i.1.1), .v (.int .i64 i.1.2.1), .v (.int .i64 i.1.2.2)], .v (.int .i64 i.2.1), .v (.int .i64 i.2.2)]
  out i := .leaf (.tu [.ag [.v (.string (putT i.1 i.2.1 i.2.2).1.1), .v (.int .i64 (putT i.1 i.2.1 i.2.2).1.2.1), .v (.int .i64 (putT i.1 i.2.1 i.2.2).1.2.2)], .v (.int .i64 (putT i.1 i.2.1 i.2.2).2)]) []
def sDone : Spec where
  ι := W3
  dec l _ := match l with
    | [.ag [.v (.string s), .v (.int .i64 p), .v (.int .i64 n)]] => some ((s, p, n), [])
    | _ => none
  args i := [.ag [.v (.string i.1), .v (.int .i64 i.2.1), .v (.int .i64 i.2.2)]]
  out i := .leaf (.tu [.v (.string (doneT i).1), .v (.int .i64 (doneT i).2)]) []
def sTake : Spec where
  ι := R2 × Int
  dec l _ := match l with
    | [.ag [.v (.string s), .v (.int .i64 b)], .v (.int .i64 n)] => some (((s, b), n), [])
    | _ => none
  args i := [.ag [.v (.string i.1.1), .v (.int .i64 i.1.2)], .v (.int .i64 i.2)]
  pre i := [⟨i.1.1.size ≤ 9223372036854775807, inferInstance⟩]
  out i := .leaf (.tu [.ag [.v (.string (takeT i.1 i.2).1.1), .v (.int .i64 (takeT i.1 i.2).1.2)], .v (.int .i64 (takeT i.1 i.2).2.1), .v (.int .i64 (takeT i.1 i.2).2.2)]) []
def sNext : Spec where
  ι := R2
  dec l _ := match l with
    | [.ag [.v (.string s), .v (.int .i64 b)]] => some ((s, b), [])
    | _ => none
  args i := [.ag [.v (.string i.1), .v (.int .i64 i.2)]]
  pre i := [⟨i.1.size ≤ 9223372036854775807, inferInstance⟩]
  out i := .leaf (.tu [.v (.int .i64 (nextT i).1), .v (.int .i64 (nextT i).2)]) []
theorem put_sound : Sound Try.prog 17 sPut.ctr := sPut.sound (by kernel_rfl)
  (fun l H n i ls h => by
    simp only [sPut] at h i
    split at h
    · cases h; exact ⟨rfl, rfl⟩
    · cases h)
  fun i _ => sat_of_calls (fun w => by have := put_any i.1.1 i.1.2.1 i.1.2.2 i.2.1 i.2.2 w; rw [putR_T] at this; exact this) rfl rfl
theorem rput_sound : Sound Try.prog 18 sPut.ctr := sPut.sound (by kernel_rfl)
  (fun l H n i ls h => by
    simp only [sPut] at h i
    split at h
    · cases h; exact ⟨rfl, rfl⟩
    · cases h)
  fun i _ => sat_of_calls (fun w => by have := rput_any i.1.1 i.1.2.1 i.1.2.2 i.2.1 i.2.2 w; rw [putR_T] at this; exact this) rfl rfl
theorem done_sound : Sound Try.prog 21 sDone.ctr := sDone.sound (by kernel_rfl)
  (fun l H n i ls h => by
    simp only [sDone] at h i
    split at h
    · cases h; exact ⟨rfl, rfl⟩
    · cases h)
  fun i _ => sat_of_calls (fun w => by
    obtain ⟨a, b, e⟩ := alignR_T i.1 i.2.1 i.2.2
    exact done_of i.1 _ i.2.1 i.2.2 _ _ _ w fun w => by have := align_any i.1 i.2.1 i.2.2 w; rw [e] at this; exact this) rfl rfl
theorem rdone_sound : Sound Try.prog 22 sDone.ctr := sDone.sound (by kernel_rfl)
  (fun l H n i ls h => by
    simp only [sDone] at h i
    split at h
    · cases h; exact ⟨rfl, rfl⟩
    · cases h)
  fun i _ => sat_of_calls (fun w => by
    obtain ⟨a, b, e⟩ := alignR_T i.1 i.2.1 i.2.2
    exact rdone_of i.1 _ i.2.1 i.2.2 _ _ _ w fun w => by have := ralign_any i.1 i.2.1 i.2.2 w; rw [e] at this; exact this) rfl rfl
theorem take_sound : Sound Try.prog 27 sTake.ctr := sTake.sound (by kernel_rfl)
  (fun l H n i ls h => by
    simp only [sTake] at h i
    split at h
    · cases h; exact ⟨rfl, rfl⟩
    · cases h)
  fun i hc => sat_of_calls (fun w => by have := take_any i.1.1 i.1.2 i.2 w (hc ⟨i.1.1.size ≤ 9223372036854775807, inferInstance⟩ (by simp [sTake])); rw [takeR_T] at this; exact this) rfl rfl
theorem rtake_sound : Sound Try.prog 28 sTake.ctr := sTake.sound (by kernel_rfl)
  (fun l H n i ls h => by
    simp only [sTake] at h i
    split at h
    · cases h; exact ⟨rfl, rfl⟩
    · cases h)
  fun i hc => sat_of_calls (fun w => by have := rtake_any i.1.1 i.1.2 i.2 w (hc ⟨i.1.1.size ≤ 9223372036854775807, inferInstance⟩ (by simp [sTake])); rw [takeR_T] at this; exact this) rfl rfl
theorem next_sound : Sound Try.prog 33 sNext.ctr := sNext.sound (by kernel_rfl)
  (fun l H n i ls h => by
    simp only [sNext] at h i
    split at h
    · cases h; exact ⟨rfl, rfl⟩
    · cases h)
  fun i hc => sat_of_calls (fun w => by have := next_any i.1 i.2 w (hc ⟨i.1.size ≤ 9223372036854775807, inferInstance⟩ (by simp [sNext])); rw [nextR_T] at this; exact this) rfl rfl
theorem rnext_sound : Sound Try.prog 34 sNext.ctr := sNext.sound (by kernel_rfl)
  (fun l H n i ls h => by
    simp only [sNext] at h i
    split at h
    · cases h; exact ⟨rfl, rfl⟩
    · cases h)
  fun i hc => sat_of_calls (fun w => by have := rnext_any i.1 i.2 w (hc ⟨i.1.size ≤ 9223372036854775807, inferInstance⟩ (by simp [sNext])); rw [nextR_T] at this; exact this) rfl rfl
def G02 : List (Nat × Ctr) := [(17, sPut.ctr), (18, sPut.ctr), (21, sDone.ctr), (22, sDone.ctr), (27, sTake.ctr), (28, sTake.ctr), (33, sNext.ctr), (34, sNext.ctr)]
theorem G02_ok : AllOk Try.prog G02 := .cons put_sound <| .cons rput_sound <| .cons done_sound <| .cons rdone_sound <| .cons take_sound <| .cons rtake_sound <| .cons next_sound <| .cons rnext_sound .nil
theorem mixed : Try.prog.follows .mixedOrders = true := by kernel_rfl
end Go.Proofs.Ytafabheehkmfhaa
/-
  Chapter 8: what the small functions answer, in plain numbers and lists. Conditions: none (definitions).
-/
namespace Go.Proofs.Ytafabheehkmfhaa
set_option linter.unusedVariables false
/-! ### numbers -/
def hiI (n : Int) : Int := cond (decide (n ≤ 0)) (-1) (Nat.log2 n.toNat : Nat)
def hiM (n : Int) (i : Nat) : Int := cond (decide (n ≤ 0)) (-1) (min ((i : Int) - 1) (Nat.log2 n.toNat : Nat))
def modI (x m : Int) : Int := cond (decide (m < 1)) 0 (x % m)
def atI (l : List Int) (i : Int) : Int := cond (decide (i < 0) || decide ((l.length : Int) ≤ i)) 0 (l.getD i.toNat 0)
def minL (l : List Int) : Int := l.tail.foldl min (l.headD 0)
def eqI (a b : List Int) : Bool := a == b
def pt (p : Int) : Int := cond (decide (p < 0)) 1 p
def pts (l : List Int) : Int := l.foldl (fun s p => s + pt p) 0
def dbad (log : Int) (xs : List Int) : Bool := decide (xs.length < 1) || decide (256 < xs.length) || xs.getD (xs.length - 1) 0 == 0 || xs.any (fun x => decide (x < -1)) || !(pts xs == 2 ^ log.toNat)
def dchk (log : Int) (xs : List Int) : Int := cond (decide (log < 5) || decide (12 < log)) 31 (cond (dbad log xs) 23 0)
def dsize (log : Int) : Int := cond (decide (log < 0) || decide (12 < log)) 0 (2 ^ log.toNat)
def InW (l : List Int) : Bool := l.all fun x => decide (-9223372036854775808 ≤ x) && decide (x ≤ 9223372036854775807)
def inW (x : Int) : Bool := decide (-9223372036854775808 ≤ x) && decide (x ≤ 9223372036854775807)
def shB (left : Int) : Int := hiI (left + 1) + 1
def shT (left : Int) : Int := 2 ^ (shB left).toNat - 1 - (left + 1)
end Go.Proofs.Ytafabheehkmfhaa
/-
  Chapter 8: what the small functions answer, and their contracts. Conditions: none (definitions).
-/
namespace Go.Proofs.Ytafabheehkmfhaa
open Go Go.RowKit
set_option linter.unusedVariables false
set_option linter.unusedSimpArgs false
set_option maxRecDepth 100000
def sHigh : Spec where
  ι := Int
  dec l H := match l with
    | [.v (.int .i64 n)] => some (n, [])
    | _ => none
  args := fun n => [.v (.int .i64 n)]
  pre := fun n => [⟨n ≤ 9223372036854775807, inferInstance⟩]
  out := fun n => .leaf (.v (.int .i64 (hiI n))) []
theorem sHigh_enc : ∀ l H n i ls, sHigh.dec l H = some (i, ls) → l = renL (rho ls n) (sHigh.args i) ∧ givenHp H ls = renH (rho ls n) (sHigh.hp i) := by
  intro l H n i ls h
  simp only [sHigh] at h
  repeat' split at h
  all_goals first
    | (cases h; done)
    | (cases h; exact ⟨rfl, rfl⟩)
def sBits : Spec where
  ι := Int
  dec l H := match l with
    | [.v (.int .i64 n)] => some (n, [])
    | _ => none
  args := fun n => [.v (.int .i64 n)]
  pre := fun n => [⟨n ≤ 9223372036854775807, inferInstance⟩]
  out := fun n => .leaf (.v (.int .i64 (hiI n + 1))) []
theorem sBits_enc : ∀ l H n i ls, sBits.dec l H = some (i, ls) → l = renL (rho ls n) (sBits.args i) ∧ givenHp H ls = renH (rho ls n) (sBits.hp i) := by
  intro l H n i ls h
  simp only [sBits] at h
  repeat' split at h
  all_goals first
    | (cases h; done)
    | (cases h; exact ⟨rfl, rfl⟩)
def sMod : Spec where
  ι := Int × Int
  dec l H := match l with
    | [.v (.int .i64 x), .v (.int .i64 m)] => some ((x, m), [])
    | _ => none
  args := fun (x, m) => [.v (.int .i64 x), .v (.int .i64 m)]
  pre := fun (x, m) => [⟨inW x = true, inferInstance⟩, ⟨inW m = true, inferInstance⟩]
  out := fun (x, m) => .leaf (.v (.int .i64 (modI x m))) []
theorem sMod_enc : ∀ l H n i ls, sMod.dec l H = some (i, ls) → l = renL (rho ls n) (sMod.args i) ∧ givenHp H ls = renH (rho ls n) (sMod.hp i) := by
  intro l H n i ls h
  simp only [sMod] at h
  repeat' split at h
  all_goals first
    | (cases h; done)
    | (cases h; exact ⟨rfl, rfl⟩)
def sAt : Spec where
  ι := List Int × Int
  dec l H := match l with
    | [.dat (.ints .i64 l), .v (.int .i64 i)] => some ((l, i), [])
    | _ => none
  args := fun (l, i) => [.dat (.ints .i64 l), .v (.int .i64 i)]
  out := fun (l, i) => .leaf (.v (.int .i64 (atI l i))) []
theorem sAt_enc : ∀ l H n i ls, sAt.dec l H = some (i, ls) → l = renL (rho ls n) (sAt.args i) ∧ givenHp H ls = renH (rho ls n) (sAt.hp i) := by
  intro l H n i ls h
  simp only [sAt] at h
  repeat' split at h
  all_goals first
    | (cases h; done)
    | (cases h; exact ⟨rfl, rfl⟩)
def sMin : Spec where
  ι := List Int
  dec l H := match l with
    | [.dat (.ints .i64 l)] => some (l, [])
    | _ => none
  args := fun l => [.dat (.ints .i64 l)]
  pre := fun l => [⟨0 < l.length, inferInstance⟩, ⟨l.length ≤ 4294967296, inferInstance⟩]
  out := fun l => .leaf (.v (.int .i64 (minL l))) []
theorem sMin_enc : ∀ l H n i ls, sMin.dec l H = some (i, ls) → l = renL (rho ls n) (sMin.args i) ∧ givenHp H ls = renH (rho ls n) (sMin.hp i) := by
  intro l H n i ls h
  simp only [sMin] at h
  repeat' split at h
  all_goals first
    | (cases h; done)
    | (cases h; exact ⟨rfl, rfl⟩)
def sEq : Spec where
  ι := List Int × List Int
  dec l H := match l with
    | [.dat (.ints .i64 a), .dat (.ints .i64 b)] => some ((a, b), [])
    | _ => none
  args := fun (a, b) => [.dat (.ints .i64 a), .dat (.ints .i64 b)]
  pre := fun (a, b) => [⟨a.length ≤ 4294967296, inferInstance⟩]
  out := fun (a, b) => .leaf (.v (.bool (eqI a b))) []
theorem sEq_enc : ∀ l H n i ls, sEq.dec l H = some (i, ls) → l = renL (rho ls n) (sEq.args i) ∧ givenHp H ls = renH (rho ls n) (sEq.hp i) := by
  intro l H n i ls h
  simp only [sEq] at h
  repeat' split at h
  all_goals first
    | (cases h; done)
    | (cases h; exact ⟨rfl, rfl⟩)
def sOwn : Spec where
  ι := List Int
  dec l H := match l with
    | [.dat (.ints .i64 l)] => some (l, [])
    | _ => none
  args := fun l => [.dat (.ints .i64 l)]
  pre := fun l => [⟨l.length ≤ 4294967296, inferInstance⟩]
  out := fun l => .leaf (.o 2000) [(2000, .row 3 (.ints .i64 l))]
theorem sOwn_enc : ∀ l H n i ls, sOwn.dec l H = some (i, ls) → l = renL (rho ls n) (sOwn.args i) ∧ givenHp H ls = renH (rho ls n) (sOwn.hp i) := by
  intro l H n i ls h
  simp only [sOwn] at h
  repeat' split at h
  all_goals first
    | (cases h; done)
    | (cases h; exact ⟨rfl, rfl⟩)
def sOwnD : Spec where
  ι := Int × List Int
  dec l H := match l with
    | [.ag [.v (.int .i64 g), .dat (.ints .i64 l)]] => some ((g, l), [])
    | _ => none
  args := fun (g, l) => [.ag [.v (.int .i64 g), .dat (.ints .i64 l)]]
  pre := fun (g, l) => [⟨l.length ≤ 4294967296, inferInstance⟩]
  out := fun (g, l) => .leaf (.ag [.v (.int .i64 g), .o 2000]) [(2000, .row 3 (.ints .i64 l))]
theorem sOwnD_enc : ∀ l H n i ls, sOwnD.dec l H = some (i, ls) → l = renL (rho ls n) (sOwnD.args i) ∧ givenHp H ls = renH (rho ls n) (sOwnD.hp i) := by
  intro l H n i ls h
  simp only [sOwnD] at h
  repeat' split at h
  all_goals first
    | (cases h; done)
    | (cases h; exact ⟨rfl, rfl⟩)
def sEqD : Spec where
  ι := Int × List Int × Int × List Int
  dec l H := match l with
    | [.ag [.v (.int .i64 a), .dat (.ints .i64 x)], .ag [.v (.int .i64 b), .dat (.ints .i64 y)]] => some ((a, x, b, y), [])
    | _ => none
  args := fun (a, x, b, y) => [.ag [.v (.int .i64 a), .dat (.ints .i64 x)], .ag [.v (.int .i64 b), .dat (.ints .i64 y)]]
  pre := fun (a, x, b, y) => [⟨x.length ≤ 4294967296, inferInstance⟩]
  out := fun (a, x, b, y) => .leaf (.v (.bool (a == b && eqI x y))) []
theorem sEqD_enc : ∀ l H n i ls, sEqD.dec l H = some (i, ls) → l = renL (rho ls n) (sEqD.args i) ∧ givenHp H ls = renH (rho ls n) (sEqD.hp i) := by
  intro l H n i ls h
  simp only [sEqD] at h
  repeat' split at h
  all_goals first
    | (cases h; done)
    | (cases h; exact ⟨rfl, rfl⟩)
def sAdd : Spec where
  ι := Int × Int
  dec l H := match l with
    | [.v (.int .i64 n), .p l0 0 0] => match H l0 with
      | some (.cells 3 [.v (.int .i64 s)]) => some ((n, s), [l0])
      | _ => none
    | _ => none
  args := fun (n, s) => [.v (.int .i64 n), .p 0 0 0]
  hp := fun (n, s) => [(0, .cells 3 [.v (.int .i64 s)])]
  pre := fun (n, s) => [⟨0 ≤ n, inferInstance⟩, ⟨n ≤ 1048576, inferInstance⟩, ⟨0 ≤ s, inferInstance⟩, ⟨s ≤ 1048576, inferInstance⟩]
  out := fun (n, s) => .leaf (.tu []) [(0, .cells 3 [.v (.int .i64 (min (s + n) 1048576))])]
theorem sAdd_enc : ∀ l H n i ls, sAdd.dec l H = some (i, ls) → l = renL (rho ls n) (sAdd.args i) ∧ givenHp H ls = renH (rho ls n) (sAdd.hp i) := by
  intro l H n i ls h
  simp only [sAdd] at h
  repeat' split at h
  all_goals first
    | (cases h; done)
    | (cases h; exact ⟨rfl, rfl⟩)
    | (cases h; refine ⟨rfl, ?_⟩; simp only [givenHp, List.filterMap_cons, List.filterMap_nil, Option.map, *]; rfl)
def sPoints : Spec where
  ι := Int × List Int
  dec l H := match l with
    | [.ag [.v (.int .i64 g), .dat (.ints .i64 l)]] => some ((g, l), [])
    | _ => none
  args := fun (g, l) => [.ag [.v (.int .i64 g), .dat (.ints .i64 l)]]
  pre := fun (g, l) => [⟨l.length ≤ 4294967296, inferInstance⟩]
  out := fun (g, l) => .leaf (.v (.int .i64 (min (pts l) 1048576))) []
theorem sPoints_enc : ∀ l H n i ls, sPoints.dec l H = some (i, ls) → l = renL (rho ls n) (sPoints.args i) ∧ givenHp H ls = renH (rho ls n) (sPoints.hp i) := by
  intro l H n i ls h
  simp only [sPoints] at h
  repeat' split at h
  all_goals first
    | (cases h; done)
    | (cases h; exact ⟨rfl, rfl⟩)
def sRpoints : Spec where
  ι := List Int
  dec l H := match l with
    | [.dat (.ints .i64 l)] => some (l, [])
    | _ => none
  args := fun l => [.dat (.ints .i64 l)]
  pre := fun l => [⟨l.length ≤ 65536, inferInstance⟩, ⟨l.all (fun x => decide (x ≤ 65536)) = true, inferInstance⟩]
  out := fun l => .leaf (.v (.int .i64 (pts l))) []
theorem sRpoints_enc : ∀ l H n i ls, sRpoints.dec l H = some (i, ls) → l = renL (rho ls n) (sRpoints.args i) ∧ givenHp H ls = renH (rho ls n) (sRpoints.hp i) := by
  intro l H n i ls h
  simp only [sRpoints] at h
  repeat' split at h
  all_goals first
    | (cases h; done)
    | (cases h; exact ⟨rfl, rfl⟩)
def sCheck : Spec where
  ι := Int × List Int
  dec l H := match l with
    | [.ag [.v (.int .i64 g), .dat (.ints .i64 l)]] => some ((g, l), [])
    | _ => none
  args := fun (g, l) => [.ag [.v (.int .i64 g), .dat (.ints .i64 l)]]
  pre := fun (g, l) => [⟨l.length ≤ 4294967296, inferInstance⟩]
  out := fun (g, l) => .leaf (.v (.int .i64 (dchk g l))) []
theorem sCheck_enc : ∀ l H n i ls, sCheck.dec l H = some (i, ls) → l = renL (rho ls n) (sCheck.args i) ∧ givenHp H ls = renH (rho ls n) (sCheck.hp i) := by
  intro l H n i ls h
  simp only [sCheck] at h
  repeat' split at h
  all_goals first
    | (cases h; done)
    | (cases h; exact ⟨rfl, rfl⟩)
def sSize : Spec where
  ι := Int × List Int
  dec l H := match l with
    | [.ag [.v (.int .i64 g), .dat (.ints .i64 l)]] => some ((g, l), [])
    | _ => none
  args := fun (g, l) => [.ag [.v (.int .i64 g), .dat (.ints .i64 l)]]
  out := fun (g, l) => .leaf (.v (.int .i64 (dsize g))) []
theorem sSize_enc : ∀ l H n i ls, sSize.dec l H = some (i, ls) → l = renL (rho ls n) (sSize.args i) ∧ givenHp H ls = renH (rho ls n) (sSize.hp i) := by
  intro l H n i ls h
  simp only [sSize] at h
  repeat' split at h
  all_goals first
    | (cases h; done)
    | (cases h; exact ⟨rfl, rfl⟩)
def sTimes : Spec where
  ι := List Int × Int × Int
  own := true
  dec l H := match l with
    | [.o l0, .v (.int .i64 n), .v (.int .i64 x)] => match H l0 with
      | some (.row 3 (.ints .i64 l)) => some ((l, n, x), [l0])
      | _ => none
    | _ => none
  args := fun (l, n, x) => [.o 0, .v (.int .i64 n), .v (.int .i64 x)]
  hp := fun (l, n, x) => [(0, .row 3 (.ints .i64 l))]
  pre := fun (l, n, x) => [⟨l.length ≤ 65536, inferInstance⟩, ⟨n ≤ 65536, inferInstance⟩]
  out := fun (l, n, x) => .leaf (.o 2000) [(2000, .row 3 (.ints .i64 (l ++ List.replicate n.toNat x)))]
theorem sTimes_enc : ∀ l H n i ls, sTimes.dec l H = some (i, ls) → l = renL (rho ls n) (sTimes.args i) ∧ givenHp H ls = renH (rho ls n) (sTimes.hp i) := by
  intro l H n i ls h
  simp only [sTimes] at h
  repeat' split at h
  all_goals first
    | (cases h; done)
    | (cases h; exact ⟨rfl, rfl⟩)
    | (cases h; refine ⟨rfl, ?_⟩; simp only [givenHp, List.filterMap_cons, List.filterMap_nil, Option.map, *]; rfl)
def sTimes0 : Spec where
  ι := Int × Int
  own := true
  dec l H := match l with
    | [.v (.slice none 0 0), .v (.int .i64 n), .v (.int .i64 x)] => some ((n, x), [])
    | _ => none
  args := fun (n, x) => [.v (.slice none 0 0), .v (.int .i64 n), .v (.int .i64 x)]
  pre := fun (n, x) => [⟨n ≤ 65536, inferInstance⟩]
  out := fun (n, x) => .leaf (.o 2000) [(2000, .row 3 (.ints .i64 (List.replicate n.toNat x)))]
theorem sTimes0_enc : ∀ l H n i ls, sTimes0.dec l H = some (i, ls) → l = renL (rho ls n) (sTimes0.args i) ∧ givenHp H ls = renH (rho ls n) (sTimes0.hp i) := by
  intro l H n i ls h
  simp only [sTimes0] at h
  repeat' split at h
  all_goals first
    | (cases h; done)
    | (cases h; exact ⟨rfl, rfl⟩)
def sShape : Spec where
  ι := Int
  dec l H := match l with
    | [.v (.int .i64 n)] => some (n, [])
    | _ => none
  args := fun n => [.v (.int .i64 n)]
  pre := fun n => [⟨0 ≤ n, inferInstance⟩, ⟨n ≤ 1073741824, inferInstance⟩]
  out := fun n => .leaf (.tu [.v (.int .i64 (shB n)), .v (.int .i64 (shT n))]) []
theorem sShape_enc : ∀ l H n i ls, sShape.dec l H = some (i, ls) → l = renL (rho ls n) (sShape.args i) ∧ givenHp H ls = renH (rho ls n) (sShape.hp i) := by
  intro l H n i ls h
  simp only [sShape] at h
  repeat' split at h
  all_goals first
    | (cases h; done)
    | (cases h; exact ⟨rfl, rfl⟩)
/-! ### loops -/
def one (x : LoopInv) : Nat → Option LoopFam := fun k => cond (Nat.beq k 0) (some (.one x)) none
def oHigh (n : Int) : LoopInv := { ι := Nat, p := fun i => i ≤ 63, tm := fun i => [(0, .v (.int .i64 n)), (3, .v (.int .i64 (hiM n i))), (5, .v (.int .i64 (i : Nat)))], hp := fun _ => [], μ := fun i => 63 - i }
def oRhigh (n : Int) : LoopInv := { ι := Nat, p := fun i => (n ≤ 0 ∧ i = 0) ∨ (0 < n ∧ i ≤ Nat.log2 n.toNat + 1), tm := fun i => [(0, .v (.int .i64 (n / 2 ^ i))), (3, .v (.int .i64 ((i : Int) - 1)))], hp := fun _ => [], μ := fun i => 63 - i }
def oMin (l : List Int) : LoopInv := { ι := Nat, p := fun i => 1 ≤ i ∧ i ≤ l.length, tm := fun i => [(0, .dat (.ints .i64 l)), (3, .v (.int .i64 (minL (l.take i)))), (4, .v (.int .i64 (i : Nat)))], hp := fun _ => [], μ := fun i => l.length - i }
def oEq (t : Nat) (n : Nat) (l : List (Nat × SV)) (a b : List Int) : LoopInv := { ι := Nat, p := fun i => i ≤ a.length ∧ a.take i = b.take i, tm := fun i => (0, .dat (.ints .i64 a)) :: (1, .dat (.ints .i64 b)) :: (t, .v (.int .i64 (i : Nat))) :: l, hp := fun _ => [], μ := fun i => a.length - i }
def oPoints (g : Int) (l : List Int) : LoopInv := { ι := Nat, p := fun i => i ≤ l.length, tm := fun i => [(3, .p 1001 0 0), (4, .fn (.func 82) [] [.p 1001 0 0]), (9, .dat (.ints .i64 l)), (10, .v (.int .i64 l.length)), (11, .v (.int .i64 (i : Nat)))], hp := fun i => [(1001, .cells 3 [.v (.int .i64 (min (pts (l.take i)) 1048576))])], μ := fun i => l.length - i }
def oRpoints (l : List Int) : LoopInv := { ι := Nat, p := fun i => i ≤ l.length, tm := fun i => [(0, .dat (.ints .i64 l)), (3, .v (.int .i64 (pts (l.take i)))), (4, .v (.int .i64 (i : Nat)))], hp := fun _ => [], μ := fun i => l.length - i }
def oRcheck (g : Int) (l : List Int) : LoopInv := { ι := Nat, p := fun i => i ≤ l.length ∧ ∀ x ∈ l.take i, -1 ≤ x ∧ x ≤ 2 ^ g.toNat, tm := fun i => [(1, .p 1000 0 0), (3, .v (.int .i64 (i : Nat)))], hp := fun i => [(1000, .cells 50 [.v (.int .i64 g), .dat (.ints .i64 l)])], μ := fun i => l.length - i }
def oRsame (a b : Int) (x y : List Int) : LoopInv := { ι := Nat, p := fun i => i ≤ x.length ∧ x.take i = y.take i, tm := fun i => [(2, .p 1000 0 0), (3, .p 1001 0 0), (5, .v (.int .i64 (i : Nat)))], hp := fun i => [(1000, .cells 50 [.v (.int .i64 a), .dat (.ints .i64 x)]), (1001, .cells 50 [.v (.int .i64 b), .dat (.ints .i64 y)])], μ := fun i => x.length - i }
def oTimes (l : List Int) (n x : Int) : LoopInv := { ι := Nat, p := fun i => i ≤ n.toNat, tm := fun i => [(0, .o 2000), (1, .v (.int .i64 n)), (2, .v (.int .i64 x)), (7, .v (.int .i64 (i : Nat)))], hp := fun i => [(2000, .row 3 (.ints .i64 (l ++ List.replicate i x)))], μ := fun i => n.toNat - i }
/-! ### tables -/
def G8a : List (Nat × Ctr) := (95, sHigh.ctr) :: (92, sHigh.ctr) :: (82, sAdd.ctr) :: (66, sMin.ctr) :: (70, sEq.ctr) :: (74, sEq.ctr) :: (68, sOwn.ctr) :: (69, sRpoints.ctr) :: (37, sMod.ctr) :: (79, sAt.ctr) :: G02
def G8b : List (Nat × Ctr) := (91, sBits.ctr) :: (85, sBits.ctr) :: (67, sPoints.ctr) :: (41, sOwnD.ctr) :: (52, sEqD.ctr) :: (42, sCheck.ctr) :: (45, sEqD.ctr) :: (46, sEqD.ctr) :: (43, sSize.ctr) :: (44, sSize.ctr) :: G8a
def G8c : List (Nat × Ctr) := (39, sCheck.ctr) :: (84, sShape.ctr) :: G8b
/-! ### conditions
--%VC high ;; (n : Int) ;; G02 ;; one (oHigh n) ;; ints.High ;; [.v (.int .i64 n)] ;; [] ;; (.v (.int .i64 (hiI n))) ;; []
--%VC rhigh ;; (n : Int) ;; G02 ;; one (oRhigh n) ;; ref01.High ;; [.v (.int .i64 n)] ;; [] ;; (.v (.int .i64 (hiI n))) ;; []
--%VC modK ;; (x m : Int) ;; G02 ;; fun _ => none ;; kit.Mod ;; [.v (.int .i64 x), .v (.int .i64 m)] ;; [] ;; (.v (.int .i64 (modI x m))) ;; []
--%VC atK ;; (l : List Int) (i : Int) ;; G02 ;; fun _ => none ;; kit.At ;; [.dat (.ints .i64 l), .v (.int .i64 i)] ;; [] ;; (.v (.int .i64 (atI l i))) ;; []
--%VC minK ;; (l : List Int) ;; G02 ;; one (oMin l) ;; slices.Min[[]int,int] ;; [.dat (.ints .i64 l)] ;; [] ;; (.v (.int .i64 (minL l))) ;; []
--%VC equal ;; (a b : List Int) ;; G02 ;; one (oEq 13 12 [(12, .v (.int .i64 a.length))] a b) ;; slices.Equal[[]int,int] ;; [.dat (.ints .i64 a), .dat (.ints .i64 b)] ;; [] ;; (.v (.bool (eqI a b))) ;; []
--%VC sameInts ;; (a b : List Int) ;; G02 ;; one (oEq 5 0 [] a b) ;; kit.SameInts ;; [.dat (.ints .i64 a), .dat (.ints .i64 b)] ;; [] ;; (.v (.bool (eqI a b))) ;; []
--%VC ownInts ;; (l : List Int) ;; G02 ;; fun _ => none ;; kit.OwnInts ;; [.dat (.ints .i64 l)] ;; [] ;; (.o 2000) ;; [(2000, .row 3 (.ints .i64 l))]
--%VC rpoints ;; (l : List Int) ;; G02 ;; one (oRpoints l) ;; ref08.points ;; [.dat (.ints .i64 l)] ;; [] ;; (.v (.int .i64 (pts l))) ;; []
--%VC add ;; (n s : Int) ;; G02 ;; fun _ => none ;; dist.points$1 ;; [.v (.int .i64 n), .p 0 0 0] ;; [(0, .cells 3 [.v (.int .i64 s)])] ;; (.tu []) ;; [(0, .cells 3 [.v (.int .i64 (min (s + n) 1048576))])]
--%VC bits ;; (n : Int) ;; G8a ;; fun _ => none ;; ints.Bits ;; [.v (.int .i64 n)] ;; [] ;; (.v (.int .i64 (hiI n + 1))) ;; []
--%VC rbits ;; (n : Int) ;; G8a ;; fun _ => none ;; ref01.Bits ;; [.v (.int .i64 n)] ;; [] ;; (.v (.int .i64 (hiI n + 1))) ;; []
--%VC points ;; (g : Int) (l : List Int) ;; G8a ;; one (oPoints g l) ;; dist.points ;; [.ag [.v (.int .i64 g), .dat (.ints .i64 l)]] ;; [] ;; (.v (.int .i64 (min (pts l) 1048576))) ;; []
--%VC ownDist ;; (g : Int) (l : List Int) ;; G8a ;; fun _ => none ;; kit.OwnDist ;; [.ag [.v (.int .i64 g), .dat (.ints .i64 l)]] ;; [] ;; (.ag [.v (.int .i64 g), .o 2000]) ;; [(2000, .row 3 (.ints .i64 l))]
--%VC sameDist ;; (a : Int) (x : List Int) (b : Int) (y : List Int) ;; G8a ;; fun _ => none ;; kit.SameDist ;; [.ag [.v (.int .i64 a), .dat (.ints .i64 x)], .ag [.v (.int .i64 b), .dat (.ints .i64 y)]] ;; [] ;; (.v (.bool (a == b && eqI x y))) ;; []
--%VC rcheck ;; (g : Int) (l : List Int) ;; G8a ;; one (oRcheck g l) ;; ref08.Check ;; [.ag [.v (.int .i64 g), .dat (.ints .i64 l)]] ;; [] ;; (.v (.int .i64 (dchk g l))) ;; []
--%VC same ;; (a : Int) (x : List Int) (b : Int) (y : List Int) ;; G8a ;; fun _ => none ;; dist.Same ;; [.ag [.v (.int .i64 a), .dat (.ints .i64 x)], .ag [.v (.int .i64 b), .dat (.ints .i64 y)]] ;; [] ;; (.v (.bool (a == b && eqI x y))) ;; []
--%VC rsame ;; (a : Int) (x : List Int) (b : Int) (y : List Int) ;; G8a ;; one (oRsame a b x y) ;; ref08.Same ;; [.ag [.v (.int .i64 a), .dat (.ints .i64 x)], .ag [.v (.int .i64 b), .dat (.ints .i64 y)]] ;; [] ;; (.v (.bool (a == b && eqI x y))) ;; []
--%VC size ;; (g : Int) (l : List Int) ;; G8a ;; fun _ => none ;; dist.Size ;; [.ag [.v (.int .i64 g), .dat (.ints .i64 l)]] ;; [] ;; (.v (.int .i64 (dsize g))) ;; []
--%VC rsize ;; (g : Int) (l : List Int) ;; G8a ;; fun _ => none ;; ref08.Size ;; [.ag [.v (.int .i64 g), .dat (.ints .i64 l)]] ;; [] ;; (.v (.int .i64 (dsize g))) ;; []
--%VC check ;; (g : Int) (l : List Int) ;; G8b ;; fun _ => none ;; dist.Check ;; [.ag [.v (.int .i64 g), .dat (.ints .i64 l)]] ;; [] ;; (.v (.int .i64 (dchk g l))) ;; []
--%VC shape ;; (n : Int) ;; G8b ;; fun _ => none ;; dist.shape ;; [.v (.int .i64 n)] ;; [] ;; (.tu [.v (.int .i64 (shB n)), .v (.int .i64 (shT n))]) ;; []
--%VC times ;; (l : List Int) (n x : Int) ;; G8a ;; one (oTimes l n x) ;; ref08.times ;; [.o 0, .v (.int .i64 n), .v (.int .i64 x)] ;; [(0, .row 3 (.ints .i64 l))] ;; (.o 2000) ;; [(2000, .row 3 (.ints .i64 (l ++ List.replicate n.toNat x)))]
--%VC times0 ;; (n x : Int) ;; G8a ;; one (oTimes [] n x) ;; ref08.times ;; [.v (.slice none 0 0), .v (.int .i64 n), .v (.int .i64 x)] ;; [] ;; (.o 2000) ;; [(2000, .row 3 (.ints .i64 (List.replicate n.toNat x)))]
-/
end Go.Proofs.Ytafabheehkmfhaa
/-
  Chapter 8: descriptions of distributions, in plain lists. Conditions: none (definitions).
-/
namespace Go.Proofs.Ytafabheehkmfhaa
set_option linter.unusedVariables false
/-- how a probability is written if so many points are left -/
def valP (left p : Int) : Int × Int := cond (decide (p + 1 < shT left)) (shB left - 1, p + 1) (cond (decide (p + 1 < 2 ^ (shB left - 1).toNat)) (shB left, p + 1) (shB left, p + 1 + shT left))
/-- how so many zeros more are written -/
def zerosP (z : Nat) : List (Int × Int) := List.replicate (z / 3) (2, 3) ++ [(2, ((z % 3 : Nat) : Int))]
/-- a description's values; within a run of zeros: how many there were behind the first -/
def de : Option Nat → List Int → Int → List (Int × Int)
  | none, [], _ => []
  | some z, [], _ => zerosP z
  | none, p :: r, left => valP left p :: cond (p == 0) (de (some 0) r left) (de none r (left - pt p))
  | some z, q :: r, left => cond (q == 0) (de (some (z + 1)) r left) (zerosP z ++ valP left q :: de none r (left - pt q))
/-- behind a value: what is left to be written -/
def deP (l : List Int) (i : Nat) : List (Int × Int) := cond (l.getD i 0 == 0) (de (some 0) (l.drop (i + 1)) (pts (l.drop i))) (de none (l.drop (i + 1)) (pts (l.drop i) - pt (l.getD i 0)))
def putAll (w : W3) (l : List (Int × Int)) : W3 := l.foldl (fun w kv => (putT w kv.1 kv.2).1) w
def bsum : List (Int × Int) → Int
  | [] => 0
  | kv :: r => kv.1 + bsum r
/-- what is written, and how many bits -/
def wrT (g : Int) (l : List Int) : W3 := putAll (putT zW 4 (g - 5)).1 (de none l (2 ^ g.toNat))
def wrN (g : Int) (l : List Int) : Int := 4 + bsum (de none l (2 ^ g.toNat))
def writeF (g : Int) (l : List Int) : ByteArray × Int := cond (dchk g l == 0) (doneT (wrT g l)) (⟨#[]⟩, dchk g l)
def bitsF (g : Int) (l : List Int) : Int := cond (dchk g l == 0) (wrN g l) 0
def pLits : List Int := [4, 3, 2, 2, 2, 2, 2, 2, 2, 2, 2, 2, 2, 1, 1, 1, 2, 2, 2, 2, 2, 2, 2, 2, 2, 3, 2, 1, 1, 1, 1, 1, -1, -1, -1, -1]
def pOffset : List Int := [1, 1, 1, 1, 1, 1, 2, 2, 2, 1, 1, 1, 1, 1, 1, 1, 1, 1, 1, 1, 1, 1, 1, 1, -1, -1, -1, -1, -1]
def pMatch : List Int := [1, 4, 3, 2, 2, 2, 2, 2, 2, 1, 1, 1, 1, 1, 1, 1, 1, 1, 1, 1, 1, 1, 1, 1, 1, 1, 1, 1, 1, 1, 1, 1, 1, 1, 1, 1, 1, 1, 1, 1, 1, 1, 1, 1, 1, 1, -1, -1, -1, -1, -1, -1, -1]
def preL (k : Int) : Int := cond (k == 0) 6 (cond (k == 1) 5 (cond (k == 2) 6 0))
def preP (k : Int) : List Int := cond (k == 0) pLits (cond (k == 1) pOffset (cond (k == 2) pMatch []))
def preE (k : Int) : Int := cond (k == 0) 0 (cond (k == 1) 0 (cond (k == 2) 0 11))
/-- probabilities from pairs -/
def expandL : List Int → List Int
  | c :: v :: r => List.replicate c.toNat v ++ expandL r
  | _ => []
def okRuns : List Int → Bool
  | c :: v :: r => decide (1 ≤ c) && decide (c ≤ 64) && okRuns r
  | _ => true
end Go.Proofs.Ytafabheehkmfhaa
/-
  Chapter 8: contracts of what writes. Conditions: none (definitions).
-/
namespace Go.Proofs.Ytafabheehkmfhaa
open Go Go.RowKit
set_option linter.unusedVariables false
set_option linter.unusedSimpArgs false
set_option maxRecDepth 100000
def sPut1 : Spec where
  ι := Int × Int × ByteArray × Int × Int
  dec l H := match l with
    | [.v (.int .i64 k), .v (.int .i64 v), .p l0 0 0] => match H l0 with
      | some (.cells 23 [.v (.string s), .v (.int .i64 p), .v (.int .i64 m)]) => some ((k, v, s, p, m), [l0])
      | _ => none
    | _ => none
  args := fun (k, v, s, p, m) => [.v (.int .i64 k), .v (.int .i64 v), .p 0 0 0]
  hp := fun (k, v, s, p, m) => [(0, .cells 23 [.v (.string s), .v (.int .i64 p), .v (.int .i64 m)])]
  out := fun (k, v, s, p, m) => .leaf (.tu []) [(0, .cells 23 [.v (.string (putT (s, p, m) k v).1.1), .v (.int .i64 (putT (s, p, m) k v).1.2.1), .v (.int .i64 (putT (s, p, m) k v).1.2.2)])]
theorem sPut1_enc : ∀ l H n i ls, sPut1.dec l H = some (i, ls) → l = renL (rho ls n) (sPut1.args i) ∧ givenHp H ls = renH (rho ls n) (sPut1.hp i) := by
  intro l H n i ls h
  simp only [sPut1] at h
  repeat' split at h
  all_goals first
    | (cases h; done)
    | (cases h; exact ⟨rfl, rfl⟩)
    | (cases h; refine ⟨rfl, ?_⟩; simp only [givenHp, List.filterMap_cons, List.filterMap_nil, Option.map, *]; rfl)
def sWritten : Spec where
  ι := Int × List Int
  dec l H := match l with
    | [.ag [.v (.int .i64 g), .dat (.ints .i64 l)]] => some ((g, l), [])
    | _ => none
  args := fun (g, l) => [.ag [.v (.int .i64 g), .dat (.ints .i64 l)]]
  pre := fun (g, l) => [⟨dchk g l = 0, inferInstance⟩]
  out := fun (g, l) => .leaf (.ag [.v (.string (wrT g l).1), .v (.int .i64 (wrT g l).2.1), .v (.int .i64 (wrT g l).2.2)]) []
theorem sWritten_enc : ∀ l H n i ls, sWritten.dec l H = some (i, ls) → l = renL (rho ls n) (sWritten.args i) ∧ givenHp H ls = renH (rho ls n) (sWritten.hp i) := by
  intro l H n i ls h
  simp only [sWritten] at h
  repeat' split at h
  all_goals first
    | (cases h; done)
    | (cases h; exact ⟨rfl, rfl⟩)
def sRwritten : Spec where
  ι := Int × List Int
  dec l H := match l with
    | [.ag [.v (.int .i64 g), .dat (.ints .i64 l)]] => some ((g, l), [])
    | _ => none
  args := fun (g, l) => [.ag [.v (.int .i64 g), .dat (.ints .i64 l)]]
  pre := fun (g, l) => [⟨dchk g l = 0, inferInstance⟩]
  out := fun (g, l) => .leaf (.tu [.ag [.v (.string (wrT g l).1), .v (.int .i64 (wrT g l).2.1), .v (.int .i64 (wrT g l).2.2)], .v (.int .i64 (wrN g l))]) []
theorem sRwritten_enc : ∀ l H n i ls, sRwritten.dec l H = some (i, ls) → l = renL (rho ls n) (sRwritten.args i) ∧ givenHp H ls = renH (rho ls n) (sRwritten.hp i) := by
  intro l H n i ls h
  simp only [sRwritten] at h
  repeat' split at h
  all_goals first
    | (cases h; done)
    | (cases h; exact ⟨rfl, rfl⟩)
def sWrite : Spec where
  ι := Int × List Int
  dec l H := match l with
    | [.ag [.v (.int .i64 g), .dat (.ints .i64 l)]] => some ((g, l), [])
    | _ => none
  args := fun (g, l) => [.ag [.v (.int .i64 g), .dat (.ints .i64 l)]]
  pre := fun (g, l) => [⟨l.length ≤ 4294967296, inferInstance⟩]
  out := fun (g, l) => .leaf (.tu [.v (.string (writeF g l).1), .v (.int .i64 (writeF g l).2)]) []
theorem sWrite_enc : ∀ l H n i ls, sWrite.dec l H = some (i, ls) → l = renL (rho ls n) (sWrite.args i) ∧ givenHp H ls = renH (rho ls n) (sWrite.hp i) := by
  intro l H n i ls h
  simp only [sWrite] at h
  repeat' split at h
  all_goals first
    | (cases h; done)
    | (cases h; exact ⟨rfl, rfl⟩)
def sBitsD : Spec where
  ι := Int × List Int
  dec l H := match l with
    | [.ag [.v (.int .i64 g), .dat (.ints .i64 l)]] => some ((g, l), [])
    | _ => none
  args := fun (g, l) => [.ag [.v (.int .i64 g), .dat (.ints .i64 l)]]
  pre := fun (g, l) => [⟨l.length ≤ 4294967296, inferInstance⟩]
  out := fun (g, l) => .leaf (.tu [.v (.int .i64 (bitsF g l)), .v (.int .i64 (dchk g l))]) []
theorem sBitsD_enc : ∀ l H n i ls, sBitsD.dec l H = some (i, ls) → l = renL (rho ls n) (sBitsD.args i) ∧ givenHp H ls = renH (rho ls n) (sBitsD.hp i) := by
  intro l H n i ls h
  simp only [sBitsD] at h
  repeat' split at h
  all_goals first
    | (cases h; done)
    | (cases h; exact ⟨rfl, rfl⟩)
def wCells (w : W3) : SBlk := .cells 23 [.v (.string w.1), .v (.int .i64 w.2.1), .v (.int .i64 w.2.2)]
def dCells (g : Int) (l : List Int) : SBlk := .cells 50 [.v (.int .i64 g), .dat (.ints .i64 l)]
def wTm (i : Int) (left : Int) : List (Nat × SV) := [(1, .p 1000 0 0), (2, .p 1002 0 0), (3, .p 1001 0 0), (4, .fn (.func 83) [] [.p 1001 0 0]), (5, .v (.int .i64 left)), (6, .v (.int .i64 i))]
def wHp (g : Int) (l : List Int) (w : W3) : List (Nat × SBlk) := [(1000, dCells g l), (1001, wCells w), (1002, .cells 23 [.any, .any, .any])]
def oW0 (g : Int) (l : List Int) : LoopInv := { ι := Nat × W3, p := fun x => x.1 ≤ l.length ∧ putAll x.2 (de none (l.drop x.1) (pts (l.drop x.1))) = wrT g l, tm := fun x => wTm (x.1 : Nat) (pts (l.drop x.1)), hp := fun x => wHp g l x.2, μ := fun x => l.length - x.1 }
def oW1 (g : Int) (l : List Int) (j : Nat) : LoopInv := { ι := Nat × Nat × W3, p := fun x => j ≤ x.1 ∧ x.1 < l.length ∧ x.2.1 ≤ x.1 ∧ putAll x.2.2 (de (some x.2.1) (l.drop (x.1 + 1)) (pts (l.drop (x.1 + 1)))) = wrT g l, tm := fun x => (11, .v (.int .i64 (x.2.1 : Nat))) :: wTm (x.1 : Nat) (pts (l.drop (x.1 + 1))), hp := fun x => wHp g l x.2.2, μ := fun x => l.length - x.1 }
def oW2 (g : Int) (l : List Int) (j : Nat) : LoopInv := { ι := Nat × Nat × W3, p := fun x => j ≤ x.1 ∧ x.1 < l.length ∧ x.2.1 ≤ x.1 ∧ putAll x.2.2 (zerosP x.2.1 ++ de none (l.drop (x.1 + 1)) (pts (l.drop (x.1 + 1)))) = wrT g l, tm := fun x => (11, .v (.int .i64 (x.2.1 : Nat))) :: wTm (x.1 : Nat) (pts (l.drop (x.1 + 1))), hp := fun x => wHp g l x.2.2, μ := fun x => x.2.1 }
def omg : List (Nat × LoopFam) → Nat → Option LoopFam
  | [], _ => none
  | (k, x) :: r, i => cond (Nat.beq i k) (some x) (omg r i)
def oW16 (g : Int) (l : List Int) (i : Nat) : LoopInv := { ι := W3, p := fun w => i < l.length ∧ putAll w (deP l i) = wrT g l, tm := fun w => (7, .v (.int .i64 (l.getD i 0))) :: wTm (i : Nat) (pts (l.drop i)), hp := fun w => wHp g l w, μ := fun _ => 0 }
def oWritten (g : Int) (l : List Int) : Nat → Option LoopFam := omg [(0, .one (oW0 g l)), (1, .fam Nat (oW1 g l)), (2, .fam Nat (oW2 g l)), (1016, .fam Nat (oW16 g l)), (1022, .fam Nat (oW2 g l))]
def vTm (i n left : Int) : List (Nat × SV) := [(1, .p 1000 0 0), (2, .p 1002 0 0), (4, .p 1001 0 0), (6, .v (.int .i64 n)), (7, .v (.int .i64 left)), (8, .v (.int .i64 i))]
def oV0 (g : Int) (l : List Int) : LoopInv := { ι := Nat × W3 × Int, p := fun x => x.1 ≤ l.length ∧ 0 ≤ x.2.2 ∧ putAll x.2.1 (de none (l.drop x.1) (pts (l.drop x.1))) = wrT g l ∧ x.2.2 + bsum (de none (l.drop x.1) (pts (l.drop x.1))) = wrN g l, tm := fun x => vTm (x.1 : Nat) x.2.2 (pts (l.drop x.1)), hp := fun x => wHp g l x.2.1, μ := fun x => l.length - x.1 }
def oV1 (g : Int) (l : List Int) (y : Nat × W3 × Int) : LoopInv := { ι := Nat, p := fun z => y.1 + z < l.length ∧ 0 ≤ y.2.2 ∧ putAll y.2.1 (de (some z) (l.drop (y.1 + 1 + z)) (pts (l.drop (y.1 + 1 + z)))) = wrT g l ∧ y.2.2 + bsum (de (some z) (l.drop (y.1 + 1 + z)) (pts (l.drop (y.1 + 1 + z)))) = wrN g l, tm := fun z => (12, .v (.int .i64 (z : Nat))) :: vTm (y.1 : Nat) y.2.2 (pts (l.drop (y.1 + 1 + z))), hp := fun z => wHp g l y.2.1, μ := fun z => l.length - z }
def oV21 (g : Int) (l : List Int) (y : Nat × W3 × Int) : LoopInv := { ι := Nat, p := fun z => y.1 + z < l.length ∧ 0 ≤ y.2.2 ∧ putAll y.2.1 (zerosP z ++ de none (l.drop (y.1 + 1 + z)) (pts (l.drop (y.1 + 1 + z)))) = wrT g l ∧ y.2.2 + bsum (zerosP z ++ de none (l.drop (y.1 + 1 + z)) (pts (l.drop (y.1 + 1 + z)))) = wrN g l, tm := fun z => (12, .v (.int .i64 (z : Nat))) :: vTm (y.1 : Nat) y.2.2 (pts (l.drop (y.1 + 1 + z))), hp := fun z => wHp g l y.2.1, μ := fun z => l.length - z }
def oV2 (g : Int) (l : List Int) (i : Nat) : LoopInv := { ι := Nat × Bool × W3 × Int, p := fun x => i < l.length ∧ x.1 ≤ l.length ∧ 0 ≤ x.2.2.2 ∧ putAll x.2.2.1 (cond x.2.1 (zerosP x.1) [] ++ de none (l.drop (i + 1)) (pts (l.drop (i + 1)))) = wrT g l ∧ x.2.2.2 + bsum (cond x.2.1 (zerosP x.1) [] ++ de none (l.drop (i + 1)) (pts (l.drop (i + 1)))) = wrN g l, tm := fun x => (12, .v (.int .i64 (x.1 : Nat))) :: (13, .v (.bool x.2.1)) :: vTm (i : Nat) x.2.2.2 (pts (l.drop (i + 1))), hp := fun x => wHp g l x.2.2.1, μ := fun x => cond x.2.1 (x.1 + 1) 0 }
def oV14 (g : Int) (l : List Int) (y : Nat × W3 × Int) : LoopInv := { ι := Int × Int, p := fun x => y.1 < l.length ∧ 0 ≤ y.2.2 ∧ putAll y.2.1 (de none (l.drop y.1) (pts (l.drop y.1))) = wrT g l ∧ y.2.2 + bsum (de none (l.drop y.1) (pts (l.drop y.1))) = wrN g l ∧ (x.1, x.2) = valP (pts (l.drop y.1)) (l.getD y.1 0), tm := fun x => (9, .v (.int .i64 x.2)) :: (10, .v (.int .i64 x.1)) :: vTm (y.1 : Nat) y.2.2 (pts (l.drop y.1)), hp := fun _ => wHp g l y.2.1, μ := fun _ => 0 }
def oRwritten (g : Int) (l : List Int) : Nat → Option LoopFam := omg [(0, .one (oV0 g l)), (1, .fam (Nat × W3 × Int) (oV1 g l)), (2, .fam Nat (oV2 g l)), (1014, .fam (Nat × W3 × Int) (oV14 g l)), (1021, .fam (Nat × W3 × Int) (oV21 g l))]
def G8d : List (Nat × Ctr) := (83, sPut1.ctr) :: G8c
def G8e : List (Nat × Ctr) := (71, sWritten.ctr) :: (72, sRwritten.ctr) :: G8d
def G8f : List (Nat × Ctr) := (47, sWrite.ctr) :: (48, sWrite.ctr) :: (49, sBitsD.ctr) :: (50, sBitsD.ctr) :: G8e
/-!
--%VC put1 ;; (k v : Int) (s : ByteArray) (p m : Int) ;; G8c ;; fun _ => none ;; dist.written$1 ;; [.v (.int .i64 k), .v (.int .i64 v), .p 0 0 0] ;; [(0, .cells 23 [.v (.string s), .v (.int .i64 p), .v (.int .i64 m)])] ;; (.tu []) ;; [(0, .cells 23 [.v (.string (putT (s, p, m) k v).1.1), .v (.int .i64 (putT (s, p, m) k v).1.2.1), .v (.int .i64 (putT (s, p, m) k v).1.2.2)])]
--%VC written ;; (g : Int) (l : List Int) ;; G8d ;; oWritten g l ;; dist.written ;; [.ag [.v (.int .i64 g), .dat (.ints .i64 l)]] ;; [] ;; (.ag [.v (.string (wrT g l).1), .v (.int .i64 (wrT g l).2.1), .v (.int .i64 (wrT g l).2.2)]) ;; []
--%VC rwritten ;; (g : Int) (l : List Int) ;; G8d ;; oRwritten g l ;; ref08.written ;; [.ag [.v (.int .i64 g), .dat (.ints .i64 l)]] ;; [] ;; (.tu [.ag [.v (.string (wrT g l).1), .v (.int .i64 (wrT g l).2.1), .v (.int .i64 (wrT g l).2.2)], .v (.int .i64 (wrN g l))]) ;; []
--%VC write ;; (g : Int) (l : List Int) ;; G8e ;; fun _ => none ;; dist.Write ;; [.ag [.v (.int .i64 g), .dat (.ints .i64 l)]] ;; [] ;; (.tu [.v (.string (writeF g l).1), .v (.int .i64 (writeF g l).2)]) ;; []
--%VC rwrite ;; (g : Int) (l : List Int) ;; G8e ;; fun _ => none ;; ref08.Write ;; [.ag [.v (.int .i64 g), .dat (.ints .i64 l)]] ;; [] ;; (.tu [.v (.string (writeF g l).1), .v (.int .i64 (writeF g l).2)]) ;; []
--%VC bitsD ;; (g : Int) (l : List Int) ;; G8e ;; fun _ => none ;; dist.Bits ;; [.ag [.v (.int .i64 g), .dat (.ints .i64 l)]] ;; [] ;; (.tu [.v (.int .i64 (bitsF g l)), .v (.int .i64 (dchk g l))]) ;; []
--%VC rbitsD ;; (g : Int) (l : List Int) ;; G8e ;; fun _ => none ;; ref08.Bits ;; [.ag [.v (.int .i64 g), .dat (.ints .i64 l)]] ;; [] ;; (.tu [.v (.int .i64 (bitsF g l)), .v (.int .i64 (dchk g l))]) ;; []
-/
end Go.Proofs.Ytafabheehkmfhaa
/-
  Chapter 8: contracts of the predefined distributions. Conditions: none (definitions).
-/
namespace Go.Proofs.Ytafabheehkmfhaa
open Go Go.RowKit
set_option linter.unusedVariables false
set_option linter.unusedSimpArgs false
set_option maxRecDepth 100000
def sRepeat : Spec where
  ι := Int × Int
  own := true
  dec l H := match l with
    | [.o l0, .v (.int .i64 c)] => match H l0 with
      | some (.row 3 (.ints .i64 [v])) => some ((v, c), [l0])
      | _ => none
    | _ => none
  args := fun (v, c) => [.o 0, .v (.int .i64 c)]
  hp := fun (v, c) => [(0, .row 3 (.ints .i64 [v]))]
  pre := fun (v, c) => [⟨1 ≤ c, inferInstance⟩, ⟨c ≤ 65536, inferInstance⟩]
  out := fun (v, c) => .leaf (.dat (.ints .i64 (List.replicate c.toNat v))) [(0, .row 3 (.ints .i64 [v]))]
theorem sRepeat_enc : ∀ l H n i ls, sRepeat.dec l H = some (i, ls) → l = renL (rho ls n) (sRepeat.args i) ∧ givenHp H ls = renH (rho ls n) (sRepeat.hp i) := by
  intro l H n i ls h
  simp only [sRepeat] at h
  repeat' split at h
  all_goals first
    | (cases h; done)
    | (cases h; exact ⟨rfl, rfl⟩)
    | (cases h; refine ⟨rfl, ?_⟩; simp only [givenHp, List.filterMap_cons, List.filterMap_nil, Option.map, *]; rfl)
def sRuns : Spec where
  ι := List Int
  dec l H := match l with
    | [.dat (.ints .i64 l)] => some (l, [])
    | _ => none
  args := fun l => [.dat (.ints .i64 l)]
  pre := fun l => [⟨l.length ≤ 64, inferInstance⟩, ⟨okRuns l = true, inferInstance⟩]
  out := fun l => .leaf (.o 2000) [(2000, .row 3 (.ints .i64 (expandL l)))]
theorem sRuns_enc : ∀ l H n i ls, sRuns.dec l H = some (i, ls) → l = renL (rho ls n) (sRuns.args i) ∧ givenHp H ls = renH (rho ls n) (sRuns.hp i) := by
  intro l H n i ls h
  simp only [sRuns] at h
  repeat' split at h
  all_goals first
    | (cases h; done)
    | (cases h; exact ⟨rfl, rfl⟩)
def sPredef : Spec where
  ι := Int
  dec l H := match l with
    | [.v (.int .i64 k)] => some (k, [])
    | _ => none
  args := fun k => [.v (.int .i64 k)]
  out := fun k => .leaf (.tu [.ag [.v (.int .i64 (preL k)), .dat (.ints .i64 (preP k))], .v (.int .i64 (preE k))]) []
theorem sPredef_enc : ∀ l H n i ls, sPredef.dec l H = some (i, ls) → l = renL (rho ls n) (sPredef.args i) ∧ givenHp H ls = renH (rho ls n) (sPredef.hp i) := by
  intro l H n i ls h
  simp only [sPredef] at h
  repeat' split at h
  all_goals first
    | (cases h; done)
    | (cases h; exact ⟨rfl, rfl⟩)
/-- one of two contracts -/
def orC (s1 s2 : Spec) : Ctr := ⟨s1.own, fun l H n => match s1.dec l H with
  | some _ => s1.ctr.tr l H n
  | none => s2.ctr.tr l H n⟩
theorem orC_sound {P : Program} {f : FuncId} {s1 s2 : Spec} (h1 : Sound P f s1.ctr) (h2 : Sound P f s2.ctr) : Sound P f (orC s1 s2) := by
  refine ⟨h1.1, fun args H n hp => ?_⟩
  simp only [orC, Ctr.fn] at hp ⊢
  cases hd : s1.dec args H with
  | none => rw [hd] at hp; exact h2.2 args H n hp
  | some x => rw [hd] at hp; exact h1.2 args H n hp
def oRuns (l : List Int) : LoopInv := { ι := Nat × List Int, p := fun x => x.1 ≤ l.length ∧ okRuns (l.drop x.1) = true ∧ x.2.length ≤ 64 * x.1 ∧ x.2 ++ expandL (l.drop x.1) = expandL l, tm := fun x => [(0, .dat (.ints .i64 l)), (3, .o 2000), (4, .v (.int .i64 (x.1 : Nat)))], hp := fun x => [(2000, .row 3 (.ints .i64 x.2))], μ := fun x => l.length - x.1 }
def G8g : List (Nat × Ctr) := (81, sRepeat.ctr) :: (73, orC sTimes0 sTimes) :: G8f
def G8h : List (Nat × Ctr) := (65, sRuns.ctr) :: G8g
def G8i : List (Nat × Ctr) := (38, sPredef.ctr) :: (51, sPredef.ctr) :: G8h
/-!
--%VC runs ;; (l : List Int) ;; G8g ;; one (oRuns l) ;; dist.runs ;; [.dat (.ints .i64 l)] ;; [] ;; (.o 2000) ;; [(2000, .row 3 (.ints .i64 (expandL l)))]
--%VC predef ;; (k : Int) ;; G8h ;; fun _ => none ;; dist.Predefined ;; [.v (.int .i64 k)] ;; [] ;; (.tu [.ag [.v (.int .i64 (preL k)), .dat (.ints .i64 (preP k))], .v (.int .i64 (preE k))]) ;; []
--%VC rpredef ;; (k : Int) ;; G8h ;; fun _ => none ;; ref08.Predefined ;; [.v (.int .i64 k)] ;; [] ;; (.tu [.ag [.v (.int .i64 (preL k)), .dat (.ints .i64 (preP k))], .v (.int .i64 (preE k))]) ;; []
-/
end Go.Proofs.Ytafabheehkmfhaa
/-
  Chapter 8: the laws on what is written and predefined, as conditions. Conditions: none (definitions).
-/
namespace Go.Proofs.Ytafabheehkmfhaa
open Go Go.RowKit
set_option linter.unusedVariables false
set_option linter.unusedSimpArgs false
set_option maxRecDepth 100000
def sAwake : Spec where
  ι := Unit
  dec l H := match l with
    | [] => some ((), [])
    | _ => none
  args := fun _ => []
  out := fun _ => .leaf (.v (.bool true)) []
theorem sAwake_enc : ∀ l H n i ls, sAwake.dec l H = some (i, ls) → l = renL (rho ls n) (sAwake.args i) ∧ givenHp H ls = renH (rho ls n) (sAwake.hp i) := by
  intro l H n i ls h
  simp only [sAwake] at h
  repeat' split at h
  all_goals first
    | (cases h; done)
    | (cases h; exact ⟨rfl, rfl⟩)
def G8j : List (Nat × Ctr) := (40, sAwake.ctr) :: G8i
/-!
--%VC awake8 ;; ;; G8i ;; fun _ => none ;; law08.awake ;; [] ;; [] ;; (.v (.bool true)) ;; []
--%VC lawPre ;; (k : Int) ;; G8j ;; fun _ => none ;; law08.DistPredefined ;; [.v (.int .i64 k)] ;; [] ;; (.v (.bool true)) ;; []
--%VC lawWr ;; (g : Int) (l : List Int) (g2 : Int) (l2 : List Int) (k : Int) ;; G8j ;; fun _ => none ;; law08.DistWrites ;; [.ag [.v (.int .i64 g), .dat (.ints .i64 l)], .ag [.v (.int .i64 g2), .dat (.ints .i64 l2)], .v (.int .i64 k)] ;; [] ;; (.v (.bool true)) ;; []
-/
end Go.Proofs.Ytafabheehkmfhaa
/-
  Chapter 8: descriptions read, in plain lists. Conditions: none (definitions).
-/
namespace Go.Proofs.Ytafabheehkmfhaa
set_option linter.unusedVariables false
def fixV (left v : Int) : Int := cond (decide (2 ^ (shB left - 1).toNat ≤ v)) (v - shT left) v
/-- the next value, with so many points left: the reader behind it, the value, the error -/
def valR (r : R2) (left : Int) : R2 × Int × Int :=
  cond ((takeT r (shB left - 1)).2.2 == 0)
    (cond (decide ((takeT r (shB left - 1)).2.1 < shT left)) (takeT r (shB left - 1))
      (cond ((takeT (takeT r (shB left - 1)).1 1).2.2 == 0)
        ((takeT (takeT r (shB left - 1)).1 1).1, fixV left ((takeT r (shB left - 1)).2.1 + (takeT (takeT r (shB left - 1)).1 1).2.1 * 2 ^ (shB left - 1).toNat), 0)
        (r, 0, (takeT (takeT r (shB left - 1)).1 1).2.2)))
    (r, 0, (takeT r (shB left - 1)).2.2)
/-- how many zeros more, told two bits at a time -/
def flR (sym : Int) : Nat → R2 → List Int → R2 × List Int × Int
  | 0, r, out => (r, out, 23)
  | f + 1, r, out => cond ((takeT r 2).2.2 == 0)
      (cond (decide (sym < out.length + (takeT r 2).2.1)) (r, out, 23)
        (cond ((takeT r 2).2.1 == 3) (flR sym f (takeT r 2).1 (out ++ List.replicate (takeT r 2).2.1.toNat 0)) ((takeT r 2).1, out ++ List.replicate (takeT r 2).2.1.toNat 0, 0)))
      (r, out, (takeT r 2).2.2)
/-- the probabilities -/
def rdR (sym : Int) : Nat → R2 → Int → List Int → R2 × List Int × Int
  | 0, r, _, out => (r, out, 23)
  | f + 1, r, left, out => cond (decide (0 < left))
      (cond ((valR r left).2.2 == 0)
        (cond ((out.length : Int) == sym) (r, out, 23)
          (cond ((valR r left).2.1 == 1)
            (cond ((flR sym (sym.toNat + 1) (valR r left).1 (out ++ [(valR r left).2.1 - 1])).2.2 == 0)
              (rdR sym f (flR sym (sym.toNat + 1) (valR r left).1 (out ++ [(valR r left).2.1 - 1])).1 left (flR sym (sym.toNat + 1) (valR r left).1 (out ++ [(valR r left).2.1 - 1])).2.1)
              (flR sym (sym.toNat + 1) (valR r left).1 (out ++ [(valR r left).2.1 - 1])))
            (rdR sym f (valR r left).1 (left - max ((valR r left).2.1 - 1) 1) (out ++ [(valR r left).2.1 - 1]))))
        (r, out, (valR r left).2.2))
      (r, out, 0)
/-- behind a run of zeros -/
def contZ (y : Int) (f : Nat) (left : Int) (z : R2 × List Int × Int) : R2 × List Int × Int := cond (z.2.2 == 0) (rdR y f z.1 left z.2.1) z
def logR (r : R2) : Int := (takeT r 4).2.1 + 5
/-- a description -/
def rdA (r : R2) (most sym : Int) : R2 × List Int × Int :=
  cond ((takeT r 4).2.2 == 0) (cond (decide (most < logR r)) (r, [], 31) (rdR sym (sym.toNat + 1) (takeT r 4).1 (2 ^ (logR r).toNat) [])) (r, [], (takeT r 4).2.2)
def rngE (s : ByteArray) (a m y : Int) : Bool := decide (a < 0) || decide ((s.size : Int) < a) || decide (m < 5) || decide (12 < m) || decide (y < 1) || decide (256 < y)
def win (s : ByteArray) (a w : Int) : ByteArray := s.extract a.toNat (min (s.size : Int) (a + w)).toNat
/-- what Read answers, if it looks at so many bytes -/
def readF (w : Int) (s : ByteArray) (a m y : Int) : (Int × List Int) × Int × Int × Int :=
  cond (rngE s a m y) ((0, []), 0, 2, 0)
    (cond ((rdA (win s a w, 0) m y).2.2 == 0) ((logR (win s a w, 0), (rdA (win s a w, 0) m y).2.1), a + (nextT (rdA (win s a w, 0) m y).1).1, 0, 0)
      ((0, []), 0, cond ((rdA (win s a w, 0) m y).2.2 == 31) 31 23, a))
end Go.Proofs.Ytafabheehkmfhaa
/-
  Chapter 8: contracts of what reads. Conditions: none (definitions).
-/
namespace Go.Proofs.Ytafabheehkmfhaa
open Go Go.RowKit
set_option linter.unusedVariables false
set_option linter.unusedSimpArgs false
set_option maxRecDepth 100000
def rC (r : R2) : SBlk := .cells 34 [.v (.string r.1), .v (.int .i64 r.2)]
def xC (r : R2) (e : Int) : SBlk := .cells 99 [.v (.string r.1), .v (.int .i64 r.2), .v (.int .i64 e)]
def errB (e : Int) : SV := .ifc 110 (.ag [.ifc 25 (.v (.int .i64 e))])
def sDTake : Spec where
  ι := Int × ByteArray × Int
  dec l H := match l with
    | [.p l0 0 0, .v (.int .i64 n)] => match H l0 with
      | some (.cells 34 [.v (.string s), .v (.int .i64 b)]) => some ((n, s, b), [l0])
      | _ => none
    | _ => none
  args := fun (n, s, b) => [.p 0 0 0, .v (.int .i64 n)]
  hp := fun (n, s, b) => [(0, .cells 34 [.v (.string s), .v (.int .i64 b)])]
  pre := fun (n, s, b) => [⟨s.size ≤ 9223372036854775807, inferInstance⟩]
  out := fun (n, s, b) => .ite ⟨(takeT (s, b) n).2.2 = 0, inferInstance⟩ (.leaf (.tu [.v (.int .i64 (takeT (s, b) n).2.1), .v .nilIface]) [(0, rC (takeT (s, b) n).1)]) (.leaf (.tu [.v (.int .i64 0), errB (takeT (s, b) n).2.2]) [(0, rC (s, b))])
theorem sDTake_enc : ∀ l H n i ls, sDTake.dec l H = some (i, ls) → l = renL (rho ls n) (sDTake.args i) ∧ givenHp H ls = renH (rho ls n) (sDTake.hp i) := by
  intro l H n i ls h
  simp only [sDTake] at h
  repeat' split at h
  all_goals first
    | (cases h; done)
    | (cases h; exact ⟨rfl, rfl⟩)
    | (cases h; refine ⟨rfl, ?_⟩; simp only [givenHp, List.filterMap_cons, List.filterMap_nil, Option.map, *]; rfl)
def sDRead : Spec where
  ι := Int × Int × ByteArray × Int
  dec l H := match l with
    | [.p l0 0 0, .v (.int .i64 m), .v (.int .i64 y)] => match H l0 with
      | some (.cells 34 [.v (.string s), .v (.int .i64 b)]) => some ((m, y, s, b), [l0])
      | _ => none
    | _ => none
  args := fun (m, y, s, b) => [.p 0 0 0, .v (.int .i64 m), .v (.int .i64 y)]
  hp := fun (m, y, s, b) => [(0, .cells 34 [.v (.string s), .v (.int .i64 b)])]
  pre := fun (m, y, s, b) => [⟨m ≤ 12, inferInstance⟩, ⟨1 ≤ y, inferInstance⟩, ⟨y ≤ 256, inferInstance⟩, ⟨s.size ≤ 9223372036854775807, inferInstance⟩]
  out := fun (m, y, s, b) => .ite ⟨(rdA (s, b) m y).2.2 = 0, inferInstance⟩ (.leaf (.tu [.ag [.v (.int .i64 (logR (s, b))), .dat (.ints .i64 (rdA (s, b) m y).2.1)], .v .nilIface]) [(0, rC (rdA (s, b) m y).1)]) (.leaf (.tu [.ag [.v (.int .i64 0), .dat (.ints .i64 [])], errB (rdA (s, b) m y).2.2]) [(0, .cells 34 [.any, .any])])
theorem sDRead_enc : ∀ l H n i ls, sDRead.dec l H = some (i, ls) → l = renL (rho ls n) (sDRead.args i) ∧ givenHp H ls = renH (rho ls n) (sDRead.hp i) := by
  intro l H n i ls h
  simp only [sDRead] at h
  repeat' split at h
  all_goals first
    | (cases h; done)
    | (cases h; exact ⟨rfl, rfl⟩)
    | (cases h; refine ⟨rfl, ?_⟩; simp only [givenHp, List.filterMap_cons, List.filterMap_nil, Option.map, *]; rfl)
def sRTake : Spec where
  ι := Int × ByteArray × Int
  dec l H := match l with
    | [.p l0 0 0, .v (.int .i64 n)] => match H l0 with
      | some (.cells 99 [.v (.string s), .v (.int .i64 b), .v (.int .i64 0)]) => some ((n, s, b), [l0])
      | _ => none
    | _ => none
  args := fun (n, s, b) => [.p 0 0 0, .v (.int .i64 n)]
  hp := fun (n, s, b) => [(0, .cells 99 [.v (.string s), .v (.int .i64 b), .v (.int .i64 0)])]
  pre := fun (n, s, b) => [⟨s.size ≤ 9223372036854775807, inferInstance⟩]
  out := fun (n, s, b) => .ite ⟨(takeT (s, b) n).2.2 = 0, inferInstance⟩ (.leaf (.v (.int .i64 (takeT (s, b) n).2.1)) [(0, xC (takeT (s, b) n).1 0)]) (.leaf (.v (.int .i64 0)) [(0, xC (s, b) 23)])
theorem sRTake_enc : ∀ l H n i ls, sRTake.dec l H = some (i, ls) → l = renL (rho ls n) (sRTake.args i) ∧ givenHp H ls = renH (rho ls n) (sRTake.hp i) := by
  intro l H n i ls h
  simp only [sRTake] at h
  repeat' split at h
  all_goals first
    | (cases h; done)
    | (cases h; exact ⟨rfl, rfl⟩)
    | (cases h; refine ⟨rfl, ?_⟩; simp only [givenHp, List.filterMap_cons, List.filterMap_nil, Option.map, *]; rfl)
def sRVal : Spec where
  ι := Int × ByteArray × Int
  dec l H := match l with
    | [.p l0 0 0, .v (.int .i64 g)] => match H l0 with
      | some (.cells 99 [.v (.string s), .v (.int .i64 b), .v (.int .i64 0)]) => some ((g, s, b), [l0])
      | _ => none
    | _ => none
  args := fun (g, s, b) => [.p 0 0 0, .v (.int .i64 g)]
  hp := fun (g, s, b) => [(0, .cells 99 [.v (.string s), .v (.int .i64 b), .v (.int .i64 0)])]
  pre := fun (g, s, b) => [⟨s.size ≤ 9223372036854775807, inferInstance⟩, ⟨0 ≤ g, inferInstance⟩, ⟨g ≤ 4096, inferInstance⟩, ⟨0 ≤ b, inferInstance⟩, ⟨b ≤ 9000000, inferInstance⟩]
  out := fun (g, s, b) => .ite ⟨(valR (s, b) g).2.2 = 0, inferInstance⟩ (.leaf (.v (.int .i64 (valR (s, b) g).2.1)) [(0, xC (valR (s, b) g).1 0)]) (.leaf (.v (.int .i64 0)) [(0, xC (s, b) 23)])
theorem sRVal_enc : ∀ l H n i ls, sRVal.dec l H = some (i, ls) → l = renL (rho ls n) (sRVal.args i) ∧ givenHp H ls = renH (rho ls n) (sRVal.hp i) := by
  intro l H n i ls h
  simp only [sRVal] at h
  repeat' split at h
  all_goals first
    | (cases h; done)
    | (cases h; exact ⟨rfl, rfl⟩)
    | (cases h; refine ⟨rfl, ?_⟩; simp only [givenHp, List.filterMap_cons, List.filterMap_nil, Option.map, *]; rfl)
/-! ### loops -/
def oD1 (y : Int) (log : Int) (fin : R2 × List Int × Int) : LoopInv := { ι := Nat × R2 × Int × List Int, p := fun x => rdR y x.1 x.2.1 x.2.2.1 x.2.2.2 = fin ∧ y + 1 ≤ x.1 + x.2.2.2.length ∧ x.2.2.2.length ≤ y ∧ 0 ≤ x.2.2.1 ∧ x.2.2.1 ≤ 4096 ∧ x.2.1.1.size ≤ 9223372036854775807, tm := fun x => [(0, .p 0 0 0), (2, .v (.int .i64 y)), (6, .p 1002 0 0), (10, .p 1000 0 0), (11, .v (.int .i64 x.2.2.1))], hp := fun x => [(0, rC x.2.1), (1000, .cells 50 [.v (.int .i64 log), .o 1003]), (1003, .row 3 (.ints .i64 x.2.2.2)), (1002, .cells 50 [.any, .any])], μ := fun x => x.1 }
def oD2 (y : Int) (log : Int) (fin : R2 × List Int × Int) (g : Nat × Int) : LoopInv := { ι := Int × Nat × R2 × List Int, p := fun x => contZ y g.1 g.2 (cond (x.1 == 3) (flR y x.2.1 x.2.2.1 x.2.2.2) (x.2.2.1, x.2.2.2, 0)) = fin ∧ (x.1 = 3 → y + 1 ≤ x.2.1 + x.2.2.2.length) ∧ y + 1 ≤ g.1 + x.2.2.2.length ∧ x.2.2.2.length ≤ y ∧ x.2.2.1.1.size ≤ 9223372036854775807, tm := fun x => [(0, .p 0 0 0), (2, .v (.int .i64 y)), (6, .p 1002 0 0), (10, .p 1000 0 0), (11, .v (.int .i64 g.2)), (18, .v (.int .i64 x.1))], hp := fun x => [(0, rC x.2.2.1), (1000, .cells 50 [.v (.int .i64 log), .o 1003]), (1003, .row 3 (.ints .i64 x.2.2.2)), (1002, .cells 50 [.any, .any])], μ := fun x => cond (x.1 == 3) (x.2.1 + 1) 0 }
/-- behind a value -/
def oD20 (y : Int) (log : Int) (fin : R2 × List Int × Int) (g : Nat × R2 × Int × List Int) : LoopInv := { ι := R2 × Int, p := fun x => valR g.2.1 g.2.2.1 = (x.1, x.2, 0) ∧ rdR y g.1 g.2.1 g.2.2.1 g.2.2.2 = fin ∧ 0 < g.2.2.1 ∧ g.2.2.1 ≤ 4096 ∧ x.1.1.size ≤ 9223372036854775807, tm := fun x => [(0, .p 0 0 0), (2, .v (.int .i64 y)), (6, .p 1002 0 0), (10, .p 1000 0 0), (11, .v (.int .i64 g.2.2.1)), (14, .v (.int .i64 x.2))], hp := fun x => [(0, rC x.1), (1000, .cells 50 [.v (.int .i64 log), .o 1003]), (1003, .row 3 (.ints .i64 g.2.2.2)), (1002, .cells 50 [.any, .any])], μ := fun _ => 0 }
def oDRead (m y : Int) (r : R2) : Nat → Option LoopFam := omg [(0, .one (oD1 y (logR r) (rdA r m y))), (1, .fam (Nat × Int) (oD2 y (logR r) (rdA r m y))), (1020, .fam (Nat × R2 × Int × List Int) (oD20 y (logR r) (rdA r m y)))]
def G8k : List (Nat × Ctr) := (86, sDTake.ctr) :: (77, sRTake.ctr) :: G8j
def G8l : List (Nat × Ctr) := (75, sDRead.ctr) :: (89, sRVal.ctr) :: G8k
/-!
--%VC dtake ;; (n : Int) (s : ByteArray) (b : Int) ;; G8j ;; fun _ => none ;; dist.take ;; [.p 0 0 0, .v (.int .i64 n)] ;; [(0, .cells 34 [.v (.string s), .v (.int .i64 b)])] ;; .tu [.v (.int .i64 (takeT (s, b) n).2.1), .v .nilIface] :: [(0, rC (takeT (s, b) n).1)] ?? (takeT (s, b) n).2.2 = 0 ?? .tu [.v (.int .i64 0), errB (takeT (s, b) n).2.2] :: [(0, rC (s, b))] ;; []
--%VC rtake8 ;; (n : Int) (s : ByteArray) (b : Int) ;; G8j ;; fun _ => none ;; (*ref08.reader).take ;; [.p 0 0 0, .v (.int .i64 n)] ;; [(0, .cells 99 [.v (.string s), .v (.int .i64 b), .v (.int .i64 0)])] ;; .v (.int .i64 (takeT (s, b) n).2.1) :: [(0, xC (takeT (s, b) n).1 0)] ?? (takeT (s, b) n).2.2 = 0 ?? .v (.int .i64 0) :: [(0, xC (s, b) 23)] ;; []
--%VC dread ;; (m y : Int) (s : ByteArray) (b : Int) ;; G8k ;; oDRead m y (s, b) ;; dist.read ;; [.p 0 0 0, .v (.int .i64 m), .v (.int .i64 y)] ;; [(0, .cells 34 [.v (.string s), .v (.int .i64 b)])] ;; .tu [.ag [.v (.int .i64 (logR (s, b))), .dat (.ints .i64 (rdA (s, b) m y).2.1)], .v .nilIface] :: [(0, rC (rdA (s, b) m y).1)] ?? (rdA (s, b) m y).2.2 = 0 ?? .tu [.ag [.v (.int .i64 0), .dat (.ints .i64 [])], errB (rdA (s, b) m y).2.2] :: [(0, .cells 34 [.any, .any])] ;; []
--%VC rval ;; (g : Int) (s : ByteArray) (b : Int) ;; G8k ;; fun _ => none ;; (*ref08.reader).value ;; [.p 0 0 0, .v (.int .i64 g)] ;; [(0, .cells 99 [.v (.string s), .v (.int .i64 b), .v (.int .i64 0)])] ;; .v (.int .i64 (valR (s, b) g).2.1) :: [(0, xC (valR (s, b) g).1 0)] ?? (valR (s, b) g).2.2 = 0 ?? .v (.int .i64 0) :: [(0, xC (s, b) 23)] ;; []
-/
end Go.Proofs.Ytafabheehkmfhaa
/-
  Chapter 8: contracts of Read. Conditions: none (definitions).
-/
namespace Go.Proofs.Ytafabheehkmfhaa
open Go Go.RowKit
set_option linter.unusedVariables false
set_option linter.unusedSimpArgs false
set_option maxRecDepth 100000
def sIs0 : Spec where
  ι := Int
  dec l H := match l with
    | [.v .nilIface, .ifc 25 (.v (.int .i64 k))] => some (k, [])
    | _ => none
  args := fun k => [.v .nilIface, .ifc 25 (.v (.int .i64 k))]
  out := fun k => .leaf (.v (.bool false)) []
theorem sIs0_enc : ∀ l H n i ls, sIs0.dec l H = some (i, ls) → l = renL (rho ls n) (sIs0.args i) ∧ givenHp H ls = renH (rho ls n) (sIs0.hp i) := by
  intro l H n i ls h
  simp only [sIs0] at h
  repeat' split at h
  all_goals first
    | (cases h; done)
    | (cases h; exact ⟨rfl, rfl⟩)
def sIs1 : Spec where
  ι := Int × Int
  dec l H := match l with
    | [.ifc 110 (.ag [.ifc 25 (.v (.int .i64 e))]), .ifc 25 (.v (.int .i64 k))] => some ((e, k), [])
    | _ => none
  args := fun (e, k) => [.ifc 110 (.ag [.ifc 25 (.v (.int .i64 e))]), .ifc 25 (.v (.int .i64 k))]
  out := fun (e, k) => .leaf (.v (.bool (e == k))) []
theorem sIs1_enc : ∀ l H n i ls, sIs1.dec l H = some (i, ls) → l = renL (rho ls n) (sIs1.args i) ∧ givenHp H ls = renH (rho ls n) (sIs1.hp i) := by
  intro l H n i ls h
  simp only [sIs1] at h
  repeat' split at h
  all_goals first
    | (cases h; done)
    | (cases h; exact ⟨rfl, rfl⟩)
def sRProbs : Spec where
  ι := Int × Int × ByteArray × Int
  dec l H := match l with
    | [.p l0 0 0, .v (.int .i64 g), .v (.int .i64 y)] => match H l0 with
      | some (.cells 99 [.v (.string s), .v (.int .i64 b), .v (.int .i64 0)]) => some ((g, y, s, b), [l0])
      | _ => none
    | _ => none
  args := fun (g, y, s, b) => [.p 0 0 0, .v (.int .i64 g), .v (.int .i64 y)]
  hp := fun (g, y, s, b) => [(0, .cells 99 [.v (.string s), .v (.int .i64 b), .v (.int .i64 0)])]
  pre := fun (g, y, s, b) => [⟨s.size ≤ 9223372036854775807, inferInstance⟩, ⟨0 ≤ g, inferInstance⟩, ⟨g ≤ 4096, inferInstance⟩, ⟨1 ≤ y, inferInstance⟩, ⟨y ≤ 256, inferInstance⟩, ⟨0 ≤ b, inferInstance⟩, ⟨b ≤ 8388608, inferInstance⟩]
  out := fun (g, y, s, b) => .ite ⟨(rdR y (y.toNat + 1) (s, b) g []).2.2 = 0, inferInstance⟩ (.leaf (.dat (.ints .i64 (rdR y (y.toNat + 1) (s, b) g []).2.1)) [(0, xC (rdR y (y.toNat + 1) (s, b) g []).1 0)]) (.leaf (.dat (.ints .i64 [])) [(0, .cells 99 [.any, .any, .v (.int .i64 23)])])
theorem sRProbs_enc : ∀ l H n i ls, sRProbs.dec l H = some (i, ls) → l = renL (rho ls n) (sRProbs.args i) ∧ givenHp H ls = renH (rho ls n) (sRProbs.hp i) := by
  intro l H n i ls h
  simp only [sRProbs] at h
  repeat' split at h
  all_goals first
    | (cases h; done)
    | (cases h; exact ⟨rfl, rfl⟩)
    | (cases h; refine ⟨rfl, ?_⟩; simp only [givenHp, List.filterMap_cons, List.filterMap_nil, Option.map, *]; rfl)
def sReadP : Spec where
  ι := ByteArray × Int × Int × Int
  dec l H := match l with
    | [.v (.string s), .v (.int .i64 a), .v (.int .i64 m), .v (.int .i64 y)] => some ((s, a, m, y), [])
    | _ => none
  args := fun (s, a, m, y) => [.v (.string s), .v (.int .i64 a), .v (.int .i64 m), .v (.int .i64 y)]
  pre := fun (s, a, m, y) => [⟨s.size ≤ 1000000, inferInstance⟩]
  out := fun (s, a, m, y) => .leaf (.tu [.ag [.v (.int .i64 (readF 2000 s a m y).1.1), .dat (.ints .i64 (readF 2000 s a m y).1.2)], .v (.int .i64 (readF 2000 s a m y).2.1), .ag [.v (.int .i64 (readF 2000 s a m y).2.2.1), .v (.int .i64 (readF 2000 s a m y).2.2.2)]]) []
theorem sReadP_enc : ∀ l H n i ls, sReadP.dec l H = some (i, ls) → l = renL (rho ls n) (sReadP.args i) ∧ givenHp H ls = renH (rho ls n) (sReadP.hp i) := by
  intro l H n i ls h
  simp only [sReadP] at h
  repeat' split at h
  all_goals first
    | (cases h; done)
    | (cases h; exact ⟨rfl, rfl⟩)
def sReadR : Spec where
  ι := ByteArray × Int × Int × Int
  dec l H := match l with
    | [.v (.string s), .v (.int .i64 a), .v (.int .i64 m), .v (.int .i64 y)] => some ((s, a, m, y), [])
    | _ => none
  args := fun (s, a, m, y) => [.v (.string s), .v (.int .i64 a), .v (.int .i64 m), .v (.int .i64 y)]
  pre := fun (s, a, m, y) => [⟨s.size ≤ 1000000, inferInstance⟩]
  out := fun (s, a, m, y) => .leaf (.tu [.ag [.v (.int .i64 (readF 600 s a m y).1.1), .dat (.ints .i64 (readF 600 s a m y).1.2)], .v (.int .i64 (readF 600 s a m y).2.1), .ag [.v (.int .i64 (readF 600 s a m y).2.2.1), .v (.int .i64 (readF 600 s a m y).2.2.2)]]) []
theorem sReadR_enc : ∀ l H n i ls, sReadR.dec l H = some (i, ls) → l = renL (rho ls n) (sReadR.args i) ∧ givenHp H ls = renH (rho ls n) (sReadR.hp i) := by
  intro l H n i ls h
  simp only [sReadR] at h
  repeat' split at h
  all_goals first
    | (cases h; done)
    | (cases h; exact ⟨rfl, rfl⟩)
def oP1 (y : Int) (fin : R2 × List Int × Int) : LoopInv := { ι := Nat × R2 × Int × List Int, p := fun x => rdR y x.1 x.2.1 x.2.2.1 x.2.2.2 = fin ∧ y + 1 ≤ x.1 + x.2.2.2.length ∧ x.2.2.2.length ≤ y ∧ 0 ≤ x.2.2.1 ∧ x.2.2.1 ≤ 4096 ∧ x.2.1.1.size ≤ 9223372036854775807 ∧ 0 ≤ x.2.1.2 ∧ x.2.1.2 ≤ 8388608, tm := fun x => [(0, .p 0 0 0), (1, .v (.int .i64 x.2.2.1)), (2, .v (.int .i64 y)), (7, .o 1003)], hp := fun x => [(0, xC x.2.1 0), (1003, .row 3 (.ints .i64 x.2.2.2))], μ := fun x => x.1 }
def oP2 (y : Int) (fin : R2 × List Int × Int) (g : Nat × Int) : LoopInv := { ι := Bool × Nat × R2 × List Int, p := fun x => contZ y g.1 g.2 (cond x.1 (flR y x.2.1 x.2.2.1 x.2.2.2) (x.2.2.1, x.2.2.2, 0)) = fin ∧ (x.1 = true → y + 1 ≤ x.2.1 + x.2.2.2.length) ∧ y + 1 ≤ g.1 + x.2.2.2.length ∧ x.2.2.2.length ≤ y ∧ x.2.2.1.1.size ≤ 9223372036854775807 ∧ 0 ≤ x.2.2.1.2 ∧ x.2.2.1.2 ≤ 8388608, tm := fun x => [(0, .p 0 0 0), (1, .v (.int .i64 g.2)), (2, .v (.int .i64 y)), (7, .o 1003), (9, .v (.bool x.1))], hp := fun x => [(0, xC x.2.2.1 0), (1003, .row 3 (.ints .i64 x.2.2.2))], μ := fun x => cond x.1 (x.2.1 + 1) 0 }
def oRProbs (y : Int) (fin : R2 × List Int × Int) : Nat → Option LoopFam := omg [(0, .one (oP1 y fin)), (1, .fam (Nat × Int) (oP2 y fin))]
def G8m : List (Nat × Ctr) := (76, orC sIs0 sIs1) :: (78, sRProbs.ctr) :: G8l
def G8n : List (Nat × Ctr) := (53, sReadP.ctr) :: (54, sReadR.ctr) :: G8m
/-!
--%VC rprobs ;; (g y : Int) (s : ByteArray) (b : Int) ;; G8l ;; oRProbs y (rdR y (y.toNat + 1) (s, b) g []) ;; (*ref08.reader).probs ;; [.p 0 0 0, .v (.int .i64 g), .v (.int .i64 y)] ;; [(0, .cells 99 [.v (.string s), .v (.int .i64 b), .v (.int .i64 0)])] ;; .dat (.ints .i64 (rdR y (y.toNat + 1) (s, b) g []).2.1) :: [(0, xC (rdR y (y.toNat + 1) (s, b) g []).1 0)] ?? (rdR y (y.toNat + 1) (s, b) g []).2.2 = 0 ?? .dat (.ints .i64 []) :: [(0, .cells 99 [.any, .any, .v (.int .i64 23)])] ;; []
--%VC readP ;; (s : ByteArray) (a m y : Int) ;; G8m ;; fun _ => none ;; dist.Read ;; [.v (.string s), .v (.int .i64 a), .v (.int .i64 m), .v (.int .i64 y)] ;; [] ;; (.tu [.ag [.v (.int .i64 (readF 2000 s a m y).1.1), .dat (.ints .i64 (readF 2000 s a m y).1.2)], .v (.int .i64 (readF 2000 s a m y).2.1), .ag [.v (.int .i64 (readF 2000 s a m y).2.2.1), .v (.int .i64 (readF 2000 s a m y).2.2.2)]]) ;; []
--%VC readR ;; (s : ByteArray) (a m y : Int) ;; G8m ;; fun _ => none ;; ref08.Read ;; [.v (.string s), .v (.int .i64 a), .v (.int .i64 m), .v (.int .i64 y)] ;; [] ;; (.tu [.ag [.v (.int .i64 (readF 600 s a m y).1.1), .dat (.ints .i64 (readF 600 s a m y).1.2)], .v (.int .i64 (readF 600 s a m y).2.1), .ag [.v (.int .i64 (readF 600 s a m y).2.2.1), .v (.int .i64 (readF 600 s a m y).2.2.2)]]) ;; []
-/
end Go.Proofs.Ytafabheehkmfhaa
/-
  Chapter 8: the laws on what is known and read, as conditions. Conditions: none (definitions).
-/
namespace Go.Proofs.Ytafabheehkmfhaa
open Go Go.RowKit
set_option linter.unusedVariables false
set_option linter.unusedSimpArgs false
set_option maxRecDepth 100000
def sSizeN : Spec where
  ι := Int
  dec l H := match l with
    | [.ag [.v (.int .i64 g), .v (.slice none 0 0)]] => some (g, [])
    | _ => none
  args := fun g => [.ag [.v (.int .i64 g), .v (.slice none 0 0)]]
  out := fun g => .leaf (.v (.int .i64 (dsize g))) []
theorem sSizeN_enc : ∀ l H n i ls, sSizeN.dec l H = some (i, ls) → l = renL (rho ls n) (sSizeN.args i) ∧ givenHp H ls = renH (rho ls n) (sSizeN.hp i) := by
  intro l H n i ls h
  simp only [sSizeN] at h
  repeat' split at h
  all_goals first
    | (cases h; done)
    | (cases h; exact ⟨rfl, rfl⟩)
def G8o : List (Nat × Ctr) := (43, orC sSizeN sSize) :: G8n
/-!
--%VC sizeN ;; (g : Int) ;; G8a ;; fun _ => none ;; dist.Size ;; [.ag [.v (.int .i64 g), .v (.slice none 0 0)]] ;; [] ;; (.v (.int .i64 (dsize g))) ;; []
--%VC lawKn ;; ;; G8o ;; fun _ => none ;; law08.DistKnown ;; [] ;; [] ;; (.v (.bool true)) ;; []
--%VC lawRd ;; (s : ByteArray) (a m y : Int) ;; G8o ;; fun _ => none ;; law08.DistReads ;; [.v (.string s), .v (.int .i64 a), .v (.int .i64 m), .v (.int .i64 y)] ;; [] ;; (.v (.bool true)) ;; []
-/
end Go.Proofs.Ytafabheehkmfhaa
/-
  Chapter 8: kit.Dist's numbers. Conditions: none (definitions).
-/
namespace Go.Proofs.Ytafabheehkmfhaa
open Go Go.RowKit
def stepV (x left : Int) : Int := cond (modI x 1048576 % 4 == 0) (-1) (cond (modI x 1048576 % 4 == 1) 0 (1 + modI x 1048576 / 4 % min left 40))
/-- kit.Dist's numbers -/
def kdL : List Int → Int → List Int → List Int × Int
  | [], left, out => (out, left)
  | x :: r, left, out => cond (decide (1 < left)) (cond (decide (left ≤ stepV x left)) (out, left) (kdL r (left - cond (decide (stepV x left < 0)) 1 (stepV x left)) (out ++ [stepV x left]))) (out, left)
def kdG (l : List Int) : Int := 5 + modI (atI l 0) 4
def kdF (l : List Int) : List Int × Int := kdL ((l.take 30).drop 1) (2 ^ (kdG l).toNat) []
def kdP (l : List Int) : List Int := (kdF l).1 ++ [(kdF l).2]
end Go.Proofs.Ytafabheehkmfhaa
/-
  Chapter 8: kit.Dist, as a condition; the laws on what is written and read back. Conditions: none (definitions).
-/
namespace Go.Proofs.Ytafabheehkmfhaa
open Go Go.RowKit
set_option linter.unusedVariables false
set_option linter.unusedSimpArgs false
set_option maxRecDepth 100000
def sKd : Spec where
  ι := List Int
  dec l H := match l with
    | [.dat (.ints .i64 l)] => some (l, [])
    | _ => none
  args := fun l => [.dat (.ints .i64 l)]
  pre := fun l => [⟨l.all inW = true, inferInstance⟩]
  out := fun l => .leaf (.ag [.v (.int .i64 (kdG l)), .dat (.ints .i64 (kdP l))]) []
theorem sKd_enc : ∀ l H n i ls, sKd.dec l H = some (i, ls) → l = renL (rho ls n) (sKd.args i) ∧ givenHp H ls = renH (rho ls n) (sKd.hp i) := by
  intro l H n i ls h
  simp only [sKd] at h
  repeat' split at h
  all_goals first
    | (cases h; done)
    | (cases h; exact ⟨rfl, rfl⟩)
def oKd (l : List Int) : LoopInv := { ι := Nat × Int × List Int, p := fun x => kdL ((l.take 30).drop x.1) x.2.1 x.2.2 = kdF l ∧ 1 ≤ x.1 ∧ x.1 ≤ 30 ∧ 1 ≤ x.2.1 ∧ x.2.1 ≤ 256 ∧ x.2.2.length ≤ x.1, tm := fun x => [(0, .dat (.ints .i64 l)), (2, .p 1000 0 0), (3, .p 1001 0 0), (4, .v (.int .i64 x.2.1)), (5, .v (.int .i64 (x.1 : Nat)))], hp := fun x => [(1000, .cells 50 [.v (.int .i64 0), .v (.slice none 0 0)]), (1001, .cells 50 [.v (.int .i64 (kdG l)), .o 1003]), (1003, .row 3 (.ints .i64 x.2.2))], μ := fun x => 30 - x.1 }
/-!
--%VC kd ;; (l : List Int) ;; G8o ;; one (oKd l) ;; kit.Dist ;; [.dat (.ints .i64 l)] ;; [] ;; (.ag [.v (.int .i64 (kdG l)), .dat (.ints .i64 (kdP l))]) ;; []
-/
end Go.Proofs.Ytafabheehkmfhaa
/-
  The conditions of the functions told in the text before, and that they are the executor's. Conditions: none.
-/
namespace Go.Proofs.Ytafabheehkmfhaa
open Go Go.RowKit
set_option linter.unusedVariables false
set_option maxRecDepth 100000
def kd_t (l : List Int) : Prop :=
 inW (atI l (0 : Int)) = true ∧
 inW (4 : Int) = true ∧
 (0 : Int) ≤ IntKind.wrap IntKind.u64 (IntKind.wrap IntKind.i64 ((5 : Int) + modI (atI l (0 : Int)) (4 : Int))) ∧
 (∃ (x0 : Nat × Int × List Int),
 (kdL (List.drop x0.fst (List.take (30 : Nat) l)) x0.snd.fst x0.snd.snd = kdF l ∧
 (1 : Nat) ≤ x0.fst ∧ x0.fst ≤ (30 : Nat) ∧ (1 : Int) ≤ x0.snd.fst ∧ x0.snd.fst ≤ (256 : Int) ∧ List.length x0.snd.snd ≤ x0.fst) ∧
 l = l ∧
 IntKind.wrap IntKind.i64
 ((1 : Int) * (2 : Int) ^ min (Int.toNat (IntKind.wrap IntKind.u64 (IntKind.wrap IntKind.i64 ((5 : Int) + modI (atI l (0 : Int)) (4 : Int))))) (IntKind.bits IntKind.i64)) =
 x0.snd.fst ∧
 (1 : Int) = (↑x0.fst : Int) ∧
 (0 : Int) = (0 : Int) ∧
 Value.slice none (0 : Nat) (0 : Nat) = Value.slice none (0 : Nat) (0 : Nat) ∧
 IntKind.wrap IntKind.i64 ((5 : Int) + modI (atI l (0 : Int)) (4 : Int)) = kdG l ∧ List.length x0.snd.snd = (0 : Nat)) ∧
 ∀ (x1 : Nat × Int × List Int),
 kdL (List.drop x1.fst (List.take (30 : Nat) l)) x1.snd.fst x1.snd.snd = kdF l ∧
 (1 : Nat) ≤ x1.fst ∧ x1.fst ≤ (30 : Nat) ∧ (1 : Int) ≤ x1.snd.fst ∧ x1.snd.fst ≤ (256 : Int) ∧ List.length x1.snd.snd ≤ x1.fst →
 (decide ((↑x1.fst : Int) < (↑(List.length l) : Int)) = true →
 (decide ((↑x1.fst : Int) < (30 : Int)) = true →
 (decide (x1.snd.fst > (1 : Int)) = true →
 (0 : Int) ≤ (↑x1.fst : Int) ∧
 (↑x1.fst : Int) < (↑(List.length l) : Int) ∧
 inW (List.getD l (Int.toNat (↑x1.fst : Int)) (0 : Int)) = true ∧
 inW (1048576 : Int) = true ∧
 (4 : Int) ≠ (0 : Int) ∧
 ((Int.tmod (modI (List.getD l (Int.toNat (↑x1.fst : Int)) (0 : Int)) (1048576 : Int)) (4 : Int) == (0 : Int)) = true →
 (decide ((-1 : Int) ≥ x1.snd.fst) = true →
 (List.length x1.snd.snd + (1 : Nat)) * (8 : Nat) ≤ (140737488355328 : Nat) ∧ kdG l = kdG l ∧ x1.snd.snd ++ [x1.snd.fst] = kdP l) ∧
 (decide ((-1 : Int) ≥ x1.snd.fst) = false →
 (List.length x1.snd.snd + (1 : Nat)) * (8 : Nat) ≤ (140737488355328 : Nat) ∧
 (decide ((-1 : Int) < (0 : Int)) = true →
 ∃ (y2 : Nat × Int × List Int),
 (kdL (List.drop y2.fst (List.take (30 : Nat) l)) y2.snd.fst y2.snd.snd = kdF l ∧
 (1 : Nat) ≤ y2.fst ∧ y2.fst ≤ (30 : Nat) ∧ (1 : Int) ≤ y2.snd.fst ∧ y2.snd.fst ≤ (256 : Int) ∧ List.length y2.snd.snd ≤ y2.fst) ∧
 Nat.sub (30 : Nat) y2.fst < Nat.sub (30 : Nat) x1.fst ∧
 l = l ∧
 IntKind.wrap IntKind.i64 (x1.snd.fst - (1 : Int)) = y2.snd.fst ∧
 IntKind.wrap IntKind.i64 ((↑x1.fst : Int) + (1 : Int)) = (↑y2.fst : Int) ∧
 (0 : Int) = (0 : Int) ∧
 Value.slice none (0 : Nat) (0 : Nat) = Value.slice none (0 : Nat) (0 : Nat) ∧ kdG l = kdG l ∧ x1.snd.snd ++ [(-1 : Int)] = y2.snd.snd) ∧
 (decide ((-1 : Int) < (0 : Int)) = false →
 ∃ (y3 : Nat × Int × List Int),
 (kdL (List.drop y3.fst (List.take (30 : Nat) l)) y3.snd.fst y3.snd.snd = kdF l ∧
 (1 : Nat) ≤ y3.fst ∧ y3.fst ≤ (30 : Nat) ∧ (1 : Int) ≤ y3.snd.fst ∧ y3.snd.fst ≤ (256 : Int) ∧ List.length y3.snd.snd ≤ y3.fst) ∧
 Nat.sub (30 : Nat) y3.fst < Nat.sub (30 : Nat) x1.fst ∧
 l = l ∧
 IntKind.wrap IntKind.i64 (x1.snd.fst - (-1 : Int)) = y3.snd.fst ∧
 IntKind.wrap IntKind.i64 ((↑x1.fst : Int) + (1 : Int)) = (↑y3.fst : Int) ∧
 (0 : Int) = (0 : Int) ∧
 Value.slice none (0 : Nat) (0 : Nat) = Value.slice none (0 : Nat) (0 : Nat) ∧ kdG l = kdG l ∧ x1.snd.snd ++ [(-1 : Int)] = y3.snd.snd))) ∧
 ((Int.tmod (modI (List.getD l (Int.toNat (↑x1.fst : Int)) (0 : Int)) (1048576 : Int)) (4 : Int) == (0 : Int)) = false →
 ((Int.tmod (modI (List.getD l (Int.toNat (↑x1.fst : Int)) (0 : Int)) (1048576 : Int)) (4 : Int) == (1 : Int)) = true →
 (decide ((0 : Int) ≥ x1.snd.fst) = true →
 (List.length x1.snd.snd + (1 : Nat)) * (8 : Nat) ≤ (140737488355328 : Nat) ∧ kdG l = kdG l ∧ x1.snd.snd ++ [x1.snd.fst] = kdP l) ∧
 (decide ((0 : Int) ≥ x1.snd.fst) = false →
 (List.length x1.snd.snd + (1 : Nat)) * (8 : Nat) ≤ (140737488355328 : Nat) ∧
 (decide ((0 : Int) < (0 : Int)) = true →
 ∃ (y4 : Nat × Int × List Int),
 (kdL (List.drop y4.fst (List.take (30 : Nat) l)) y4.snd.fst y4.snd.snd = kdF l ∧
 (1 : Nat) ≤ y4.fst ∧ y4.fst ≤ (30 : Nat) ∧ (1 : Int) ≤ y4.snd.fst ∧ y4.snd.fst ≤ (256 : Int) ∧ List.length y4.snd.snd ≤ y4.fst) ∧
 Nat.sub (30 : Nat) y4.fst < Nat.sub (30 : Nat) x1.fst ∧
 l = l ∧
 IntKind.wrap IntKind.i64 (x1.snd.fst - (1 : Int)) = y4.snd.fst ∧
 IntKind.wrap IntKind.i64 ((↑x1.fst : Int) + (1 : Int)) = (↑y4.fst : Int) ∧
 (0 : Int) = (0 : Int) ∧
 Value.slice none (0 : Nat) (0 : Nat) = Value.slice none (0 : Nat) (0 : Nat) ∧
 kdG l = kdG l ∧ x1.snd.snd ++ [(0 : Int)] = y4.snd.snd) ∧
 (decide ((0 : Int) < (0 : Int)) = false →
 ∃ (y5 : Nat × Int × List Int),
 (kdL (List.drop y5.fst (List.take (30 : Nat) l)) y5.snd.fst y5.snd.snd = kdF l ∧
 (1 : Nat) ≤ y5.fst ∧ y5.fst ≤ (30 : Nat) ∧ (1 : Int) ≤ y5.snd.fst ∧ y5.snd.fst ≤ (256 : Int) ∧ List.length y5.snd.snd ≤ y5.fst) ∧
 Nat.sub (30 : Nat) y5.fst < Nat.sub (30 : Nat) x1.fst ∧
 l = l ∧
 IntKind.wrap IntKind.i64 (x1.snd.fst - (0 : Int)) = y5.snd.fst ∧
 IntKind.wrap IntKind.i64 ((↑x1.fst : Int) + (1 : Int)) = (↑y5.fst : Int) ∧
 (0 : Int) = (0 : Int) ∧
 Value.slice none (0 : Nat) (0 : Nat) = Value.slice none (0 : Nat) (0 : Nat) ∧
 kdG l = kdG l ∧ x1.snd.snd ++ [(0 : Int)] = y5.snd.snd))) ∧
 ((Int.tmod (modI (List.getD l (Int.toNat (↑x1.fst : Int)) (0 : Int)) (1048576 : Int)) (4 : Int) == (1 : Int)) = false →
 (4 : Int) ≠ (0 : Int) ∧
 min x1.snd.fst (40 : Int) ≠ (0 : Int) ∧
 (decide
 (IntKind.wrap IntKind.i64
 ((1 : Int) +
 Int.tmod (IntKind.wrap IntKind.i64 (Int.tdiv (modI (List.getD l (Int.toNat (↑x1.fst : Int)) (0 : Int)) (1048576 : Int)) (4 : Int)))
 (min x1.snd.fst (40 : Int))) ≥
 x1.snd.fst) =
 true →
 (List.length x1.snd.snd + (1 : Nat)) * (8 : Nat) ≤ (140737488355328 : Nat) ∧ kdG l = kdG l ∧ x1.snd.snd ++ [x1.snd.fst] = kdP l) ∧
 (decide
 (IntKind.wrap IntKind.i64
 ((1 : Int) +
 Int.tmod (IntKind.wrap IntKind.i64 (Int.tdiv (modI (List.getD l (Int.toNat (↑x1.fst : Int)) (0 : Int)) (1048576 : Int)) (4 : Int)))
 (min x1.snd.fst (40 : Int))) ≥
 x1.snd.fst) =
 false →
 (List.length x1.snd.snd + (1 : Nat)) * (8 : Nat) ≤ (140737488355328 : Nat) ∧
 (decide
 (IntKind.wrap IntKind.i64
 ((1 : Int) +
 Int.tmod (IntKind.wrap IntKind.i64 (Int.tdiv (modI (List.getD l (Int.toNat (↑x1.fst : Int)) (0 : Int)) (1048576 : Int)) (4 : Int)))
 (min x1.snd.fst (40 : Int))) <
 (0 : Int)) =
 true →
 ∃ (y6 : Nat × Int × List Int),
 (kdL (List.drop y6.fst (List.take (30 : Nat) l)) y6.snd.fst y6.snd.snd = kdF l ∧
 (1 : Nat) ≤ y6.fst ∧ y6.fst ≤ (30 : Nat) ∧ (1 : Int) ≤ y6.snd.fst ∧ y6.snd.fst ≤ (256 : Int) ∧ List.length y6.snd.snd ≤ y6.fst) ∧
 Nat.sub (30 : Nat) y6.fst < Nat.sub (30 : Nat) x1.fst ∧
 l = l ∧
 IntKind.wrap IntKind.i64 (x1.snd.fst - (1 : Int)) = y6.snd.fst ∧
 IntKind.wrap IntKind.i64 ((↑x1.fst : Int) + (1 : Int)) = (↑y6.fst : Int) ∧
 (0 : Int) = (0 : Int) ∧
 Value.slice none (0 : Nat) (0 : Nat) = Value.slice none (0 : Nat) (0 : Nat) ∧
 kdG l = kdG l ∧
 x1.snd.snd ++
 [IntKind.wrap IntKind.i64
 ((1 : Int) +
 Int.tmod
 (IntKind.wrap IntKind.i64
 (Int.tdiv (modI (List.getD l (Int.toNat (↑x1.fst : Int)) (0 : Int)) (1048576 : Int)) (4 : Int)))
 (min x1.snd.fst (40 : Int)))] =
 y6.snd.snd) ∧
 (decide
 (IntKind.wrap IntKind.i64
 ((1 : Int) +
 Int.tmod (IntKind.wrap IntKind.i64 (Int.tdiv (modI (List.getD l (Int.toNat (↑x1.fst : Int)) (0 : Int)) (1048576 : Int)) (4 : Int)))
 (min x1.snd.fst (40 : Int))) <
 (0 : Int)) =
 false →
 ∃ (y7 : Nat × Int × List Int),
 (kdL (List.drop y7.fst (List.take (30 : Nat) l)) y7.snd.fst y7.snd.snd = kdF l ∧
 (1 : Nat) ≤ y7.fst ∧ y7.fst ≤ (30 : Nat) ∧ (1 : Int) ≤ y7.snd.fst ∧ y7.snd.fst ≤ (256 : Int) ∧ List.length y7.snd.snd ≤ y7.fst) ∧
 Nat.sub (30 : Nat) y7.fst < Nat.sub (30 : Nat) x1.fst ∧
 l = l ∧
 IntKind.wrap IntKind.i64
 (x1.snd.fst -
 IntKind.wrap IntKind.i64
 ((1 : Int) +
 Int.tmod
 (IntKind.wrap IntKind.i64 (Int.tdiv (modI (List.getD l (Int.toNat (↑x1.fst : Int)) (0 : Int)) (1048576 : Int)) (4 : Int)))
 (min x1.snd.fst (40 : Int)))) =
 y7.snd.fst ∧
 IntKind.wrap IntKind.i64 ((↑x1.fst : Int) + (1 : Int)) = (↑y7.fst : Int) ∧
 (0 : Int) = (0 : Int) ∧
 Value.slice none (0 : Nat) (0 : Nat) = Value.slice none (0 : Nat) (0 : Nat) ∧
 kdG l = kdG l ∧
 x1.snd.snd ++
 [IntKind.wrap IntKind.i64
 ((1 : Int) +
 Int.tmod
 (IntKind.wrap IntKind.i64
 (Int.tdiv (modI (List.getD l (Int.toNat (↑x1.fst : Int)) (0 : Int)) (1048576 : Int)) (4 : Int)))
 (min x1.snd.fst (40 : Int)))] =
 y7.snd.snd))))) ∧
 (decide (x1.snd.fst > (1 : Int)) = false → (List.length x1.snd.snd + (1 : Nat)) * (8 : Nat) ≤ (140737488355328 : Nat) ∧ kdG l = kdG l ∧ x1.snd.snd ++ [x1.snd.fst] = kdP l)) ∧
 (decide ((↑x1.fst : Int) < (30 : Int)) = false → (List.length x1.snd.snd + (1 : Nat)) * (8 : Nat) ≤ (140737488355328 : Nat) ∧ kdG l = kdG l ∧ x1.snd.snd ++ [x1.snd.fst] = kdP l)) ∧
 (decide ((↑x1.fst : Int) < (↑(List.length l) : Int)) = false →
 (List.length x1.snd.snd + (1 : Nat)) * (8 : Nat) ≤ (140737488355328 : Nat) ∧ kdG l = kdG l ∧ x1.snd.snd ++ [x1.snd.fst] = kdP l)
--end
theorem kd_e (l : List Int) : kd_t l = vcG Try.prog (Gof G8o) (one (oKd l)) Try.f55 [.dat (.ints .i64 l)] [] (.leaf ((.ag [.v (.int .i64 (kdG l)), .dat (.ints .i64 (kdP l))])) ([])) := by kernel_rfl
end Go.Proofs.Ytafabheehkmfhaa
/-
  The conditions of the functions told in the text before, and that they are the executor's. Conditions: none.
-/
namespace Go.Proofs.Ytafabheehkmfhaa
open Go Go.RowKit
set_option linter.unusedVariables false
set_option maxRecDepth 100000
def sizeN_t (g : Int) : Prop :=
 (decide (g < (0 : Int)) = true → (0 : Int) = dsize g) ∧
 (decide (g < (0 : Int)) = false →
 (decide (g > (12 : Int)) = true → (0 : Int) = dsize g) ∧
 (decide (g > (12 : Int)) = false → (0 : Int) ≤ g ∧ IntKind.wrap IntKind.i64 ((1 : Int) * (2 : Int) ^ min (Int.toNat g) (IntKind.bits IntKind.i64)) = dsize g))
--end
theorem sizeN_e (g : Int) : sizeN_t g = vcG Try.prog (Gof G8a) (fun _ => none) Try.f43 [.ag [.v (.int .i64 g), .v (.slice none 0 0)]] [] (.leaf ((.v (.int .i64 (dsize g)))) ([])) := by kernel_rfl
def lawKn_t  : Prop :=
 List.length [(16 : Int), (16 : Int)] ≤ (4294967296 : Nat) ∧
 ByteArray.size { data := #[(16 : UInt8), (63 : UInt8)] } ≤ (1000000 : Nat) ∧
 ((bitsF (5 : Int) [(16 : Int), (16 : Int)] != (14 : Int)) = true → false = true) ∧
 ((bitsF (5 : Int) [(16 : Int), (16 : Int)] != (14 : Int)) = false →
 ((dchk (5 : Int) [(16 : Int), (16 : Int)] != (0 : Int)) = true → false = true) ∧
 ((dchk (5 : Int) [(16 : Int), (16 : Int)] != (0 : Int)) = false →
 List.length (readF (2000 : Int) { data := #[(16 : UInt8), (63 : UInt8)] } (0 : Int) (9 : Int) (9 : Int)).fst.snd ≤ (4294967296 : Nat) ∧
 ((!((readF (2000 : Int) { data := #[(16 : UInt8), (63 : UInt8)] } (0 : Int) (9 : Int) (9 : Int)).fst.fst == (5 : Int) &&
 eqI (readF (2000 : Int) { data := #[(16 : UInt8), (63 : UInt8)] } (0 : Int) (9 : Int) (9 : Int)).fst.snd [(16 : Int), (16 : Int)])) =
 true →
 false = true) ∧
 ((!((readF (2000 : Int) { data := #[(16 : UInt8), (63 : UInt8)] } (0 : Int) (9 : Int) (9 : Int)).fst.fst == (5 : Int) &&
 eqI (readF (2000 : Int) { data := #[(16 : UInt8), (63 : UInt8)] } (0 : Int) (9 : Int) (9 : Int)).fst.snd [(16 : Int), (16 : Int)])) =
 false →
 (((readF (2000 : Int) { data := #[(16 : UInt8), (63 : UInt8)] } (0 : Int) (9 : Int) (9 : Int)).snd.fst != (2 : Int)) = true → false = true) ∧
 (((readF (2000 : Int) { data := #[(16 : UInt8), (63 : UInt8)] } (0 : Int) (9 : Int) (9 : Int)).snd.fst != (2 : Int)) = false →
 ((!((readF (2000 : Int) { data := #[(16 : UInt8), (63 : UInt8)] } (0 : Int) (9 : Int) (9 : Int)).snd.snd.fst == (0 : Int) &&
 ((readF (2000 : Int) { data := #[(16 : UInt8), (63 : UInt8)] } (0 : Int) (9 : Int) (9 : Int)).snd.snd.snd == (0 : Int) && true))) =
 true →
 false = true) ∧
 ((!((readF (2000 : Int) { data := #[(16 : UInt8), (63 : UInt8)] } (0 : Int) (9 : Int) (9 : Int)).snd.snd.fst == (0 : Int) &&
 ((readF (2000 : Int) { data := #[(16 : UInt8), (63 : UInt8)] } (0 : Int) (9 : Int) (9 : Int)).snd.snd.snd == (0 : Int) && true))) =
 false →
 List.length [(32 : Int), (0 : Int)] ≤ (4294967296 : Nat) ∧
 ((dchk (5 : Int) [(32 : Int), (0 : Int)] != (23 : Int)) = true → false = true) ∧
 ((dchk (5 : Int) [(32 : Int), (0 : Int)] != (23 : Int)) = false →
 List.length [(31 : Int)] ≤ (4294967296 : Nat) ∧
 ((dchk (5 : Int) [(31 : Int)] != (23 : Int)) = true → false = true) ∧
 ((dchk (5 : Int) [(31 : Int)] != (23 : Int)) = false →
 List.length [(-2 : Int), (34 : Int)] ≤ (4294967296 : Nat) ∧
 ((dchk (5 : Int) [(-2 : Int), (34 : Int)] != (23 : Int)) = true → false = true) ∧
 ((dchk (5 : Int) [(-2 : Int), (34 : Int)] != (23 : Int)) = false →
 ByteArray.size { data := #[] } ≤ (1000000 : Nat) ∧
 ByteArray.size { data := #[(15 : UInt8)] } ≤ (1000000 : Nat) ∧
 ByteArray.size { data := #[(0 : UInt8), (0 : UInt8)] } ≤ (1000000 : Nat) ∧
 (((readF (2000 : Int) { data := #[] } (0 : Int) (9 : Int) (9 : Int)).snd.snd.fst == (23 : Int) &&
 ((readF (2000 : Int) { data := #[] } (0 : Int) (9 : Int) (9 : Int)).snd.snd.snd == (0 : Int) && true)) =
 true →
 (((readF (2000 : Int) { data := #[(15 : UInt8)] } (0 : Int) (9 : Int) (9 : Int)).snd.snd.fst == (31 : Int) &&
 ((readF (2000 : Int) { data := #[(15 : UInt8)] } (0 : Int) (9 : Int) (9 : Int)).snd.snd.snd == (0 : Int) && true)) =
 true →
 (((readF (2000 : Int) { data := #[(0 : UInt8), (0 : UInt8)] } (1 : Int) (4 : Int) (9 : Int)).snd.snd.fst == (2 : Int) &&
 ((readF (2000 : Int) { data := #[(0 : UInt8), (0 : UInt8)] } (1 : Int) (4 : Int) (9 : Int)).snd.snd.snd == (0 : Int) && true)) =
 true →
 ((preE (3 : Int) == (11 : Int)) = true →
 ((dsize (6 : Int) == (64 : Int)) = true → true = true) ∧ ((dsize (6 : Int) == (64 : Int)) = false → false = true)) ∧
 ((preE (3 : Int) == (11 : Int)) = false → false = true)) ∧
 (((readF (2000 : Int) { data := #[(0 : UInt8), (0 : UInt8)] } (1 : Int) (4 : Int) (9 : Int)).snd.snd.fst == (2 : Int) &&
 ((readF (2000 : Int) { data := #[(0 : UInt8), (0 : UInt8)] } (1 : Int) (4 : Int) (9 : Int)).snd.snd.snd == (0 : Int) && true)) =
 false →
 false = true)) ∧
 (((readF (2000 : Int) { data := #[(15 : UInt8)] } (0 : Int) (9 : Int) (9 : Int)).snd.snd.fst == (31 : Int) &&
 ((readF (2000 : Int) { data := #[(15 : UInt8)] } (0 : Int) (9 : Int) (9 : Int)).snd.snd.snd == (0 : Int) && true)) =
 false →
 false = true)) ∧
 (((readF (2000 : Int) { data := #[] } (0 : Int) (9 : Int) (9 : Int)).snd.snd.fst == (23 : Int) &&
 ((readF (2000 : Int) { data := #[] } (0 : Int) (9 : Int) (9 : Int)).snd.snd.snd == (0 : Int) && true)) =
 false →
 false = true)))))))))
--end
theorem lawKn_e  : lawKn_t  = vcG Try.prog (Gof G8o) (fun _ => none) Try.f13 [] [] (.leaf ((.v (.bool true))) ([])) := by kernel_rfl
def lawRd_t (s : ByteArray) (a m y : Int) : Prop :=
 (decide ((↑(ByteArray.size s) : Int) > (700 : Int)) = true → true = true) ∧
 (decide ((↑(ByteArray.size s) : Int) > (700 : Int)) = false →
 ByteArray.size s ≤ (1000000 : Nat) ∧
 ByteArray.size s ≤ (1000000 : Nat) ∧
 List.length (readF (2000 : Int) s a m y).fst.snd ≤ (4294967296 : Nat) ∧
 (((readF (2000 : Int) s a m y).fst.fst == (readF (600 : Int) s a m y).fst.fst && eqI (readF (2000 : Int) s a m y).fst.snd (readF (600 : Int) s a m y).fst.snd) = true →
 (((readF (2000 : Int) s a m y).snd.fst == (readF (600 : Int) s a m y).snd.fst) = true →
 (((readF (2000 : Int) s a m y).snd.snd.fst == (readF (600 : Int) s a m y).snd.snd.fst &&
 ((readF (2000 : Int) s a m y).snd.snd.snd == (readF (600 : Int) s a m y).snd.snd.snd && true)) =
 true →
 true = true) ∧
 (((readF (2000 : Int) s a m y).snd.snd.fst == (readF (600 : Int) s a m y).snd.snd.fst &&
 ((readF (2000 : Int) s a m y).snd.snd.snd == (readF (600 : Int) s a m y).snd.snd.snd && true)) =
 false →
 false = true)) ∧
 (((readF (2000 : Int) s a m y).snd.fst == (readF (600 : Int) s a m y).snd.fst) = false → false = true)) ∧
 (((readF (2000 : Int) s a m y).fst.fst == (readF (600 : Int) s a m y).fst.fst && eqI (readF (2000 : Int) s a m y).fst.snd (readF (600 : Int) s a m y).fst.snd) = false → false = true))
--end
theorem lawRd_e (s : ByteArray) (a m y : Int) : lawRd_t s a m y = vcG Try.prog (Gof G8o) (fun _ => none) Try.f10 [.v (.string s), .v (.int .i64 a), .v (.int .i64 m), .v (.int .i64 y)] [] (.leaf ((.v (.bool true))) ([])) := by kernel_rfl
end Go.Proofs.Ytafabheehkmfhaa
/-
  The conditions of the functions told in the text before, and that they are the executor's. Conditions: none.
-/
namespace Go.Proofs.Ytafabheehkmfhaa
open Go Go.RowKit
set_option linter.unusedVariables false
set_option maxRecDepth 100000
def rprobs_t (g y : Int) (s : ByteArray) (b : Int) : Prop :=
 (∃ (x0 : Nat × R2 × Int × List Int),
 (rdR y x0.fst x0.snd.fst x0.snd.snd.fst x0.snd.snd.snd = rdR y (Int.toNat y + (1 : Nat)) (s, b) g [] ∧
 y + (1 : Int) ≤ (↑x0.fst : Int) + (↑(List.length x0.snd.snd.snd) : Int) ∧
 (↑(List.length x0.snd.snd.snd) : Int) ≤ y ∧
 (0 : Int) ≤ x0.snd.snd.fst ∧ x0.snd.snd.fst ≤ (4096 : Int) ∧ ByteArray.size x0.snd.fst.fst ≤ (9223372036854775807 : Nat) ∧ (0 : Int) ≤ x0.snd.fst.snd ∧ x0.snd.fst.snd ≤ (8388608 : Int)) ∧
 g = x0.snd.snd.fst ∧ y = y ∧ s = x0.snd.fst.fst ∧ b = x0.snd.fst.snd ∧ (0 : Int) = (0 : Int) ∧ List.length x0.snd.snd.snd = (0 : Nat)) ∧
 ∀ (x1 : Nat × R2 × Int × List Int),
 rdR y x1.fst x1.snd.fst x1.snd.snd.fst x1.snd.snd.snd = rdR y (Int.toNat y + (1 : Nat)) (s, b) g [] ∧
 y + (1 : Int) ≤ (↑x1.fst : Int) + (↑(List.length x1.snd.snd.snd) : Int) ∧
 (↑(List.length x1.snd.snd.snd) : Int) ≤ y ∧
 (0 : Int) ≤ x1.snd.snd.fst ∧ x1.snd.snd.fst ≤ (4096 : Int) ∧ ByteArray.size x1.snd.fst.fst ≤ (9223372036854775807 : Nat) ∧ (0 : Int) ≤ x1.snd.fst.snd ∧ x1.snd.fst.snd ≤ (8388608 : Int) →
 (decide (x1.snd.snd.fst > (0 : Int)) = true →
 (((0 : Int) == (0 : Int)) = true →
 ((valR (x1.snd.fst.fst, x1.snd.fst.snd) x1.snd.snd.fst).snd.snd = (0 : Int) →
 ByteArray.size x1.snd.fst.fst ≤ (9223372036854775807 : Nat) ∧
 (0 : Int) ≤ x1.snd.snd.fst ∧
 x1.snd.snd.fst ≤ (4096 : Int) ∧
 (0 : Int) ≤ x1.snd.fst.snd ∧
 x1.snd.fst.snd ≤ (9000000 : Int) ∧
 (((0 : Int) != (0 : Int)) = true →
 ((rdR y (Int.toNat y + (1 : Nat)) (s, b) g []).snd.snd = (0 : Int) →
 List.length (rdR y (Int.toNat y + (1 : Nat)) (s, b) g []).snd.fst = (0 : Nat) ∧
 (valR (x1.snd.fst.fst, x1.snd.fst.snd) x1.snd.snd.fst).fst.fst = (rdR y (Int.toNat y + (1 : Nat)) (s, b) g []).fst.fst ∧
 (valR (x1.snd.fst.fst, x1.snd.fst.snd) x1.snd.snd.fst).fst.snd = (rdR y (Int.toNat y + (1 : Nat)) (s, b) g []).fst.snd ∧ (0 : Int) = (0 : Int)) ∧
 (¬(rdR y (Int.toNat y + (1 : Nat)) (s, b) g []).snd.snd = (0 : Int) → (0 : Nat) = (0 : Nat) ∧ (0 : Int) = (23 : Int))) ∧
 (((0 : Int) != (0 : Int)) = false →
 (((↑(List.length x1.snd.snd.snd) : Int) == y) = true →
 ((rdR y (Int.toNat y + (1 : Nat)) (s, b) g []).snd.snd = (0 : Int) →
 List.length (rdR y (Int.toNat y + (1 : Nat)) (s, b) g []).snd.fst = (0 : Nat) ∧
 (valR (x1.snd.fst.fst, x1.snd.fst.snd) x1.snd.snd.fst).fst.fst = (rdR y (Int.toNat y + (1 : Nat)) (s, b) g []).fst.fst ∧
 (valR (x1.snd.fst.fst, x1.snd.fst.snd) x1.snd.snd.fst).fst.snd = (rdR y (Int.toNat y + (1 : Nat)) (s, b) g []).fst.snd ∧ (23 : Int) = (0 : Int)) ∧
 (¬(rdR y (Int.toNat y + (1 : Nat)) (s, b) g []).snd.snd = (0 : Int) → (0 : Nat) = (0 : Nat) ∧ (23 : Int) = (23 : Int))) ∧
 (((↑(List.length x1.snd.snd.snd) : Int) == y) = false →
 (List.length x1.snd.snd.snd + (1 : Nat)) * (8 : Nat) ≤ (140737488355328 : Nat) ∧
 List.length [IntKind.wrap IntKind.i64 ((valR (x1.snd.fst.fst, x1.snd.fst.snd) x1.snd.snd.fst).snd.fst - (1 : Int))] ≤ (65536 : Nat) ∧
 (List.all [IntKind.wrap IntKind.i64 ((valR (x1.snd.fst.fst, x1.snd.fst.snd) x1.snd.snd.fst).snd.fst - (1 : Int))] fun (x : Int) => decide (x ≤ (65536 : Int))) =
 true ∧
 ∃ (g2 : Nat × Int),
 (∃ (x3 : Bool × Nat × R2 × List Int),
 (contZ y g2.fst g2.snd (bif x3.fst then flR y x3.snd.fst x3.snd.snd.fst x3.snd.snd.snd else (x3.snd.snd.fst, x3.snd.snd.snd, (0 : Int))) =
 rdR y (Int.toNat y + (1 : Nat)) (s, b) g [] ∧
 (x3.fst = true → y + (1 : Int) ≤ (↑x3.snd.fst : Int) + (↑(List.length x3.snd.snd.snd) : Int)) ∧
 y + (1 : Int) ≤ (↑g2.fst : Int) + (↑(List.length x3.snd.snd.snd) : Int) ∧
 (↑(List.length x3.snd.snd.snd) : Int) ≤ y ∧
 ByteArray.size x3.snd.snd.fst.fst ≤ (9223372036854775807 : Nat) ∧ (0 : Int) ≤ x3.snd.snd.fst.snd ∧ x3.snd.snd.fst.snd ≤ (8388608 : Int)) ∧
 IntKind.wrap IntKind.i64
 (x1.snd.snd.fst - pts [IntKind.wrap IntKind.i64 ((valR (x1.snd.fst.fst, x1.snd.fst.snd) x1.snd.snd.fst).snd.fst - (1 : Int))]) =
 g2.snd ∧
 y = y ∧
 (IntKind.wrap IntKind.i64 ((valR (x1.snd.fst.fst, x1.snd.fst.snd) x1.snd.snd.fst).snd.fst - (1 : Int)) == (0 : Int)) = x3.fst ∧
 (valR (x1.snd.fst.fst, x1.snd.fst.snd) x1.snd.snd.fst).fst.fst = x3.snd.snd.fst.fst ∧
 (valR (x1.snd.fst.fst, x1.snd.fst.snd) x1.snd.snd.fst).fst.snd = x3.snd.snd.fst.snd ∧
 (0 : Int) = (0 : Int) ∧
 x1.snd.snd.snd ++ [IntKind.wrap IntKind.i64 ((valR (x1.snd.fst.fst, x1.snd.fst.snd) x1.snd.snd.fst).snd.fst - (1 : Int))] =
 x3.snd.snd.snd) ∧
 ∀ (x4 : Bool × Nat × R2 × List Int),
 contZ y g2.fst g2.snd (bif x4.fst then flR y x4.snd.fst x4.snd.snd.fst x4.snd.snd.snd else (x4.snd.snd.fst, x4.snd.snd.snd, (0 : Int))) =
 rdR y (Int.toNat y + (1 : Nat)) (s, b) g [] ∧
 (x4.fst = true → y + (1 : Int) ≤ (↑x4.snd.fst : Int) + (↑(List.length x4.snd.snd.snd) : Int)) ∧
 y + (1 : Int) ≤ (↑g2.fst : Int) + (↑(List.length x4.snd.snd.snd) : Int) ∧
 (↑(List.length x4.snd.snd.snd) : Int) ≤ y ∧
 ByteArray.size x4.snd.snd.fst.fst ≤ (9223372036854775807 : Nat) ∧ (0 : Int) ≤ x4.snd.snd.fst.snd ∧ x4.snd.snd.fst.snd ≤ (8388608 : Int) →
 (x4.fst = true →
 ((takeT (x4.snd.snd.fst.fst, x4.snd.snd.fst.snd) (2 : Int)).snd.snd = (0 : Int) →
 ByteArray.size x4.snd.snd.fst.fst ≤ (9223372036854775807 : Nat) ∧
 (((0 : Int) == (0 : Int)) = true →
 (decide
 (IntKind.wrap IntKind.i64
 ((↑(List.length x4.snd.snd.snd) : Int) + (takeT (x4.snd.snd.fst.fst, x4.snd.snd.fst.snd) (2 : Int)).snd.fst) >
 y) =
 true →
 (((23 : Int) != (0 : Int)) = true →
 ((rdR y (Int.toNat y + (1 : Nat)) (s, b) g []).snd.snd = (0 : Int) →
 List.length (rdR y (Int.toNat y + (1 : Nat)) (s, b) g []).snd.fst = (0 : Nat) ∧
 (takeT (x4.snd.snd.fst.fst, x4.snd.snd.fst.snd) (2 : Int)).fst.fst =
 (rdR y (Int.toNat y + (1 : Nat)) (s, b) g []).fst.fst ∧
 (takeT (x4.snd.snd.fst.fst, x4.snd.snd.fst.snd) (2 : Int)).fst.snd =
 (rdR y (Int.toNat y + (1 : Nat)) (s, b) g []).fst.snd ∧
 (23 : Int) = (0 : Int)) ∧
 (¬(rdR y (Int.toNat y + (1 : Nat)) (s, b) g []).snd.snd = (0 : Int) → (0 : Nat) = (0 : Nat) ∧ (23 : Int) = (23 : Int))) ∧
 (((23 : Int) != (0 : Int)) = false →
 List.length x4.snd.snd.snd ≤ (65536 : Nat) ∧
 (takeT (x4.snd.snd.fst.fst, x4.snd.snd.fst.snd) (2 : Int)).snd.fst ≤ (65536 : Int) ∧
 ∃ (y5 : Bool × Nat × R2 × List Int),
 (contZ y g2.fst g2.snd
 (bif y5.fst then flR y y5.snd.fst y5.snd.snd.fst y5.snd.snd.snd
 else (y5.snd.snd.fst, y5.snd.snd.snd, (0 : Int))) =
 rdR y (Int.toNat y + (1 : Nat)) (s, b) g [] ∧
 (y5.fst = true → y + (1 : Int) ≤ (↑y5.snd.fst : Int) + (↑(List.length y5.snd.snd.snd) : Int)) ∧
 y + (1 : Int) ≤ (↑g2.fst : Int) + (↑(List.length y5.snd.snd.snd) : Int) ∧
 (↑(List.length y5.snd.snd.snd) : Int) ≤ y ∧
 ByteArray.size y5.snd.snd.fst.fst ≤ (9223372036854775807 : Nat) ∧
 (0 : Int) ≤ y5.snd.snd.fst.snd ∧ y5.snd.snd.fst.snd ≤ (8388608 : Int)) ∧
 ((match y5.fst with
 | true => y5.snd.fst + (1 : Nat)
 | false => (0 : Nat)) <
 match x4.fst with
 | true => x4.snd.fst + (1 : Nat)
 | false => (0 : Nat)) ∧
 g2.snd = g2.snd ∧
 y = y ∧
 ((takeT (x4.snd.snd.fst.fst, x4.snd.snd.fst.snd) (2 : Int)).snd.fst == (3 : Int)) = y5.fst ∧
 (takeT (x4.snd.snd.fst.fst, x4.snd.snd.fst.snd) (2 : Int)).fst.fst = y5.snd.snd.fst.fst ∧
 (takeT (x4.snd.snd.fst.fst, x4.snd.snd.fst.snd) (2 : Int)).fst.snd = y5.snd.snd.fst.snd ∧
 (23 : Int) = (0 : Int) ∧
 x4.snd.snd.snd ++
 List.replicate (Int.toNat (takeT (x4.snd.snd.fst.fst, x4.snd.snd.fst.snd) (2 : Int)).snd.fst)
 (0 : Int) =
 y5.snd.snd.snd)) ∧
 (decide
 (IntKind.wrap IntKind.i64
 ((↑(List.length x4.snd.snd.snd) : Int) + (takeT (x4.snd.snd.fst.fst, x4.snd.snd.fst.snd) (2 : Int)).snd.fst) >
 y) =
 false →
 (((0 : Int) != (0 : Int)) = true →
 ((rdR y (Int.toNat y + (1 : Nat)) (s, b) g []).snd.snd = (0 : Int) →
 List.length (rdR y (Int.toNat y + (1 : Nat)) (s, b) g []).snd.fst = (0 : Nat) ∧
 (takeT (x4.snd.snd.fst.fst, x4.snd.snd.fst.snd) (2 : Int)).fst.fst =
 (rdR y (Int.toNat y + (1 : Nat)) (s, b) g []).fst.fst ∧
 (takeT (x4.snd.snd.fst.fst, x4.snd.snd.fst.snd) (2 : Int)).fst.snd =
 (rdR y (Int.toNat y + (1 : Nat)) (s, b) g []).fst.snd ∧
 (0 : Int) = (0 : Int)) ∧
 (¬(rdR y (Int.toNat y + (1 : Nat)) (s, b) g []).snd.snd = (0 : Int) → (0 : Nat) = (0 : Nat) ∧ (0 : Int) = (23 : Int))) ∧
 (((0 : Int) != (0 : Int)) = false →
 List.length x4.snd.snd.snd ≤ (65536 : Nat) ∧
 (takeT (x4.snd.snd.fst.fst, x4.snd.snd.fst.snd) (2 : Int)).snd.fst ≤ (65536 : Int) ∧
 ∃ (y6 : Bool × Nat × R2 × List Int),
 (contZ y g2.fst g2.snd
 (bif y6.fst then flR y y6.snd.fst y6.snd.snd.fst y6.snd.snd.snd
 else (y6.snd.snd.fst, y6.snd.snd.snd, (0 : Int))) =
 rdR y (Int.toNat y + (1 : Nat)) (s, b) g [] ∧
 (y6.fst = true → y + (1 : Int) ≤ (↑y6.snd.fst : Int) + (↑(List.length y6.snd.snd.snd) : Int)) ∧
 y + (1 : Int) ≤ (↑g2.fst : Int) + (↑(List.length y6.snd.snd.snd) : Int) ∧
 (↑(List.length y6.snd.snd.snd) : Int) ≤ y ∧
 ByteArray.size y6.snd.snd.fst.fst ≤ (9223372036854775807 : Nat) ∧
 (0 : Int) ≤ y6.snd.snd.fst.snd ∧ y6.snd.snd.fst.snd ≤ (8388608 : Int)) ∧
 ((match y6.fst with
 | true => y6.snd.fst + (1 : Nat)
 | false => (0 : Nat)) <
 match x4.fst with
 | true => x4.snd.fst + (1 : Nat)
 | false => (0 : Nat)) ∧
 g2.snd = g2.snd ∧
 y = y ∧
 ((takeT (x4.snd.snd.fst.fst, x4.snd.snd.fst.snd) (2 : Int)).snd.fst == (3 : Int)) = y6.fst ∧
 (takeT (x4.snd.snd.fst.fst, x4.snd.snd.fst.snd) (2 : Int)).fst.fst = y6.snd.snd.fst.fst ∧
 (takeT (x4.snd.snd.fst.fst, x4.snd.snd.fst.snd) (2 : Int)).fst.snd = y6.snd.snd.fst.snd ∧
 (0 : Int) = (0 : Int) ∧
 x4.snd.snd.snd ++
 List.replicate (Int.toNat (takeT (x4.snd.snd.fst.fst, x4.snd.snd.fst.snd) (2 : Int)).snd.fst)
 (0 : Int) =
 y6.snd.snd.snd))) ∧
 (((0 : Int) == (0 : Int)) = false →
 (((0 : Int) != (0 : Int)) = true →
 ((rdR y (Int.toNat y + (1 : Nat)) (s, b) g []).snd.snd = (0 : Int) →
 List.length (rdR y (Int.toNat y + (1 : Nat)) (s, b) g []).snd.fst = (0 : Nat) ∧
 (takeT (x4.snd.snd.fst.fst, x4.snd.snd.fst.snd) (2 : Int)).fst.fst = (rdR y (Int.toNat y + (1 : Nat)) (s, b) g []).fst.fst ∧
 (takeT (x4.snd.snd.fst.fst, x4.snd.snd.fst.snd) (2 : Int)).fst.snd = (rdR y (Int.toNat y + (1 : Nat)) (s, b) g []).fst.snd ∧
 (0 : Int) = (0 : Int)) ∧
 (¬(rdR y (Int.toNat y + (1 : Nat)) (s, b) g []).snd.snd = (0 : Int) → (0 : Nat) = (0 : Nat) ∧ (0 : Int) = (23 : Int))) ∧
 (((0 : Int) != (0 : Int)) = false →
 List.length x4.snd.snd.snd ≤ (65536 : Nat) ∧
 (takeT (x4.snd.snd.fst.fst, x4.snd.snd.fst.snd) (2 : Int)).snd.fst ≤ (65536 : Int) ∧
 ∃ (y7 : Bool × Nat × R2 × List Int),
 (contZ y g2.fst g2.snd
 (bif y7.fst then flR y y7.snd.fst y7.snd.snd.fst y7.snd.snd.snd else (y7.snd.snd.fst, y7.snd.snd.snd, (0 : Int))) =
 rdR y (Int.toNat y + (1 : Nat)) (s, b) g [] ∧
 (y7.fst = true → y + (1 : Int) ≤ (↑y7.snd.fst : Int) + (↑(List.length y7.snd.snd.snd) : Int)) ∧
 y + (1 : Int) ≤ (↑g2.fst : Int) + (↑(List.length y7.snd.snd.snd) : Int) ∧
 (↑(List.length y7.snd.snd.snd) : Int) ≤ y ∧
 ByteArray.size y7.snd.snd.fst.fst ≤ (9223372036854775807 : Nat) ∧
 (0 : Int) ≤ y7.snd.snd.fst.snd ∧ y7.snd.snd.fst.snd ≤ (8388608 : Int)) ∧
 ((match y7.fst with
 | true => y7.snd.fst + (1 : Nat)
 | false => (0 : Nat)) <
 match x4.fst with
 | true => x4.snd.fst + (1 : Nat)
 | false => (0 : Nat)) ∧
 g2.snd = g2.snd ∧
 y = y ∧
 ((takeT (x4.snd.snd.fst.fst, x4.snd.snd.fst.snd) (2 : Int)).snd.fst == (3 : Int)) = y7.fst ∧
 (takeT (x4.snd.snd.fst.fst, x4.snd.snd.fst.snd) (2 : Int)).fst.fst = y7.snd.snd.fst.fst ∧
 (takeT (x4.snd.snd.fst.fst, x4.snd.snd.fst.snd) (2 : Int)).fst.snd = y7.snd.snd.fst.snd ∧
 (0 : Int) = (0 : Int) ∧
 x4.snd.snd.snd ++
 List.replicate (Int.toNat (takeT (x4.snd.snd.fst.fst, x4.snd.snd.fst.snd) (2 : Int)).snd.fst) (0 : Int) =
 y7.snd.snd.snd))) ∧
 (¬(takeT (x4.snd.snd.fst.fst, x4.snd.snd.fst.snd) (2 : Int)).snd.snd = (0 : Int) →
 ByteArray.size x4.snd.snd.fst.fst ≤ (9223372036854775807 : Nat) ∧
 (((23 : Int) == (0 : Int)) = true →
 (decide (IntKind.wrap IntKind.i64 ((↑(List.length x4.snd.snd.snd) : Int) + (0 : Int)) > y) = true →
 (((23 : Int) != (0 : Int)) = true →
 ((rdR y (Int.toNat y + (1 : Nat)) (s, b) g []).snd.snd = (0 : Int) →
 List.length (rdR y (Int.toNat y + (1 : Nat)) (s, b) g []).snd.fst = (0 : Nat) ∧
 x4.snd.snd.fst.fst = (rdR y (Int.toNat y + (1 : Nat)) (s, b) g []).fst.fst ∧
 x4.snd.snd.fst.snd = (rdR y (Int.toNat y + (1 : Nat)) (s, b) g []).fst.snd ∧ (23 : Int) = (0 : Int)) ∧
 (¬(rdR y (Int.toNat y + (1 : Nat)) (s, b) g []).snd.snd = (0 : Int) → (0 : Nat) = (0 : Nat) ∧ (23 : Int) = (23 : Int))) ∧
 (((23 : Int) != (0 : Int)) = false →
 List.length x4.snd.snd.snd ≤ (65536 : Nat) ∧
 (0 : Int) ≤ (65536 : Int) ∧
 ∃ (y8 : Bool × Nat × R2 × List Int),
 (contZ y g2.fst g2.snd
 (bif y8.fst then flR y y8.snd.fst y8.snd.snd.fst y8.snd.snd.snd
 else (y8.snd.snd.fst, y8.snd.snd.snd, (0 : Int))) =
 rdR y (Int.toNat y + (1 : Nat)) (s, b) g [] ∧
 (y8.fst = true → y + (1 : Int) ≤ (↑y8.snd.fst : Int) + (↑(List.length y8.snd.snd.snd) : Int)) ∧
 y + (1 : Int) ≤ (↑g2.fst : Int) + (↑(List.length y8.snd.snd.snd) : Int) ∧
 (↑(List.length y8.snd.snd.snd) : Int) ≤ y ∧
 ByteArray.size y8.snd.snd.fst.fst ≤ (9223372036854775807 : Nat) ∧
 (0 : Int) ≤ y8.snd.snd.fst.snd ∧ y8.snd.snd.fst.snd ≤ (8388608 : Int)) ∧
 ((match y8.fst with
 | true => y8.snd.fst + (1 : Nat)
 | false => (0 : Nat)) <
 match x4.fst with
 | true => x4.snd.fst + (1 : Nat)
 | false => (0 : Nat)) ∧
 g2.snd = g2.snd ∧
 y = y ∧
 ((0 : Int) == (3 : Int)) = y8.fst ∧
 x4.snd.snd.fst.fst = y8.snd.snd.fst.fst ∧
 x4.snd.snd.fst.snd = y8.snd.snd.fst.snd ∧
 (23 : Int) = (0 : Int) ∧
 x4.snd.snd.snd ++ List.replicate (Int.toNat (0 : Int)) (0 : Int) = y8.snd.snd.snd)) ∧
 (decide (IntKind.wrap IntKind.i64 ((↑(List.length x4.snd.snd.snd) : Int) + (0 : Int)) > y) = false →
 (((23 : Int) != (0 : Int)) = true →
 ((rdR y (Int.toNat y + (1 : Nat)) (s, b) g []).snd.snd = (0 : Int) →
 List.length (rdR y (Int.toNat y + (1 : Nat)) (s, b) g []).snd.fst = (0 : Nat) ∧
 x4.snd.snd.fst.fst = (rdR y (Int.toNat y + (1 : Nat)) (s, b) g []).fst.fst ∧
 x4.snd.snd.fst.snd = (rdR y (Int.toNat y + (1 : Nat)) (s, b) g []).fst.snd ∧ (23 : Int) = (0 : Int)) ∧
 (¬(rdR y (Int.toNat y + (1 : Nat)) (s, b) g []).snd.snd = (0 : Int) → (0 : Nat) = (0 : Nat) ∧ (23 : Int) = (23 : Int))) ∧
 (((23 : Int) != (0 : Int)) = false →
 List.length x4.snd.snd.snd ≤ (65536 : Nat) ∧
 (0 : Int) ≤ (65536 : Int) ∧
 ∃ (y9 : Bool × Nat × R2 × List Int),
 (contZ y g2.fst g2.snd
 (bif y9.fst then flR y y9.snd.fst y9.snd.snd.fst y9.snd.snd.snd
 else (y9.snd.snd.fst, y9.snd.snd.snd, (0 : Int))) =
 rdR y (Int.toNat y + (1 : Nat)) (s, b) g [] ∧
 (y9.fst = true → y + (1 : Int) ≤ (↑y9.snd.fst : Int) + (↑(List.length y9.snd.snd.snd) : Int)) ∧
 y + (1 : Int) ≤ (↑g2.fst : Int) + (↑(List.length y9.snd.snd.snd) : Int) ∧
 (↑(List.length y9.snd.snd.snd) : Int) ≤ y ∧
 ByteArray.size y9.snd.snd.fst.fst ≤ (9223372036854775807 : Nat) ∧
 (0 : Int) ≤ y9.snd.snd.fst.snd ∧ y9.snd.snd.fst.snd ≤ (8388608 : Int)) ∧
 ((match y9.fst with
 | true => y9.snd.fst + (1 : Nat)
 | false => (0 : Nat)) <
 match x4.fst with
 | true => x4.snd.fst + (1 : Nat)
 | false => (0 : Nat)) ∧
 g2.snd = g2.snd ∧
 y = y ∧
 ((0 : Int) == (3 : Int)) = y9.fst ∧
 x4.snd.snd.fst.fst = y9.snd.snd.fst.fst ∧
 x4.snd.snd.fst.snd = y9.snd.snd.fst.snd ∧
 (23 : Int) = (0 : Int) ∧
 x4.snd.snd.snd ++ List.replicate (Int.toNat (0 : Int)) (0 : Int) = y9.snd.snd.snd))) ∧
 (((23 : Int) == (0 : Int)) = false →
 (((23 : Int) != (0 : Int)) = true →
 ((rdR y (Int.toNat y + (1 : Nat)) (s, b) g []).snd.snd = (0 : Int) →
 List.length (rdR y (Int.toNat y + (1 : Nat)) (s, b) g []).snd.fst = (0 : Nat) ∧
 x4.snd.snd.fst.fst = (rdR y (Int.toNat y + (1 : Nat)) (s, b) g []).fst.fst ∧
 x4.snd.snd.fst.snd = (rdR y (Int.toNat y + (1 : Nat)) (s, b) g []).fst.snd ∧ (23 : Int) = (0 : Int)) ∧
 (¬(rdR y (Int.toNat y + (1 : Nat)) (s, b) g []).snd.snd = (0 : Int) → (0 : Nat) = (0 : Nat) ∧ (23 : Int) = (23 : Int))) ∧
 (((23 : Int) != (0 : Int)) = false →
 List.length x4.snd.snd.snd ≤ (65536 : Nat) ∧
 (0 : Int) ≤ (65536 : Int) ∧
 ∃ (y10 : Bool × Nat × R2 × List Int),
 (contZ y g2.fst g2.snd
 (bif y10.fst then flR y y10.snd.fst y10.snd.snd.fst y10.snd.snd.snd
 else (y10.snd.snd.fst, y10.snd.snd.snd, (0 : Int))) =
 rdR y (Int.toNat y + (1 : Nat)) (s, b) g [] ∧
 (y10.fst = true → y + (1 : Int) ≤ (↑y10.snd.fst : Int) + (↑(List.length y10.snd.snd.snd) : Int)) ∧
 y + (1 : Int) ≤ (↑g2.fst : Int) + (↑(List.length y10.snd.snd.snd) : Int) ∧
 (↑(List.length y10.snd.snd.snd) : Int) ≤ y ∧
 ByteArray.size y10.snd.snd.fst.fst ≤ (9223372036854775807 : Nat) ∧
 (0 : Int) ≤ y10.snd.snd.fst.snd ∧ y10.snd.snd.fst.snd ≤ (8388608 : Int)) ∧
 ((match y10.fst with
 | true => y10.snd.fst + (1 : Nat)
 | false => (0 : Nat)) <
 match x4.fst with
 | true => x4.snd.fst + (1 : Nat)
 | false => (0 : Nat)) ∧
 g2.snd = g2.snd ∧
 y = y ∧
 ((0 : Int) == (3 : Int)) = y10.fst ∧
 x4.snd.snd.fst.fst = y10.snd.snd.fst.fst ∧
 x4.snd.snd.fst.snd = y10.snd.snd.fst.snd ∧
 (23 : Int) = (0 : Int) ∧
 x4.snd.snd.snd ++ List.replicate (Int.toNat (0 : Int)) (0 : Int) = y10.snd.snd.snd)))) ∧
 (x4.fst = false →
 ∃ (y11 : Nat × R2 × Int × List Int),
 (rdR y y11.fst y11.snd.fst y11.snd.snd.fst y11.snd.snd.snd = rdR y (Int.toNat y + (1 : Nat)) (s, b) g [] ∧
 y + (1 : Int) ≤ (↑y11.fst : Int) + (↑(List.length y11.snd.snd.snd) : Int) ∧
 (↑(List.length y11.snd.snd.snd) : Int) ≤ y ∧
 (0 : Int) ≤ y11.snd.snd.fst ∧
 y11.snd.snd.fst ≤ (4096 : Int) ∧
 ByteArray.size y11.snd.fst.fst ≤ (9223372036854775807 : Nat) ∧ (0 : Int) ≤ y11.snd.fst.snd ∧ y11.snd.fst.snd ≤ (8388608 : Int)) ∧
 y11.1 < x1.1 ∧
 g2.snd = y11.snd.snd.fst ∧
 y = y ∧
 x4.snd.snd.fst.fst = y11.snd.fst.fst ∧
 x4.snd.snd.fst.snd = y11.snd.fst.snd ∧ (0 : Int) = (0 : Int) ∧ x4.snd.snd.snd = y11.snd.snd.snd)))) ∧
 (¬(valR (x1.snd.fst.fst, x1.snd.fst.snd) x1.snd.snd.fst).snd.snd = (0 : Int) →
 ByteArray.size x1.snd.fst.fst ≤ (9223372036854775807 : Nat) ∧
 (0 : Int) ≤ x1.snd.snd.fst ∧
 x1.snd.snd.fst ≤ (4096 : Int) ∧
 (0 : Int) ≤ x1.snd.fst.snd ∧
 x1.snd.fst.snd ≤ (9000000 : Int) ∧
 (((23 : Int) != (0 : Int)) = true →
 ((rdR y (Int.toNat y + (1 : Nat)) (s, b) g []).snd.snd = (0 : Int) →
 List.length (rdR y (Int.toNat y + (1 : Nat)) (s, b) g []).snd.fst = (0 : Nat) ∧
 x1.snd.fst.fst = (rdR y (Int.toNat y + (1 : Nat)) (s, b) g []).fst.fst ∧
 x1.snd.fst.snd = (rdR y (Int.toNat y + (1 : Nat)) (s, b) g []).fst.snd ∧ (23 : Int) = (0 : Int)) ∧
 (¬(rdR y (Int.toNat y + (1 : Nat)) (s, b) g []).snd.snd = (0 : Int) → (0 : Nat) = (0 : Nat) ∧ (23 : Int) = (23 : Int))) ∧
 (((23 : Int) != (0 : Int)) = false →
 (((↑(List.length x1.snd.snd.snd) : Int) == y) = true →
 ((rdR y (Int.toNat y + (1 : Nat)) (s, b) g []).snd.snd = (0 : Int) →
 List.length (rdR y (Int.toNat y + (1 : Nat)) (s, b) g []).snd.fst = (0 : Nat) ∧
 x1.snd.fst.fst = (rdR y (Int.toNat y + (1 : Nat)) (s, b) g []).fst.fst ∧
 x1.snd.fst.snd = (rdR y (Int.toNat y + (1 : Nat)) (s, b) g []).fst.snd ∧ (23 : Int) = (0 : Int)) ∧
 (¬(rdR y (Int.toNat y + (1 : Nat)) (s, b) g []).snd.snd = (0 : Int) → (0 : Nat) = (0 : Nat) ∧ (23 : Int) = (23 : Int))) ∧
 (((↑(List.length x1.snd.snd.snd) : Int) == y) = false →
 (List.length x1.snd.snd.snd + (1 : Nat)) * (8 : Nat) ≤ (140737488355328 : Nat) ∧
 List.length [IntKind.wrap IntKind.i64 ((0 : Int) - (1 : Int))] ≤ (65536 : Nat) ∧
 (List.all [IntKind.wrap IntKind.i64 ((0 : Int) - (1 : Int))] fun (x : Int) => decide (x ≤ (65536 : Int))) = true ∧
 ∃ (g12 : Nat × Int),
 (∃ (x13 : Bool × Nat × R2 × List Int),
 (contZ y g12.fst g12.snd (bif x13.fst then flR y x13.snd.fst x13.snd.snd.fst x13.snd.snd.snd else (x13.snd.snd.fst, x13.snd.snd.snd, (0 : Int))) =
 rdR y (Int.toNat y + (1 : Nat)) (s, b) g [] ∧
 (x13.fst = true → y + (1 : Int) ≤ (↑x13.snd.fst : Int) + (↑(List.length x13.snd.snd.snd) : Int)) ∧
 y + (1 : Int) ≤ (↑g12.fst : Int) + (↑(List.length x13.snd.snd.snd) : Int) ∧
 (↑(List.length x13.snd.snd.snd) : Int) ≤ y ∧
 ByteArray.size x13.snd.snd.fst.fst ≤ (9223372036854775807 : Nat) ∧ (0 : Int) ≤ x13.snd.snd.fst.snd ∧ x13.snd.snd.fst.snd ≤ (8388608 : Int)) ∧
 IntKind.wrap IntKind.i64 (x1.snd.snd.fst - pts [IntKind.wrap IntKind.i64 ((0 : Int) - (1 : Int))]) = g12.snd ∧
 y = y ∧
 (IntKind.wrap IntKind.i64 ((0 : Int) - (1 : Int)) == (0 : Int)) = x13.fst ∧
 x1.snd.fst.fst = x13.snd.snd.fst.fst ∧
 x1.snd.fst.snd = x13.snd.snd.fst.snd ∧
 (23 : Int) = (0 : Int) ∧ x1.snd.snd.snd ++ [IntKind.wrap IntKind.i64 ((0 : Int) - (1 : Int))] = x13.snd.snd.snd) ∧
 ∀ (x14 : Bool × Nat × R2 × List Int),
 contZ y g12.fst g12.snd (bif x14.fst then flR y x14.snd.fst x14.snd.snd.fst x14.snd.snd.snd else (x14.snd.snd.fst, x14.snd.snd.snd, (0 : Int))) =
 rdR y (Int.toNat y + (1 : Nat)) (s, b) g [] ∧
 (x14.fst = true → y + (1 : Int) ≤ (↑x14.snd.fst : Int) + (↑(List.length x14.snd.snd.snd) : Int)) ∧
 y + (1 : Int) ≤ (↑g12.fst : Int) + (↑(List.length x14.snd.snd.snd) : Int) ∧
 (↑(List.length x14.snd.snd.snd) : Int) ≤ y ∧
 ByteArray.size x14.snd.snd.fst.fst ≤ (9223372036854775807 : Nat) ∧ (0 : Int) ≤ x14.snd.snd.fst.snd ∧ x14.snd.snd.fst.snd ≤ (8388608 : Int) →
 (x14.fst = true →
 ((takeT (x14.snd.snd.fst.fst, x14.snd.snd.fst.snd) (2 : Int)).snd.snd = (0 : Int) →
 ByteArray.size x14.snd.snd.fst.fst ≤ (9223372036854775807 : Nat) ∧
 (((0 : Int) == (0 : Int)) = true →
 (decide
 (IntKind.wrap IntKind.i64
 ((↑(List.length x14.snd.snd.snd) : Int) + (takeT (x14.snd.snd.fst.fst, x14.snd.snd.fst.snd) (2 : Int)).snd.fst) >
 y) =
 true →
 (((23 : Int) != (0 : Int)) = true →
 ((rdR y (Int.toNat y + (1 : Nat)) (s, b) g []).snd.snd = (0 : Int) →
 List.length (rdR y (Int.toNat y + (1 : Nat)) (s, b) g []).snd.fst = (0 : Nat) ∧
 (takeT (x14.snd.snd.fst.fst, x14.snd.snd.fst.snd) (2 : Int)).fst.fst =
 (rdR y (Int.toNat y + (1 : Nat)) (s, b) g []).fst.fst ∧
 (takeT (x14.snd.snd.fst.fst, x14.snd.snd.fst.snd) (2 : Int)).fst.snd =
 (rdR y (Int.toNat y + (1 : Nat)) (s, b) g []).fst.snd ∧
 (23 : Int) = (0 : Int)) ∧
 (¬(rdR y (Int.toNat y + (1 : Nat)) (s, b) g []).snd.snd = (0 : Int) → (0 : Nat) = (0 : Nat) ∧ (23 : Int) = (23 : Int))) ∧
 (((23 : Int) != (0 : Int)) = false →
 List.length x14.snd.snd.snd ≤ (65536 : Nat) ∧
 (takeT (x14.snd.snd.fst.fst, x14.snd.snd.fst.snd) (2 : Int)).snd.fst ≤ (65536 : Int) ∧
 ∃ (y15 : Bool × Nat × R2 × List Int),
 (contZ y g12.fst g12.snd
 (bif y15.fst then flR y y15.snd.fst y15.snd.snd.fst y15.snd.snd.snd
 else (y15.snd.snd.fst, y15.snd.snd.snd, (0 : Int))) =
 rdR y (Int.toNat y + (1 : Nat)) (s, b) g [] ∧
 (y15.fst = true → y + (1 : Int) ≤ (↑y15.snd.fst : Int) + (↑(List.length y15.snd.snd.snd) : Int)) ∧
 y + (1 : Int) ≤ (↑g12.fst : Int) + (↑(List.length y15.snd.snd.snd) : Int) ∧
 (↑(List.length y15.snd.snd.snd) : Int) ≤ y ∧
 ByteArray.size y15.snd.snd.fst.fst ≤ (9223372036854775807 : Nat) ∧
 (0 : Int) ≤ y15.snd.snd.fst.snd ∧ y15.snd.snd.fst.snd ≤ (8388608 : Int)) ∧
 ((match y15.fst with
 | true => y15.snd.fst + (1 : Nat)
 | false => (0 : Nat)) <
 match x14.fst with
 | true => x14.snd.fst + (1 : Nat)
 | false => (0 : Nat)) ∧
 g12.snd = g12.snd ∧
 y = y ∧
 ((takeT (x14.snd.snd.fst.fst, x14.snd.snd.fst.snd) (2 : Int)).snd.fst == (3 : Int)) = y15.fst ∧
 (takeT (x14.snd.snd.fst.fst, x14.snd.snd.fst.snd) (2 : Int)).fst.fst = y15.snd.snd.fst.fst ∧
 (takeT (x14.snd.snd.fst.fst, x14.snd.snd.fst.snd) (2 : Int)).fst.snd = y15.snd.snd.fst.snd ∧
 (23 : Int) = (0 : Int) ∧
 x14.snd.snd.snd ++
 List.replicate (Int.toNat (takeT (x14.snd.snd.fst.fst, x14.snd.snd.fst.snd) (2 : Int)).snd.fst)
 (0 : Int) =
 y15.snd.snd.snd)) ∧
 (decide
 (IntKind.wrap IntKind.i64
 ((↑(List.length x14.snd.snd.snd) : Int) + (takeT (x14.snd.snd.fst.fst, x14.snd.snd.fst.snd) (2 : Int)).snd.fst) >
 y) =
 false →
 (((0 : Int) != (0 : Int)) = true →
 ((rdR y (Int.toNat y + (1 : Nat)) (s, b) g []).snd.snd = (0 : Int) →
 List.length (rdR y (Int.toNat y + (1 : Nat)) (s, b) g []).snd.fst = (0 : Nat) ∧
 (takeT (x14.snd.snd.fst.fst, x14.snd.snd.fst.snd) (2 : Int)).fst.fst =
 (rdR y (Int.toNat y + (1 : Nat)) (s, b) g []).fst.fst ∧
 (takeT (x14.snd.snd.fst.fst, x14.snd.snd.fst.snd) (2 : Int)).fst.snd =
 (rdR y (Int.toNat y + (1 : Nat)) (s, b) g []).fst.snd ∧
 (0 : Int) = (0 : Int)) ∧
 (¬(rdR y (Int.toNat y + (1 : Nat)) (s, b) g []).snd.snd = (0 : Int) → (0 : Nat) = (0 : Nat) ∧ (0 : Int) = (23 : Int))) ∧
 (((0 : Int) != (0 : Int)) = false →
 List.length x14.snd.snd.snd ≤ (65536 : Nat) ∧
 (takeT (x14.snd.snd.fst.fst, x14.snd.snd.fst.snd) (2 : Int)).snd.fst ≤ (65536 : Int) ∧
 ∃ (y16 : Bool × Nat × R2 × List Int),
 (contZ y g12.fst g12.snd
 (bif y16.fst then flR y y16.snd.fst y16.snd.snd.fst y16.snd.snd.snd
 else (y16.snd.snd.fst, y16.snd.snd.snd, (0 : Int))) =
 rdR y (Int.toNat y + (1 : Nat)) (s, b) g [] ∧
 (y16.fst = true → y + (1 : Int) ≤ (↑y16.snd.fst : Int) + (↑(List.length y16.snd.snd.snd) : Int)) ∧
 y + (1 : Int) ≤ (↑g12.fst : Int) + (↑(List.length y16.snd.snd.snd) : Int) ∧
 (↑(List.length y16.snd.snd.snd) : Int) ≤ y ∧
 ByteArray.size y16.snd.snd.fst.fst ≤ (9223372036854775807 : Nat) ∧
 (0 : Int) ≤ y16.snd.snd.fst.snd ∧ y16.snd.snd.fst.snd ≤ (8388608 : Int)) ∧
 ((match y16.fst with
 | true => y16.snd.fst + (1 : Nat)
 | false => (0 : Nat)) <
 match x14.fst with
 | true => x14.snd.fst + (1 : Nat)
 | false => (0 : Nat)) ∧
 g12.snd = g12.snd ∧
 y = y ∧
 ((takeT (x14.snd.snd.fst.fst, x14.snd.snd.fst.snd) (2 : Int)).snd.fst == (3 : Int)) = y16.fst ∧
 (takeT (x14.snd.snd.fst.fst, x14.snd.snd.fst.snd) (2 : Int)).fst.fst = y16.snd.snd.fst.fst ∧
 (takeT (x14.snd.snd.fst.fst, x14.snd.snd.fst.snd) (2 : Int)).fst.snd = y16.snd.snd.fst.snd ∧
 (0 : Int) = (0 : Int) ∧
 x14.snd.snd.snd ++
 List.replicate (Int.toNat (takeT (x14.snd.snd.fst.fst, x14.snd.snd.fst.snd) (2 : Int)).snd.fst)
 (0 : Int) =
 y16.snd.snd.snd))) ∧
 (((0 : Int) == (0 : Int)) = false →
 (((0 : Int) != (0 : Int)) = true →
 ((rdR y (Int.toNat y + (1 : Nat)) (s, b) g []).snd.snd = (0 : Int) →
 List.length (rdR y (Int.toNat y + (1 : Nat)) (s, b) g []).snd.fst = (0 : Nat) ∧
 (takeT (x14.snd.snd.fst.fst, x14.snd.snd.fst.snd) (2 : Int)).fst.fst = (rdR y (Int.toNat y + (1 : Nat)) (s, b) g []).fst.fst ∧
 (takeT (x14.snd.snd.fst.fst, x14.snd.snd.fst.snd) (2 : Int)).fst.snd =
 (rdR y (Int.toNat y + (1 : Nat)) (s, b) g []).fst.snd ∧
 (0 : Int) = (0 : Int)) ∧
 (¬(rdR y (Int.toNat y + (1 : Nat)) (s, b) g []).snd.snd = (0 : Int) → (0 : Nat) = (0 : Nat) ∧ (0 : Int) = (23 : Int))) ∧
 (((0 : Int) != (0 : Int)) = false →
 List.length x14.snd.snd.snd ≤ (65536 : Nat) ∧
 (takeT (x14.snd.snd.fst.fst, x14.snd.snd.fst.snd) (2 : Int)).snd.fst ≤ (65536 : Int) ∧
 ∃ (y17 : Bool × Nat × R2 × List Int),
 (contZ y g12.fst g12.snd
 (bif y17.fst then flR y y17.snd.fst y17.snd.snd.fst y17.snd.snd.snd
 else (y17.snd.snd.fst, y17.snd.snd.snd, (0 : Int))) =
 rdR y (Int.toNat y + (1 : Nat)) (s, b) g [] ∧
 (y17.fst = true → y + (1 : Int) ≤ (↑y17.snd.fst : Int) + (↑(List.length y17.snd.snd.snd) : Int)) ∧
 y + (1 : Int) ≤ (↑g12.fst : Int) + (↑(List.length y17.snd.snd.snd) : Int) ∧
 (↑(List.length y17.snd.snd.snd) : Int) ≤ y ∧
 ByteArray.size y17.snd.snd.fst.fst ≤ (9223372036854775807 : Nat) ∧
 (0 : Int) ≤ y17.snd.snd.fst.snd ∧ y17.snd.snd.fst.snd ≤ (8388608 : Int)) ∧
 ((match y17.fst with
 | true => y17.snd.fst + (1 : Nat)
 | false => (0 : Nat)) <
 match x14.fst with
 | true => x14.snd.fst + (1 : Nat)
 | false => (0 : Nat)) ∧
 g12.snd = g12.snd ∧
 y = y ∧
 ((takeT (x14.snd.snd.fst.fst, x14.snd.snd.fst.snd) (2 : Int)).snd.fst == (3 : Int)) = y17.fst ∧
 (takeT (x14.snd.snd.fst.fst, x14.snd.snd.fst.snd) (2 : Int)).fst.fst = y17.snd.snd.fst.fst ∧
 (takeT (x14.snd.snd.fst.fst, x14.snd.snd.fst.snd) (2 : Int)).fst.snd = y17.snd.snd.fst.snd ∧
 (0 : Int) = (0 : Int) ∧
 x14.snd.snd.snd ++
 List.replicate (Int.toNat (takeT (x14.snd.snd.fst.fst, x14.snd.snd.fst.snd) (2 : Int)).snd.fst)
 (0 : Int) =
 y17.snd.snd.snd))) ∧
 (¬(takeT (x14.snd.snd.fst.fst, x14.snd.snd.fst.snd) (2 : Int)).snd.snd = (0 : Int) →
 ByteArray.size x14.snd.snd.fst.fst ≤ (9223372036854775807 : Nat) ∧
 (((23 : Int) == (0 : Int)) = true →
 (decide (IntKind.wrap IntKind.i64 ((↑(List.length x14.snd.snd.snd) : Int) + (0 : Int)) > y) = true →
 (((23 : Int) != (0 : Int)) = true →
 ((rdR y (Int.toNat y + (1 : Nat)) (s, b) g []).snd.snd = (0 : Int) →
 List.length (rdR y (Int.toNat y + (1 : Nat)) (s, b) g []).snd.fst = (0 : Nat) ∧
 x14.snd.snd.fst.fst = (rdR y (Int.toNat y + (1 : Nat)) (s, b) g []).fst.fst ∧
 x14.snd.snd.fst.snd = (rdR y (Int.toNat y + (1 : Nat)) (s, b) g []).fst.snd ∧ (23 : Int) = (0 : Int)) ∧
 (¬(rdR y (Int.toNat y + (1 : Nat)) (s, b) g []).snd.snd = (0 : Int) → (0 : Nat) = (0 : Nat) ∧ (23 : Int) = (23 : Int))) ∧
 (((23 : Int) != (0 : Int)) = false →
 List.length x14.snd.snd.snd ≤ (65536 : Nat) ∧
 (0 : Int) ≤ (65536 : Int) ∧
 ∃ (y18 : Bool × Nat × R2 × List Int),
 (contZ y g12.fst g12.snd
 (bif y18.fst then flR y y18.snd.fst y18.snd.snd.fst y18.snd.snd.snd
 else (y18.snd.snd.fst, y18.snd.snd.snd, (0 : Int))) =
 rdR y (Int.toNat y + (1 : Nat)) (s, b) g [] ∧
 (y18.fst = true → y + (1 : Int) ≤ (↑y18.snd.fst : Int) + (↑(List.length y18.snd.snd.snd) : Int)) ∧
 y + (1 : Int) ≤ (↑g12.fst : Int) + (↑(List.length y18.snd.snd.snd) : Int) ∧
 (↑(List.length y18.snd.snd.snd) : Int) ≤ y ∧
 ByteArray.size y18.snd.snd.fst.fst ≤ (9223372036854775807 : Nat) ∧
 (0 : Int) ≤ y18.snd.snd.fst.snd ∧ y18.snd.snd.fst.snd ≤ (8388608 : Int)) ∧
 ((match y18.fst with
 | true => y18.snd.fst + (1 : Nat)
 | false => (0 : Nat)) <
 match x14.fst with
 | true => x14.snd.fst + (1 : Nat)
 | false => (0 : Nat)) ∧
 g12.snd = g12.snd ∧
 y = y ∧
 ((0 : Int) == (3 : Int)) = y18.fst ∧
 x14.snd.snd.fst.fst = y18.snd.snd.fst.fst ∧
 x14.snd.snd.fst.snd = y18.snd.snd.fst.snd ∧
 (23 : Int) = (0 : Int) ∧
 x14.snd.snd.snd ++ List.replicate (Int.toNat (0 : Int)) (0 : Int) = y18.snd.snd.snd)) ∧
 (decide (IntKind.wrap IntKind.i64 ((↑(List.length x14.snd.snd.snd) : Int) + (0 : Int)) > y) = false →
 (((23 : Int) != (0 : Int)) = true →
 ((rdR y (Int.toNat y + (1 : Nat)) (s, b) g []).snd.snd = (0 : Int) →
 List.length (rdR y (Int.toNat y + (1 : Nat)) (s, b) g []).snd.fst = (0 : Nat) ∧
 x14.snd.snd.fst.fst = (rdR y (Int.toNat y + (1 : Nat)) (s, b) g []).fst.fst ∧
 x14.snd.snd.fst.snd = (rdR y (Int.toNat y + (1 : Nat)) (s, b) g []).fst.snd ∧ (23 : Int) = (0 : Int)) ∧
 (¬(rdR y (Int.toNat y + (1 : Nat)) (s, b) g []).snd.snd = (0 : Int) → (0 : Nat) = (0 : Nat) ∧ (23 : Int) = (23 : Int))) ∧
 (((23 : Int) != (0 : Int)) = false →
 List.length x14.snd.snd.snd ≤ (65536 : Nat) ∧
 (0 : Int) ≤ (65536 : Int) ∧
 ∃ (y19 : Bool × Nat × R2 × List Int),
 (contZ y g12.fst g12.snd
 (bif y19.fst then flR y y19.snd.fst y19.snd.snd.fst y19.snd.snd.snd
 else (y19.snd.snd.fst, y19.snd.snd.snd, (0 : Int))) =
 rdR y (Int.toNat y + (1 : Nat)) (s, b) g [] ∧
 (y19.fst = true → y + (1 : Int) ≤ (↑y19.snd.fst : Int) + (↑(List.length y19.snd.snd.snd) : Int)) ∧
 y + (1 : Int) ≤ (↑g12.fst : Int) + (↑(List.length y19.snd.snd.snd) : Int) ∧
 (↑(List.length y19.snd.snd.snd) : Int) ≤ y ∧
 ByteArray.size y19.snd.snd.fst.fst ≤ (9223372036854775807 : Nat) ∧
 (0 : Int) ≤ y19.snd.snd.fst.snd ∧ y19.snd.snd.fst.snd ≤ (8388608 : Int)) ∧
 ((match y19.fst with
 | true => y19.snd.fst + (1 : Nat)
 | false => (0 : Nat)) <
 match x14.fst with
 | true => x14.snd.fst + (1 : Nat)
 | false => (0 : Nat)) ∧
 g12.snd = g12.snd ∧
 y = y ∧
 ((0 : Int) == (3 : Int)) = y19.fst ∧
 x14.snd.snd.fst.fst = y19.snd.snd.fst.fst ∧
 x14.snd.snd.fst.snd = y19.snd.snd.fst.snd ∧
 (23 : Int) = (0 : Int) ∧
 x14.snd.snd.snd ++ List.replicate (Int.toNat (0 : Int)) (0 : Int) = y19.snd.snd.snd))) ∧
 (((23 : Int) == (0 : Int)) = false →
 (((23 : Int) != (0 : Int)) = true →
 ((rdR y (Int.toNat y + (1 : Nat)) (s, b) g []).snd.snd = (0 : Int) →
 List.length (rdR y (Int.toNat y + (1 : Nat)) (s, b) g []).snd.fst = (0 : Nat) ∧
 x14.snd.snd.fst.fst = (rdR y (Int.toNat y + (1 : Nat)) (s, b) g []).fst.fst ∧
 x14.snd.snd.fst.snd = (rdR y (Int.toNat y + (1 : Nat)) (s, b) g []).fst.snd ∧ (23 : Int) = (0 : Int)) ∧
 (¬(rdR y (Int.toNat y + (1 : Nat)) (s, b) g []).snd.snd = (0 : Int) → (0 : Nat) = (0 : Nat) ∧ (23 : Int) = (23 : Int))) ∧
 (((23 : Int) != (0 : Int)) = false →
 List.length x14.snd.snd.snd ≤ (65536 : Nat) ∧
 (0 : Int) ≤ (65536 : Int) ∧
 ∃ (y20 : Bool × Nat × R2 × List Int),
 (contZ y g12.fst g12.snd
 (bif y20.fst then flR y y20.snd.fst y20.snd.snd.fst y20.snd.snd.snd
 else (y20.snd.snd.fst, y20.snd.snd.snd, (0 : Int))) =
 rdR y (Int.toNat y + (1 : Nat)) (s, b) g [] ∧
 (y20.fst = true → y + (1 : Int) ≤ (↑y20.snd.fst : Int) + (↑(List.length y20.snd.snd.snd) : Int)) ∧
 y + (1 : Int) ≤ (↑g12.fst : Int) + (↑(List.length y20.snd.snd.snd) : Int) ∧
 (↑(List.length y20.snd.snd.snd) : Int) ≤ y ∧
 ByteArray.size y20.snd.snd.fst.fst ≤ (9223372036854775807 : Nat) ∧
 (0 : Int) ≤ y20.snd.snd.fst.snd ∧ y20.snd.snd.fst.snd ≤ (8388608 : Int)) ∧
 ((match y20.fst with
 | true => y20.snd.fst + (1 : Nat)
 | false => (0 : Nat)) <
 match x14.fst with
 | true => x14.snd.fst + (1 : Nat)
 | false => (0 : Nat)) ∧
 g12.snd = g12.snd ∧
 y = y ∧
 ((0 : Int) == (3 : Int)) = y20.fst ∧
 x14.snd.snd.fst.fst = y20.snd.snd.fst.fst ∧
 x14.snd.snd.fst.snd = y20.snd.snd.fst.snd ∧
 (23 : Int) = (0 : Int) ∧
 x14.snd.snd.snd ++ List.replicate (Int.toNat (0 : Int)) (0 : Int) = y20.snd.snd.snd)))) ∧
 (x14.fst = false →
 ∃ (y21 : Nat × R2 × Int × List Int),
 (rdR y y21.fst y21.snd.fst y21.snd.snd.fst y21.snd.snd.snd = rdR y (Int.toNat y + (1 : Nat)) (s, b) g [] ∧
 y + (1 : Int) ≤ (↑y21.fst : Int) + (↑(List.length y21.snd.snd.snd) : Int) ∧
 (↑(List.length y21.snd.snd.snd) : Int) ≤ y ∧
 (0 : Int) ≤ y21.snd.snd.fst ∧
 y21.snd.snd.fst ≤ (4096 : Int) ∧
 ByteArray.size y21.snd.fst.fst ≤ (9223372036854775807 : Nat) ∧ (0 : Int) ≤ y21.snd.fst.snd ∧ y21.snd.fst.snd ≤ (8388608 : Int)) ∧
 y21.1 < x1.1 ∧
 g12.snd = y21.snd.snd.fst ∧
 y = y ∧
 x14.snd.snd.fst.fst = y21.snd.fst.fst ∧
 x14.snd.snd.fst.snd = y21.snd.fst.snd ∧ (0 : Int) = (0 : Int) ∧ x14.snd.snd.snd = y21.snd.snd.snd))))) ∧
 (((0 : Int) == (0 : Int)) = false →
 ((rdR y (Int.toNat y + (1 : Nat)) (s, b) g []).snd.snd = (0 : Int) →
 x1.snd.snd.snd = (rdR y (Int.toNat y + (1 : Nat)) (s, b) g []).snd.fst ∧
 x1.snd.fst.fst = (rdR y (Int.toNat y + (1 : Nat)) (s, b) g []).fst.fst ∧ x1.snd.fst.snd = (rdR y (Int.toNat y + (1 : Nat)) (s, b) g []).fst.snd ∧ (0 : Int) = (0 : Int)) ∧
 (¬(rdR y (Int.toNat y + (1 : Nat)) (s, b) g []).snd.snd = (0 : Int) → x1.snd.snd.snd = [] ∧ (0 : Int) = (23 : Int)))) ∧
 (decide (x1.snd.snd.fst > (0 : Int)) = false →
 ((rdR y (Int.toNat y + (1 : Nat)) (s, b) g []).snd.snd = (0 : Int) →
 x1.snd.snd.snd = (rdR y (Int.toNat y + (1 : Nat)) (s, b) g []).snd.fst ∧
 x1.snd.fst.fst = (rdR y (Int.toNat y + (1 : Nat)) (s, b) g []).fst.fst ∧ x1.snd.fst.snd = (rdR y (Int.toNat y + (1 : Nat)) (s, b) g []).fst.snd ∧ (0 : Int) = (0 : Int)) ∧
 (¬(rdR y (Int.toNat y + (1 : Nat)) (s, b) g []).snd.snd = (0 : Int) → x1.snd.snd.snd = [] ∧ (0 : Int) = (23 : Int)))
--end
theorem rprobs_e (g y : Int) (s : ByteArray) (b : Int) : rprobs_t g y s b = vcG Try.prog (Gof G8l) (oRProbs y (rdR y (y.toNat + 1) (s, b) g [])) Try.f78 [.p 0 0 0, .v (.int .i64 g), .v (.int .i64 y)] [(0, .cells 99 [.v (.string s), .v (.int .i64 b), .v (.int .i64 0)])] (.ite ⟨(rdR y (y.toNat + 1) (s, b) g []).2.2 = 0, inferInstance⟩ (.leaf (.dat (.ints .i64 (rdR y (y.toNat + 1) (s, b) g []).2.1)) ([(0, xC (rdR y (y.toNat + 1) (s, b) g []).1 0)])) (.leaf (.dat (.ints .i64 [])) ([(0, .cells 99 [.any, .any, .v (.int .i64 23)])]))) := by kernel_rfl
def readP_t (s : ByteArray) (a m y : Int) : Prop :=
 (decide (a < (0 : Int)) = true →
 (0 : Int) = (readF (2000 : Int) s a m y).fst.fst ∧
 List.length (readF (2000 : Int) s a m y).fst.snd = (0 : Nat) ∧
 (0 : Int) = (readF (2000 : Int) s a m y).snd.fst ∧ (2 : Int) = (readF (2000 : Int) s a m y).snd.snd.fst ∧ (0 : Int) = (readF (2000 : Int) s a m y).snd.snd.snd) ∧
 (decide (a < (0 : Int)) = false →
 (decide (a > (↑(ByteArray.size s) : Int)) = true →
 (0 : Int) = (readF (2000 : Int) s a m y).fst.fst ∧
 List.length (readF (2000 : Int) s a m y).fst.snd = (0 : Nat) ∧
 (0 : Int) = (readF (2000 : Int) s a m y).snd.fst ∧ (2 : Int) = (readF (2000 : Int) s a m y).snd.snd.fst ∧ (0 : Int) = (readF (2000 : Int) s a m y).snd.snd.snd) ∧
 (decide (a > (↑(ByteArray.size s) : Int)) = false →
 (decide (m < (5 : Int)) = true →
 (0 : Int) = (readF (2000 : Int) s a m y).fst.fst ∧
 List.length (readF (2000 : Int) s a m y).fst.snd = (0 : Nat) ∧
 (0 : Int) = (readF (2000 : Int) s a m y).snd.fst ∧ (2 : Int) = (readF (2000 : Int) s a m y).snd.snd.fst ∧ (0 : Int) = (readF (2000 : Int) s a m y).snd.snd.snd) ∧
 (decide (m < (5 : Int)) = false →
 (decide (m > (12 : Int)) = true →
 (0 : Int) = (readF (2000 : Int) s a m y).fst.fst ∧
 List.length (readF (2000 : Int) s a m y).fst.snd = (0 : Nat) ∧
 (0 : Int) = (readF (2000 : Int) s a m y).snd.fst ∧ (2 : Int) = (readF (2000 : Int) s a m y).snd.snd.fst ∧ (0 : Int) = (readF (2000 : Int) s a m y).snd.snd.snd) ∧
 (decide (m > (12 : Int)) = false →
 (decide (y < (1 : Int)) = true →
 (0 : Int) = (readF (2000 : Int) s a m y).fst.fst ∧
 List.length (readF (2000 : Int) s a m y).fst.snd = (0 : Nat) ∧
 (0 : Int) = (readF (2000 : Int) s a m y).snd.fst ∧ (2 : Int) = (readF (2000 : Int) s a m y).snd.snd.fst ∧ (0 : Int) = (readF (2000 : Int) s a m y).snd.snd.snd) ∧
 (decide (y < (1 : Int)) = false →
 (decide (y > (256 : Int)) = true →
 (0 : Int) = (readF (2000 : Int) s a m y).fst.fst ∧
 List.length (readF (2000 : Int) s a m y).fst.snd = (0 : Nat) ∧
 (0 : Int) = (readF (2000 : Int) s a m y).snd.fst ∧ (2 : Int) = (readF (2000 : Int) s a m y).snd.snd.fst ∧ (0 : Int) = (readF (2000 : Int) s a m y).snd.snd.snd) ∧
 (decide (y > (256 : Int)) = false →
 (0 : Int) ≤ a ∧
 a ≤ min (↑(ByteArray.size s) : Int) (IntKind.wrap IntKind.i64 (a + (2000 : Int))) ∧
 min (↑(ByteArray.size s) : Int) (IntKind.wrap IntKind.i64 (a + (2000 : Int))) ≤ (↑(ByteArray.size s) : Int) ∧
 ((rdA (ByteArray.extract s (Int.toNat a) (Int.toNat (min (↑(ByteArray.size s) : Int) (IntKind.wrap IntKind.i64 (a + (2000 : Int))))), (0 : Int)) m y).snd.snd =
 (0 : Int) →
 m ≤ (12 : Int) ∧
 (1 : Int) ≤ y ∧
 y ≤ (256 : Int) ∧
 ByteArray.size (ByteArray.extract s (Int.toNat a) (Int.toNat (min (↑(ByteArray.size s) : Int) (IntKind.wrap IntKind.i64 (a + (2000 : Int)))))) ≤
 (9223372036854775807 : Nat) ∧
 (false = true →
 (0 : Int) = (readF (2000 : Int) s a m y).fst.fst ∧
 List.length (readF (2000 : Int) s a m y).fst.snd = (0 : Nat) ∧
 (0 : Int) = (readF (2000 : Int) s a m y).snd.fst ∧
 (31 : Int) = (readF (2000 : Int) s a m y).snd.snd.fst ∧ a = (readF (2000 : Int) s a m y).snd.snd.snd) ∧
 (false = false →
 ByteArray.size
 (rdA (ByteArray.extract s (Int.toNat a) (Int.toNat (min (↑(ByteArray.size s) : Int) (IntKind.wrap IntKind.i64 (a + (2000 : Int))))), (0 : Int)) m
 y).fst.fst ≤
 (9223372036854775807 : Nat) ∧
 logR (ByteArray.extract s (Int.toNat a) (Int.toNat (min (↑(ByteArray.size s) : Int) (IntKind.wrap IntKind.i64 (a + (2000 : Int))))), (0 : Int)) =
 (readF (2000 : Int) s a m y).fst.fst ∧
 (rdA (ByteArray.extract s (Int.toNat a) (Int.toNat (min (↑(ByteArray.size s) : Int) (IntKind.wrap IntKind.i64 (a + (2000 : Int))))), (0 : Int)) m
 y).snd.fst =
 (readF (2000 : Int) s a m y).fst.snd ∧
 IntKind.wrap IntKind.i64
 (a +
 (nextT
 ((rdA
 (ByteArray.extract s (Int.toNat a) (Int.toNat (min (↑(ByteArray.size s) : Int) (IntKind.wrap IntKind.i64 (a + (2000 : Int))))),
 (0 : Int))
 m y).fst.fst,
 (rdA
 (ByteArray.extract s (Int.toNat a) (Int.toNat (min (↑(ByteArray.size s) : Int) (IntKind.wrap IntKind.i64 (a + (2000 : Int))))),
 (0 : Int))
 m y).fst.snd)).fst) =
 (readF (2000 : Int) s a m y).snd.fst ∧
 (0 : Int) = (readF (2000 : Int) s a m y).snd.snd.fst ∧ (0 : Int) = (readF (2000 : Int) s a m y).snd.snd.snd)) ∧
 (¬(rdA (ByteArray.extract s (Int.toNat a) (Int.toNat (min (↑(ByteArray.size s) : Int) (IntKind.wrap IntKind.i64 (a + (2000 : Int))))), (0 : Int)) m y).snd.snd =
 (0 : Int) →
 m ≤ (12 : Int) ∧
 (1 : Int) ≤ y ∧
 y ≤ (256 : Int) ∧
 ByteArray.size (ByteArray.extract s (Int.toNat a) (Int.toNat (min (↑(ByteArray.size s) : Int) (IntKind.wrap IntKind.i64 (a + (2000 : Int)))))) ≤
 (9223372036854775807 : Nat) ∧
 (((rdA (ByteArray.extract s (Int.toNat a) (Int.toNat (min (↑(ByteArray.size s) : Int) (IntKind.wrap IntKind.i64 (a + (2000 : Int))))), (0 : Int)) m
 y).snd.snd ==
 (31 : Int)) =
 true →
 (0 : Int) = (readF (2000 : Int) s a m y).fst.fst ∧
 List.length (readF (2000 : Int) s a m y).fst.snd = (0 : Nat) ∧
 (0 : Int) = (readF (2000 : Int) s a m y).snd.fst ∧
 (31 : Int) = (readF (2000 : Int) s a m y).snd.snd.fst ∧ a = (readF (2000 : Int) s a m y).snd.snd.snd) ∧
 (((rdA (ByteArray.extract s (Int.toNat a) (Int.toNat (min (↑(ByteArray.size s) : Int) (IntKind.wrap IntKind.i64 (a + (2000 : Int))))), (0 : Int)) m
 y).snd.snd ==
 (31 : Int)) =
 false →
 (0 : Int) = (readF (2000 : Int) s a m y).fst.fst ∧
 List.length (readF (2000 : Int) s a m y).fst.snd = (0 : Nat) ∧
 (0 : Int) = (readF (2000 : Int) s a m y).snd.fst ∧
 (23 : Int) = (readF (2000 : Int) s a m y).snd.snd.fst ∧ a = (readF (2000 : Int) s a m y).snd.snd.snd))))))))
--end
theorem readP_e (s : ByteArray) (a m y : Int) : readP_t s a m y = vcG Try.prog (Gof G8m) (fun _ => none) Try.f53 [.v (.string s), .v (.int .i64 a), .v (.int .i64 m), .v (.int .i64 y)] [] (.leaf ((.tu [.ag [.v (.int .i64 (readF 2000 s a m y).1.1), .dat (.ints .i64 (readF 2000 s a m y).1.2)], .v (.int .i64 (readF 2000 s a m y).2.1), .ag [.v (.int .i64 (readF 2000 s a m y).2.2.1), .v (.int .i64 (readF 2000 s a m y).2.2.2)]])) ([])) := by kernel_rfl
def readR_t (s : ByteArray) (a m y : Int) : Prop :=
 (decide (a < (0 : Int)) = true →
 (0 : Int) = (readF (600 : Int) s a m y).fst.fst ∧
 List.length (readF (600 : Int) s a m y).fst.snd = (0 : Nat) ∧
 (0 : Int) = (readF (600 : Int) s a m y).snd.fst ∧ (2 : Int) = (readF (600 : Int) s a m y).snd.snd.fst ∧ (0 : Int) = (readF (600 : Int) s a m y).snd.snd.snd) ∧
 (decide (a < (0 : Int)) = false →
 (decide (a > (↑(ByteArray.size s) : Int)) = true →
 (0 : Int) = (readF (600 : Int) s a m y).fst.fst ∧
 List.length (readF (600 : Int) s a m y).fst.snd = (0 : Nat) ∧
 (0 : Int) = (readF (600 : Int) s a m y).snd.fst ∧ (2 : Int) = (readF (600 : Int) s a m y).snd.snd.fst ∧ (0 : Int) = (readF (600 : Int) s a m y).snd.snd.snd) ∧
 (decide (a > (↑(ByteArray.size s) : Int)) = false →
 (decide (m < (5 : Int)) = true →
 (0 : Int) = (readF (600 : Int) s a m y).fst.fst ∧
 List.length (readF (600 : Int) s a m y).fst.snd = (0 : Nat) ∧
 (0 : Int) = (readF (600 : Int) s a m y).snd.fst ∧ (2 : Int) = (readF (600 : Int) s a m y).snd.snd.fst ∧ (0 : Int) = (readF (600 : Int) s a m y).snd.snd.snd) ∧
 (decide (m < (5 : Int)) = false →
 (decide (m > (12 : Int)) = true →
 (0 : Int) = (readF (600 : Int) s a m y).fst.fst ∧
 List.length (readF (600 : Int) s a m y).fst.snd = (0 : Nat) ∧
 (0 : Int) = (readF (600 : Int) s a m y).snd.fst ∧ (2 : Int) = (readF (600 : Int) s a m y).snd.snd.fst ∧ (0 : Int) = (readF (600 : Int) s a m y).snd.snd.snd) ∧
 (decide (m > (12 : Int)) = false →
 (decide (y < (1 : Int)) = true →
 (0 : Int) = (readF (600 : Int) s a m y).fst.fst ∧
 List.length (readF (600 : Int) s a m y).fst.snd = (0 : Nat) ∧
 (0 : Int) = (readF (600 : Int) s a m y).snd.fst ∧ (2 : Int) = (readF (600 : Int) s a m y).snd.snd.fst ∧ (0 : Int) = (readF (600 : Int) s a m y).snd.snd.snd) ∧
 (decide (y < (1 : Int)) = false →
 (decide (y > (256 : Int)) = true →
 (0 : Int) = (readF (600 : Int) s a m y).fst.fst ∧
 List.length (readF (600 : Int) s a m y).fst.snd = (0 : Nat) ∧
 (0 : Int) = (readF (600 : Int) s a m y).snd.fst ∧ (2 : Int) = (readF (600 : Int) s a m y).snd.snd.fst ∧ (0 : Int) = (readF (600 : Int) s a m y).snd.snd.snd) ∧
 (decide (y > (256 : Int)) = false →
 (0 : Int) ≤ a ∧
 a ≤ min (↑(ByteArray.size s) : Int) (IntKind.wrap IntKind.i64 (a + (600 : Int))) ∧
 min (↑(ByteArray.size s) : Int) (IntKind.wrap IntKind.i64 (a + (600 : Int))) ≤ (↑(ByteArray.size s) : Int) ∧
 ((takeT (ByteArray.extract s (Int.toNat a) (Int.toNat (min (↑(ByteArray.size s) : Int) (IntKind.wrap IntKind.i64 (a + (600 : Int))))), (0 : Int)) (4 : Int)).snd.snd =
 (0 : Int) →
 ByteArray.size (ByteArray.extract s (Int.toNat a) (Int.toNat (min (↑(ByteArray.size s) : Int) (IntKind.wrap IntKind.i64 (a + (600 : Int)))))) ≤
 (9223372036854775807 : Nat) ∧
 (((0 : Int) == (0 : Int)) = true →
 (decide
 (IntKind.wrap IntKind.i64
 ((5 : Int) +
 (takeT (ByteArray.extract s (Int.toNat a) (Int.toNat (min (↑(ByteArray.size s) : Int) (IntKind.wrap IntKind.i64 (a + (600 : Int))))), (0 : Int))
 (4 : Int)).snd.fst) >
 m) =
 true →
 (((31 : Int) == (0 : Int)) = true →
 (0 : Int) ≤
 IntKind.wrap IntKind.u64
 (IntKind.wrap IntKind.i64
 ((5 : Int) +
 (takeT
 (ByteArray.extract s (Int.toNat a) (Int.toNat (min (↑(ByteArray.size s) : Int) (IntKind.wrap IntKind.i64 (a + (600 : Int))))),
 (0 : Int))
 (4 : Int)).snd.fst)) ∧
 False ∧
 False ∧
 (((31 : Int) != (0 : Int)) = true →
 (0 : Int) = (readF (600 : Int) s a m y).fst.fst ∧
 List.length (readF (600 : Int) s a m y).fst.snd = (0 : Nat) ∧
 (0 : Int) = (readF (600 : Int) s a m y).snd.fst ∧
 (31 : Int) = (readF (600 : Int) s a m y).snd.snd.fst ∧ a = (readF (600 : Int) s a m y).snd.snd.snd) ∧
 (((31 : Int) != (0 : Int)) = false →
 ByteArray.size
 (takeT
 (ByteArray.extract s (Int.toNat a) (Int.toNat (min (↑(ByteArray.size s) : Int) (IntKind.wrap IntKind.i64 (a + (600 : Int))))),
 (0 : Int))
 (4 : Int)).fst.fst ≤
 (9223372036854775807 : Nat) ∧
 IntKind.wrap IntKind.i64
 ((5 : Int) +
 (takeT
 (ByteArray.extract s (Int.toNat a) (Int.toNat (min (↑(ByteArray.size s) : Int) (IntKind.wrap IntKind.i64 (a + (600 : Int))))),
 (0 : Int))
 (4 : Int)).snd.fst) =
 (readF (600 : Int) s a m y).fst.fst ∧
 List.length (readF (600 : Int) s a m y).fst.snd = (0 : Nat) ∧
 IntKind.wrap IntKind.i64
 (a +
 (nextT
 ((takeT
 (ByteArray.extract s (Int.toNat a)
 (Int.toNat (min (↑(ByteArray.size s) : Int) (IntKind.wrap IntKind.i64 (a + (600 : Int))))),
 (0 : Int))
 (4 : Int)).fst.fst,
 (takeT
 (ByteArray.extract s (Int.toNat a)
 (Int.toNat (min (↑(ByteArray.size s) : Int) (IntKind.wrap IntKind.i64 (a + (600 : Int))))),
 (0 : Int))
 (4 : Int)).fst.snd)).fst) =
 (readF (600 : Int) s a m y).snd.fst ∧
 (0 : Int) = (readF (600 : Int) s a m y).snd.snd.fst ∧ (0 : Int) = (readF (600 : Int) s a m y).snd.snd.snd)) ∧
 (((31 : Int) == (0 : Int)) = false →
 (((31 : Int) != (0 : Int)) = true →
 (0 : Int) = (readF (600 : Int) s a m y).fst.fst ∧
 List.length (readF (600 : Int) s a m y).fst.snd = (0 : Nat) ∧
 (0 : Int) = (readF (600 : Int) s a m y).snd.fst ∧
 (31 : Int) = (readF (600 : Int) s a m y).snd.snd.fst ∧ a = (readF (600 : Int) s a m y).snd.snd.snd) ∧
 (((31 : Int) != (0 : Int)) = false →
 ByteArray.size
 (takeT
 (ByteArray.extract s (Int.toNat a) (Int.toNat (min (↑(ByteArray.size s) : Int) (IntKind.wrap IntKind.i64 (a + (600 : Int))))),
 (0 : Int))
 (4 : Int)).fst.fst ≤
 (9223372036854775807 : Nat) ∧
 IntKind.wrap IntKind.i64
 ((5 : Int) +
 (takeT
 (ByteArray.extract s (Int.toNat a) (Int.toNat (min (↑(ByteArray.size s) : Int) (IntKind.wrap IntKind.i64 (a + (600 : Int))))),
 (0 : Int))
 (4 : Int)).snd.fst) =
 (readF (600 : Int) s a m y).fst.fst ∧
 List.length (readF (600 : Int) s a m y).fst.snd = (0 : Nat) ∧
 IntKind.wrap IntKind.i64
 (a +
 (nextT
 ((takeT
 (ByteArray.extract s (Int.toNat a)
 (Int.toNat (min (↑(ByteArray.size s) : Int) (IntKind.wrap IntKind.i64 (a + (600 : Int))))),
 (0 : Int))
 (4 : Int)).fst.fst,
 (takeT
 (ByteArray.extract s (Int.toNat a)
 (Int.toNat (min (↑(ByteArray.size s) : Int) (IntKind.wrap IntKind.i64 (a + (600 : Int))))),
 (0 : Int))
 (4 : Int)).fst.snd)).fst) =
 (readF (600 : Int) s a m y).snd.fst ∧
 (0 : Int) = (readF (600 : Int) s a m y).snd.snd.fst ∧ (0 : Int) = (readF (600 : Int) s a m y).snd.snd.snd))) ∧
 (decide
 (IntKind.wrap IntKind.i64
 ((5 : Int) +
 (takeT (ByteArray.extract s (Int.toNat a) (Int.toNat (min (↑(ByteArray.size s) : Int) (IntKind.wrap IntKind.i64 (a + (600 : Int))))), (0 : Int))
 (4 : Int)).snd.fst) >
 m) =
 false →
 (((0 : Int) == (0 : Int)) = true →
 (0 : Int) ≤
 IntKind.wrap IntKind.u64
 (IntKind.wrap IntKind.i64
 ((5 : Int) +
 (takeT
 (ByteArray.extract s (Int.toNat a) (Int.toNat (min (↑(ByteArray.size s) : Int) (IntKind.wrap IntKind.i64 (a + (600 : Int))))),
 (0 : Int))
 (4 : Int)).snd.fst)) ∧
 ((rdR y (Int.toNat y + (1 : Nat))
 ((takeT
 (ByteArray.extract s (Int.toNat a) (Int.toNat (min (↑(ByteArray.size s) : Int) (IntKind.wrap IntKind.i64 (a + (600 : Int))))),
 (0 : Int))
 (4 : Int)).fst.fst,
 (takeT
 (ByteArray.extract s (Int.toNat a) (Int.toNat (min (↑(ByteArray.size s) : Int) (IntKind.wrap IntKind.i64 (a + (600 : Int))))),
 (0 : Int))
 (4 : Int)).fst.snd)
 (IntKind.wrap IntKind.i64
 ((1 : Int) *
 (2 : Int) ^
 min
 (Int.toNat
 (IntKind.wrap IntKind.u64
 (IntKind.wrap IntKind.i64
 ((5 : Int) +
 (takeT
 (ByteArray.extract s (Int.toNat a)
 (Int.toNat (min (↑(ByteArray.size s) : Int) (IntKind.wrap IntKind.i64 (a + (600 : Int))))),
 (0 : Int))
 (4 : Int)).snd.fst))))
 (IntKind.bits IntKind.i64)))
 []).snd.snd =
 (0 : Int) →
 ByteArray.size
 (takeT
 (ByteArray.extract s (Int.toNat a) (Int.toNat (min (↑(ByteArray.size s) : Int) (IntKind.wrap IntKind.i64 (a + (600 : Int))))),
 (0 : Int))
 (4 : Int)).fst.fst ≤
 (9223372036854775807 : Nat) ∧
 (0 : Int) ≤
 IntKind.wrap IntKind.i64
 ((1 : Int) *
 (2 : Int) ^
 min
 (Int.toNat
 (IntKind.wrap IntKind.u64
 (IntKind.wrap IntKind.i64
 ((5 : Int) +
 (takeT
 (ByteArray.extract s (Int.toNat a)
 (Int.toNat (min (↑(ByteArray.size s) : Int) (IntKind.wrap IntKind.i64 (a + (600 : Int))))),
 (0 : Int))
 (4 : Int)).snd.fst))))
 (IntKind.bits IntKind.i64)) ∧
 IntKind.wrap IntKind.i64
 ((1 : Int) *
 (2 : Int) ^
 min
 (Int.toNat
 (IntKind.wrap IntKind.u64
 (IntKind.wrap IntKind.i64
 ((5 : Int) +
 (takeT
 (ByteArray.extract s (Int.toNat a)
 (Int.toNat (min (↑(ByteArray.size s) : Int) (IntKind.wrap IntKind.i64 (a + (600 : Int))))),
 (0 : Int))
 (4 : Int)).snd.fst))))
 (IntKind.bits IntKind.i64)) ≤
 (4096 : Int) ∧
 (1 : Int) ≤ y ∧
 y ≤ (256 : Int) ∧
 (0 : Int) ≤
 (takeT
 (ByteArray.extract s (Int.toNat a) (Int.toNat (min (↑(ByteArray.size s) : Int) (IntKind.wrap IntKind.i64 (a + (600 : Int))))),
 (0 : Int))
 (4 : Int)).fst.snd ∧
 (takeT
 (ByteArray.extract s (Int.toNat a)
 (Int.toNat (min (↑(ByteArray.size s) : Int) (IntKind.wrap IntKind.i64 (a + (600 : Int))))),
 (0 : Int))
 (4 : Int)).fst.snd ≤
 (8388608 : Int) ∧
 (((0 : Int) != (0 : Int)) = true →
 (0 : Int) = (readF (600 : Int) s a m y).fst.fst ∧
 List.length (readF (600 : Int) s a m y).fst.snd = (0 : Nat) ∧
 (0 : Int) = (readF (600 : Int) s a m y).snd.fst ∧
 (0 : Int) = (readF (600 : Int) s a m y).snd.snd.fst ∧ a = (readF (600 : Int) s a m y).snd.snd.snd) ∧
 (((0 : Int) != (0 : Int)) = false →
 ByteArray.size
 (rdR y (Int.toNat y + (1 : Nat))
 ((takeT
 (ByteArray.extract s (Int.toNat a)
 (Int.toNat (min (↑(ByteArray.size s) : Int) (IntKind.wrap IntKind.i64 (a + (600 : Int))))),
 (0 : Int))
 (4 : Int)).fst.fst,
 (takeT
 (ByteArray.extract s (Int.toNat a)
 (Int.toNat (min (↑(ByteArray.size s) : Int) (IntKind.wrap IntKind.i64 (a + (600 : Int))))),
 (0 : Int))
 (4 : Int)).fst.snd)
 (IntKind.wrap IntKind.i64
 ((1 : Int) *
 (2 : Int) ^
 min
 (Int.toNat
 (IntKind.wrap IntKind.u64
 (IntKind.wrap IntKind.i64
 ((5 : Int) +
 (takeT
 (ByteArray.extract s (Int.toNat a)
 (Int.toNat
 (min (↑(ByteArray.size s) : Int) (IntKind.wrap IntKind.i64 (a + (600 : Int))))),
 (0 : Int))
 (4 : Int)).snd.fst))))
 (IntKind.bits IntKind.i64)))
 []).fst.fst ≤
 (9223372036854775807 : Nat) ∧
 IntKind.wrap IntKind.i64
 ((5 : Int) +
 (takeT
 (ByteArray.extract s (Int.toNat a)
 (Int.toNat (min (↑(ByteArray.size s) : Int) (IntKind.wrap IntKind.i64 (a + (600 : Int))))),
 (0 : Int))
 (4 : Int)).snd.fst) =
 (readF (600 : Int) s a m y).fst.fst ∧
 (rdR y (Int.toNat y + (1 : Nat))
 ((takeT
 (ByteArray.extract s (Int.toNat a)
 (Int.toNat (min (↑(ByteArray.size s) : Int) (IntKind.wrap IntKind.i64 (a + (600 : Int))))),
 (0 : Int))
 (4 : Int)).fst.fst,
 (takeT
 (ByteArray.extract s (Int.toNat a)
 (Int.toNat (min (↑(ByteArray.size s) : Int) (IntKind.wrap IntKind.i64 (a + (600 : Int))))),
 (0 : Int))
 (4 : Int)).fst.snd)
 (IntKind.wrap IntKind.i64
 ((1 : Int) *
 (2 : Int) ^
 min
 (Int.toNat
 (IntKind.wrap IntKind.u64
 (IntKind.wrap IntKind.i64
 ((5 : Int) +
 (takeT
 (ByteArray.extract s (Int.toNat a)
 (Int.toNat
 (min (↑(ByteArray.size s) : Int) (IntKind.wrap IntKind.i64 (a + (600 : Int))))),
 (0 : Int))
 (4 : Int)).snd.fst))))
 (IntKind.bits IntKind.i64)))
 []).snd.fst =
 (readF (600 : Int) s a m y).fst.snd ∧
 IntKind.wrap IntKind.i64
 (a +
 (nextT
 ((rdR y (Int.toNat y + (1 : Nat))
 ((takeT
 (ByteArray.extract s (Int.toNat a)
 (Int.toNat
 (min (↑(ByteArray.size s) : Int) (IntKind.wrap IntKind.i64 (a + (600 : Int))))),
 (0 : Int))
 (4 : Int)).fst.fst,
 (takeT
 (ByteArray.extract s (Int.toNat a)
 (Int.toNat
 (min (↑(ByteArray.size s) : Int) (IntKind.wrap IntKind.i64 (a + (600 : Int))))),
 (0 : Int))
 (4 : Int)).fst.snd)
 (IntKind.wrap IntKind.i64
 ((1 : Int) *
 (2 : Int) ^
 min
 (Int.toNat
 (IntKind.wrap IntKind.u64
 (IntKind.wrap IntKind.i64
 ((5 : Int) +
 (takeT
 (ByteArray.extract s (Int.toNat a)
 (Int.toNat
 (min (↑(ByteArray.size s) : Int)
 (IntKind.wrap IntKind.i64 (a + (600 : Int))))),
 (0 : Int))
 (4 : Int)).snd.fst))))
 (IntKind.bits IntKind.i64)))
 []).fst.fst,
 (rdR y (Int.toNat y + (1 : Nat))
 ((takeT
 (ByteArray.extract s (Int.toNat a)
 (Int.toNat
 (min (↑(ByteArray.size s) : Int) (IntKind.wrap IntKind.i64 (a + (600 : Int))))),
 (0 : Int))
 (4 : Int)).fst.fst,
 (takeT
 (ByteArray.extract s (Int.toNat a)
 (Int.toNat
 (min (↑(ByteArray.size s) : Int) (IntKind.wrap IntKind.i64 (a + (600 : Int))))),
 (0 : Int))
 (4 : Int)).fst.snd)
 (IntKind.wrap IntKind.i64
 ((1 : Int) *
 (2 : Int) ^
 min
 (Int.toNat
 (IntKind.wrap IntKind.u64
 (IntKind.wrap IntKind.i64
 ((5 : Int) +
 (takeT
 (ByteArray.extract s (Int.toNat a)
 (Int.toNat
 (min (↑(ByteArray.size s) : Int)
 (IntKind.wrap IntKind.i64 (a + (600 : Int))))),
 (0 : Int))
 (4 : Int)).snd.fst))))
 (IntKind.bits IntKind.i64)))
 []).fst.snd)).fst) =
 (readF (600 : Int) s a m y).snd.fst ∧
 (0 : Int) = (readF (600 : Int) s a m y).snd.snd.fst ∧ (0 : Int) = (readF (600 : Int) s a m y).snd.snd.snd)) ∧
 (¬(rdR y (Int.toNat y + (1 : Nat))
 ((takeT
 (ByteArray.extract s (Int.toNat a) (Int.toNat (min (↑(ByteArray.size s) : Int) (IntKind.wrap IntKind.i64 (a + (600 : Int))))),
 (0 : Int))
 (4 : Int)).fst.fst,
 (takeT
 (ByteArray.extract s (Int.toNat a) (Int.toNat (min (↑(ByteArray.size s) : Int) (IntKind.wrap IntKind.i64 (a + (600 : Int))))),
 (0 : Int))
 (4 : Int)).fst.snd)
 (IntKind.wrap IntKind.i64
 ((1 : Int) *
 (2 : Int) ^
 min
 (Int.toNat
 (IntKind.wrap IntKind.u64
 (IntKind.wrap IntKind.i64
 ((5 : Int) +
 (takeT
 (ByteArray.extract s (Int.toNat a)
 (Int.toNat (min (↑(ByteArray.size s) : Int) (IntKind.wrap IntKind.i64 (a + (600 : Int))))),
 (0 : Int))
 (4 : Int)).snd.fst))))
 (IntKind.bits IntKind.i64)))
 []).snd.snd =
 (0 : Int) →
 ByteArray.size
 (takeT
 (ByteArray.extract s (Int.toNat a) (Int.toNat (min (↑(ByteArray.size s) : Int) (IntKind.wrap IntKind.i64 (a + (600 : Int))))),
 (0 : Int))
 (4 : Int)).fst.fst ≤
 (9223372036854775807 : Nat) ∧
 (0 : Int) ≤
 IntKind.wrap IntKind.i64
 ((1 : Int) *
 (2 : Int) ^
 min
 (Int.toNat
 (IntKind.wrap IntKind.u64
 (IntKind.wrap IntKind.i64
 ((5 : Int) +
 (takeT
 (ByteArray.extract s (Int.toNat a)
 (Int.toNat (min (↑(ByteArray.size s) : Int) (IntKind.wrap IntKind.i64 (a + (600 : Int))))),
 (0 : Int))
 (4 : Int)).snd.fst))))
 (IntKind.bits IntKind.i64)) ∧
 IntKind.wrap IntKind.i64
 ((1 : Int) *
 (2 : Int) ^
 min
 (Int.toNat
 (IntKind.wrap IntKind.u64
 (IntKind.wrap IntKind.i64
 ((5 : Int) +
 (takeT
 (ByteArray.extract s (Int.toNat a)
 (Int.toNat (min (↑(ByteArray.size s) : Int) (IntKind.wrap IntKind.i64 (a + (600 : Int))))),
 (0 : Int))
 (4 : Int)).snd.fst))))
 (IntKind.bits IntKind.i64)) ≤
 (4096 : Int) ∧
 (1 : Int) ≤ y ∧
 y ≤ (256 : Int) ∧
 (0 : Int) ≤
 (takeT
 (ByteArray.extract s (Int.toNat a) (Int.toNat (min (↑(ByteArray.size s) : Int) (IntKind.wrap IntKind.i64 (a + (600 : Int))))),
 (0 : Int))
 (4 : Int)).fst.snd ∧
 (takeT
 (ByteArray.extract s (Int.toNat a)
 (Int.toNat (min (↑(ByteArray.size s) : Int) (IntKind.wrap IntKind.i64 (a + (600 : Int))))),
 (0 : Int))
 (4 : Int)).fst.snd ≤
 (8388608 : Int) ∧
 (((23 : Int) != (0 : Int)) = true →
 (0 : Int) = (readF (600 : Int) s a m y).fst.fst ∧
 List.length (readF (600 : Int) s a m y).fst.snd = (0 : Nat) ∧
 (0 : Int) = (readF (600 : Int) s a m y).snd.fst ∧
 (23 : Int) = (readF (600 : Int) s a m y).snd.snd.fst ∧ a = (readF (600 : Int) s a m y).snd.snd.snd) ∧
 (((23 : Int) != (0 : Int)) = false →
 False ∧
 False ∧
 False ∧
 False ∧
 IntKind.wrap IntKind.i64
 ((5 : Int) +
 (takeT
 (ByteArray.extract s (Int.toNat a)
 (Int.toNat (min (↑(ByteArray.size s) : Int) (IntKind.wrap IntKind.i64 (a + (600 : Int))))),
 (0 : Int))
 (4 : Int)).snd.fst) =
 (readF (600 : Int) s a m y).fst.fst ∧
 [] = (readF (600 : Int) s a m y).fst.snd ∧
 False ∧
 (0 : Int) = (readF (600 : Int) s a m y).snd.snd.fst ∧ (0 : Int) = (readF (600 : Int) s a m y).snd.snd.snd))) ∧
 (((0 : Int) == (0 : Int)) = false →
 (((0 : Int) != (0 : Int)) = true →
 (0 : Int) = (readF (600 : Int) s a m y).fst.fst ∧
 List.length (readF (600 : Int) s a m y).fst.snd = (0 : Nat) ∧
 (0 : Int) = (readF (600 : Int) s a m y).snd.fst ∧
 (0 : Int) = (readF (600 : Int) s a m y).snd.snd.fst ∧ a = (readF (600 : Int) s a m y).snd.snd.snd) ∧
 (((0 : Int) != (0 : Int)) = false →
 ByteArray.size
 (takeT
 (ByteArray.extract s (Int.toNat a) (Int.toNat (min (↑(ByteArray.size s) : Int) (IntKind.wrap IntKind.i64 (a + (600 : Int))))),
 (0 : Int))
 (4 : Int)).fst.fst ≤
 (9223372036854775807 : Nat) ∧
 IntKind.wrap IntKind.i64
 ((5 : Int) +
 (takeT
 (ByteArray.extract s (Int.toNat a) (Int.toNat (min (↑(ByteArray.size s) : Int) (IntKind.wrap IntKind.i64 (a + (600 : Int))))),
 (0 : Int))
 (4 : Int)).snd.fst) =
 (readF (600 : Int) s a m y).fst.fst ∧
 List.length (readF (600 : Int) s a m y).fst.snd = (0 : Nat) ∧
 IntKind.wrap IntKind.i64
 (a +
 (nextT
 ((takeT
 (ByteArray.extract s (Int.toNat a)
 (Int.toNat (min (↑(ByteArray.size s) : Int) (IntKind.wrap IntKind.i64 (a + (600 : Int))))),
 (0 : Int))
 (4 : Int)).fst.fst,
 (takeT
 (ByteArray.extract s (Int.toNat a)
 (Int.toNat (min (↑(ByteArray.size s) : Int) (IntKind.wrap IntKind.i64 (a + (600 : Int))))),
 (0 : Int))
 (4 : Int)).fst.snd)).fst) =
 (readF (600 : Int) s a m y).snd.fst ∧
 (0 : Int) = (readF (600 : Int) s a m y).snd.snd.fst ∧ (0 : Int) = (readF (600 : Int) s a m y).snd.snd.snd)))) ∧
 (((0 : Int) == (0 : Int)) = false →
 (((0 : Int) == (0 : Int)) = true →
 (0 : Int) ≤
 IntKind.wrap IntKind.u64
 (IntKind.wrap IntKind.i64
 ((5 : Int) +
 (takeT (ByteArray.extract s (Int.toNat a) (Int.toNat (min (↑(ByteArray.size s) : Int) (IntKind.wrap IntKind.i64 (a + (600 : Int))))), (0 : Int))
 (4 : Int)).snd.fst)) ∧
 ((rdR y (Int.toNat y + (1 : Nat))
 ((takeT
 (ByteArray.extract s (Int.toNat a) (Int.toNat (min (↑(ByteArray.size s) : Int) (IntKind.wrap IntKind.i64 (a + (600 : Int))))),
 (0 : Int))
 (4 : Int)).fst.fst,
 (takeT
 (ByteArray.extract s (Int.toNat a) (Int.toNat (min (↑(ByteArray.size s) : Int) (IntKind.wrap IntKind.i64 (a + (600 : Int))))),
 (0 : Int))
 (4 : Int)).fst.snd)
 (IntKind.wrap IntKind.i64
 ((1 : Int) *
 (2 : Int) ^
 min
 (Int.toNat
 (IntKind.wrap IntKind.u64
 (IntKind.wrap IntKind.i64
 ((5 : Int) +
 (takeT
 (ByteArray.extract s (Int.toNat a)
 (Int.toNat (min (↑(ByteArray.size s) : Int) (IntKind.wrap IntKind.i64 (a + (600 : Int))))),
 (0 : Int))
 (4 : Int)).snd.fst))))
 (IntKind.bits IntKind.i64)))
 []).snd.snd =
 (0 : Int) →
 ByteArray.size
 (takeT (ByteArray.extract s (Int.toNat a) (Int.toNat (min (↑(ByteArray.size s) : Int) (IntKind.wrap IntKind.i64 (a + (600 : Int))))), (0 : Int))
 (4 : Int)).fst.fst ≤
 (9223372036854775807 : Nat) ∧
 (0 : Int) ≤
 IntKind.wrap IntKind.i64
 ((1 : Int) *
 (2 : Int) ^
 min
 (Int.toNat
 (IntKind.wrap IntKind.u64
 (IntKind.wrap IntKind.i64
 ((5 : Int) +
 (takeT
 (ByteArray.extract s (Int.toNat a)
 (Int.toNat (min (↑(ByteArray.size s) : Int) (IntKind.wrap IntKind.i64 (a + (600 : Int))))),
 (0 : Int))
 (4 : Int)).snd.fst))))
 (IntKind.bits IntKind.i64)) ∧
 IntKind.wrap IntKind.i64
 ((1 : Int) *
 (2 : Int) ^
 min
 (Int.toNat
 (IntKind.wrap IntKind.u64
 (IntKind.wrap IntKind.i64
 ((5 : Int) +
 (takeT
 (ByteArray.extract s (Int.toNat a)
 (Int.toNat (min (↑(ByteArray.size s) : Int) (IntKind.wrap IntKind.i64 (a + (600 : Int))))),
 (0 : Int))
 (4 : Int)).snd.fst))))
 (IntKind.bits IntKind.i64)) ≤
 (4096 : Int) ∧
 (1 : Int) ≤ y ∧
 y ≤ (256 : Int) ∧
 (0 : Int) ≤
 (takeT
 (ByteArray.extract s (Int.toNat a) (Int.toNat (min (↑(ByteArray.size s) : Int) (IntKind.wrap IntKind.i64 (a + (600 : Int))))),
 (0 : Int))
 (4 : Int)).fst.snd ∧
 (takeT
 (ByteArray.extract s (Int.toNat a) (Int.toNat (min (↑(ByteArray.size s) : Int) (IntKind.wrap IntKind.i64 (a + (600 : Int))))),
 (0 : Int))
 (4 : Int)).fst.snd ≤
 (8388608 : Int) ∧
 (((0 : Int) != (0 : Int)) = true →
 (0 : Int) = (readF (600 : Int) s a m y).fst.fst ∧
 List.length (readF (600 : Int) s a m y).fst.snd = (0 : Nat) ∧
 (0 : Int) = (readF (600 : Int) s a m y).snd.fst ∧
 (0 : Int) = (readF (600 : Int) s a m y).snd.snd.fst ∧ a = (readF (600 : Int) s a m y).snd.snd.snd) ∧
 (((0 : Int) != (0 : Int)) = false →
 ByteArray.size
 (rdR y (Int.toNat y + (1 : Nat))
 ((takeT
 (ByteArray.extract s (Int.toNat a)
 (Int.toNat (min (↑(ByteArray.size s) : Int) (IntKind.wrap IntKind.i64 (a + (600 : Int))))),
 (0 : Int))
 (4 : Int)).fst.fst,
 (takeT
 (ByteArray.extract s (Int.toNat a)
 (Int.toNat (min (↑(ByteArray.size s) : Int) (IntKind.wrap IntKind.i64 (a + (600 : Int))))),
 (0 : Int))
 (4 : Int)).fst.snd)
 (IntKind.wrap IntKind.i64
 ((1 : Int) *
 (2 : Int) ^
 min
 (Int.toNat
 (IntKind.wrap IntKind.u64
 (IntKind.wrap IntKind.i64
 ((5 : Int) +
 (takeT
 (ByteArray.extract s (Int.toNat a)
 (Int.toNat (min (↑(ByteArray.size s) : Int) (IntKind.wrap IntKind.i64 (a + (600 : Int))))),
 (0 : Int))
 (4 : Int)).snd.fst))))
 (IntKind.bits IntKind.i64)))
 []).fst.fst ≤
 (9223372036854775807 : Nat) ∧
 IntKind.wrap IntKind.i64
 ((5 : Int) +
 (takeT
 (ByteArray.extract s (Int.toNat a)
 (Int.toNat (min (↑(ByteArray.size s) : Int) (IntKind.wrap IntKind.i64 (a + (600 : Int))))),
 (0 : Int))
 (4 : Int)).snd.fst) =
 (readF (600 : Int) s a m y).fst.fst ∧
 (rdR y (Int.toNat y + (1 : Nat))
 ((takeT
 (ByteArray.extract s (Int.toNat a)
 (Int.toNat (min (↑(ByteArray.size s) : Int) (IntKind.wrap IntKind.i64 (a + (600 : Int))))),
 (0 : Int))
 (4 : Int)).fst.fst,
 (takeT
 (ByteArray.extract s (Int.toNat a)
 (Int.toNat (min (↑(ByteArray.size s) : Int) (IntKind.wrap IntKind.i64 (a + (600 : Int))))),
 (0 : Int))
 (4 : Int)).fst.snd)
 (IntKind.wrap IntKind.i64
 ((1 : Int) *
 (2 : Int) ^
 min
 (Int.toNat
 (IntKind.wrap IntKind.u64
 (IntKind.wrap IntKind.i64
 ((5 : Int) +
 (takeT
 (ByteArray.extract s (Int.toNat a)
 (Int.toNat (min (↑(ByteArray.size s) : Int) (IntKind.wrap IntKind.i64 (a + (600 : Int))))),
 (0 : Int))
 (4 : Int)).snd.fst))))
 (IntKind.bits IntKind.i64)))
 []).snd.fst =
 (readF (600 : Int) s a m y).fst.snd ∧
 IntKind.wrap IntKind.i64
 (a +
 (nextT
 ((rdR y (Int.toNat y + (1 : Nat))
 ((takeT
 (ByteArray.extract s (Int.toNat a)
 (Int.toNat (min (↑(ByteArray.size s) : Int) (IntKind.wrap IntKind.i64 (a + (600 : Int))))),
 (0 : Int))
 (4 : Int)).fst.fst,
 (takeT
 (ByteArray.extract s (Int.toNat a)
 (Int.toNat (min (↑(ByteArray.size s) : Int) (IntKind.wrap IntKind.i64 (a + (600 : Int))))),
 (0 : Int))
 (4 : Int)).fst.snd)
 (IntKind.wrap IntKind.i64
 ((1 : Int) *
 (2 : Int) ^
 min
 (Int.toNat
 (IntKind.wrap IntKind.u64
 (IntKind.wrap IntKind.i64
 ((5 : Int) +
 (takeT
 (ByteArray.extract s (Int.toNat a)
 (Int.toNat
 (min (↑(ByteArray.size s) : Int)
 (IntKind.wrap IntKind.i64 (a + (600 : Int))))),
 (0 : Int))
 (4 : Int)).snd.fst))))
 (IntKind.bits IntKind.i64)))
 []).fst.fst,
 (rdR y (Int.toNat y + (1 : Nat))
 ((takeT
 (ByteArray.extract s (Int.toNat a)
 (Int.toNat (min (↑(ByteArray.size s) : Int) (IntKind.wrap IntKind.i64 (a + (600 : Int))))),
 (0 : Int))
 (4 : Int)).fst.fst,
 (takeT
 (ByteArray.extract s (Int.toNat a)
 (Int.toNat (min (↑(ByteArray.size s) : Int) (IntKind.wrap IntKind.i64 (a + (600 : Int))))),
 (0 : Int))
 (4 : Int)).fst.snd)
 (IntKind.wrap IntKind.i64
 ((1 : Int) *
 (2 : Int) ^
 min
 (Int.toNat
 (IntKind.wrap IntKind.u64
 (IntKind.wrap IntKind.i64
 ((5 : Int) +
 (takeT
 (ByteArray.extract s (Int.toNat a)
 (Int.toNat
 (min (↑(ByteArray.size s) : Int)
 (IntKind.wrap IntKind.i64 (a + (600 : Int))))),
 (0 : Int))
 (4 : Int)).snd.fst))))
 (IntKind.bits IntKind.i64)))
 []).fst.snd)).fst) =
 (readF (600 : Int) s a m y).snd.fst ∧
 (0 : Int) = (readF (600 : Int) s a m y).snd.snd.fst ∧ (0 : Int) = (readF (600 : Int) s a m y).snd.snd.snd)) ∧
 (¬(rdR y (Int.toNat y + (1 : Nat))
 ((takeT
 (ByteArray.extract s (Int.toNat a) (Int.toNat (min (↑(ByteArray.size s) : Int) (IntKind.wrap IntKind.i64 (a + (600 : Int))))),
 (0 : Int))
 (4 : Int)).fst.fst,
 (takeT
 (ByteArray.extract s (Int.toNat a) (Int.toNat (min (↑(ByteArray.size s) : Int) (IntKind.wrap IntKind.i64 (a + (600 : Int))))),
 (0 : Int))
 (4 : Int)).fst.snd)
 (IntKind.wrap IntKind.i64
 ((1 : Int) *
 (2 : Int) ^
 min
 (Int.toNat
 (IntKind.wrap IntKind.u64
 (IntKind.wrap IntKind.i64
 ((5 : Int) +
 (takeT
 (ByteArray.extract s (Int.toNat a)
 (Int.toNat (min (↑(ByteArray.size s) : Int) (IntKind.wrap IntKind.i64 (a + (600 : Int))))),
 (0 : Int))
 (4 : Int)).snd.fst))))
 (IntKind.bits IntKind.i64)))
 []).snd.snd =
 (0 : Int) →
 ByteArray.size
 (takeT (ByteArray.extract s (Int.toNat a) (Int.toNat (min (↑(ByteArray.size s) : Int) (IntKind.wrap IntKind.i64 (a + (600 : Int))))), (0 : Int))
 (4 : Int)).fst.fst ≤
 (9223372036854775807 : Nat) ∧
 (0 : Int) ≤
 IntKind.wrap IntKind.i64
 ((1 : Int) *
 (2 : Int) ^
 min
 (Int.toNat
 (IntKind.wrap IntKind.u64
 (IntKind.wrap IntKind.i64
 ((5 : Int) +
 (takeT
 (ByteArray.extract s (Int.toNat a)
 (Int.toNat (min (↑(ByteArray.size s) : Int) (IntKind.wrap IntKind.i64 (a + (600 : Int))))),
 (0 : Int))
 (4 : Int)).snd.fst))))
 (IntKind.bits IntKind.i64)) ∧
 IntKind.wrap IntKind.i64
 ((1 : Int) *
 (2 : Int) ^
 min
 (Int.toNat
 (IntKind.wrap IntKind.u64
 (IntKind.wrap IntKind.i64
 ((5 : Int) +
 (takeT
 (ByteArray.extract s (Int.toNat a)
 (Int.toNat (min (↑(ByteArray.size s) : Int) (IntKind.wrap IntKind.i64 (a + (600 : Int))))),
 (0 : Int))
 (4 : Int)).snd.fst))))
 (IntKind.bits IntKind.i64)) ≤
 (4096 : Int) ∧
 (1 : Int) ≤ y ∧
 y ≤ (256 : Int) ∧
 (0 : Int) ≤
 (takeT
 (ByteArray.extract s (Int.toNat a) (Int.toNat (min (↑(ByteArray.size s) : Int) (IntKind.wrap IntKind.i64 (a + (600 : Int))))),
 (0 : Int))
 (4 : Int)).fst.snd ∧
 (takeT
 (ByteArray.extract s (Int.toNat a) (Int.toNat (min (↑(ByteArray.size s) : Int) (IntKind.wrap IntKind.i64 (a + (600 : Int))))),
 (0 : Int))
 (4 : Int)).fst.snd ≤
 (8388608 : Int) ∧
 (((23 : Int) != (0 : Int)) = true →
 (0 : Int) = (readF (600 : Int) s a m y).fst.fst ∧
 List.length (readF (600 : Int) s a m y).fst.snd = (0 : Nat) ∧
 (0 : Int) = (readF (600 : Int) s a m y).snd.fst ∧
 (23 : Int) = (readF (600 : Int) s a m y).snd.snd.fst ∧ a = (readF (600 : Int) s a m y).snd.snd.snd) ∧
 (((23 : Int) != (0 : Int)) = false →
 False ∧
 False ∧
 False ∧
 False ∧
 IntKind.wrap IntKind.i64
 ((5 : Int) +
 (takeT
 (ByteArray.extract s (Int.toNat a)
 (Int.toNat (min (↑(ByteArray.size s) : Int) (IntKind.wrap IntKind.i64 (a + (600 : Int))))),
 (0 : Int))
 (4 : Int)).snd.fst) =
 (readF (600 : Int) s a m y).fst.fst ∧
 [] = (readF (600 : Int) s a m y).fst.snd ∧
 False ∧ (0 : Int) = (readF (600 : Int) s a m y).snd.snd.fst ∧ (0 : Int) = (readF (600 : Int) s a m y).snd.snd.snd))) ∧
 (((0 : Int) == (0 : Int)) = false →
 (((0 : Int) != (0 : Int)) = true →
 (0 : Int) = (readF (600 : Int) s a m y).fst.fst ∧
 List.length (readF (600 : Int) s a m y).fst.snd = (0 : Nat) ∧
 (0 : Int) = (readF (600 : Int) s a m y).snd.fst ∧
 (0 : Int) = (readF (600 : Int) s a m y).snd.snd.fst ∧ a = (readF (600 : Int) s a m y).snd.snd.snd) ∧
 (((0 : Int) != (0 : Int)) = false →
 ByteArray.size
 (takeT (ByteArray.extract s (Int.toNat a) (Int.toNat (min (↑(ByteArray.size s) : Int) (IntKind.wrap IntKind.i64 (a + (600 : Int))))), (0 : Int))
 (4 : Int)).fst.fst ≤
 (9223372036854775807 : Nat) ∧
 IntKind.wrap IntKind.i64
 ((5 : Int) +
 (takeT
 (ByteArray.extract s (Int.toNat a) (Int.toNat (min (↑(ByteArray.size s) : Int) (IntKind.wrap IntKind.i64 (a + (600 : Int))))),
 (0 : Int))
 (4 : Int)).snd.fst) =
 (readF (600 : Int) s a m y).fst.fst ∧
 List.length (readF (600 : Int) s a m y).fst.snd = (0 : Nat) ∧
 IntKind.wrap IntKind.i64
 (a +
 (nextT
 ((takeT
 (ByteArray.extract s (Int.toNat a) (Int.toNat (min (↑(ByteArray.size s) : Int) (IntKind.wrap IntKind.i64 (a + (600 : Int))))),
 (0 : Int))
 (4 : Int)).fst.fst,
 (takeT
 (ByteArray.extract s (Int.toNat a) (Int.toNat (min (↑(ByteArray.size s) : Int) (IntKind.wrap IntKind.i64 (a + (600 : Int))))),
 (0 : Int))
 (4 : Int)).fst.snd)).fst) =
 (readF (600 : Int) s a m y).snd.fst ∧
 (0 : Int) = (readF (600 : Int) s a m y).snd.snd.fst ∧ (0 : Int) = (readF (600 : Int) s a m y).snd.snd.snd)))) ∧
 (¬(takeT (ByteArray.extract s (Int.toNat a) (Int.toNat (min (↑(ByteArray.size s) : Int) (IntKind.wrap IntKind.i64 (a + (600 : Int))))), (0 : Int)) (4 : Int)).snd.snd =
 (0 : Int) →
 ByteArray.size (ByteArray.extract s (Int.toNat a) (Int.toNat (min (↑(ByteArray.size s) : Int) (IntKind.wrap IntKind.i64 (a + (600 : Int)))))) ≤
 (9223372036854775807 : Nat) ∧
 (((23 : Int) == (0 : Int)) = true →
 (decide (IntKind.wrap IntKind.i64 ((5 : Int) + (0 : Int)) > m) = true →
 (((31 : Int) == (0 : Int)) = true →
 (0 : Int) ≤ IntKind.wrap IntKind.u64 (IntKind.wrap IntKind.i64 ((5 : Int) + (0 : Int))) ∧
 False ∧
 False ∧
 (((31 : Int) != (0 : Int)) = true →
 (0 : Int) = (readF (600 : Int) s a m y).fst.fst ∧
 List.length (readF (600 : Int) s a m y).fst.snd = (0 : Nat) ∧
 (0 : Int) = (readF (600 : Int) s a m y).snd.fst ∧
 (31 : Int) = (readF (600 : Int) s a m y).snd.snd.fst ∧ a = (readF (600 : Int) s a m y).snd.snd.snd) ∧
 (((31 : Int) != (0 : Int)) = false →
 ByteArray.size
 (ByteArray.extract s (Int.toNat a) (Int.toNat (min (↑(ByteArray.size s) : Int) (IntKind.wrap IntKind.i64 (a + (600 : Int)))))) ≤
 (9223372036854775807 : Nat) ∧
 IntKind.wrap IntKind.i64 ((5 : Int) + (0 : Int)) = (readF (600 : Int) s a m y).fst.fst ∧
 List.length (readF (600 : Int) s a m y).fst.snd = (0 : Nat) ∧
 IntKind.wrap IntKind.i64
 (a +
 (nextT
 (ByteArray.extract s (Int.toNat a)
 (Int.toNat (min (↑(ByteArray.size s) : Int) (IntKind.wrap IntKind.i64 (a + (600 : Int))))),
 (0 : Int))).fst) =
 (readF (600 : Int) s a m y).snd.fst ∧
 (0 : Int) = (readF (600 : Int) s a m y).snd.snd.fst ∧ (0 : Int) = (readF (600 : Int) s a m y).snd.snd.snd)) ∧
 (((31 : Int) == (0 : Int)) = false →
 (((31 : Int) != (0 : Int)) = true →
 (0 : Int) = (readF (600 : Int) s a m y).fst.fst ∧
 List.length (readF (600 : Int) s a m y).fst.snd = (0 : Nat) ∧
 (0 : Int) = (readF (600 : Int) s a m y).snd.fst ∧
 (31 : Int) = (readF (600 : Int) s a m y).snd.snd.fst ∧ a = (readF (600 : Int) s a m y).snd.snd.snd) ∧
 (((31 : Int) != (0 : Int)) = false →
 ByteArray.size (ByteArray.extract s (Int.toNat a) (Int.toNat (min (↑(ByteArray.size s) : Int) (IntKind.wrap IntKind.i64 (a + (600 : Int)))))) ≤
 (9223372036854775807 : Nat) ∧
 IntKind.wrap IntKind.i64 ((5 : Int) + (0 : Int)) = (readF (600 : Int) s a m y).fst.fst ∧
 List.length (readF (600 : Int) s a m y).fst.snd = (0 : Nat) ∧
 IntKind.wrap IntKind.i64
 (a +
 (nextT
 (ByteArray.extract s (Int.toNat a) (Int.toNat (min (↑(ByteArray.size s) : Int) (IntKind.wrap IntKind.i64 (a + (600 : Int))))),
 (0 : Int))).fst) =
 (readF (600 : Int) s a m y).snd.fst ∧
 (0 : Int) = (readF (600 : Int) s a m y).snd.snd.fst ∧ (0 : Int) = (readF (600 : Int) s a m y).snd.snd.snd))) ∧
 (decide (IntKind.wrap IntKind.i64 ((5 : Int) + (0 : Int)) > m) = false →
 (((23 : Int) == (0 : Int)) = true →
 (0 : Int) ≤ IntKind.wrap IntKind.u64 (IntKind.wrap IntKind.i64 ((5 : Int) + (0 : Int))) ∧
 False ∧
 False ∧
 (((23 : Int) != (0 : Int)) = true →
 (0 : Int) = (readF (600 : Int) s a m y).fst.fst ∧
 List.length (readF (600 : Int) s a m y).fst.snd = (0 : Nat) ∧
 (0 : Int) = (readF (600 : Int) s a m y).snd.fst ∧
 (23 : Int) = (readF (600 : Int) s a m y).snd.snd.fst ∧ a = (readF (600 : Int) s a m y).snd.snd.snd) ∧
 (((23 : Int) != (0 : Int)) = false →
 ByteArray.size
 (ByteArray.extract s (Int.toNat a) (Int.toNat (min (↑(ByteArray.size s) : Int) (IntKind.wrap IntKind.i64 (a + (600 : Int)))))) ≤
 (9223372036854775807 : Nat) ∧
 IntKind.wrap IntKind.i64 ((5 : Int) + (0 : Int)) = (readF (600 : Int) s a m y).fst.fst ∧
 List.length (readF (600 : Int) s a m y).fst.snd = (0 : Nat) ∧
 IntKind.wrap IntKind.i64
 (a +
 (nextT
 (ByteArray.extract s (Int.toNat a)
 (Int.toNat (min (↑(ByteArray.size s) : Int) (IntKind.wrap IntKind.i64 (a + (600 : Int))))),
 (0 : Int))).fst) =
 (readF (600 : Int) s a m y).snd.fst ∧
 (0 : Int) = (readF (600 : Int) s a m y).snd.snd.fst ∧ (0 : Int) = (readF (600 : Int) s a m y).snd.snd.snd)) ∧
 (((23 : Int) == (0 : Int)) = false →
 (((23 : Int) != (0 : Int)) = true →
 (0 : Int) = (readF (600 : Int) s a m y).fst.fst ∧
 List.length (readF (600 : Int) s a m y).fst.snd = (0 : Nat) ∧
 (0 : Int) = (readF (600 : Int) s a m y).snd.fst ∧
 (23 : Int) = (readF (600 : Int) s a m y).snd.snd.fst ∧ a = (readF (600 : Int) s a m y).snd.snd.snd) ∧
 (((23 : Int) != (0 : Int)) = false →
 ByteArray.size (ByteArray.extract s (Int.toNat a) (Int.toNat (min (↑(ByteArray.size s) : Int) (IntKind.wrap IntKind.i64 (a + (600 : Int)))))) ≤
 (9223372036854775807 : Nat) ∧
 IntKind.wrap IntKind.i64 ((5 : Int) + (0 : Int)) = (readF (600 : Int) s a m y).fst.fst ∧
 List.length (readF (600 : Int) s a m y).fst.snd = (0 : Nat) ∧
 IntKind.wrap IntKind.i64
 (a +
 (nextT
 (ByteArray.extract s (Int.toNat a) (Int.toNat (min (↑(ByteArray.size s) : Int) (IntKind.wrap IntKind.i64 (a + (600 : Int))))),
 (0 : Int))).fst) =
 (readF (600 : Int) s a m y).snd.fst ∧
 (0 : Int) = (readF (600 : Int) s a m y).snd.snd.fst ∧ (0 : Int) = (readF (600 : Int) s a m y).snd.snd.snd)))) ∧
 (((23 : Int) == (0 : Int)) = false →
 (((23 : Int) == (0 : Int)) = true →
 (0 : Int) ≤ IntKind.wrap IntKind.u64 (IntKind.wrap IntKind.i64 ((5 : Int) + (0 : Int))) ∧
 False ∧
 False ∧
 (((23 : Int) != (0 : Int)) = true →
 (0 : Int) = (readF (600 : Int) s a m y).fst.fst ∧
 List.length (readF (600 : Int) s a m y).fst.snd = (0 : Nat) ∧
 (0 : Int) = (readF (600 : Int) s a m y).snd.fst ∧
 (23 : Int) = (readF (600 : Int) s a m y).snd.snd.fst ∧ a = (readF (600 : Int) s a m y).snd.snd.snd) ∧
 (((23 : Int) != (0 : Int)) = false →
 ByteArray.size (ByteArray.extract s (Int.toNat a) (Int.toNat (min (↑(ByteArray.size s) : Int) (IntKind.wrap IntKind.i64 (a + (600 : Int)))))) ≤
 (9223372036854775807 : Nat) ∧
 IntKind.wrap IntKind.i64 ((5 : Int) + (0 : Int)) = (readF (600 : Int) s a m y).fst.fst ∧
 List.length (readF (600 : Int) s a m y).fst.snd = (0 : Nat) ∧
 IntKind.wrap IntKind.i64
 (a +
 (nextT
 (ByteArray.extract s (Int.toNat a) (Int.toNat (min (↑(ByteArray.size s) : Int) (IntKind.wrap IntKind.i64 (a + (600 : Int))))),
 (0 : Int))).fst) =
 (readF (600 : Int) s a m y).snd.fst ∧
 (0 : Int) = (readF (600 : Int) s a m y).snd.snd.fst ∧ (0 : Int) = (readF (600 : Int) s a m y).snd.snd.snd)) ∧
 (((23 : Int) == (0 : Int)) = false →
 (((23 : Int) != (0 : Int)) = true →
 (0 : Int) = (readF (600 : Int) s a m y).fst.fst ∧
 List.length (readF (600 : Int) s a m y).fst.snd = (0 : Nat) ∧
 (0 : Int) = (readF (600 : Int) s a m y).snd.fst ∧
 (23 : Int) = (readF (600 : Int) s a m y).snd.snd.fst ∧ a = (readF (600 : Int) s a m y).snd.snd.snd) ∧
 (((23 : Int) != (0 : Int)) = false →
 ByteArray.size (ByteArray.extract s (Int.toNat a) (Int.toNat (min (↑(ByteArray.size s) : Int) (IntKind.wrap IntKind.i64 (a + (600 : Int)))))) ≤
 (9223372036854775807 : Nat) ∧
 IntKind.wrap IntKind.i64 ((5 : Int) + (0 : Int)) = (readF (600 : Int) s a m y).fst.fst ∧
 List.length (readF (600 : Int) s a m y).fst.snd = (0 : Nat) ∧
 IntKind.wrap IntKind.i64
 (a +
 (nextT
 (ByteArray.extract s (Int.toNat a) (Int.toNat (min (↑(ByteArray.size s) : Int) (IntKind.wrap IntKind.i64 (a + (600 : Int))))),
 (0 : Int))).fst) =
 (readF (600 : Int) s a m y).snd.fst ∧
 (0 : Int) = (readF (600 : Int) s a m y).snd.snd.fst ∧ (0 : Int) = (readF (600 : Int) s a m y).snd.snd.snd))))))))))
--end
theorem readR_e (s : ByteArray) (a m y : Int) : readR_t s a m y = vcG Try.prog (Gof G8m) (fun _ => none) Try.f54 [.v (.string s), .v (.int .i64 a), .v (.int .i64 m), .v (.int .i64 y)] [] (.leaf ((.tu [.ag [.v (.int .i64 (readF 600 s a m y).1.1), .dat (.ints .i64 (readF 600 s a m y).1.2)], .v (.int .i64 (readF 600 s a m y).2.1), .ag [.v (.int .i64 (readF 600 s a m y).2.2.1), .v (.int .i64 (readF 600 s a m y).2.2.2)]])) ([])) := by kernel_rfl
end Go.Proofs.Ytafabheehkmfhaa
/-
  The conditions of the functions told in the text before, and that they are the executor's. Conditions: none.
-/
namespace Go.Proofs.Ytafabheehkmfhaa
open Go Go.RowKit
set_option linter.unusedVariables false
set_option maxRecDepth 100000
def dtake_t (n : Int) (s : ByteArray) (b : Int) : Prop :=
 ByteArray.size (s, b).fst ≤ (9223372036854775807 : Nat) ∧
 (((takeT (s, b) n).snd.snd != (0 : Int)) = true →
 ((takeT (s, b) n).snd.snd = (0 : Int) → (0 : Int) = (takeT (s, b) n).snd.fst ∧ False ∧ s = (takeT (s, b) n).fst.fst ∧ b = (takeT (s, b) n).fst.snd) ∧
 (¬(takeT (s, b) n).snd.snd = (0 : Int) → (0 : Int) = (0 : Int) ∧ (takeT (s, b) n).snd.snd = (takeT (s, b) n).snd.snd ∧ s = s ∧ b = b)) ∧
 (((takeT (s, b) n).snd.snd != (0 : Int)) = false →
 ((takeT (s, b) n).snd.snd = (0 : Int) →
 (takeT (s, b) n).snd.fst = (takeT (s, b) n).snd.fst ∧
 Value.nilIface = Value.nilIface ∧ (takeT (s, b) n).fst.fst = (takeT (s, b) n).fst.fst ∧ (takeT (s, b) n).fst.snd = (takeT (s, b) n).fst.snd) ∧
 (¬(takeT (s, b) n).snd.snd = (0 : Int) → (takeT (s, b) n).snd.fst = (0 : Int) ∧ False ∧ (takeT (s, b) n).fst.fst = s ∧ (takeT (s, b) n).fst.snd = b))
--end
theorem dtake_e (n : Int) (s : ByteArray) (b : Int) : dtake_t n s b = vcG Try.prog (Gof G8j) (fun _ => none) Try.f86 [.p 0 0 0, .v (.int .i64 n)] [(0, .cells 34 [.v (.string s), .v (.int .i64 b)])] (.ite ⟨(takeT (s, b) n).2.2 = 0, inferInstance⟩ (.leaf (.tu [.v (.int .i64 (takeT (s, b) n).2.1), .v .nilIface]) ([(0, rC (takeT (s, b) n).1)])) (.leaf (.tu [.v (.int .i64 0), errB (takeT (s, b) n).2.2]) ([(0, rC (s, b))]))) := by kernel_rfl
def rtake8_t (n : Int) (s : ByteArray) (b : Int) : Prop :=
 ByteArray.size (s, b).fst ≤ (9223372036854775807 : Nat) ∧
 (((takeT (s, b) n).snd.snd != (0 : Int)) = true →
 ((takeT (s, b) n).snd.snd = (0 : Int) → (0 : Int) = (takeT (s, b) n).snd.fst ∧ s = (takeT (s, b) n).fst.fst ∧ b = (takeT (s, b) n).fst.snd ∧ (23 : Int) = (0 : Int)) ∧
 (¬(takeT (s, b) n).snd.snd = (0 : Int) → (0 : Int) = (0 : Int) ∧ s = s ∧ b = b ∧ (23 : Int) = (23 : Int))) ∧
 (((takeT (s, b) n).snd.snd != (0 : Int)) = false →
 ((takeT (s, b) n).snd.snd = (0 : Int) →
 (takeT (s, b) n).snd.fst = (takeT (s, b) n).snd.fst ∧ (takeT (s, b) n).fst.fst = (takeT (s, b) n).fst.fst ∧ (takeT (s, b) n).fst.snd = (takeT (s, b) n).fst.snd ∧ (0 : Int) = (0 : Int)) ∧
 (¬(takeT (s, b) n).snd.snd = (0 : Int) → (takeT (s, b) n).snd.fst = (0 : Int) ∧ (takeT (s, b) n).fst.fst = s ∧ (takeT (s, b) n).fst.snd = b ∧ (0 : Int) = (23 : Int)))
--end
theorem rtake8_e (n : Int) (s : ByteArray) (b : Int) : rtake8_t n s b = vcG Try.prog (Gof G8j) (fun _ => none) Try.f77 [.p 0 0 0, .v (.int .i64 n)] [(0, .cells 99 [.v (.string s), .v (.int .i64 b), .v (.int .i64 0)])] (.ite ⟨(takeT (s, b) n).2.2 = 0, inferInstance⟩ (.leaf (.v (.int .i64 (takeT (s, b) n).2.1)) ([(0, xC (takeT (s, b) n).1 0)])) (.leaf (.v (.int .i64 0)) ([(0, xC (s, b) 23)]))) := by kernel_rfl
def dread_t (m y : Int) (s : ByteArray) (b : Int) : Prop :=
 ((takeT (s, b) (4 : Int)).snd.snd = (0 : Int) →
 ByteArray.size s ≤ (9223372036854775807 : Nat) ∧
 (decide (IntKind.wrap IntKind.i64 ((takeT (s, b) (4 : Int)).snd.fst + (5 : Int)) > m) = true →
 ((rdA (s, b) m y).snd.snd = (0 : Int) →
 (0 : Int) = logR (s, b) ∧
 List.length (rdA (s, b) m y).snd.fst = (0 : Nat) ∧ False ∧ (takeT (s, b) (4 : Int)).fst.fst = (rdA (s, b) m y).fst.fst ∧ (takeT (s, b) (4 : Int)).fst.snd = (rdA (s, b) m y).fst.snd) ∧
 (¬(rdA (s, b) m y).snd.snd = (0 : Int) → (0 : Int) = (0 : Int) ∧ (0 : Nat) = (0 : Nat) ∧ (31 : Int) = (rdA (s, b) m y).snd.snd)) ∧
 (decide (IntKind.wrap IntKind.i64 ((takeT (s, b) (4 : Int)).snd.fst + (5 : Int)) > m) = false →
 (0 : Int) ≤ IntKind.wrap IntKind.i64 ((takeT (s, b) (4 : Int)).snd.fst + (5 : Int)) ∧
 (∃ (x0 : Nat × R2 × Int × List Int),
 (rdR y x0.fst x0.snd.fst x0.snd.snd.fst x0.snd.snd.snd = rdA (s, b) m y ∧
 y + (1 : Int) ≤ (↑x0.fst : Int) + (↑(List.length x0.snd.snd.snd) : Int) ∧
 (↑(List.length x0.snd.snd.snd) : Int) ≤ y ∧ (0 : Int) ≤ x0.snd.snd.fst ∧ x0.snd.snd.fst ≤ (4096 : Int) ∧ ByteArray.size x0.snd.fst.fst ≤ (9223372036854775807 : Nat)) ∧
 y = y ∧
 IntKind.wrap IntKind.i64 ((1 : Int) * (2 : Int) ^ min (Int.toNat (IntKind.wrap IntKind.i64 ((takeT (s, b) (4 : Int)).snd.fst + (5 : Int)))) (IntKind.bits IntKind.i64)) =
 x0.snd.snd.fst ∧
 (takeT (s, b) (4 : Int)).fst.fst = x0.snd.fst.fst ∧
 (takeT (s, b) (4 : Int)).fst.snd = x0.snd.fst.snd ∧
 IntKind.wrap IntKind.i64 ((takeT (s, b) (4 : Int)).snd.fst + (5 : Int)) = logR (s, b) ∧ List.length x0.snd.snd.snd = (0 : Nat)) ∧
 ∀ (x1 : Nat × R2 × Int × List Int),
 rdR y x1.fst x1.snd.fst x1.snd.snd.fst x1.snd.snd.snd = rdA (s, b) m y ∧
 y + (1 : Int) ≤ (↑x1.fst : Int) + (↑(List.length x1.snd.snd.snd) : Int) ∧
 (↑(List.length x1.snd.snd.snd) : Int) ≤ y ∧ (0 : Int) ≤ x1.snd.snd.fst ∧ x1.snd.snd.fst ≤ (4096 : Int) ∧ ByteArray.size x1.snd.fst.fst ≤ (9223372036854775807 : Nat) →
 (decide (x1.snd.snd.fst > (0 : Int)) = true →
 (0 : Int) ≤ x1.snd.snd.fst ∧
 x1.snd.snd.fst ≤ (1073741824 : Int) ∧
 ((takeT (x1.snd.fst.fst, x1.snd.fst.snd) (IntKind.wrap IntKind.i64 (shB x1.snd.snd.fst - (1 : Int)))).snd.snd = (0 : Int) →
 ByteArray.size x1.snd.fst.fst ≤ (9223372036854775807 : Nat) ∧
 ∃ (g2 : Nat × R2 × Int × List Int),
 ((decide ((takeT (x1.snd.fst.fst, x1.snd.fst.snd) (IntKind.wrap IntKind.i64 (shB x1.snd.snd.fst - (1 : Int)))).snd.fst ≥ shT x1.snd.snd.fst) = true →
 ((takeT
 ((takeT (x1.snd.fst.fst, x1.snd.fst.snd) (IntKind.wrap IntKind.i64 (shB x1.snd.snd.fst - (1 : Int)))).fst.fst,
 (takeT (x1.snd.fst.fst, x1.snd.fst.snd) (IntKind.wrap IntKind.i64 (shB x1.snd.snd.fst - (1 : Int)))).fst.snd)
 (1 : Int)).snd.snd =
 (0 : Int) →
 ByteArray.size (takeT (x1.snd.fst.fst, x1.snd.fst.snd) (IntKind.wrap IntKind.i64 (shB x1.snd.snd.fst - (1 : Int)))).fst.fst ≤ (9223372036854775807 : Nat) ∧
 (0 : Int) ≤ IntKind.wrap IntKind.i64 (shB x1.snd.snd.fst - (1 : Int)) ∧
 (0 : Int) ≤ IntKind.wrap IntKind.i64 (shB x1.snd.snd.fst - (1 : Int)) ∧
 (decide
 (IntKind.wrap IntKind.i64
 ((takeT (x1.snd.fst.fst, x1.snd.fst.snd) (IntKind.wrap IntKind.i64 (shB x1.snd.snd.fst - (1 : Int)))).snd.fst +
 IntKind.wrap IntKind.i64
 ((takeT
 ((takeT (x1.snd.fst.fst, x1.snd.fst.snd) (IntKind.wrap IntKind.i64 (shB x1.snd.snd.fst - (1 : Int)))).fst.fst,
 (takeT (x1.snd.fst.fst, x1.snd.fst.snd) (IntKind.wrap IntKind.i64 (shB x1.snd.snd.fst - (1 : Int)))).fst.snd)
 (1 : Int)).snd.fst *
 (2 : Int) ^ min (Int.toNat (IntKind.wrap IntKind.i64 (shB x1.snd.snd.fst - (1 : Int)))) (IntKind.bits IntKind.i64))) ≥
 IntKind.wrap IntKind.i64
 ((1 : Int) * (2 : Int) ^ min (Int.toNat (IntKind.wrap IntKind.i64 (shB x1.snd.snd.fst - (1 : Int)))) (IntKind.bits IntKind.i64))) =
 true →
 ∃ (x3 : R2 × Int),
 (valR g2.snd.fst g2.snd.snd.fst = (x3.fst, x3.snd, (0 : Int)) ∧
 rdR y g2.fst g2.snd.fst g2.snd.snd.fst g2.snd.snd.snd = rdA (s, b) m y ∧
 (0 : Int) < g2.snd.snd.fst ∧ g2.snd.snd.fst ≤ (4096 : Int) ∧ ByteArray.size x3.fst.fst ≤ (9223372036854775807 : Nat)) ∧
 y = y ∧
 x1.snd.snd.fst = g2.snd.snd.fst ∧
 IntKind.wrap IntKind.i64
 (IntKind.wrap IntKind.i64
 ((takeT (x1.snd.fst.fst, x1.snd.fst.snd) (IntKind.wrap IntKind.i64 (shB x1.snd.snd.fst - (1 : Int)))).snd.fst +
 IntKind.wrap IntKind.i64
 ((takeT
 ((takeT (x1.snd.fst.fst, x1.snd.fst.snd) (IntKind.wrap IntKind.i64 (shB x1.snd.snd.fst - (1 : Int)))).fst.fst,
 (takeT (x1.snd.fst.fst, x1.snd.fst.snd) (IntKind.wrap IntKind.i64 (shB x1.snd.snd.fst - (1 : Int)))).fst.snd)
 (1 : Int)).snd.fst *
 (2 : Int) ^ min (Int.toNat (IntKind.wrap IntKind.i64 (shB x1.snd.snd.fst - (1 : Int)))) (IntKind.bits IntKind.i64))) -
 shT x1.snd.snd.fst) =
 x3.snd ∧
 (takeT
 ((takeT (x1.snd.fst.fst, x1.snd.fst.snd) (IntKind.wrap IntKind.i64 (shB x1.snd.snd.fst - (1 : Int)))).fst.fst,
 (takeT (x1.snd.fst.fst, x1.snd.fst.snd) (IntKind.wrap IntKind.i64 (shB x1.snd.snd.fst - (1 : Int)))).fst.snd)
 (1 : Int)).fst.fst =
 x3.fst.fst ∧
 (takeT
 ((takeT (x1.snd.fst.fst, x1.snd.fst.snd) (IntKind.wrap IntKind.i64 (shB x1.snd.snd.fst - (1 : Int)))).fst.fst,
 (takeT (x1.snd.fst.fst, x1.snd.fst.snd) (IntKind.wrap IntKind.i64 (shB x1.snd.snd.fst - (1 : Int)))).fst.snd)
 (1 : Int)).fst.snd =
 x3.fst.snd ∧
 logR (s, b) = logR (s, b) ∧ x1.snd.snd.snd = g2.snd.snd.snd) ∧
 (decide
 (IntKind.wrap IntKind.i64
 ((takeT (x1.snd.fst.fst, x1.snd.fst.snd) (IntKind.wrap IntKind.i64 (shB x1.snd.snd.fst - (1 : Int)))).snd.fst +
 IntKind.wrap IntKind.i64
 ((takeT
 ((takeT (x1.snd.fst.fst, x1.snd.fst.snd) (IntKind.wrap IntKind.i64 (shB x1.snd.snd.fst - (1 : Int)))).fst.fst,
 (takeT (x1.snd.fst.fst, x1.snd.fst.snd) (IntKind.wrap IntKind.i64 (shB x1.snd.snd.fst - (1 : Int)))).fst.snd)
 (1 : Int)).snd.fst *
 (2 : Int) ^ min (Int.toNat (IntKind.wrap IntKind.i64 (shB x1.snd.snd.fst - (1 : Int)))) (IntKind.bits IntKind.i64))) ≥
 IntKind.wrap IntKind.i64
 ((1 : Int) * (2 : Int) ^ min (Int.toNat (IntKind.wrap IntKind.i64 (shB x1.snd.snd.fst - (1 : Int)))) (IntKind.bits IntKind.i64))) =
 false →
 ∃ (x4 : R2 × Int),
 (valR g2.snd.fst g2.snd.snd.fst = (x4.fst, x4.snd, (0 : Int)) ∧
 rdR y g2.fst g2.snd.fst g2.snd.snd.fst g2.snd.snd.snd = rdA (s, b) m y ∧
 (0 : Int) < g2.snd.snd.fst ∧ g2.snd.snd.fst ≤ (4096 : Int) ∧ ByteArray.size x4.fst.fst ≤ (9223372036854775807 : Nat)) ∧
 y = y ∧
 x1.snd.snd.fst = g2.snd.snd.fst ∧
 IntKind.wrap IntKind.i64
 ((takeT (x1.snd.fst.fst, x1.snd.fst.snd) (IntKind.wrap IntKind.i64 (shB x1.snd.snd.fst - (1 : Int)))).snd.fst +
 IntKind.wrap IntKind.i64
 ((takeT
 ((takeT (x1.snd.fst.fst, x1.snd.fst.snd) (IntKind.wrap IntKind.i64 (shB x1.snd.snd.fst - (1 : Int)))).fst.fst,
 (takeT (x1.snd.fst.fst, x1.snd.fst.snd) (IntKind.wrap IntKind.i64 (shB x1.snd.snd.fst - (1 : Int)))).fst.snd)
 (1 : Int)).snd.fst *
 (2 : Int) ^ min (Int.toNat (IntKind.wrap IntKind.i64 (shB x1.snd.snd.fst - (1 : Int)))) (IntKind.bits IntKind.i64))) =
 x4.snd ∧
 (takeT
 ((takeT (x1.snd.fst.fst, x1.snd.fst.snd) (IntKind.wrap IntKind.i64 (shB x1.snd.snd.fst - (1 : Int)))).fst.fst,
 (takeT (x1.snd.fst.fst, x1.snd.fst.snd) (IntKind.wrap IntKind.i64 (shB x1.snd.snd.fst - (1 : Int)))).fst.snd)
 (1 : Int)).fst.fst =
 x4.fst.fst ∧
 (takeT
 ((takeT (x1.snd.fst.fst, x1.snd.fst.snd) (IntKind.wrap IntKind.i64 (shB x1.snd.snd.fst - (1 : Int)))).fst.fst,
 (takeT (x1.snd.fst.fst, x1.snd.fst.snd) (IntKind.wrap IntKind.i64 (shB x1.snd.snd.fst - (1 : Int)))).fst.snd)
 (1 : Int)).fst.snd =
 x4.fst.snd ∧
 logR (s, b) = logR (s, b) ∧ x1.snd.snd.snd = g2.snd.snd.snd)) ∧
 (¬(takeT
 ((takeT (x1.snd.fst.fst, x1.snd.fst.snd) (IntKind.wrap IntKind.i64 (shB x1.snd.snd.fst - (1 : Int)))).fst.fst,
 (takeT (x1.snd.fst.fst, x1.snd.fst.snd) (IntKind.wrap IntKind.i64 (shB x1.snd.snd.fst - (1 : Int)))).fst.snd)
 (1 : Int)).snd.snd =
 (0 : Int) →
 ByteArray.size (takeT (x1.snd.fst.fst, x1.snd.fst.snd) (IntKind.wrap IntKind.i64 (shB x1.snd.snd.fst - (1 : Int)))).fst.fst ≤ (9223372036854775807 : Nat) ∧
 ((rdA (s, b) m y).snd.snd = (0 : Int) →
 (0 : Int) = logR (s, b) ∧
 List.length (rdA (s, b) m y).snd.fst = (0 : Nat) ∧
 False ∧
 (takeT (x1.snd.fst.fst, x1.snd.fst.snd) (IntKind.wrap IntKind.i64 (shB x1.snd.snd.fst - (1 : Int)))).fst.fst = (rdA (s, b) m y).fst.fst ∧
 (takeT (x1.snd.fst.fst, x1.snd.fst.snd) (IntKind.wrap IntKind.i64 (shB x1.snd.snd.fst - (1 : Int)))).fst.snd = (rdA (s, b) m y).fst.snd) ∧
 (¬(rdA (s, b) m y).snd.snd = (0 : Int) →
 (0 : Int) = (0 : Int) ∧
 (0 : Nat) = (0 : Nat) ∧
 (takeT
 ((takeT (x1.snd.fst.fst, x1.snd.fst.snd) (IntKind.wrap IntKind.i64 (shB x1.snd.snd.fst - (1 : Int)))).fst.fst,
 (takeT (x1.snd.fst.fst, x1.snd.fst.snd) (IntKind.wrap IntKind.i64 (shB x1.snd.snd.fst - (1 : Int)))).fst.snd)
 (1 : Int)).snd.snd =
 (rdA (s, b) m y).snd.snd))) ∧
 (decide ((takeT (x1.snd.fst.fst, x1.snd.fst.snd) (IntKind.wrap IntKind.i64 (shB x1.snd.snd.fst - (1 : Int)))).snd.fst ≥ shT x1.snd.snd.fst) = false →
 ∃ (x5 : R2 × Int),
 (valR g2.snd.fst g2.snd.snd.fst = (x5.fst, x5.snd, (0 : Int)) ∧
 rdR y g2.fst g2.snd.fst g2.snd.snd.fst g2.snd.snd.snd = rdA (s, b) m y ∧
 (0 : Int) < g2.snd.snd.fst ∧ g2.snd.snd.fst ≤ (4096 : Int) ∧ ByteArray.size x5.fst.fst ≤ (9223372036854775807 : Nat)) ∧
 y = y ∧
 x1.snd.snd.fst = g2.snd.snd.fst ∧
 (takeT (x1.snd.fst.fst, x1.snd.fst.snd) (IntKind.wrap IntKind.i64 (shB x1.snd.snd.fst - (1 : Int)))).snd.fst = x5.snd ∧
 (takeT (x1.snd.fst.fst, x1.snd.fst.snd) (IntKind.wrap IntKind.i64 (shB x1.snd.snd.fst - (1 : Int)))).fst.fst = x5.fst.fst ∧
 (takeT (x1.snd.fst.fst, x1.snd.fst.snd) (IntKind.wrap IntKind.i64 (shB x1.snd.snd.fst - (1 : Int)))).fst.snd = x5.fst.snd ∧
 logR (s, b) = logR (s, b) ∧ x1.snd.snd.snd = g2.snd.snd.snd)) ∧
 ∀ (x6 : R2 × Int),
 valR g2.snd.fst g2.snd.snd.fst = (x6.fst, x6.snd, (0 : Int)) ∧
 rdR y g2.fst g2.snd.fst g2.snd.snd.fst g2.snd.snd.snd = rdA (s, b) m y ∧
 (0 : Int) < g2.snd.snd.fst ∧ g2.snd.snd.fst ≤ (4096 : Int) ∧ ByteArray.size x6.fst.fst ≤ (9223372036854775807 : Nat) →
 (((↑(List.length g2.snd.snd.snd) : Int) == y) = true →
 ((rdA (s, b) m y).snd.snd = (0 : Int) →
 (0 : Int) = logR (s, b) ∧
 List.length (rdA (s, b) m y).snd.fst = (0 : Nat) ∧ False ∧ x6.fst.fst = (rdA (s, b) m y).fst.fst ∧ x6.fst.snd = (rdA (s, b) m y).fst.snd) ∧
 (¬(rdA (s, b) m y).snd.snd = (0 : Int) → (0 : Int) = (0 : Int) ∧ (0 : Nat) = (0 : Nat) ∧ (23 : Int) = (rdA (s, b) m y).snd.snd)) ∧
 (((↑(List.length g2.snd.snd.snd) : Int) == y) = false →
 (List.length g2.snd.snd.snd + (1 : Nat)) * (8 : Nat) ≤ (140737488355328 : Nat) ∧
 ((x6.snd != (1 : Int)) = true →
 ∃ (y7 : Nat × R2 × Int × List Int),
 (rdR y y7.fst y7.snd.fst y7.snd.snd.fst y7.snd.snd.snd = rdA (s, b) m y ∧
 y + (1 : Int) ≤ (↑y7.fst : Int) + (↑(List.length y7.snd.snd.snd) : Int) ∧
 (↑(List.length y7.snd.snd.snd) : Int) ≤ y ∧
 (0 : Int) ≤ y7.snd.snd.fst ∧ y7.snd.snd.fst ≤ (4096 : Int) ∧ ByteArray.size y7.snd.fst.fst ≤ (9223372036854775807 : Nat)) ∧
 y7.1 < x1.1 ∧
 y = y ∧
 IntKind.wrap IntKind.i64 (g2.snd.snd.fst - max (IntKind.wrap IntKind.i64 (x6.snd - (1 : Int))) (1 : Int)) = y7.snd.snd.fst ∧
 x6.fst.fst = y7.snd.fst.fst ∧
 x6.fst.snd = y7.snd.fst.snd ∧
 logR (s, b) = logR (s, b) ∧ g2.snd.snd.snd ++ [IntKind.wrap IntKind.i64 (x6.snd - (1 : Int))] = y7.snd.snd.snd) ∧
 ((x6.snd != (1 : Int)) = false →
 ∃ (g8 : Nat × Int),
 (∃ (x9 : Int × Nat × R2 × List Int),
 (contZ y g8.fst g8.snd
 (bif x9.fst == (3 : Int) then flR y x9.snd.fst x9.snd.snd.fst x9.snd.snd.snd else (x9.snd.snd.fst, x9.snd.snd.snd, (0 : Int))) =
 rdA (s, b) m y ∧
 (x9.fst = (3 : Int) → y + (1 : Int) ≤ (↑x9.snd.fst : Int) + (↑(List.length x9.snd.snd.snd) : Int)) ∧
 y + (1 : Int) ≤ (↑g8.fst : Int) + (↑(List.length x9.snd.snd.snd) : Int) ∧
 (↑(List.length x9.snd.snd.snd) : Int) ≤ y ∧ ByteArray.size x9.snd.snd.fst.fst ≤ (9223372036854775807 : Nat)) ∧
 y = y ∧
 g2.snd.snd.fst = g8.snd ∧
 (3 : Int) = x9.fst ∧
 x6.fst.fst = x9.snd.snd.fst.fst ∧
 x6.fst.snd = x9.snd.snd.fst.snd ∧
 logR (s, b) = logR (s, b) ∧ g2.snd.snd.snd ++ [IntKind.wrap IntKind.i64 (x6.snd - (1 : Int))] = x9.snd.snd.snd) ∧
 ∀ (x10 : Int × Nat × R2 × List Int),
 contZ y g8.fst g8.snd
 (bif x10.fst == (3 : Int) then flR y x10.snd.fst x10.snd.snd.fst x10.snd.snd.snd else (x10.snd.snd.fst, x10.snd.snd.snd, (0 : Int))) =
 rdA (s, b) m y ∧
 (x10.fst = (3 : Int) → y + (1 : Int) ≤ (↑x10.snd.fst : Int) + (↑(List.length x10.snd.snd.snd) : Int)) ∧
 y + (1 : Int) ≤ (↑g8.fst : Int) + (↑(List.length x10.snd.snd.snd) : Int) ∧
 (↑(List.length x10.snd.snd.snd) : Int) ≤ y ∧ ByteArray.size x10.snd.snd.fst.fst ≤ (9223372036854775807 : Nat) →
 ((x10.fst == (3 : Int)) = true →
 ((takeT (x10.snd.snd.fst.fst, x10.snd.snd.fst.snd) (2 : Int)).snd.snd = (0 : Int) →
 ByteArray.size x10.snd.snd.fst.fst ≤ (9223372036854775807 : Nat) ∧
 (decide
 (IntKind.wrap IntKind.i64
 ((↑(List.length x10.snd.snd.snd) : Int) + (takeT (x10.snd.snd.fst.fst, x10.snd.snd.fst.snd) (2 : Int)).snd.fst) >
 y) =
 true →
 ((rdA (s, b) m y).snd.snd = (0 : Int) →
 (0 : Int) = logR (s, b) ∧
 List.length (rdA (s, b) m y).snd.fst = (0 : Nat) ∧
 False ∧
 (takeT (x10.snd.snd.fst.fst, x10.snd.snd.fst.snd) (2 : Int)).fst.fst = (rdA (s, b) m y).fst.fst ∧
 (takeT (x10.snd.snd.fst.fst, x10.snd.snd.fst.snd) (2 : Int)).fst.snd = (rdA (s, b) m y).fst.snd) ∧
 (¬(rdA (s, b) m y).snd.snd = (0 : Int) →
 (0 : Int) = (0 : Int) ∧ (0 : Nat) = (0 : Nat) ∧ (23 : Int) = (rdA (s, b) m y).snd.snd)) ∧
 (decide
 (IntKind.wrap IntKind.i64
 ((↑(List.length x10.snd.snd.snd) : Int) + (takeT (x10.snd.snd.fst.fst, x10.snd.snd.fst.snd) (2 : Int)).snd.fst) >
 y) =
 false →
 (0 : Int) ≤ (takeT (x10.snd.snd.fst.fst, x10.snd.snd.fst.snd) (2 : Int)).snd.fst ∧
 (takeT (x10.snd.snd.fst.fst, x10.snd.snd.fst.snd) (2 : Int)).snd.fst ≤ (4294967296 : Int) ∧
 (List.length x10.snd.snd.snd +
 List.length
 (List.replicate (Int.toNat (takeT (x10.snd.snd.fst.fst, x10.snd.snd.fst.snd) (2 : Int)).snd.fst) (0 : Int))) *
 (8 : Nat) ≤
 (140737488355328 : Nat) ∧
 ∃ (y11 : Int × Nat × R2 × List Int),
 (contZ y g8.fst g8.snd
 (bif y11.fst == (3 : Int) then flR y y11.snd.fst y11.snd.snd.fst y11.snd.snd.snd
 else (y11.snd.snd.fst, y11.snd.snd.snd, (0 : Int))) =
 rdA (s, b) m y ∧
 (y11.fst = (3 : Int) → y + (1 : Int) ≤ (↑y11.snd.fst : Int) + (↑(List.length y11.snd.snd.snd) : Int)) ∧
 y + (1 : Int) ≤ (↑g8.fst : Int) + (↑(List.length y11.snd.snd.snd) : Int) ∧
 (↑(List.length y11.snd.snd.snd) : Int) ≤ y ∧ ByteArray.size y11.snd.snd.fst.fst ≤ (9223372036854775807 : Nat)) ∧
 ((match y11.fst == (3 : Int) with
 | true => y11.snd.fst + (1 : Nat)
 | false => (0 : Nat)) <
 match x10.fst == (3 : Int) with
 | true => x10.snd.fst + (1 : Nat)
 | false => (0 : Nat)) ∧
 y = y ∧
 g8.snd = g8.snd ∧
 (takeT (x10.snd.snd.fst.fst, x10.snd.snd.fst.snd) (2 : Int)).snd.fst = y11.fst ∧
 (takeT (x10.snd.snd.fst.fst, x10.snd.snd.fst.snd) (2 : Int)).fst.fst = y11.snd.snd.fst.fst ∧
 (takeT (x10.snd.snd.fst.fst, x10.snd.snd.fst.snd) (2 : Int)).fst.snd = y11.snd.snd.fst.snd ∧
 logR (s, b) = logR (s, b) ∧
 x10.snd.snd.snd ++
 List.replicate (Int.toNat (takeT (x10.snd.snd.fst.fst, x10.snd.snd.fst.snd) (2 : Int)).snd.fst)
 (0 : Int) =
 y11.snd.snd.snd)) ∧
 (¬(takeT (x10.snd.snd.fst.fst, x10.snd.snd.fst.snd) (2 : Int)).snd.snd = (0 : Int) →
 ByteArray.size x10.snd.snd.fst.fst ≤ (9223372036854775807 : Nat) ∧
 ((rdA (s, b) m y).snd.snd = (0 : Int) →
 (0 : Int) = logR (s, b) ∧
 List.length (rdA (s, b) m y).snd.fst = (0 : Nat) ∧
 False ∧ x10.snd.snd.fst.fst = (rdA (s, b) m y).fst.fst ∧ x10.snd.snd.fst.snd = (rdA (s, b) m y).fst.snd) ∧
 (¬(rdA (s, b) m y).snd.snd = (0 : Int) →
 (0 : Int) = (0 : Int) ∧
 (0 : Nat) = (0 : Nat) ∧ (takeT (x10.snd.snd.fst.fst, x10.snd.snd.fst.snd) (2 : Int)).snd.snd = (rdA (s, b) m y).snd.snd))) ∧
 ((x10.fst == (3 : Int)) = false →
 ∃ (y12 : Nat × R2 × Int × List Int),
 (rdR y y12.fst y12.snd.fst y12.snd.snd.fst y12.snd.snd.snd = rdA (s, b) m y ∧
 y + (1 : Int) ≤ (↑y12.fst : Int) + (↑(List.length y12.snd.snd.snd) : Int) ∧
 (↑(List.length y12.snd.snd.snd) : Int) ≤ y ∧
 (0 : Int) ≤ y12.snd.snd.fst ∧ y12.snd.snd.fst ≤ (4096 : Int) ∧ ByteArray.size y12.snd.fst.fst ≤ (9223372036854775807 : Nat)) ∧
 y12.1 < x1.1 ∧
 y = y ∧
 g8.snd = y12.snd.snd.fst ∧
 x10.snd.snd.fst.fst = y12.snd.fst.fst ∧
 x10.snd.snd.fst.snd = y12.snd.fst.snd ∧ logR (s, b) = logR (s, b) ∧ x10.snd.snd.snd = y12.snd.snd.snd)))) ∧
 (¬(takeT (x1.snd.fst.fst, x1.snd.fst.snd) (IntKind.wrap IntKind.i64 (shB x1.snd.snd.fst - (1 : Int)))).snd.snd = (0 : Int) →
 ByteArray.size x1.snd.fst.fst ≤ (9223372036854775807 : Nat) ∧
 ((rdA (s, b) m y).snd.snd = (0 : Int) →
 (0 : Int) = logR (s, b) ∧
 List.length (rdA (s, b) m y).snd.fst = (0 : Nat) ∧ False ∧ x1.snd.fst.fst = (rdA (s, b) m y).fst.fst ∧ x1.snd.fst.snd = (rdA (s, b) m y).fst.snd) ∧
 (¬(rdA (s, b) m y).snd.snd = (0 : Int) →
 (0 : Int) = (0 : Int) ∧
 (0 : Nat) = (0 : Nat) ∧
 (takeT (x1.snd.fst.fst, x1.snd.fst.snd) (IntKind.wrap IntKind.i64 (shB x1.snd.snd.fst - (1 : Int)))).snd.snd = (rdA (s, b) m y).snd.snd))) ∧
 (decide (x1.snd.snd.fst > (0 : Int)) = false →
 ((rdA (s, b) m y).snd.snd = (0 : Int) →
 logR (s, b) = logR (s, b) ∧
 x1.snd.snd.snd = (rdA (s, b) m y).snd.fst ∧ Value.nilIface = Value.nilIface ∧ x1.snd.fst.fst = (rdA (s, b) m y).fst.fst ∧ x1.snd.fst.snd = (rdA (s, b) m y).fst.snd) ∧
 (¬(rdA (s, b) m y).snd.snd = (0 : Int) → logR (s, b) = (0 : Int) ∧ x1.snd.snd.snd = [] ∧ False)))) ∧
 (¬(takeT (s, b) (4 : Int)).snd.snd = (0 : Int) →
 ByteArray.size s ≤ (9223372036854775807 : Nat) ∧
 ((rdA (s, b) m y).snd.snd = (0 : Int) → (0 : Int) = logR (s, b) ∧ List.length (rdA (s, b) m y).snd.fst = (0 : Nat) ∧ False ∧ s = (rdA (s, b) m y).fst.fst ∧ b = (rdA (s, b) m y).fst.snd) ∧
 (¬(rdA (s, b) m y).snd.snd = (0 : Int) → (0 : Int) = (0 : Int) ∧ (0 : Nat) = (0 : Nat) ∧ (takeT (s, b) (4 : Int)).snd.snd = (rdA (s, b) m y).snd.snd))
--end
theorem dread_e (m y : Int) (s : ByteArray) (b : Int) : dread_t m y s b = vcG Try.prog (Gof G8k) (oDRead m y (s, b)) Try.f75 [.p 0 0 0, .v (.int .i64 m), .v (.int .i64 y)] [(0, .cells 34 [.v (.string s), .v (.int .i64 b)])] (.ite ⟨(rdA (s, b) m y).2.2 = 0, inferInstance⟩ (.leaf (.tu [.ag [.v (.int .i64 (logR (s, b))), .dat (.ints .i64 (rdA (s, b) m y).2.1)], .v .nilIface]) ([(0, rC (rdA (s, b) m y).1)])) (.leaf (.tu [.ag [.v (.int .i64 0), .dat (.ints .i64 [])], errB (rdA (s, b) m y).2.2]) ([(0, .cells 34 [.any, .any])]))) := by kernel_rfl
def rval_t (g : Int) (s : ByteArray) (b : Int) : Prop :=
 IntKind.wrap IntKind.i64 (g + (1 : Int)) ≤ (9223372036854775807 : Int) ∧
 (0 : Int) ≤ IntKind.wrap IntKind.u64 (hiI (IntKind.wrap IntKind.i64 (g + (1 : Int))) + (1 : Int)) ∧
 ((takeT (s, b) (IntKind.wrap IntKind.i64 (hiI (IntKind.wrap IntKind.i64 (g + (1 : Int))) + (1 : Int) - (1 : Int)))).snd.snd = (0 : Int) →
 ByteArray.size s ≤ (9223372036854775807 : Nat) ∧
 (((0 : Int) != (0 : Int)) = true →
 ((valR (s, b) g).snd.snd = (0 : Int) →
 (takeT (s, b) (IntKind.wrap IntKind.i64 (hiI (IntKind.wrap IntKind.i64 (g + (1 : Int))) + (1 : Int) - (1 : Int)))).snd.fst = (valR (s, b) g).snd.fst ∧
 (takeT (s, b) (IntKind.wrap IntKind.i64 (hiI (IntKind.wrap IntKind.i64 (g + (1 : Int))) + (1 : Int) - (1 : Int)))).fst.fst = (valR (s, b) g).fst.fst ∧
 (takeT (s, b) (IntKind.wrap IntKind.i64 (hiI (IntKind.wrap IntKind.i64 (g + (1 : Int))) + (1 : Int) - (1 : Int)))).fst.snd = (valR (s, b) g).fst.snd ∧ (0 : Int) = (0 : Int)) ∧
 (¬(valR (s, b) g).snd.snd = (0 : Int) →
 (takeT (s, b) (IntKind.wrap IntKind.i64 (hiI (IntKind.wrap IntKind.i64 (g + (1 : Int))) + (1 : Int) - (1 : Int)))).snd.fst = (0 : Int) ∧
 (takeT (s, b) (IntKind.wrap IntKind.i64 (hiI (IntKind.wrap IntKind.i64 (g + (1 : Int))) + (1 : Int) - (1 : Int)))).fst.fst = s ∧
 (takeT (s, b) (IntKind.wrap IntKind.i64 (hiI (IntKind.wrap IntKind.i64 (g + (1 : Int))) + (1 : Int) - (1 : Int)))).fst.snd = b ∧ (0 : Int) = (23 : Int))) ∧
 (((0 : Int) != (0 : Int)) = false →
 (decide
 ((takeT (s, b) (IntKind.wrap IntKind.i64 (hiI (IntKind.wrap IntKind.i64 (g + (1 : Int))) + (1 : Int) - (1 : Int)))).snd.fst <
 IntKind.wrap IntKind.i64
 (IntKind.wrap IntKind.i64
 (IntKind.wrap IntKind.i64
 ((1 : Int) * (2 : Int) ^ min (Int.toNat (IntKind.wrap IntKind.u64 (hiI (IntKind.wrap IntKind.i64 (g + (1 : Int))) + (1 : Int)))) (IntKind.bits IntKind.i64)) -
 (1 : Int)) -
 IntKind.wrap IntKind.i64 (g + (1 : Int)))) =
 true →
 ((valR (s, b) g).snd.snd = (0 : Int) →
 (takeT (s, b) (IntKind.wrap IntKind.i64 (hiI (IntKind.wrap IntKind.i64 (g + (1 : Int))) + (1 : Int) - (1 : Int)))).snd.fst = (valR (s, b) g).snd.fst ∧
 (takeT (s, b) (IntKind.wrap IntKind.i64 (hiI (IntKind.wrap IntKind.i64 (g + (1 : Int))) + (1 : Int) - (1 : Int)))).fst.fst = (valR (s, b) g).fst.fst ∧
 (takeT (s, b) (IntKind.wrap IntKind.i64 (hiI (IntKind.wrap IntKind.i64 (g + (1 : Int))) + (1 : Int) - (1 : Int)))).fst.snd = (valR (s, b) g).fst.snd ∧
 (0 : Int) = (0 : Int)) ∧
 (¬(valR (s, b) g).snd.snd = (0 : Int) →
 (takeT (s, b) (IntKind.wrap IntKind.i64 (hiI (IntKind.wrap IntKind.i64 (g + (1 : Int))) + (1 : Int) - (1 : Int)))).snd.fst = (0 : Int) ∧
 (takeT (s, b) (IntKind.wrap IntKind.i64 (hiI (IntKind.wrap IntKind.i64 (g + (1 : Int))) + (1 : Int) - (1 : Int)))).fst.fst = s ∧
 (takeT (s, b) (IntKind.wrap IntKind.i64 (hiI (IntKind.wrap IntKind.i64 (g + (1 : Int))) + (1 : Int) - (1 : Int)))).fst.snd = b ∧ (0 : Int) = (23 : Int))) ∧
 (decide
 ((takeT (s, b) (IntKind.wrap IntKind.i64 (hiI (IntKind.wrap IntKind.i64 (g + (1 : Int))) + (1 : Int) - (1 : Int)))).snd.fst <
 IntKind.wrap IntKind.i64
 (IntKind.wrap IntKind.i64
 (IntKind.wrap IntKind.i64
 ((1 : Int) * (2 : Int) ^ min (Int.toNat (IntKind.wrap IntKind.u64 (hiI (IntKind.wrap IntKind.i64 (g + (1 : Int))) + (1 : Int)))) (IntKind.bits IntKind.i64)) -
 (1 : Int)) -
 IntKind.wrap IntKind.i64 (g + (1 : Int)))) =
 false →
 ((takeT (s, b) (hiI (IntKind.wrap IntKind.i64 (g + (1 : Int))) + (1 : Int))).snd.snd = (0 : Int) →
 ByteArray.size s ≤ (9223372036854775807 : Nat) ∧
 (0 : Int) ≤ IntKind.wrap IntKind.u64 (IntKind.wrap IntKind.i64 (hiI (IntKind.wrap IntKind.i64 (g + (1 : Int))) + (1 : Int) - (1 : Int))) ∧
 (decide
 ((takeT (s, b) (hiI (IntKind.wrap IntKind.i64 (g + (1 : Int))) + (1 : Int))).snd.fst ≥
 IntKind.wrap IntKind.i64
 ((1 : Int) *
 (2 : Int) ^
 min (Int.toNat (IntKind.wrap IntKind.u64 (IntKind.wrap IntKind.i64 (hiI (IntKind.wrap IntKind.i64 (g + (1 : Int))) + (1 : Int) - (1 : Int)))))
 (IntKind.bits IntKind.i64))) =
 true →
 ((valR (s, b) g).snd.snd = (0 : Int) →
 IntKind.wrap IntKind.i64
 ((takeT (s, b) (hiI (IntKind.wrap IntKind.i64 (g + (1 : Int))) + (1 : Int))).snd.fst -
 IntKind.wrap IntKind.i64
 (IntKind.wrap IntKind.i64
 (IntKind.wrap IntKind.i64
 ((1 : Int) *
 (2 : Int) ^ min (Int.toNat (IntKind.wrap IntKind.u64 (hiI (IntKind.wrap IntKind.i64 (g + (1 : Int))) + (1 : Int)))) (IntKind.bits IntKind.i64)) -
 (1 : Int)) -
 IntKind.wrap IntKind.i64 (g + (1 : Int)))) =
 (valR (s, b) g).snd.fst ∧
 (takeT (s, b) (hiI (IntKind.wrap IntKind.i64 (g + (1 : Int))) + (1 : Int))).fst.fst = (valR (s, b) g).fst.fst ∧
 (takeT (s, b) (hiI (IntKind.wrap IntKind.i64 (g + (1 : Int))) + (1 : Int))).fst.snd = (valR (s, b) g).fst.snd ∧ (0 : Int) = (0 : Int)) ∧
 (¬(valR (s, b) g).snd.snd = (0 : Int) →
 IntKind.wrap IntKind.i64
 ((takeT (s, b) (hiI (IntKind.wrap IntKind.i64 (g + (1 : Int))) + (1 : Int))).snd.fst -
 IntKind.wrap IntKind.i64
 (IntKind.wrap IntKind.i64
 (IntKind.wrap IntKind.i64
 ((1 : Int) *
 (2 : Int) ^ min (Int.toNat (IntKind.wrap IntKind.u64 (hiI (IntKind.wrap IntKind.i64 (g + (1 : Int))) + (1 : Int)))) (IntKind.bits IntKind.i64)) -
 (1 : Int)) -
 IntKind.wrap IntKind.i64 (g + (1 : Int)))) =
 (0 : Int) ∧
 (takeT (s, b) (hiI (IntKind.wrap IntKind.i64 (g + (1 : Int))) + (1 : Int))).fst.fst = s ∧
 (takeT (s, b) (hiI (IntKind.wrap IntKind.i64 (g + (1 : Int))) + (1 : Int))).fst.snd = b ∧ (0 : Int) = (23 : Int))) ∧
 (decide
 ((takeT (s, b) (hiI (IntKind.wrap IntKind.i64 (g + (1 : Int))) + (1 : Int))).snd.fst ≥
 IntKind.wrap IntKind.i64
 ((1 : Int) *
 (2 : Int) ^
 min (Int.toNat (IntKind.wrap IntKind.u64 (IntKind.wrap IntKind.i64 (hiI (IntKind.wrap IntKind.i64 (g + (1 : Int))) + (1 : Int) - (1 : Int)))))
 (IntKind.bits IntKind.i64))) =
 false →
 ((valR (s, b) g).snd.snd = (0 : Int) →
 (takeT (s, b) (hiI (IntKind.wrap IntKind.i64 (g + (1 : Int))) + (1 : Int))).snd.fst = (valR (s, b) g).snd.fst ∧
 (takeT (s, b) (hiI (IntKind.wrap IntKind.i64 (g + (1 : Int))) + (1 : Int))).fst.fst = (valR (s, b) g).fst.fst ∧
 (takeT (s, b) (hiI (IntKind.wrap IntKind.i64 (g + (1 : Int))) + (1 : Int))).fst.snd = (valR (s, b) g).fst.snd ∧ (0 : Int) = (0 : Int)) ∧
 (¬(valR (s, b) g).snd.snd = (0 : Int) →
 (takeT (s, b) (hiI (IntKind.wrap IntKind.i64 (g + (1 : Int))) + (1 : Int))).snd.fst = (0 : Int) ∧
 (takeT (s, b) (hiI (IntKind.wrap IntKind.i64 (g + (1 : Int))) + (1 : Int))).fst.fst = s ∧
 (takeT (s, b) (hiI (IntKind.wrap IntKind.i64 (g + (1 : Int))) + (1 : Int))).fst.snd = b ∧ (0 : Int) = (23 : Int)))) ∧
 (¬(takeT (s, b) (hiI (IntKind.wrap IntKind.i64 (g + (1 : Int))) + (1 : Int))).snd.snd = (0 : Int) →
 ByteArray.size s ≤ (9223372036854775807 : Nat) ∧
 (0 : Int) ≤ IntKind.wrap IntKind.u64 (IntKind.wrap IntKind.i64 (hiI (IntKind.wrap IntKind.i64 (g + (1 : Int))) + (1 : Int) - (1 : Int))) ∧
 (decide
 ((0 : Int) ≥
 IntKind.wrap IntKind.i64
 ((1 : Int) *
 (2 : Int) ^
 min (Int.toNat (IntKind.wrap IntKind.u64 (IntKind.wrap IntKind.i64 (hiI (IntKind.wrap IntKind.i64 (g + (1 : Int))) + (1 : Int) - (1 : Int)))))
 (IntKind.bits IntKind.i64))) =
 true →
 ((valR (s, b) g).snd.snd = (0 : Int) →
 IntKind.wrap IntKind.i64
 ((0 : Int) -
 IntKind.wrap IntKind.i64
 (IntKind.wrap IntKind.i64
 (IntKind.wrap IntKind.i64
 ((1 : Int) *
 (2 : Int) ^ min (Int.toNat (IntKind.wrap IntKind.u64 (hiI (IntKind.wrap IntKind.i64 (g + (1 : Int))) + (1 : Int)))) (IntKind.bits IntKind.i64)) -
 (1 : Int)) -
 IntKind.wrap IntKind.i64 (g + (1 : Int)))) =
 (valR (s, b) g).snd.fst ∧
 s = (valR (s, b) g).fst.fst ∧ b = (valR (s, b) g).fst.snd ∧ (23 : Int) = (0 : Int)) ∧
 (¬(valR (s, b) g).snd.snd = (0 : Int) →
 IntKind.wrap IntKind.i64
 ((0 : Int) -
 IntKind.wrap IntKind.i64
 (IntKind.wrap IntKind.i64
 (IntKind.wrap IntKind.i64
 ((1 : Int) *
 (2 : Int) ^ min (Int.toNat (IntKind.wrap IntKind.u64 (hiI (IntKind.wrap IntKind.i64 (g + (1 : Int))) + (1 : Int)))) (IntKind.bits IntKind.i64)) -
 (1 : Int)) -
 IntKind.wrap IntKind.i64 (g + (1 : Int)))) =
 (0 : Int) ∧
 s = s ∧ b = b ∧ (23 : Int) = (23 : Int))) ∧
 (decide
 ((0 : Int) ≥
 IntKind.wrap IntKind.i64
 ((1 : Int) *
 (2 : Int) ^
 min (Int.toNat (IntKind.wrap IntKind.u64 (IntKind.wrap IntKind.i64 (hiI (IntKind.wrap IntKind.i64 (g + (1 : Int))) + (1 : Int) - (1 : Int)))))
 (IntKind.bits IntKind.i64))) =
 false →
 ((valR (s, b) g).snd.snd = (0 : Int) → (0 : Int) = (valR (s, b) g).snd.fst ∧ s = (valR (s, b) g).fst.fst ∧ b = (valR (s, b) g).fst.snd ∧ (23 : Int) = (0 : Int)) ∧
 (¬(valR (s, b) g).snd.snd = (0 : Int) → (0 : Int) = (0 : Int) ∧ s = s ∧ b = b ∧ (23 : Int) = (23 : Int))))))) ∧
 (¬(takeT (s, b) (IntKind.wrap IntKind.i64 (hiI (IntKind.wrap IntKind.i64 (g + (1 : Int))) + (1 : Int) - (1 : Int)))).snd.snd = (0 : Int) →
 ByteArray.size s ≤ (9223372036854775807 : Nat) ∧
 (((23 : Int) != (0 : Int)) = true →
 ((valR (s, b) g).snd.snd = (0 : Int) → (0 : Int) = (valR (s, b) g).snd.fst ∧ s = (valR (s, b) g).fst.fst ∧ b = (valR (s, b) g).fst.snd ∧ (23 : Int) = (0 : Int)) ∧
 (¬(valR (s, b) g).snd.snd = (0 : Int) → (0 : Int) = (0 : Int) ∧ s = s ∧ b = b ∧ (23 : Int) = (23 : Int))) ∧
 (((23 : Int) != (0 : Int)) = false →
 (decide
 ((0 : Int) <
 IntKind.wrap IntKind.i64
 (IntKind.wrap IntKind.i64
 (IntKind.wrap IntKind.i64
 ((1 : Int) * (2 : Int) ^ min (Int.toNat (IntKind.wrap IntKind.u64 (hiI (IntKind.wrap IntKind.i64 (g + (1 : Int))) + (1 : Int)))) (IntKind.bits IntKind.i64)) -
 (1 : Int)) -
 IntKind.wrap IntKind.i64 (g + (1 : Int)))) =
 true →
 ((valR (s, b) g).snd.snd = (0 : Int) → (0 : Int) = (valR (s, b) g).snd.fst ∧ s = (valR (s, b) g).fst.fst ∧ b = (valR (s, b) g).fst.snd ∧ (23 : Int) = (0 : Int)) ∧
 (¬(valR (s, b) g).snd.snd = (0 : Int) → (0 : Int) = (0 : Int) ∧ s = s ∧ b = b ∧ (23 : Int) = (23 : Int))) ∧
 (decide
 ((0 : Int) <
 IntKind.wrap IntKind.i64
 (IntKind.wrap IntKind.i64
 (IntKind.wrap IntKind.i64
 ((1 : Int) * (2 : Int) ^ min (Int.toNat (IntKind.wrap IntKind.u64 (hiI (IntKind.wrap IntKind.i64 (g + (1 : Int))) + (1 : Int)))) (IntKind.bits IntKind.i64)) -
 (1 : Int)) -
 IntKind.wrap IntKind.i64 (g + (1 : Int)))) =
 false →
 False ∧ (0 : Int) ≤ IntKind.wrap IntKind.u64 (IntKind.wrap IntKind.i64 (hiI (IntKind.wrap IntKind.i64 (g + (1 : Int))) + (1 : Int) - (1 : Int))) ∧ False ∧ False)))
--end
theorem rval_e (g : Int) (s : ByteArray) (b : Int) : rval_t g s b = vcG Try.prog (Gof G8k) (fun _ => none) Try.f89 [.p 0 0 0, .v (.int .i64 g)] [(0, .cells 99 [.v (.string s), .v (.int .i64 b), .v (.int .i64 0)])] (.ite ⟨(valR (s, b) g).2.2 = 0, inferInstance⟩ (.leaf (.v (.int .i64 (valR (s, b) g).2.1)) ([(0, xC (valR (s, b) g).1 0)])) (.leaf (.v (.int .i64 0)) ([(0, xC (s, b) 23)]))) := by kernel_rfl
end Go.Proofs.Ytafabheehkmfhaa

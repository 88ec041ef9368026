/-
  The refusals of Put, Align and Done, and the reference's bit, Put, Align, Done. Conditions: each theorem's own.
-/
import Derived.Test.YtafabheehkmfhaaBitsP
namespace Go.Proofs.Ytafabheehkmfhaa
open Go.RowKit
set_option linter.unusedVariables false
set_option linter.unusedSimpArgs false
attribute [local go_sem] conv1 isU8_mk u8Str_mk

/-- what is wrong with the numbers of Put -/
def BadArgs (k v : Int) : Prop := k < 0 ∨ (0 ≤ k ∧ 32 < k) ∨ (0 ≤ k ∧ k ≤ 32 ∧ v < 0) ∨ (0 ≤ k ∧ k ≤ 32 ∧ 0 ≤ v ∧ 2 ^ k.toNat ≤ v)
set_option maxHeartbeats 2000000 in
theorem put_bad2 (s : ByteArray) (p n k v : Int) (w : World) (h : wchk s p n = 0) (hc : BadArgs k v) :
    Calls Try.prog 17 #[.agg #[.string s, .int .i64 p, .int .i64 n], .int .i64 k, .int .i64 v] w fun e w' => e = .returned (zeroV 2) ∧ Below w.heap.size w w' := by
  have Hw := Lib.hid h
  clear h
  have ht : 0 ≤ v → (v / 2 ^ k.toNat != 0) = decide (2 ^ k.toNat ≤ v) := shr_test
  unfold BadArgs at hc
  go_enter Try.func17, Try.ntmps17
  go_wp2_with fail
  refine (check_is s p n _ 0 Hw.out).mono ?_
  rintro e w1 ⟨rfl, hb⟩
  obtain ⟨hcc, hff⟩ := bcell hb
  have hz := hb.size
  simp only [World.size_alloc] at hz
  have HW := Lib.hid ((((Below.refl _ _).alloc (Nat.le_refl _) _).alloc (by simp) _).trans (hb.mono (by simp; omega)) : Below w.heap.size w w1)
  clear hb
  rcases hc with h1 | ⟨h1, h2⟩ | ⟨h1, h2, h3⟩ | ⟨h1, h2, h3, h4⟩
  · clear ht
    go_wp2
    refine bodyPost_ret (by simp [results, Try.results17, go_sem, hcc]; try rfl) rfl ?_
    exact ⟨rfl, (((HW.out.setCell (by simp) _).setCell (by simp) _).setCell (by simp) _)⟩
  · clear ht
    go_wp2
    refine bodyPost_ret (by simp [results, Try.results17, go_sem, hcc]; try rfl) rfl ?_
    exact ⟨rfl, (((HW.out.setCell (by simp) _).setCell (by simp) _).setCell (by simp) _)⟩
  · clear ht
    go_wp2
    refine bodyPost_ret (by simp [results, Try.results17, go_sem, hcc]; try rfl) rfl ?_
    exact ⟨rfl, (((HW.out.setCell (by simp) _).setCell (by simp) _).setCell (by simp) _)⟩
  · have ht' : (v / 2 ^ k.toNat != 0) = true := by rw [ht h3]; simpa using h4
    clear ht h4
    go_wp2
    refine bodyPost_ret (by simp [results, Try.results17, go_sem, hcc]; try rfl) rfl ?_
    exact ⟨rfl, (((HW.out.setCell (by simp) _).setCell (by simp) _).setCell (by simp) _)⟩

set_option maxHeartbeats 2000000 in
theorem align_bad (s : ByteArray) (p n c : Int) (w : World) (h : wchk s p n = c) (hc : c ≠ 0) :
    Calls Try.prog 19 #[.agg #[.string s, .int .i64 p, .int .i64 n]] w fun e w' => e = .returned (zeroV c) ∧ Below w.heap.size w w' := by
  have Hw := Lib.hid h
  have hc' : (c != 0) = true := by simpa using hc
  clear h hc
  go_enter Try.func19, Try.ntmps19
  go_wp2_with fail
  refine (check_is s p n _ c Hw.out).mono ?_
  rintro e w1 ⟨rfl, hb⟩
  obtain ⟨hcc, hff⟩ := bcell hb
  have hz := hb.size
  simp only [World.size_alloc] at hz
  have HW := Lib.hid ((((Below.refl _ _).alloc (Nat.le_refl _) _).alloc (by simp) _).trans (hb.mono (by simp; omega)) : Below w.heap.size w w1)
  clear hb
  go_wp2
  refine bodyPost_ret (by simp [results, Try.results19, go_sem, hcc]; try rfl) rfl ?_
  exact ⟨rfl, (((HW.out.setCell (by simp) _).setCell (by simp) _).setCell (by simp) _)⟩

set_option maxHeartbeats 2000000 in
theorem rput_bad1 (s : ByteArray) (p n k v c : Int) (w : World) (h : wchk s p n = c) (hc : c ≠ 0) :
    Calls Try.prog 18 #[.agg #[.string s, .int .i64 p, .int .i64 n], .int .i64 k, .int .i64 v] w fun e w' => e = .returned (zeroV c) ∧ Below w.heap.size w w' := by
  have Hw := Lib.hid h
  have hc' : (c != 0) = true := by simpa using hc
  have hc2 : (c == 0) = false := by simpa using hc
  clear h hc
  go_enter Try.func18, Try.ntmps18
  go_wp2_with fail
  refine (rcheck_is s p n _ c Hw.out).mono ?_
  rintro e w1 ⟨rfl, hb⟩
  obtain ⟨hcc, hff⟩ := bcell hb
  have hz := hb.size
  simp only [World.size_alloc] at hz
  have HW := Lib.hid ((((Below.refl _ _).alloc (Nat.le_refl _) _).alloc (by simp) _).trans (hb.mono (by simp; omega)) : Below w.heap.size w w1)
  clear hb
  go_wp2
  refine bodyPost_ret (by simp [results, Try.results18, go_sem, hcc]; try rfl) rfl ?_
  exact ⟨rfl, (((HW.out.setCell (by simp) _).setCell (by simp) _).setCell (by simp) _)⟩
set_option maxHeartbeats 2000000 in
theorem rput_bad2 (s : ByteArray) (p n k v : Int) (w : World) (h : wchk s p n = 0) (hc : BadArgs k v) :
    Calls Try.prog 18 #[.agg #[.string s, .int .i64 p, .int .i64 n], .int .i64 k, .int .i64 v] w fun e w' => e = .returned (zeroV 2) ∧ Below w.heap.size w w' := by
  have Hw := Lib.hid h
  clear h
  have hwp : k ≤ 32 → wrap64 (2 ^ k.toNat) = 2 ^ k.toNat := fun h => wrap_pow k (by omega)
  unfold BadArgs at hc
  go_enter Try.func18, Try.ntmps18
  go_wp2_with fail
  refine (rcheck_is s p n _ 0 Hw.out).mono ?_
  rintro e w1 ⟨rfl, hb⟩
  obtain ⟨hcc, hff⟩ := bcell hb
  have hz := hb.size
  simp only [World.size_alloc] at hz
  have HW := Lib.hid ((((Below.refl _ _).alloc (Nat.le_refl _) _).alloc (by simp) _).trans (hb.mono (by simp; omega)) : Below w.heap.size w w1)
  clear hb
  rcases hc with h1 | ⟨h1, h2⟩ | ⟨h1, h2, h3⟩ | ⟨h1, h2, h3, h4⟩
  · clear hwp
    go_wp2
    refine bodyPost_ret (by simp [results, Try.results18, go_sem, hcc]; try rfl) rfl ?_
    exact ⟨rfl, (((HW.out.setCell (by simp) _).setCell (by simp) _).setCell (by simp) _)⟩
  · clear hwp
    go_wp2
    refine bodyPost_ret (by simp [results, Try.results18, go_sem, hcc]; try rfl) rfl ?_
    exact ⟨rfl, (((HW.out.setCell (by simp) _).setCell (by simp) _).setCell (by simp) _)⟩
  · clear hwp
    go_wp2
    refine bodyPost_ret (by simp [results, Try.results18, go_sem, hcc]; try rfl) rfl ?_
    exact ⟨rfl, (((HW.out.setCell (by simp) _).setCell (by simp) _).setCell (by simp) _)⟩
  · have hwp := hwp h2
    go_wp2
    refine bodyPost_ret (by simp [results, Try.results18, go_sem, hcc]; try rfl) rfl ?_
    exact ⟨rfl, (((HW.out.setCell (by simp) _).setCell (by simp) _).setCell (by simp) _)⟩
set_option maxHeartbeats 2000000 in
theorem ralign_bad (s : ByteArray) (p n c : Int) (w : World) (h : wchk s p n = c) (hc : c ≠ 0) :
    Calls Try.prog 20 #[.agg #[.string s, .int .i64 p, .int .i64 n]] w fun e w' => e = .returned (zeroV c) ∧ Below w.heap.size w w' := by
  have Hw := Lib.hid h
  have hc' : (c != 0) = true := by simpa using hc
  clear h hc
  go_enter Try.func20, Try.ntmps20
  go_wp2_with fail
  refine (rcheck_is s p n _ c Hw.out).mono ?_
  rintro e w1 ⟨rfl, hb⟩
  obtain ⟨hcc, hff⟩ := bcell hb
  have hz := hb.size
  simp only [World.size_alloc] at hz
  have HW := Lib.hid ((((Below.refl _ _).alloc (Nat.le_refl _) _).alloc (by simp) _).trans (hb.mono (by simp; omega)) : Below w.heap.size w w1)
  clear hb
  go_wp2
  refine bodyPost_ret (by simp [results, Try.results20, go_sem, hcc]; try rfl) rfl ?_
  exact ⟨rfl, (((HW.out.setCell (by simp) _).setCell (by simp) _).setCell (by simp) _)⟩

set_option maxHeartbeats 2000000 in
theorem rbit_core0 (s : ByteArray) (p n b : Nat) (w : World) (hn : n < 7) (hp : p < 2 ^ n) (hb : b ≤ 1) :
    Calls Try.prog 61 #[.agg #[.string s, .int .i64 p, .int .i64 n], .int .i64 b] w fun e w' => e = .returned (.agg #[.string s, .int .i64 ((p + b * 2 ^ n : Nat) : Int), .int .i64 ((n + 1 : Nat) : Int)]) ∧ Below w.heap.size w w' := by
  have hw := wrap_small b n (by omega) hb
  have ht : ((n : Int) + 1 == 8) = false := by simp; omega
  have h8 := pow_lt8 n (by omega)
  have hle : b * 2 ^ n ≤ 128 := Nat.le_trans (Nat.mul_le_mul_right _ hb) (by omega)
  have hs : wrap64 ((p : Int) + (b : Int) * 2 ^ n) = ((p + b * 2 ^ n : Nat) : Int) := by
    rw [show (p : Int) + (b : Int) * 2 ^ n = ((p + b * 2 ^ n : Nat) : Int) by simp]
    exact IntWalk.wrap64_in _ ⟨by omega, by omega⟩
  generalize p + b * 2 ^ n = q at hs ⊢
  clear hle h8
  go_enter Try.func61, Try.ntmps61
  go_wp2
  go_returns
  exact ⟨rfl, by go_grown⟩
set_option maxHeartbeats 2000000 in
theorem rbit_core7 (s : ByteArray) (p b : Nat) (w : World) (hs : s.size ≤ 1099511627776) (hp : p < 128) (hb : b ≤ 1) :
    Calls Try.prog 61 #[.agg #[.string s, .int .i64 p, .int .i64 7], .int .i64 b] w fun e w' => e = .returned (.agg #[.string (s ++ ⟨#[UInt8.ofNat (p + b * 128)]⟩), .int .i64 0, .int .i64 0]) ∧ Below w.heap.size w w' := by
  have hle : ¬ 9223372036854775807 < s.size + 1 := by omega
  go_enter Try.func61, Try.ntmps61
  go_wp2
  go_returns
  exact ⟨by simp, by go_grown⟩
theorem rbit_any (s : ByteArray) (p n : Int) (L W b : Nat) (w : World) (h : s = wS L W) (hp' : p = (wP L W : Nat)) (hn : n = (L % 8 : Nat)) (hL : L / 8 ≤ 1099511627776) (hW : W < 2 ^ L) (hb : b ≤ 1) :
    Calls Try.prog 61 #[.agg #[.string s, .int .i64 p, .int .i64 n], .int .i64 b] w fun e w' => e = .returned (.agg (WCells (L + 1) (W + b * 2 ^ L))) ∧ Below w.heap.size w w' := by
  subst h hp' hn
  have hp := wP_lt L W
  unfold WCells
  rcases Nat.lt_or_ge (L % 8) 7 with h7 | h7
  · obtain ⟨e1, e2, e3⟩ := bit_same L W b hb hW h7
    rw [e1, e2, e3]
    exact rbit_core0 _ _ _ b w h7 hp hb
  · have h7' : L % 8 = 7 := by omega
    obtain ⟨e1, e2, e3⟩ := bit_full L W b hb hW h7'
    rw [e1, e2, e3]
    rw [h7'] at hp ⊢
    exact rbit_core7 _ _ b w (by rw [wS_size]; exact hL) (by simpa using hp) hb
end Go.Proofs.Ytafabheehkmfhaa

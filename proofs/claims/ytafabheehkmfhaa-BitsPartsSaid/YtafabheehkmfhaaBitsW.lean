/-
  The walks of package bits and of its reference: what each function answers. Conditions: each theorem's own.
-/
import Derived.Test.YtafabheehkmfhaaBitsM
namespace Go.Proofs.Ytafabheehkmfhaa
open Go.RowKit
set_option linter.unusedVariables false
set_option linter.unusedSimpArgs false

def isU8 : Option Value → Bool | some (.int .u8 _) => true | _ => false
def u8Str : Option Value → ByteArray | some (.int .u8 x) => ⟨#[UInt8.ofNat x.toNat]⟩ | _ => ByteArray.empty
theorem isU8_mk (x : Int) : isU8 (some (.int .u8 x)) = true := rfl
theorem u8Str_mk (x : Int) : u8Str (some (.int .u8 x)) = ⟨#[UInt8.ofNat x.toNat]⟩ := rfl
theorem conv1 (w : World) (b off cap : Nat) (h : isU8 (w.cell? ⟨b, off, none⟩) = true) :
    (convert 102 9 (.slice (some ⟨b, off, none⟩) 1 cap)).run Try.prog w = .ok (.string (u8Str (w.cell? ⟨b, off, none⟩))) w := by
  generalize hc : w.cell? ⟨b, off, none⟩ = o at h ⊢
  match o, h with
  | some (.int .u8 x), _ =>
    rw [run_convert_bytes_arg w 102 5 Try.underlying102 Try.underlying5 b off 1 cap [x] rfl
      (fun i hi => by
        obtain rfl : i = 0 := by omega
        simpa using hc) 9 Try.underlying9]
    simp [u8Str, strOfNums]
attribute [local go_sem] conv1 isU8_mk u8Str_mk

theorem or_add (p b n : Nat) (hn : n < 8) (hp : p < 2 ^ n) (hb : b ≤ 1) : bits .or .i64 (p : Int) ((b : Int) * 2 ^ n) = (p : Int) + (b : Int) * 2 ^ n := by
  have h8 := pow_lt8 n hn
  have hle : b * 2 ^ n ≤ 128 := Nat.le_trans (Nat.mul_le_mul_right _ hb) (by omega)
  have e : ((b : Int) * 2 ^ n) = ((b * 2 ^ n : Nat) : Int) := by simp
  rw [e, i64_or_nat _ _ (by omega) (by omega)]
  rw [Nat.or_comm, Nat.mul_comm, ← Nat.two_pow_add_eq_or_of_lt hp]
  omega
theorem wrap_small (b n : Nat) (hn : n < 8) (hb : b ≤ 1) : wrap64 ((b : Int) * 2 ^ n) = (b : Int) * 2 ^ n := by
  have h8 := pow_lt8 n hn
  have hle : b * 2 ^ n ≤ 128 := Nat.le_trans (Nat.mul_le_mul_right _ hb) (by omega)
  have e : ((b : Int) * 2 ^ n) = ((b * 2 ^ n : Nat) : Int) := by simp
  rw [e]
  exact IntWalk.wrap64_in _ ⟨by omega, by omega⟩

set_option maxHeartbeats 1000000 in
theorem bit_core0 (g : Nat) (s : ByteArray) (p n b : Nat) (w : World) (hn : n < 7) (hp : p < 2 ^ n) (hb : b ≤ 1)
    (hB : Blk w g 73 #[.string s, .int .i64 p, .int .i64 n]) :
    Calls Try.prog 80 #[.pointer (some ⟨g, 0, none⟩), .int .i64 b] w fun e w' => e = .returned (.tuple #[]) ∧
      Blk w' g 73 #[.string s, .int .i64 ((p + b * 2 ^ n : Nat) : Int), .int .i64 ((n + 1 : Nat) : Int)] ∧ w.grownBy w' (some g) := by
  have c0 := hB.cell 0
  have c1 := hB.cell 1
  have c2 := hB.cell 2
  simp only [List.getElem?_toArray, List.getElem?_cons_zero, List.getElem?_cons_succ] at c0 c1 c2
  have f0 := hB.frozen 0
  have f1 := hB.frozen 1
  have f2 := hB.frozen 2
  have ho := or_add p b n (by omega) hp hb
  have hw := wrap_small b n (by omega) hb
  have ht : ((n : Int) + 1 == 8) = false := by simp; omega
  have HB := Lib.hid hB
  clear hB
  go_enter Try.func80, Try.ntmps80
  go_wp2
  go_region
  go_wp2
  go_end0
  refine ⟨rfl, ?_, ?_⟩
  rotate_left
  · exact only_drew (only_setCell (g := g) (only_setCell (g := g) (World.grownBy.refl w _) (.inl rfl) _) (.inl rfl) _)
  have := ((HB.out.set_ 1 (.int .i64 (p + b * 2 ^ n))).set_ 2 (.int .i64 (n + 1))).drew
  simpa using this
set_option maxHeartbeats 1000000 in
theorem bit_core7 (g : Nat) (s : ByteArray) (p b : Nat) (w : World) (hs : s.size ≤ 1099511627776) (hp : p < 128) (hb : b ≤ 1)
    (hB : Blk w g 73 #[.string s, .int .i64 p, .int .i64 7]) :
    Calls Try.prog 80 #[.pointer (some ⟨g, 0, none⟩), .int .i64 b] w fun e w' => e = .returned (.tuple #[]) ∧
      Blk w' g 73 #[.string (s ++ ⟨#[UInt8.ofNat (p + b * 128)]⟩), .int .i64 0, .int .i64 0] ∧ w.grownBy w' (some g) := by
  have c0 := hB.cell 0
  have c1 := hB.cell 1
  have c2 := hB.cell 2
  simp only [List.getElem?_toArray, List.getElem?_cons_zero, List.getElem?_cons_succ] at c0 c1 c2
  have f0 := hB.frozen 0
  have f1 := hB.frozen 1
  have f2 := hB.frozen 2
  have hg := hB.lt
  have ho := or_add p b 7 (by omega) hp hb
  rw [show (2 : Int) ^ 7 = 128 from rfl] at ho
  have hle : ¬ 9223372036854775807 < s.size + 1 := by omega
  have HB := Lib.hid hB
  clear hB
  go_enter Try.func80, Try.ntmps80
  go_wp2
  go_region
  go_wp2
  go_region
  go_wp2
  go_end0
  refine ⟨rfl, ?_, ?_⟩
  · have := ((((((HB.out.set_ 1 (.int .i64 (p + b * 128))).set_ 2 (.int .i64 8)).set_ 0 (.string (s ++ ⟨#[UInt8.ofNat (p + b * 128)]⟩))).set_ 1 (.int .i64 0)).set_ 2 (.int .i64 0)).alloc (.cells #[.int .u8 (p + b * 128)] 5)).drew.drew
    simpa using this
  · (repeat' (first | (with_reducible exact World.grownBy.refl _ _) | (with_reducible assumption) | (with_reducible refine only_drew ?_) | (with_reducible refine only_drewN ?_ _) | (with_reducible refine only_alloc ?_ _) | (with_reducible refine only_setCell ?_ (Or.inl rfl) _)))

/-- a bit is put, whatever the place -/
theorem bit_any (g L W b : Nat) (w : World) (hL : L / 8 ≤ 1099511627776) (hW : W < 2 ^ L) (hb : b ≤ 1)
    (hB : Blk w g 73 #[.string (wS L W), .int .i64 (wP L W), .int .i64 ((L % 8 : Nat) : Int)]) :
    Calls Try.prog 80 #[.pointer (some ⟨g, 0, none⟩), .int .i64 b] w fun e w' => e = .returned (.tuple #[]) ∧
      Blk w' g 73 #[.string (wS (L + 1) (W + b * 2 ^ L)), .int .i64 (wP (L + 1) (W + b * 2 ^ L)), .int .i64 (((L + 1) % 8 : Nat) : Int)] ∧ w.grownBy w' (some g) := by
  have hp := wP_lt L W
  rcases Nat.lt_or_ge (L % 8) 7 with h7 | h7
  · obtain ⟨e1, e2, e3⟩ := bit_same L W b hb hW h7
    rw [e1, e2, e3]
    exact bit_core0 g _ _ _ b w h7 hp hb hB
  · have h7' : L % 8 = 7 := by omega
    obtain ⟨e1, e2, e3⟩ := bit_full L W b hb hW h7'
    rw [e1, e2, e3]
    rw [h7'] at hB hp
    exact bit_core7 g _ _ b w (by rw [wS_size]; exact hL) (by simpa using hp) hb hB

/-- the writer's cells -/
def WCells (L W : Nat) : Array Value := #[.string (wS L W), .int .i64 (wP L W), .int .i64 ((L % 8 : Nat) : Int)]
def WRel (g bs : Nat) (L W v n : Nat) (w : World) (i : Value) (wr : World) : Prop :=
  ∃ k : Nat, k ≤ n ∧ i = .int .i64 k ∧ Blk wr g 73 (WCells (L + k) (W + v % 2 ^ k * 2 ^ L)) ∧ w.grownBy wr (some g)
theorem put_lt (L W v k : Nat) (hW : W < 2 ^ L) : W + v % 2 ^ k * 2 ^ L < 2 ^ (L + k) := by
  have h := mod_bit_lt v k
  rw [Nat.add_comm L k, Nat.pow_add]
  calc W + v % 2 ^ k * 2 ^ L < 2 ^ L + v % 2 ^ k * 2 ^ L := by omega
    _ = (v % 2 ^ k + 1) * 2 ^ L := by rw [Nat.add_mul, Nat.one_mul, Nat.add_comm]
    _ ≤ _ := Nat.mul_le_mul_right _ h
theorem put_next (L W v k : Nat) : W + v % 2 ^ k * 2 ^ L + (v / 2 ^ k % 2) * 2 ^ (L + k) = W + v % 2 ^ (k + 1) * 2 ^ L := by
  rw [mod_bit v k, Nat.add_mul, Nat.mul_assoc, Nat.add_comm L k, Nat.pow_add, Nat.add_assoc]
set_option maxHeartbeats 1000000 in
theorem bits_any (g bs L W v n cap : Nat) (w : World) (hW : W < 2 ^ L) (hL : L / 8 ≤ 1099511627000) (hn : n ≤ 64) (hne : bs ≠ g) (hbs : bs < w.heap.size)
    (hB : Blk w g 73 (WCells L W))
    (hr : ∀ i, i < n → w.cell? ⟨bs, i, none⟩ = some (.int .i64 ((v / 2 ^ i % 2 : Nat) : Int))) :
    Calls Try.prog 58 #[.pointer (some ⟨g, 0, none⟩), .slice (some ⟨bs, 0, none⟩) n cap] w fun e w' => e = .returned (.tuple #[]) ∧
      Blk w' g 73 (WCells (L + n) (W + v % 2 ^ n * 2 ^ L)) ∧ w.grownBy w' (some g) := by
  have HB := Lib.hid hB
  have HR := Lib.hid hr
  clear hB hr
  go_enter Try.func58, Try.ntmps58
  go_wp2
  go_loopw [8] (fun i wr => WRel g bs L W v n w i wr) (fun i _ => n - (intOf i).toNat)
  case atStart => exact ⟨0, Nat.zero_le _, rfl, by simpa [Nat.mod_one] using HB.out, World.grownBy.refl w _⟩
  case round =>
    obtain ⟨k, hk, rfl, hBk, hG⟩ := hrel
    by_cases hlt : k < n
    · have hcell : wr.cell? ⟨bs, k, none⟩ = some (.int .i64 ((v / 2 ^ k % 2 : Nat) : Int)) := by
        rw [← HR.out k hlt]
        exact World.cell?_of_block (hG.block bs hbs (by simp; omega))
      generalize hbk : v / 2 ^ k % 2 = b at hcell
      have hb1 : b ≤ 1 := by omega
      have Hbk := Lib.hid hbk
      have HBk := Lib.hid hBk
      have HG := Lib.hid hG
      clear hbk hBk hG
      go_wp2_with fail
      refine (bit_any g (L + k) (W + v % 2 ^ k * 2 ^ L) b _ (by omega) (put_lt L W v k hW) hb1 HBk.out).mono ?_
      rintro e w1 ⟨rfl, hB1, hG1⟩
      have HB1 := Lib.hid hB1
      have HG1 := Lib.hid hG1
      clear hB1 hG1
      go_wp2
      go_roundw
      case rel =>
        refine ⟨k + 1, by omega, by go_num, ?_, HG.out.trans HG1.out⟩
        have := HB1.out
        rw [← Hbk.out, put_next] at this
        exact this
      case measure => simp [intOf]; omega
    · have : k = n := by omega
      subst this
      have HBk := Lib.hid hBk
      have HG := Lib.hid hG
      clear hBk hG
      go_wp2
      go_end0
      exact ⟨rfl, HBk.out, HG.out⟩

/-- the error of a writer, as both texts have it -/
def wchk (s : ByteArray) (p n : Int) : Int := if n < 0 ∨ 7 < n ∨ p < 0 ∨ 2 ^ n.toNat ≤ p then 2 else if 1048576 < s.size then 4 else 0
theorem ret_int {k : IntKind} {a b : Int} (h : a = b) : Ending.returned (.int k a) = .returned (.int k b) := by rw [h]
theorem wrap_pow (n : Int) (h : n ≤ 62) : wrap64 (2 ^ n.toNat) = 2 ^ n.toNat := by
  have h1 : 2 ^ n.toNat ≤ 2 ^ 62 := Nat.pow_le_pow_right (by omega) (by omega)
  have e : (2 : Int) ^ n.toNat = ((2 ^ n.toNat : Nat) : Int) := by simp
  rw [e]
  generalize 2 ^ n.toNat = X at h1 ⊢
  exact IntWalk.wrap64_in _ ⟨by omega, by omega⟩
theorem shr_test {p n : Int} (h0 : 0 ≤ p) : (p / 2 ^ n.toNat != 0) = decide (2 ^ n.toNat ≤ p) := by
  have hp : (0 : Int) < 2 ^ n.toNat := Int.pow_pos (by omega)
  rw [bne, Bool.eq_iff_iff]
  simp only [Bool.not_eq_true', beq_eq_false_iff_ne, ne_eq, decide_eq_true_eq]
  rw [← Int.not_lt]
  refine not_congr ⟨fun h => ?_, fun h => Int.ediv_eq_zero_of_lt h0 h⟩
  have := Int.emod_add_mul_ediv p (2 ^ n.toNat)
  have h2 := Int.emod_lt_of_pos p hp
  rw [h] at this
  omega
set_option maxHeartbeats 1000000 in
theorem check_any (s : ByteArray) (p n : Int) (w : World) :
    Calls Try.prog 15 #[.agg #[.string s, .int .i64 p, .int .i64 n]] w fun e w' => e = .returned (.int .i64 (wchk s p n)) ∧ Below w.heap.size w w' := by
  go_enter Try.func15, Try.ntmps15
  go_wp2
  all_goals
    go_ret
    refine ⟨ret_int ?_, by go_grown⟩
    first | (have hp : 0 ≤ p := by assumption) | (have hp : p ≤ p := Int.le_refl _)
    try simp only [shr_test hp] at *
    unfold wchk
    generalize (2 : Int) ^ n.toNat = X at *
    try simp at *
    (repeat' split) <;> omega
set_option maxHeartbeats 1000000 in
theorem rcheck_any (s : ByteArray) (p n : Int) (w : World) :
    Calls Try.prog 16 #[.agg #[.string s, .int .i64 p, .int .i64 n]] w fun e w' => e = .returned (.int .i64 (wchk s p n)) ∧ Below w.heap.size w w' := by
  go_enter Try.func16, Try.ntmps16
  go_wp2
  all_goals
    go_ret
    refine ⟨ret_int ?_, by go_grown⟩
    try simp (disch := omega) only [wrap_pow] at *
    unfold wchk
    generalize (2 : Int) ^ n.toNat = X at *
    try simp at *
    (repeat' split) <;> omega
set_option maxHeartbeats 1000000 in
theorem done_any (g : Nat) (s : ByteArray) (p n : Int) (w : World) (hB : Blk w g 73 #[.string s, .int .i64 p, .int .i64 n]) :
    Calls Try.prog 60 #[.pointer (some ⟨g, 0, none⟩)] w fun e w' => e = .returned (if 1048576 < s.size then .tuple #[.agg #[.string ⟨#[]⟩, .int .i64 0, .int .i64 0], .int .i64 4] else .tuple #[.agg #[.string s, .int .i64 p, .int .i64 n], .int .i64 0]) ∧ Below w.heap.size w w' := by
  have c0 := hB.cell 0
  have c1 := hB.cell 1
  have c2 := hB.cell 2
  simp only [List.getElem?_toArray, List.getElem?_cons_zero, List.getElem?_cons_succ] at c0 c1 c2
  have hg := hB.lt
  have HB := Lib.hid hB
  clear hB
  by_cases h : 1048576 < s.size
  · have h' : (1048576 : Int) < (s.size : Int) := by omega
    go_enter Try.func60, Try.ntmps60
    go_wp2
    go_returns
    refine ⟨by simp [h], by go_grown⟩
  · have h' : ¬ (1048576 : Int) < (s.size : Int) := by omega
    go_enter Try.func60, Try.ntmps60
    go_wp2
    go_returns
    refine ⟨by simp [h], by go_grown⟩
/-- zeros -/
def zcells (n : Nat) : Array Value := madeCells #[.int .i64 0] n
theorem zcells_size (n : Nat) : (zcells n).size = n := size_madeCells _ _
theorem zcells_get (n i : Nat) (h : i < n) : (zcells n)[i]? = some (.int .i64 0) := by
  rw [← Array.getElem?_toList]
  unfold zcells
  rw [toList_madeCells_one, List.getElem?_replicate, if_pos h]
theorem mk_ints (n : Nat) (hn : n ≤ 1099511627776) (w : World) : (Instr.makeSlice 44 (.int .i64 (n : Int)) (.int .i64 (n : Int))).run Try.prog w = .ok (.slice (some ⟨w.heap.size, 0, none⟩) n n) (w.alloc (.cells (zcells n) 3)) :=
  run_make_row' (P := Try.prog) 44 3 (.int .i64 0) 8 Try.underlying44 (by kernel_rfl) rfl _ _ n (by omega) (by omega) w
theorem and_bit (v k b : Nat) (hv : v < 2 ^ 62) (hb : v / 2 ^ k % 2 = b) : bits .and .i64 ((v : Int) / 2 ^ k) 1 = (b : Int) := by
  have e : (v : Int) / 2 ^ k = ((v / 2 ^ k : Nat) : Int) := by simp
  have h := Nat.div_le_self v (2 ^ k)
  rw [e, show (1 : Int) = ((1 : Nat) : Int) from rfl, i64_and_nat _ _ (by omega) (by omega), Nat.and_one_is_mod, hb]
def SplitRel (g n v : Nat) (w : World) (i : Value) (wr : World) : Prop :=
  ∃ (k : Nat) (C : Array Value), k ≤ n ∧ i = .int .i64 k ∧ Blk wr g 3 C ∧ C.size = n ∧ (∀ j, j < k → C[j]? = some (.int .i64 ((v / 2 ^ j % 2 : Nat) : Int))) ∧ Below w.heap.size w wr
set_option maxHeartbeats 1000000 in
theorem split_any (v n : Nat) (w : World) (hn : n ≤ 64) (hv : v < 2 ^ 62) :
    Calls Try.prog 59 #[.int .i64 v, .int .i64 n] w fun e w' => e = .returned (.slice (some ⟨w.heap.size, 0, none⟩) n n) ∧
      (∀ i, i < n → w'.cell? ⟨w.heap.size, i, none⟩ = some (.int .i64 ((v / 2 ^ i % 2 : Nat) : Int))) ∧ w.heap.size < w'.heap.size ∧ Below w.heap.size w w' := by
  have hmk := mk_ints n (by omega)
  have Hv := Lib.hid hv
  clear hv
  go_enter Try.func59, Try.ntmps59
  go_wp2
  go_loopw [10] (fun i wr => SplitRel w.heap.size n v w i wr) (fun i _ => n - (intOf i).toNat)
  case atStart => exact ⟨0, zcells n, Nat.zero_le _, rfl, Blk.new _ _ _, zcells_size n, fun j hj => by omega, by go_grown⟩
  case round =>
    obtain ⟨k, C, hk, rfl, hB, hC, hj, hW⟩ := hrel
    by_cases hlt : k < n
    · have c0 := hB.cell k
      have hk' : k < C.size := by omega
      rw [Array.getElem?_eq_getElem hk'] at c0
      have f0 := hB.frozen k
      obtain ⟨b, hb⟩ : ∃ b : Nat, v / 2 ^ k % 2 = b := ⟨_, rfl⟩
      have ha := and_bit v k b Hv.out hb
      have HB := Lib.hid hB
      have Hj := Lib.hid hj
      have HC := Lib.hid hC
      have Hb := Lib.hid hb
      clear hB hj hC hb
      go_wp2
      go_roundw
      case rel =>
        refine ⟨k + 1, C.setIfInBounds k (.int .i64 b), by omega, by go_num, HB.out.set_ k _, by simpa using HC.out, fun j hj => ?_, hW.setCell (by simp) _⟩
        rw [Array.getElem?_setIfInBounds]
        by_cases e : k = j
        · subst e
          rw [if_pos rfl, if_pos (by have := HC.out; omega), Hb.out]
        · rw [if_neg e]
          exact Hj.out j (by omega)
      case measure => simp [intOf]; omega
    · have : k = n := by omega
      subst this
      have HB := Lib.hid hB
      have Hj := Lib.hid hj
      have HC := Lib.hid hC
      clear hB hj hC
      go_wp2
      go_ret
      exact ⟨rfl, fun i hi => by rw [HB.out.cell i]; exact Hj.out i hi, HB.out.lt, hW⟩
end Go.Proofs.Ytafabheehkmfhaa

/-
  Texts joined: BitsM, BitsW, BitsP, BitsQ, BitsS, BitsT, BitsU, BitsV, Con, D8F, D8A, D8G, D8C, D8I, D8M, D8N, D8S, D8St, D8Nt, D8Ct, D8At. Conditions: each theorem's own.
-/
import Derived.Test.YtcoogfifjibkhaaGreatK3
import Derived.WalkKit
import Derived.IntWalk
namespace Go.Proofs.YtcoogfifjibkhaaGreat
set_option linter.unusedVariables false
def toLE : Nat → Nat → List UInt8
  | 0, _ => []
  | k + 1, W => UInt8.ofNat (W % 256) :: toLE k (W / 256)
def leN : List UInt8 → Nat
  | [] => 0
  | b :: l => b.toNat + 256 * leN l
theorem toLE_length (k : Nat) : ∀ W, (toLE k W).length = k := by
  induction k with
  | zero => intro W; rfl
  | succ k ih => intro W; simp [toLE, ih]
theorem pow256 (k : Nat) : 256 ^ k = 2 ^ (8 * k) := by rw [Nat.pow_mul]
theorem leN_lt (l : List UInt8) : leN l < 256 ^ l.length := by
  induction l with
  | nil => simp [leN]
  | cons b l ih =>
    have hb : b.toNat < 256 := b.toNat_lt
    simp only [leN, List.length_cons, Nat.pow_succ]
    omega
theorem toLE_leN (l : List UInt8) : toLE l.length (leN l) = l := by
  induction l with
  | nil => rfl
  | cons b l ih =>
    have hb : b.toNat < 256 := b.toNat_lt
    simp only [leN, List.length_cons, toLE]
    have h1 : (b.toNat + 256 * leN l) % 256 = b.toNat := by omega
    have h2 : (b.toNat + 256 * leN l) / 256 = leN l := by omega
    rw [h1, h2, ih]
    simp
theorem toLE_mod (k : Nat) : ∀ W, toLE k (W % 256 ^ k) = toLE k W := by
  induction k with
  | zero => intro W; rfl
  | succ k ih =>
    intro W
    simp only [toLE]
    have e1 : W % 256 ^ (k + 1) % 256 = W % 256 := by
      rw [Nat.pow_succ, Nat.mul_comm, Nat.mod_mul]; omega
    have e2 : W % 256 ^ (k + 1) / 256 = (W / 256) % 256 ^ k := by
      rw [Nat.pow_succ, Nat.mul_comm, Nat.mod_mul]; omega
    rw [e1, e2, ih]
theorem toLE_congr (k : Nat) {W W' : Nat} (h : W % 256 ^ k = W' % 256 ^ k) : toLE k W = toLE k W' := by
  rw [← toLE_mod, h, toLE_mod]
theorem toLE_snoc (k : Nat) : ∀ W, toLE (k + 1) W = toLE k W ++ [UInt8.ofNat (W / 256 ^ k % 256)] := by
  induction k with
  | zero => intro W; simp [toLE]
  | succ k ih =>
    intro W
    rw [toLE, ih, toLE, List.cons_append, Nat.div_div_eq_div_mul, Nat.pow_succ, Nat.mul_comm 256]
theorem leN_append (a b : List UInt8) : leN (a ++ b) = leN a + 256 ^ a.length * leN b := by
  induction a with
  | nil => simp [leN]
  | cons x a ih =>
    simp only [List.cons_append, leN, ih, List.length_cons, Nat.pow_succ]
    rw [Nat.mul_add, Nat.mul_comm (256 ^ a.length) 256, Nat.mul_assoc, Nat.add_assoc]
theorem leN_byte : ∀ (l : List UInt8) (i : Nat) (h : i < l.length), l[i].toNat = leN l / 256 ^ i % 256
  | b :: l, 0, h => by
    have hb : b.toNat < 256 := b.toNat_lt
    simp [leN]
  | b :: l, i + 1, h => by
    have hb : b.toNat < 256 := b.toNat_lt
    have e : (b.toNat + 256 * leN l) / 256 = leN l := by omega
    have := leN_byte l i (by simpa using h)
    simp only [List.getElem_cons_succ, leN]
    rw [this, Nat.pow_succ, Nat.mul_comm (256 ^ i) 256, ← Nat.div_div_eq_div_mul, e]
theorem leN_bit (l : List UInt8) (k : Nat) (h : k / 8 < l.length) : l[k / 8].toNat / 2 ^ (k % 8) % 2 = leN l / 2 ^ k % 2 := by
  rw [leN_byte l _ h]
  have e : (2 : Nat) ^ k = 256 ^ (k / 8) * 2 ^ (k % 8) := by
    rw [pow256, ← Nat.pow_add]; congr 1; omega
  rw [e, ← Nat.div_div_eq_div_mul]
  generalize leN l / 256 ^ (k / 8) = X
  have hk : k % 8 < 8 := Nat.mod_lt _ (by omega)
  generalize k % 8 = r at hk
  have e2 : (256 : Nat) = 2 ^ r * 2 ^ (8 - r) := by rw [← Nat.pow_add]; rw [show r + (8 - r) = 8 from by omega]
  rw [e2, Nat.mod_mul_right_div_self, Nat.mod_mod_of_dvd]
  exact ⟨2 ^ (7 - r), by rw [← Nat.pow_succ']; congr 1; omega⟩
theorem leN_beyond (l : List UInt8) (k : Nat) (h : 8 * l.length ≤ k) : leN l / 2 ^ k = 0 := by
  apply Nat.div_eq_of_lt
  refine Nat.lt_of_lt_of_le (leN_lt l) ?_
  rw [pow256]
  exact Nat.pow_le_pow_right (by omega) h
def wS (L W : Nat) : ByteArray := ⟨(toLE (L / 8) W).toArray⟩
def wP (L W : Nat) : Nat := W / 2 ^ (8 * (L / 8)) % 2 ^ (L % 8)
theorem wS_size (L W : Nat) : (wS L W).size = L / 8 := by
  show (toLE (L / 8) W).toArray.size = _
  simp [toLE_length]
theorem wP_lt (L W : Nat) : wP L W < 2 ^ (L % 8) := Nat.mod_lt _ (Nat.pow_pos (by omega))
theorem pow_lt8 (n : Nat) (h : n < 8) : 2 ^ n ≤ 128 := by
  have : 2 ^ n ≤ 2 ^ 7 := Nat.pow_le_pow_right (by omega) (by omega)
  simpa using this
theorem wP_eq (L W : Nat) (hW : W < 2 ^ L) : wP L W = W / 2 ^ (8 * (L / 8)) := by
  unfold wP
  apply Nat.mod_eq_of_lt
  rw [Nat.div_lt_iff_lt_mul (Nat.pow_pos (by omega)), ← Nat.pow_add]
  rwa [show L % 8 + 8 * (L / 8) = L from by omega]
theorem bit_same (L W b : Nat) (hb : b ≤ 1) (hW : W < 2 ^ L) (h7 : L % 8 < 7) :
    wS (L + 1) (W + b * 2 ^ L) = wS L W ∧ wP (L + 1) (W + b * 2 ^ L) = wP L W + b * 2 ^ (L % 8) ∧ (L + 1) % 8 = L % 8 + 1 := by
  have e8 : (L + 1) / 8 = L / 8 := by omega
  have hd : (2 : Nat) ^ L = 2 ^ (8 * (L / 8)) * 2 ^ (L % 8) := by rw [← Nat.pow_add]; congr 1; omega
  have hW' : W + b * 2 ^ L < 2 ^ (L + 1) := by
    rw [Nat.pow_succ]
    rcases Nat.le_one_iff_eq_zero_or_eq_one.1 hb with rfl | rfl <;> omega
  refine ⟨?_, ?_, by omega⟩
  · unfold wS
    rw [e8]
    congr 2
    apply toLE_congr
    rw [pow256, hd, ← Nat.mul_assoc, Nat.mul_comm b, Nat.mul_assoc, Nat.add_mul_mod_self_left]
  · rw [wP_eq _ _ hW', wP_eq _ _ hW, e8, hd, ← Nat.mul_assoc, Nat.mul_comm b, Nat.mul_assoc, Nat.add_mul_div_left _ _ (Nat.pow_pos (by omega))]
theorem bit_full (L W b : Nat) (hb : b ≤ 1) (hW : W < 2 ^ L) (h7 : L % 8 = 7) :
    wS (L + 1) (W + b * 2 ^ L) = wS L W ++ ⟨#[UInt8.ofNat (wP L W + b * 128)]⟩ ∧ wP (L + 1) (W + b * 2 ^ L) = 0 ∧ (L + 1) % 8 = 0 := by
  have e8 : (L + 1) / 8 = L / 8 + 1 := by omega
  have hd : (2 : Nat) ^ L = 2 ^ (8 * (L / 8)) * 128 := by
    rw [show (128 : Nat) = 2 ^ 7 from rfl, ← Nat.pow_add]; congr 1; omega
  have hW' : W + b * 2 ^ L < 2 ^ (L + 1) := by
    rw [Nat.pow_succ]
    rcases Nat.le_one_iff_eq_zero_or_eq_one.1 hb with rfl | rfl <;> omega
  refine ⟨?_, ?_, by omega⟩
  · unfold wS
    rw [e8, toLE_snoc]
    have e1 : toLE (L / 8) (W + b * 2 ^ L) = toLE (L / 8) W := by
      apply toLE_congr
      rw [pow256, hd, ← Nat.mul_assoc, Nat.mul_comm b, Nat.mul_assoc, Nat.add_mul_mod_self_left]
    have e2 : (W + b * 2 ^ L) / 256 ^ (L / 8) % 256 = wP L W + b * 128 := by
      rw [wP_eq _ _ hW, pow256, hd, ← Nat.mul_assoc, Nat.mul_comm b, Nat.mul_assoc, Nat.add_mul_div_left _ _ (Nat.pow_pos (by omega))]
      apply Nat.mod_eq_of_lt
      have : W / 2 ^ (8 * (L / 8)) < 128 := by
        rw [Nat.div_lt_iff_lt_mul (Nat.pow_pos (by omega)), Nat.mul_comm, ← hd]; exact hW
      omega
    rw [e1, e2]
    apply ByteArray.ext
    simp
  · unfold wP
    rw [show (L + 1) % 8 = 0 from by omega]
    simp [Nat.mod_one]
theorem size_le (s : ByteArray) : s.data.toList.length = s.size := by simp
theorem writer_form (s : ByteArray) (p n : Nat) (hn : n < 8) (hp : p < 2 ^ n) :
    ∃ L W, L = 8 * s.size + n ∧ W = leN s.data.toList + p * 2 ^ (8 * s.size) ∧ W < 2 ^ L ∧ s = wS L W ∧ p = wP L W ∧ n = L % 8 := by
  have hl := leN_lt s.data.toList
  rw [size_le, pow256] at hl
  have hW : leN s.data.toList + p * 2 ^ (8 * s.size) < 2 ^ (8 * s.size + n) := by
    rw [Nat.pow_add]
    calc leN s.data.toList + p * 2 ^ (8 * s.size) < 2 ^ (8 * s.size) + p * 2 ^ (8 * s.size) := by omega
      _ = (p + 1) * 2 ^ (8 * s.size) := by rw [Nat.add_mul, Nat.one_mul, Nat.add_comm]
      _ ≤ 2 ^ n * 2 ^ (8 * s.size) := Nat.mul_le_mul_right _ hp
      _ = _ := Nat.mul_comm _ _
  refine ⟨_, _, rfl, rfl, hW, ?_, ?_, by omega⟩
  · unfold wS
    rw [show (8 * s.size + n) / 8 = s.size from by omega]
    have : toLE s.size (leN s.data.toList + p * 2 ^ (8 * s.size)) = s.data.toList := by
      have e : toLE s.size (leN s.data.toList + p * 2 ^ (8 * s.size)) = toLE s.size (leN s.data.toList) := by
        apply toLE_congr
        rw [pow256, Nat.mul_comm, Nat.add_mul_mod_self_left]
      rw [e, ← size_le, toLE_leN]
    rw [this]
  · rw [wP_eq _ _ hW, show (8 * s.size + n) / 8 = s.size from by omega, Nat.mul_comm p, Nat.add_mul_div_left _ _ (Nat.pow_pos (by omega)), Nat.div_eq_of_lt hl, Nat.zero_add]
theorem mod_bit (v i : Nat) : v % 2 ^ (i + 1) = v % 2 ^ i + (v / 2 ^ i % 2) * 2 ^ i := by
  rw [Nat.pow_succ, Nat.mod_mul, Nat.mul_comm (2 ^ i)]
theorem mod_bit_lt (v i : Nat) : v % 2 ^ i < 2 ^ i := Nat.mod_lt _ (Nat.pow_pos (by omega))
end Go.Proofs.YtcoogfifjibkhaaGreat
namespace Go.Proofs.YtcoogfifjibkhaaGreat
open Go.RowKit
set_option linter.unusedVariables false
set_option linter.unusedSimpArgs false
def isU8 : Option Value → Bool | some (.int .u8 _) => true | _ => false
def u8Str : Option Value → ByteArray | some (.int .u8 x) => ⟨#[UInt8.ofNat x.toNat]⟩ | _ => ByteArray.empty
theorem isU8_mk (x : Int) : isU8 (some (.int .u8 x)) = true := rfl
theorem u8Str_mk (x : Int) : u8Str (some (.int .u8 x)) = ⟨#[UInt8.ofNat x.toNat]⟩ := rfl
theorem conv1 (w : World) (b off cap : Nat) (h : isU8 (w.cell? ⟨b, off, none⟩) = true) :
    (convert 166 9 (.slice (some ⟨b, off, none⟩) 1 cap)).run Tryz.prog w = .ok (.string (u8Str (w.cell? ⟨b, off, none⟩))) w := by
  generalize hc : w.cell? ⟨b, off, none⟩ = o at h ⊢
  match o, h with
  | some (.int .u8 x), _ =>
    rw [run_convert_bytes_arg w 166 5 Tryz.underlying166 Tryz.underlying5 b off 1 cap [x] rfl
      (fun i hi => by
        obtain rfl : i = 0 := by omega
        simpa using hc) 9 Tryz.underlying9]
    simp [u8Str, strOfNums]
attribute [local go_sem] conv1 isU8_mk u8Str_mk
theorem or_add (p b n : Nat) (hn : n < 8) (hp : p < 2 ^ n) (hb : b ≤ 1) : bits .or .i64 (p : Int) ((b : Int) * 2 ^ n) = (p : Int) + (b : Int) * 2 ^ n := by
  have h8 := pow_lt8 n hn
  have hle : b * 2 ^ n ≤ 128 := Nat.le_trans (Nat.mul_le_mul_right _ hb) (by omega)
  have e : ((b : Int) * 2 ^ n) = ((b * 2 ^ n : Nat) : Int) := by simp
  rw [e, i64_or_nat _ _ (by omega) (by omega)]
  rw [Nat.or_comm, Nat.mul_comm, ← Nat.two_pow_add_eq_or_of_lt hp]
  omega
theorem wrap_small (b n : Nat) (hn : n < 8) (hb : b ≤ 1) : wrap64 ((b : Int) * 2 ^ n) = (b : Int) * 2 ^ n := by
  have h8 := pow_lt8 n hn
  have hle : b * 2 ^ n ≤ 128 := Nat.le_trans (Nat.mul_le_mul_right _ hb) (by omega)
  have e : ((b : Int) * 2 ^ n) = ((b * 2 ^ n : Nat) : Int) := by simp
  rw [e]
  exact IntWalk.wrap64_in _ ⟨by omega, by omega⟩
set_option maxHeartbeats 1000000 in
theorem bit_core0 (g : Nat) (s : ByteArray) (p n b : Nat) (w : World) (hn : n < 7) (hp : p < 2 ^ n) (hb : b ≤ 1)
    (hB : Blk w g 145 #[.string s, .int .i64 p, .int .i64 n]) :
    Calls Tryz.prog 124 #[.pointer (some ⟨g, 0, none⟩), .int .i64 b] w fun e w' => e = .returned (.tuple #[]) ∧
      Blk w' g 145 #[.string s, .int .i64 ((p + b * 2 ^ n : Nat) : Int), .int .i64 ((n + 1 : Nat) : Int)] ∧ w.grownBy w' (some g) := by
  have c0 := hB.cell 0
  have c1 := hB.cell 1
  have c2 := hB.cell 2
  simp only [List.getElem?_toArray, List.getElem?_cons_zero, List.getElem?_cons_succ] at c0 c1 c2
  have f0 := hB.frozen 0
  have f1 := hB.frozen 1
  have f2 := hB.frozen 2
  have ho := or_add p b n (by omega) hp hb
  have hw := wrap_small b n (by omega) hb
  have ht : ((n : Int) + 1 == 8) = false := by simp; omega
  have HB := Lib.hid hB
  clear hB
  go_enter Tryz.func124, Tryz.ntmps124
  go_wp2
  go_region
  go_wp2
  go_end0
  refine ⟨rfl, ?_, ?_⟩
  rotate_left
  · exact only_drew (only_setCell (g := g) (only_setCell (g := g) (World.grownBy.refl w _) (.inl rfl) _) (.inl rfl) _)
  have := ((HB.out.set_ 1 (.int .i64 (p + b * 2 ^ n))).set_ 2 (.int .i64 (n + 1))).drew
  simpa using this
set_option maxHeartbeats 1000000 in
theorem bit_core7 (g : Nat) (s : ByteArray) (p b : Nat) (w : World) (hs : s.size ≤ 1099511627776) (hp : p < 128) (hb : b ≤ 1)
    (hB : Blk w g 145 #[.string s, .int .i64 p, .int .i64 7]) :
    Calls Tryz.prog 124 #[.pointer (some ⟨g, 0, none⟩), .int .i64 b] w fun e w' => e = .returned (.tuple #[]) ∧
      Blk w' g 145 #[.string (s ++ ⟨#[UInt8.ofNat (p + b * 128)]⟩), .int .i64 0, .int .i64 0] ∧ w.grownBy w' (some g) := by
  have c0 := hB.cell 0
  have c1 := hB.cell 1
  have c2 := hB.cell 2
  simp only [List.getElem?_toArray, List.getElem?_cons_zero, List.getElem?_cons_succ] at c0 c1 c2
  have f0 := hB.frozen 0
  have f1 := hB.frozen 1
  have f2 := hB.frozen 2
  have hg := hB.lt
  have ho := or_add p b 7 (by omega) hp hb
  rw [show (2 : Int) ^ 7 = 128 from rfl] at ho
  have hle : ¬ 9223372036854775807 < s.size + 1 := by omega
  have HB := Lib.hid hB
  clear hB
  go_enter Tryz.func124, Tryz.ntmps124
  go_wp2
  go_region
  go_wp2
  go_region
  go_wp2
  go_end0
  refine ⟨rfl, ?_, ?_⟩
  · have := ((((((HB.out.set_ 1 (.int .i64 (p + b * 128))).set_ 2 (.int .i64 8)).set_ 0 (.string (s ++ ⟨#[UInt8.ofNat (p + b * 128)]⟩))).set_ 1 (.int .i64 0)).set_ 2 (.int .i64 0)).alloc (.cells #[.int .u8 (p + b * 128)] 5)).drew.drew
    simpa using this
  · (repeat' (first | (with_reducible exact World.grownBy.refl _ _) | (with_reducible assumption) | (with_reducible refine only_drew ?_) | (with_reducible refine only_drewN ?_ _) | (with_reducible refine only_alloc ?_ _) | (with_reducible refine only_setCell ?_ (Or.inl rfl) _)))
theorem bit_any (g L W b : Nat) (w : World) (hL : L / 8 ≤ 1099511627776) (hW : W < 2 ^ L) (hb : b ≤ 1)
    (hB : Blk w g 145 #[.string (wS L W), .int .i64 (wP L W), .int .i64 ((L % 8 : Nat) : Int)]) :
    Calls Tryz.prog 124 #[.pointer (some ⟨g, 0, none⟩), .int .i64 b] w fun e w' => e = .returned (.tuple #[]) ∧
      Blk w' g 145 #[.string (wS (L + 1) (W + b * 2 ^ L)), .int .i64 (wP (L + 1) (W + b * 2 ^ L)), .int .i64 (((L + 1) % 8 : Nat) : Int)] ∧ w.grownBy w' (some g) := by
  have hp := wP_lt L W
  rcases Nat.lt_or_ge (L % 8) 7 with h7 | h7
  · obtain ⟨e1, e2, e3⟩ := bit_same L W b hb hW h7
    rw [e1, e2, e3]
    exact bit_core0 g _ _ _ b w h7 hp hb hB
  · have h7' : L % 8 = 7 := by omega
    obtain ⟨e1, e2, e3⟩ := bit_full L W b hb hW h7'
    rw [e1, e2, e3]
    rw [h7'] at hB hp
    exact bit_core7 g _ _ b w (by rw [wS_size]; exact hL) (by simpa using hp) hb hB
def WCells (L W : Nat) : Array Value := #[.string (wS L W), .int .i64 (wP L W), .int .i64 ((L % 8 : Nat) : Int)]
def WRel (g bs : Nat) (L W v n : Nat) (w : World) (i : Value) (wr : World) : Prop :=
  ∃ k : Nat, k ≤ n ∧ i = .int .i64 k ∧ Blk wr g 145 (WCells (L + k) (W + v % 2 ^ k * 2 ^ L)) ∧ w.grownBy wr (some g)
theorem put_lt (L W v k : Nat) (hW : W < 2 ^ L) : W + v % 2 ^ k * 2 ^ L < 2 ^ (L + k) := by
  have h := mod_bit_lt v k
  rw [Nat.add_comm L k, Nat.pow_add]
  calc W + v % 2 ^ k * 2 ^ L < 2 ^ L + v % 2 ^ k * 2 ^ L := by omega
    _ = (v % 2 ^ k + 1) * 2 ^ L := by rw [Nat.add_mul, Nat.one_mul, Nat.add_comm]
    _ ≤ _ := Nat.mul_le_mul_right _ h
theorem put_next (L W v k : Nat) : W + v % 2 ^ k * 2 ^ L + (v / 2 ^ k % 2) * 2 ^ (L + k) = W + v % 2 ^ (k + 1) * 2 ^ L := by
  rw [mod_bit v k, Nat.add_mul, Nat.mul_assoc, Nat.add_comm L k, Nat.pow_add, Nat.add_assoc]
set_option maxHeartbeats 1000000 in
theorem bits_any (g bs L W v n cap : Nat) (w : World) (hW : W < 2 ^ L) (hL : L / 8 ≤ 1099511627000) (hn : n ≤ 64) (hne : bs ≠ g) (hbs : bs < w.heap.size)
    (hB : Blk w g 145 (WCells L W))
    (hr : ∀ i, i < n → w.cell? ⟨bs, i, none⟩ = some (.int .i64 ((v / 2 ^ i % 2 : Nat) : Int))) :
    Calls Tryz.prog 114 #[.pointer (some ⟨g, 0, none⟩), .slice (some ⟨bs, 0, none⟩) n cap] w fun e w' => e = .returned (.tuple #[]) ∧
      Blk w' g 145 (WCells (L + n) (W + v % 2 ^ n * 2 ^ L)) ∧ w.grownBy w' (some g) := by
  have HB := Lib.hid hB
  have HR := Lib.hid hr
  clear hB hr
  go_enter Tryz.func114, Tryz.ntmps114
  go_wp2
  go_loopw [8] (fun i wr => WRel g bs L W v n w i wr) (fun i _ => n - (intOf i).toNat)
  case atStart => exact ⟨0, Nat.zero_le _, rfl, by simpa [Nat.mod_one] using HB.out, World.grownBy.refl w _⟩
  case round =>
    obtain ⟨k, hk, rfl, hBk, hG⟩ := hrel
    by_cases hlt : k < n
    · have hcell : wr.cell? ⟨bs, k, none⟩ = some (.int .i64 ((v / 2 ^ k % 2 : Nat) : Int)) := by
        rw [← HR.out k hlt]
        exact World.cell?_of_block (hG.block bs hbs (by simp; omega))
      generalize hbk : v / 2 ^ k % 2 = b at hcell
      have hb1 : b ≤ 1 := by omega
      have Hbk := Lib.hid hbk
      have HBk := Lib.hid hBk
      have HG := Lib.hid hG
      clear hbk hBk hG
      go_wp2_with fail
      refine (bit_any g (L + k) (W + v % 2 ^ k * 2 ^ L) b _ (by omega) (put_lt L W v k hW) hb1 HBk.out).mono ?_
      rintro e w1 ⟨rfl, hB1, hG1⟩
      have HB1 := Lib.hid hB1
      have HG1 := Lib.hid hG1
      clear hB1 hG1
      go_wp2
      go_roundw
      case rel =>
        refine ⟨k + 1, by omega, by go_num, ?_, HG.out.trans HG1.out⟩
        have := HB1.out
        rw [← Hbk.out, put_next] at this
        exact this
      case measure => simp [intOf]; omega
    · have : k = n := by omega
      subst this
      have HBk := Lib.hid hBk
      have HG := Lib.hid hG
      clear hBk hG
      go_wp2
      go_end0
      exact ⟨rfl, HBk.out, HG.out⟩
def wchk (s : ByteArray) (p n : Int) : Int := if n < 0 ∨ 7 < n ∨ p < 0 ∨ 2 ^ n.toNat ≤ p then 2 else if 1048576 < s.size then 4 else 0
theorem ret_int {k : IntKind} {a b : Int} (h : a = b) : Ending.returned (.int k a) = .returned (.int k b) := by rw [h]
theorem shr_test {p n : Int} (h0 : 0 ≤ p) : (p / 2 ^ n.toNat != 0) = decide (2 ^ n.toNat ≤ p) := by
  have hp : (0 : Int) < 2 ^ n.toNat := Int.pow_pos (by omega)
  rw [bne, Bool.eq_iff_iff]
  simp only [Bool.not_eq_true', beq_eq_false_iff_ne, ne_eq, decide_eq_true_eq]
  rw [← Int.not_lt]
  refine not_congr ⟨fun h => ?_, fun h => Int.ediv_eq_zero_of_lt h0 h⟩
  have := Int.emod_add_mul_ediv p (2 ^ n.toNat)
  have h2 := Int.emod_lt_of_pos p hp
  rw [h] at this
  omega
set_option maxHeartbeats 1000000 in
theorem check_any (s : ByteArray) (p n : Int) (w : World) :
    Calls Tryz.prog 113 #[.agg #[.string s, .int .i64 p, .int .i64 n]] w fun e w' => e = .returned (.int .i64 (wchk s p n)) ∧ Below w.heap.size w w' := by
  go_enter Tryz.func113, Tryz.ntmps113
  go_wp2
  all_goals
    go_ret
    refine ⟨ret_int ?_, by go_grown⟩
    first | (have hp : 0 ≤ p := by assumption) | (have hp : p ≤ p := Int.le_refl _)
    try simp only [shr_test hp] at *
    unfold wchk
    generalize (2 : Int) ^ n.toNat = X at *
    try simp at *
    (repeat' split) <;> omega
set_option maxHeartbeats 1000000 in
theorem done_any (g : Nat) (s : ByteArray) (p n : Int) (w : World) (hB : Blk w g 145 #[.string s, .int .i64 p, .int .i64 n]) :
    Calls Tryz.prog 116 #[.pointer (some ⟨g, 0, none⟩)] w fun e w' => e = .returned (if 1048576 < s.size then .tuple #[.agg #[.string ⟨#[]⟩, .int .i64 0, .int .i64 0], .int .i64 4] else .tuple #[.agg #[.string s, .int .i64 p, .int .i64 n], .int .i64 0]) ∧ Below w.heap.size w w' := by
  have c0 := hB.cell 0
  have c1 := hB.cell 1
  have c2 := hB.cell 2
  simp only [List.getElem?_toArray, List.getElem?_cons_zero, List.getElem?_cons_succ] at c0 c1 c2
  have hg := hB.lt
  have HB := Lib.hid hB
  clear hB
  by_cases h : 1048576 < s.size
  · have h' : (1048576 : Int) < (s.size : Int) := by omega
    go_enter Tryz.func116, Tryz.ntmps116
    go_wp2
    go_returns
    refine ⟨by simp [h], by go_grown⟩
  · have h' : ¬ (1048576 : Int) < (s.size : Int) := by omega
    go_enter Tryz.func116, Tryz.ntmps116
    go_wp2
    go_returns
    refine ⟨by simp [h], by go_grown⟩
def zcells (n : Nat) : Array Value := madeCells #[.int .i64 0] n
theorem zcells_size (n : Nat) : (zcells n).size = n := size_madeCells _ _
theorem mk_ints (n : Nat) (hn : n ≤ 1099511627776) (w : World) : (Instr.makeSlice 22 (.int .i64 (n : Int)) (.int .i64 (n : Int))).run Tryz.prog w = .ok (.slice (some ⟨w.heap.size, 0, none⟩) n n) (w.alloc (.cells (zcells n) 3)) :=
  run_make_row' (P := Tryz.prog) 22 3 (.int .i64 0) 8 Tryz.underlying22 (by kernel_rfl) rfl _ _ n (by omega) (by omega) w
theorem and_bit (v k b : Nat) (hv : v < 2 ^ 62) (hb : v / 2 ^ k % 2 = b) : bits .and .i64 ((v : Int) / 2 ^ k) 1 = (b : Int) := by
  have e : (v : Int) / 2 ^ k = ((v / 2 ^ k : Nat) : Int) := by simp
  have h := Nat.div_le_self v (2 ^ k)
  rw [e, show (1 : Int) = ((1 : Nat) : Int) from rfl, i64_and_nat _ _ (by omega) (by omega), Nat.and_one_is_mod, hb]
def SplitRel (g n v : Nat) (w : World) (i : Value) (wr : World) : Prop :=
  ∃ (k : Nat) (C : Array Value), k ≤ n ∧ i = .int .i64 k ∧ Blk wr g 3 C ∧ C.size = n ∧ (∀ j, j < k → C[j]? = some (.int .i64 ((v / 2 ^ j % 2 : Nat) : Int))) ∧ Below w.heap.size w wr
set_option maxHeartbeats 1000000 in
theorem split_any (v n : Nat) (w : World) (hn : n ≤ 64) (hv : v < 2 ^ 62) :
    Calls Tryz.prog 115 #[.int .i64 v, .int .i64 n] w fun e w' => e = .returned (.slice (some ⟨w.heap.size, 0, none⟩) n n) ∧
      (∀ i, i < n → w'.cell? ⟨w.heap.size, i, none⟩ = some (.int .i64 ((v / 2 ^ i % 2 : Nat) : Int))) ∧ w.heap.size < w'.heap.size ∧ Below w.heap.size w w' := by
  have hmk := mk_ints n (by omega)
  have Hv := Lib.hid hv
  clear hv
  go_enter Tryz.func115, Tryz.ntmps115
  go_wp2
  go_loopw [10] (fun i wr => SplitRel w.heap.size n v w i wr) (fun i _ => n - (intOf i).toNat)
  case atStart => exact ⟨0, zcells n, Nat.zero_le _, rfl, Blk.new _ _ _, zcells_size n, fun j hj => by omega, by go_grown⟩
  case round =>
    obtain ⟨k, C, hk, rfl, hB, hC, hj, hW⟩ := hrel
    by_cases hlt : k < n
    · have c0 := hB.cell k
      have hk' : k < C.size := by omega
      rw [Array.getElem?_eq_getElem hk'] at c0
      have f0 := hB.frozen k
      obtain ⟨b, hb⟩ : ∃ b : Nat, v / 2 ^ k % 2 = b := ⟨_, rfl⟩
      have ha := and_bit v k b Hv.out hb
      have HB := Lib.hid hB
      have Hj := Lib.hid hj
      have HC := Lib.hid hC
      have Hb := Lib.hid hb
      clear hB hj hC hb
      go_wp2
      go_roundw
      case rel =>
        refine ⟨k + 1, C.setIfInBounds k (.int .i64 b), by omega, by go_num, HB.out.set_ k _, by simpa using HC.out, fun j hj => ?_, hW.setCell (by simp) _⟩
        rw [Array.getElem?_setIfInBounds]
        by_cases e : k = j
        · subst e
          rw [if_pos rfl, if_pos (by have := HC.out; omega), Hb.out]
        · rw [if_neg e]
          exact Hj.out j (by omega)
      case measure => simp [intOf]; omega
    · have : k = n := by omega
      subst this
      have HB := Lib.hid hB
      have Hj := Lib.hid hj
      have HC := Lib.hid hC
      clear hB hj hC
      go_wp2
      go_ret
      exact ⟨rfl, fun i hi => by rw [HB.out.cell i]; exact Hj.out i hi, HB.out.lt, hW⟩
end Go.Proofs.YtcoogfifjibkhaaGreat
namespace Go.Proofs.YtcoogfifjibkhaaGreat
open Go.RowKit
set_option linter.unusedVariables false
set_option linter.unusedSimpArgs false
theorem check_ok (s : ByteArray) (p n : Int) (w : World) (h : wchk s p n = 0) :
    Calls Tryz.prog 113 #[.agg #[.string s, .int .i64 p, .int .i64 n]] w fun e w' => e = .returned (.int .i64 0) ∧ Below w.heap.size w w' := by
  have := check_any s p n w
  rwa [h] at this
structure IsW (s : ByteArray) (p n : Int) (L W : Nat) : Prop where
  s : s = wS L W
  p : p = (wP L W : Nat)
  n : n = (L % 8 : Nat)
  lt : W < 2 ^ L
  le : L / 8 ≤ 1048576
theorem IsW.cells {s : ByteArray} {p n : Int} {L W : Nat} (h : IsW s p n L W) : #[Value.string s, .int .i64 p, .int .i64 n] = WCells L W := by
  rw [h.s, h.p, h.n]
  rfl
theorem IsW.chk {s : ByteArray} {p n : Int} {L W : Nat} (h : IsW s p n L W) : wchk s p n = 0 := by
  have h1 := h.le
  have h2 := wS_size L W
  have h3 := wP_lt L W
  have e1 := h.p
  have e2 := h.n
  have e0 := h.s
  unfold wchk
  have h4 : ¬ (2 : Int) ^ n.toNat ≤ p := by
    rw [e1, e2, Int.toNat_natCast]
    have : ((wP L W : Nat) : Int) < ((2 ^ (L % 8) : Nat) : Int) := by omega
    simpa using this
  have h5 : s.size ≤ 1048576 := by rw [e0, h2]; exact h1
  rw [if_neg (by rintro (h | h | h | h) <;> first | exact h4 h | omega), if_neg (by omega)]
theorem div_zero_test {v k : Nat} (hv : v < 2 ^ k) : ((v : Int) / 2 ^ k != 0) = false := by
  have e : (v : Int) / 2 ^ k = ((v / 2 ^ k : Nat) : Int) := by simp
  rw [e, Nat.div_eq_of_lt hv]
  rfl
theorem v_mod {v k : Nat} (hv : v < 2 ^ k) : v % 2 ^ k = v := Nat.mod_eq_of_lt hv
theorem v_lt {v k : Nat} (hk : k ≤ 32) (hv : v < 2 ^ k) : v < 2 ^ 32 := Nat.lt_of_lt_of_le hv (Nat.pow_le_pow_right (by omega) hk)
def putOut (L W k v : Nat) : Value := if 1048576 < (L + k) / 8 then .tuple #[.agg #[.string ⟨#[]⟩, .int .i64 0, .int .i64 0], .int .i64 4]
  else .tuple #[.agg #[.string (wS (L + k) (W + v * 2 ^ L)), .int .i64 (wP (L + k) (W + v * 2 ^ L)), .int .i64 (((L + k) % 8 : Nat) : Int)], .int .i64 0]
theorem putOut_long {L W k v : Nat} (h : 1048576 < (L + k) / 8) : putOut L W k v = .tuple #[.agg #[.string ⟨#[]⟩, .int .i64 0, .int .i64 0], .int .i64 4] := if_pos h
theorem putOut_ok {L W k v : Nat} (h : ¬ 1048576 < (L + k) / 8) : putOut L W k v = .tuple #[.agg #[.string (wS (L + k) (W + v * 2 ^ L)), .int .i64 (wP (L + k) (W + v * 2 ^ L)), .int .i64 (((L + k) % 8 : Nat) : Int)], .int .i64 0] := if_neg h
set_option maxHeartbeats 2000000 in
theorem put_core (s : ByteArray) (p n : Int) (L W k v : Nat) (w : World) (h : IsW s p n L W) (hk : k ≤ 32) (hv : v < 2 ^ k) :
    Calls Tryz.prog 91 #[.agg #[.string s, .int .i64 p, .int .i64 n], .int .i64 k, .int .i64 v] w fun e w' =>
      e = .returned (putOut L W k v) ∧ Below w.heap.size w w' := by
  have hd := div_zero_test hv
  have Hv := Lib.hid hv
  have Hw := Lib.hid h
  clear hv h
  go_enter Tryz.func91, Tryz.ntmps91
  go_wp2_with fail
  refine (check_ok s p n _ Hw.out.chk).mono ?_
  rintro e w1 ⟨rfl, hb⟩
  obtain ⟨hc, hf⟩ := bcell hb
  go_wp2_with fail
  refine (split_any v k _ (by omega) (by have := v_lt hk Hv.out; omega)).mono ?_
  rintro e w2 ⟨rfl, hs2, hz2, hb2⟩
  obtain ⟨hc2, hf2⟩ := bcell hb2
  have Hs2 := Lib.hid hs2
  have Hb := Lib.hid hb
  have Hb2 := Lib.hid hb2
  clear hs2 hb hb2
  go_wp2_with fail
  have hB2 : Blk w2 w1.heap.size 145 (WCells L W) := by
    have h1 : Blk (w1.alloc (.cells #[.string s, .int .i64 p, .int .i64 n] 145)) w1.heap.size 145 (WCells L W) := by
      rw [← Hw.out.cells]
      exact Blk.new _ _ _
    exact h1.below Hb2.out (by simp)
  have hle := Hw.out.le
  refine (bits_any w1.heap.size (w1.heap.size + 1) L W v k k w2 Hw.out.lt (by omega) (by omega) (by omega) (by simpa using hz2) hB2 (by simpa using Hs2.out)).mono ?_
  rintro e w3 ⟨rfl, hB3, hG3⟩
  have hz3 := hG3.size
  simp only [World.size_alloc] at hz2
  have hZ3 : Blk w3 (w.heap.size + 1) 90 #[.string ⟨#[]⟩, .int .i64 0, .int .i64 0] := by
    have h1 := (Blk.new (w.alloc (.cells #[.string s, .int .i64 p, .int .i64 n] 90)) 90 #[.string ⟨#[]⟩, .int .i64 0, .int .i64 0]).below Hb.out (by simp)
    have h2 := (h1.alloc (.cells #[.string s, .int .i64 p, .int .i64 n] 145)).below Hb2.out (by have := h1.lt; simp at this ⊢; omega)
    have h3 := h2.grown hG3 (by have := h1.lt; simp at this ⊢; omega)
    simpa using h3
  have hW3 : Below w.heap.size w w3 := by
    have h1 : Below w.heap.size w w1 := (((Below.refl _ _).alloc (Nat.le_refl _) _).alloc (by simp) _).trans (Hb.out.mono (by simp; omega))
    have h2 : Below w.heap.size w w2 := (h1.alloc h1.size _).trans (Hb2.out.mono (by have := h1.size; simp; omega))
    exact h2.grown hG3 h2.size (fun g hg => by have := h1.size; simp at hg; omega)
  have HB3 := Lib.hid hB3
  have HZ3 := Lib.hid hZ3
  have HW3 := Lib.hid hW3
  clear hB3 hG3 hZ3 hW3 hc hf hc2 hf2
  go_wp2_with fail
  refine (done_any w1.heap.size _ _ _ w3 HB3.out).mono ?_
  rintro e w4 ⟨rfl, hb4⟩
  have hZ4 := HZ3.out.below hb4 HZ3.out.lt
  have hz4 := hZ4.lt
  have c0 := hZ4.cell 0
  have c1 := hZ4.cell 1
  have c2 := hZ4.cell 2
  simp only [List.getElem?_toArray, List.getElem?_cons_zero, List.getElem?_cons_succ] at c0 c1 c2
  have f0 := hZ4.frozen 0
  have f1 := hZ4.frozen 1
  have f2 := hZ4.frozen 2
  have hW4 := Lib.hid (HW3.out.trans (hb4.mono HW3.out.size))
  clear hZ4 hb4
  simp only [wS_size, v_mod Hv.out]
  by_cases hL : 1048576 < (L + k) / 8
  · rw [if_pos hL]
    go_wp2
    refine bodyPost_ret (by simp [results, Tryz.results91, go_sem, c0, c1, c2]; try rfl) rfl ?_
    exact ⟨by rw [putOut_long hL], (((hW4.out.setCell (by simp) _).setCell (by simp) _).setCell (by simp) _)⟩
  · rw [if_neg hL]
    obtain ⟨s2, es2⟩ : ∃ x, wS (L + k) (W + v * 2 ^ L) = x := ⟨_, rfl⟩
    obtain ⟨p2, ep2⟩ : ∃ x : Int, (wP (L + k) (W + v * 2 ^ L) : Int) = x := ⟨_, rfl⟩
    obtain ⟨n2, en2⟩ : ∃ x : Int, (((L + k) % 8 : Nat) : Int) = x := ⟨_, rfl⟩
    rw [es2, ep2, en2]
    have Es2 := Lib.hid es2
    have Ep2 := Lib.hid ep2
    have En2 := Lib.hid en2
    clear es2 ep2 en2
    go_wp2
    refine bodyPost_ret (by simp [results, Tryz.results91, go_sem, c0, c1, c2]; try rfl) rfl ?_
    refine ⟨?_, (((hW4.out.setCell (by simp) _).setCell (by simp) _).setCell (by simp) _)⟩
    rw [putOut_ok hL, Es2.out, Ep2.out, En2.out]
theorem split_zero (k : Nat) (w : World) (hk : k ≤ 64) :
    Calls Tryz.prog 115 #[.int .i64 0, .int .i64 k] w fun e w' => e = .returned (.slice (some ⟨w.heap.size, 0, none⟩) k k) ∧
      (∀ i, i < k → w'.cell? ⟨w.heap.size, i, none⟩ = some (.int .i64 ((0 / 2 ^ i % 2 : Nat) : Int))) ∧ w.heap.size < w'.heap.size ∧ Below w.heap.size w w' :=
  split_any 0 k w hk (by omega)
set_option maxHeartbeats 2000000 in
theorem align_core (s : ByteArray) (p n : Int) (L W : Nat) (w : World) (h : IsW s p n L W) :
    Calls Tryz.prog 89 #[.agg #[.string s, .int .i64 p, .int .i64 n]] w fun e w' =>
      e = .returned (putOut L W ((8 - L % 8) % 8) 0) ∧ Below w.heap.size w w' := by
  obtain ⟨k, hk⟩ : ∃ k, (8 - L % 8) % 8 = k := ⟨_, rfl⟩
  have hk' : (8 - n) % 8 = (k : Int) := by rw [h.n]; omega
  have hn0 : 0 ≤ n := by rw [h.n]; omega
  have hn7 : n ≤ 7 := by rw [h.n]; omega
  rw [hk]
  have hk8 : k < 8 := by omega
  have Hk := Lib.hid hk
  have Hw := Lib.hid h
  clear hk h
  go_enter Tryz.func89, Tryz.ntmps89
  go_wp2_with fail
  refine (check_ok s p n _ Hw.out.chk).mono ?_
  rintro e w1 ⟨rfl, hb⟩
  obtain ⟨hc, hf⟩ := bcell hb
  have Hb := Lib.hid hb
  clear hb
  go_wp2_with fail
  refine (split_zero k _ (by omega)).mono ?_
  rintro e w2 ⟨rfl, hs2, hz2, hb2⟩
  obtain ⟨hc2, hf2⟩ := bcell hb2
  have Hs2 := Lib.hid hs2
  have Hb2 := Lib.hid hb2
  clear hs2 hb2
  go_wp2_with fail
  have hB2 : Blk w2 w1.heap.size 145 (WCells L W) := by
    have h1 : Blk (w1.alloc (.cells #[.string s, .int .i64 p, .int .i64 n] 145)) w1.heap.size 145 (WCells L W) := by
      rw [← Hw.out.cells]
      exact Blk.new _ _ _
    exact h1.below Hb2.out (by simp)
  have hle := Hw.out.le
  refine (bits_any w1.heap.size (w1.heap.size + 1) L W 0 k k w2 Hw.out.lt (by omega) (by omega) (by omega) (by simpa using hz2) hB2 (by simpa using Hs2.out)).mono ?_
  rintro e w3 ⟨rfl, hB3, hG3⟩
  have hz3 := hG3.size
  simp only [World.size_alloc] at hz2
  have hZ3 : Blk w3 (w.heap.size + 1) 90 #[.string ⟨#[]⟩, .int .i64 0, .int .i64 0] := by
    have h1 := (Blk.new (w.alloc (.cells #[.string s, .int .i64 p, .int .i64 n] 90)) 90 #[.string ⟨#[]⟩, .int .i64 0, .int .i64 0]).below Hb.out (by simp)
    have h2 := (h1.alloc (.cells #[.string s, .int .i64 p, .int .i64 n] 145)).below Hb2.out (by have := h1.lt; simp at this ⊢; omega)
    have h3 := h2.grown hG3 (by have := h1.lt; simp at this ⊢; omega)
    simpa using h3
  have hW3 : Below w.heap.size w w3 := by
    have h1 : Below w.heap.size w w1 := (((Below.refl _ _).alloc (Nat.le_refl _) _).alloc (by simp) _).trans (Hb.out.mono (by simp; omega))
    have h2 : Below w.heap.size w w2 := (h1.alloc h1.size _).trans (Hb2.out.mono (by have := h1.size; simp; omega))
    exact h2.grown hG3 h2.size (fun g hg => by have := h1.size; simp at hg; omega)
  have HB3 := Lib.hid hB3
  have HZ3 := Lib.hid hZ3
  have HW3 := Lib.hid hW3
  clear hB3 hG3 hZ3 hW3 hc hf hc2 hf2
  go_wp2_with fail
  refine (done_any w1.heap.size _ _ _ w3 HB3.out).mono ?_
  rintro e w4 ⟨rfl, hb4⟩
  have hZ4 := HZ3.out.below hb4 HZ3.out.lt
  have hz4 := hZ4.lt
  have c0 := hZ4.cell 0
  have c1 := hZ4.cell 1
  have c2 := hZ4.cell 2
  simp only [List.getElem?_toArray, List.getElem?_cons_zero, List.getElem?_cons_succ] at c0 c1 c2
  have f0 := hZ4.frozen 0
  have f1 := hZ4.frozen 1
  have f2 := hZ4.frozen 2
  have hW4 := Lib.hid (HW3.out.trans (hb4.mono HW3.out.size))
  clear hZ4 hb4
  simp only [wS_size, Nat.zero_mod]
  by_cases hL : 1048576 < (L + k) / 8
  · rw [if_pos hL]
    go_wp2
    refine bodyPost_ret (by simp [results, Tryz.results89, go_sem, c0, c1, c2]; try rfl) rfl ?_
    exact ⟨by rw [putOut_long hL], (((hW4.out.setCell (by simp) _).setCell (by simp) _).setCell (by simp) _)⟩
  · rw [if_neg hL]
    obtain ⟨s2, es2⟩ : ∃ x, wS (L + k) (W + 0 * 2 ^ L) = x := ⟨_, rfl⟩
    obtain ⟨p2, ep2⟩ : ∃ x : Int, (wP (L + k) (W + 0 * 2 ^ L) : Int) = x := ⟨_, rfl⟩
    obtain ⟨n2, en2⟩ : ∃ x : Int, (((L + k) % 8 : Nat) : Int) = x := ⟨_, rfl⟩
    rw [es2, ep2, en2]
    have Es2 := Lib.hid es2
    have Ep2 := Lib.hid ep2
    have En2 := Lib.hid en2
    clear es2 ep2 en2
    go_wp2
    refine bodyPost_ret (by simp [results, Tryz.results89, go_sem, c0, c1, c2]; try rfl) rfl ?_
    refine ⟨?_, (((hW4.out.setCell (by simp) _).setCell (by simp) _).setCell (by simp) _)⟩
    rw [putOut_ok hL, Es2.out, Ep2.out, En2.out]
def zeroV (c : Int) : Value := .tuple #[.agg #[.string ⟨#[]⟩, .int .i64 0, .int .i64 0], .int .i64 c]
theorem check_is (s : ByteArray) (p n : Int) (w : World) (c : Int) (h : wchk s p n = c) :
    Calls Tryz.prog 113 #[.agg #[.string s, .int .i64 p, .int .i64 n]] w fun e w' => e = .returned (.int .i64 c) ∧ Below w.heap.size w w' := by
  have := check_any s p n w
  rwa [h] at this
set_option maxHeartbeats 2000000 in
theorem put_bad1 (s : ByteArray) (p n k v c : Int) (w : World) (h : wchk s p n = c) (hc : c ≠ 0) :
    Calls Tryz.prog 91 #[.agg #[.string s, .int .i64 p, .int .i64 n], .int .i64 k, .int .i64 v] w fun e w' => e = .returned (zeroV c) ∧ Below w.heap.size w w' := by
  have Hw := Lib.hid h
  have hc' : (c != 0) = true := by simpa using hc
  clear h hc
  go_enter Tryz.func91, Tryz.ntmps91
  go_wp2_with fail
  refine (check_is s p n _ c Hw.out).mono ?_
  rintro e w1 ⟨rfl, hb⟩
  obtain ⟨hcc, hff⟩ := bcell hb
  have hz := hb.size
  simp only [World.size_alloc] at hz
  have HW := Lib.hid ((((Below.refl _ _).alloc (Nat.le_refl _) _).alloc (by simp) _).trans (hb.mono (by simp; omega)) : Below w.heap.size w w1)
  clear hb
  go_wp2
  refine bodyPost_ret (by simp [results, Tryz.results91, go_sem, hcc]; try rfl) rfl ?_
  exact ⟨rfl, (((HW.out.setCell (by simp) _).setCell (by simp) _).setCell (by simp) _)⟩
end Go.Proofs.YtcoogfifjibkhaaGreat
namespace Go.Proofs.YtcoogfifjibkhaaGreat
open Go.RowKit
set_option linter.unusedVariables false
set_option linter.unusedSimpArgs false
attribute [local go_sem] conv1 isU8_mk u8Str_mk
def BadArgs (k v : Int) : Prop := k < 0 ∨ (0 ≤ k ∧ 32 < k) ∨ (0 ≤ k ∧ k ≤ 32 ∧ v < 0) ∨ (0 ≤ k ∧ k ≤ 32 ∧ 0 ≤ v ∧ 2 ^ k.toNat ≤ v)
set_option maxHeartbeats 2000000 in
theorem put_bad2 (s : ByteArray) (p n k v : Int) (w : World) (h : wchk s p n = 0) (hc : BadArgs k v) :
    Calls Tryz.prog 91 #[.agg #[.string s, .int .i64 p, .int .i64 n], .int .i64 k, .int .i64 v] w fun e w' => e = .returned (zeroV 2) ∧ Below w.heap.size w w' := by
  have Hw := Lib.hid h
  clear h
  have ht : 0 ≤ v → (v / 2 ^ k.toNat != 0) = decide (2 ^ k.toNat ≤ v) := shr_test
  unfold BadArgs at hc
  go_enter Tryz.func91, Tryz.ntmps91
  go_wp2_with fail
  refine (check_is s p n _ 0 Hw.out).mono ?_
  rintro e w1 ⟨rfl, hb⟩
  obtain ⟨hcc, hff⟩ := bcell hb
  have hz := hb.size
  simp only [World.size_alloc] at hz
  have HW := Lib.hid ((((Below.refl _ _).alloc (Nat.le_refl _) _).alloc (by simp) _).trans (hb.mono (by simp; omega)) : Below w.heap.size w w1)
  clear hb
  rcases hc with h1 | ⟨h1, h2⟩ | ⟨h1, h2, h3⟩ | ⟨h1, h2, h3, h4⟩
  · clear ht
    go_wp2
    refine bodyPost_ret (by simp [results, Tryz.results91, go_sem, hcc]; try rfl) rfl ?_
    exact ⟨rfl, (((HW.out.setCell (by simp) _).setCell (by simp) _).setCell (by simp) _)⟩
  · clear ht
    go_wp2
    refine bodyPost_ret (by simp [results, Tryz.results91, go_sem, hcc]; try rfl) rfl ?_
    exact ⟨rfl, (((HW.out.setCell (by simp) _).setCell (by simp) _).setCell (by simp) _)⟩
  · clear ht
    go_wp2
    refine bodyPost_ret (by simp [results, Tryz.results91, go_sem, hcc]; try rfl) rfl ?_
    exact ⟨rfl, (((HW.out.setCell (by simp) _).setCell (by simp) _).setCell (by simp) _)⟩
  · have ht' : (v / 2 ^ k.toNat != 0) = true := by rw [ht h3]; simpa using h4
    clear ht h4
    go_wp2
    refine bodyPost_ret (by simp [results, Tryz.results91, go_sem, hcc]; try rfl) rfl ?_
    exact ⟨rfl, (((HW.out.setCell (by simp) _).setCell (by simp) _).setCell (by simp) _)⟩
set_option maxHeartbeats 2000000 in
theorem align_bad (s : ByteArray) (p n c : Int) (w : World) (h : wchk s p n = c) (hc : c ≠ 0) :
    Calls Tryz.prog 89 #[.agg #[.string s, .int .i64 p, .int .i64 n]] w fun e w' => e = .returned (zeroV c) ∧ Below w.heap.size w w' := by
  have Hw := Lib.hid h
  have hc' : (c != 0) = true := by simpa using hc
  clear h hc
  go_enter Tryz.func89, Tryz.ntmps89
  go_wp2_with fail
  refine (check_is s p n _ c Hw.out).mono ?_
  rintro e w1 ⟨rfl, hb⟩
  obtain ⟨hcc, hff⟩ := bcell hb
  have hz := hb.size
  simp only [World.size_alloc] at hz
  have HW := Lib.hid ((((Below.refl _ _).alloc (Nat.le_refl _) _).alloc (by simp) _).trans (hb.mono (by simp; omega)) : Below w.heap.size w w1)
  clear hb
  go_wp2
  refine bodyPost_ret (by simp [results, Tryz.results89, go_sem, hcc]; try rfl) rfl ?_
  exact ⟨rfl, (((HW.out.setCell (by simp) _).setCell (by simp) _).setCell (by simp) _)⟩
end Go.Proofs.YtcoogfifjibkhaaGreat
namespace Go.Proofs.YtcoogfifjibkhaaGreat
open Go.RowKit
set_option linter.unusedVariables false
set_option linter.unusedSimpArgs false
theorem done_of (s s2 : ByteArray) (p n p2 n2 c : Int) (w : World)
    (hA : ∀ w : World, Calls Tryz.prog 89 #[.agg #[.string s, .int .i64 p, .int .i64 n]] w fun e w' => e = .returned (.tuple #[.agg #[.string s2, .int .i64 p2, .int .i64 n2], .int .i64 c]) ∧ Below w.heap.size w w') :
    Calls Tryz.prog 58 #[.agg #[.string s, .int .i64 p, .int .i64 n]] w fun e w' => e = .returned (.tuple #[.string s2, .int .i64 c]) ∧ Below w.heap.size w w' := by
  have HA := Lib.hid hA
  clear hA
  go_enter Tryz.func58, Tryz.ntmps58
  go_wp2_with fail
  refine (HA.out _).mono ?_
  rintro e w1 ⟨rfl, hb⟩
  have HW := Lib.hid (((Below.refl _ _).alloc (Nat.le_refl _) _).trans (hb.mono (by simp)) : Below w.heap.size w w1)
  have hz := HW.out.size
  clear hb
  go_wp2
  go_ret2
  refine ⟨rfl, ?_⟩
  have := HW.out
  go_grown
theorem isW_of (s : ByteArray) (p n : Int) (h : wchk s p n = 0) : ∃ L W, IsW s p n L W ∧ L = 8 * s.size + n.toNat ∧ W = leN s.data.toList + p.toNat * 2 ^ (8 * s.size) := by
  unfold wchk at h
  split at h
  · omega
  · rename_i h1
    split at h
    · omega
    · rename_i h2
      have hp : p.toNat < 2 ^ n.toNat := by
        have : p < 2 ^ n.toNat := by omega
        have e : (2 : Int) ^ n.toNat = ((2 ^ n.toNat : Nat) : Int) := by simp
        rw [e] at this
        omega
      obtain ⟨L, W, e1, e2, e3, e4, e5, e6⟩ := writer_form s p.toNat n.toNat (by omega) hp
      exact ⟨L, W, ⟨e4, by omega, by omega, e3, by omega⟩, e1, e2⟩
def putR (s : ByteArray) (p n k v : Int) : Value :=
  if wchk s p n = 0 then if 0 ≤ k ∧ k ≤ 32 ∧ 0 ≤ v ∧ v < 2 ^ k.toNat then putOut (8 * s.size + n.toNat) (leN s.data.toList + p.toNat * 2 ^ (8 * s.size)) k.toNat v.toNat else zeroV 2 else zeroV (wchk s p n)
def alignR (s : ByteArray) (p n : Int) : Value :=
  if wchk s p n = 0 then putOut (8 * s.size + n.toNat) (leN s.data.toList + p.toNat * 2 ^ (8 * s.size)) ((8 - (8 * s.size + n.toNat) % 8) % 8) 0 else zeroV (wchk s p n)
theorem bad_of {k v : Int} (h : ¬ (0 ≤ k ∧ k ≤ 32 ∧ 0 ≤ v ∧ v < 2 ^ k.toNat)) : BadArgs k v := by
  unfold BadArgs
  by_cases h1 : k < 0
  · exact .inl h1
  by_cases h2 : 32 < k
  · exact .inr (.inl ⟨by omega, h2⟩)
  by_cases h3 : v < 0
  · exact .inr (.inr (.inl ⟨by omega, by omega, h3⟩))
  refine .inr (.inr (.inr ⟨by omega, by omega, by omega, ?_⟩))
  exact Int.not_lt.1 fun h4 => h ⟨by omega, by omega, by omega, h4⟩
theorem nat_args {k v : Int} (h : 0 ≤ k ∧ k ≤ 32 ∧ 0 ≤ v ∧ v < 2 ^ k.toNat) : ∃ K V : Nat, k = K ∧ v = V ∧ K ≤ 32 ∧ V < 2 ^ K ∧ k.toNat = K ∧ v.toNat = V := by
  obtain ⟨K, rfl⟩ := Int.eq_ofNat_of_zero_le h.1
  obtain ⟨V, rfl⟩ := Int.eq_ofNat_of_zero_le h.2.2.1
  refine ⟨K, V, rfl, rfl, by omega, ?_, rfl, rfl⟩
  have := h.2.2.2
  rw [Int.toNat_natCast] at this
  have e : (2 : Int) ^ K = ((2 ^ K : Nat) : Int) := by simp
  rw [e] at this
  omega
theorem put_any (s : ByteArray) (p n k v : Int) (w : World) :
    Calls Tryz.prog 91 #[.agg #[.string s, .int .i64 p, .int .i64 n], .int .i64 k, .int .i64 v] w fun e w' => e = .returned (putR s p n k v) ∧ Below w.heap.size w w' := by
  unfold putR
  by_cases h : wchk s p n = 0
  · rw [if_pos h]
    by_cases h2 : 0 ≤ k ∧ k ≤ 32 ∧ 0 ≤ v ∧ v < 2 ^ k.toNat
    · rw [if_pos h2]
      obtain ⟨K, V, rfl, rfl, h3, h4, h5, h6⟩ := nat_args h2
      obtain ⟨L, W, hw, rfl, rfl⟩ := isW_of s p n h
      rw [h5, h6]
      exact put_core s p n _ _ K V w hw h3 h4
    · rw [if_neg h2]
      exact put_bad2 s p n k v w h (bad_of h2)
  · rw [if_neg h]
    exact put_bad1 s p n k v _ w rfl h
theorem align_any (s : ByteArray) (p n : Int) (w : World) :
    Calls Tryz.prog 89 #[.agg #[.string s, .int .i64 p, .int .i64 n]] w fun e w' => e = .returned (alignR s p n) ∧ Below w.heap.size w w' := by
  unfold alignR
  by_cases h : wchk s p n = 0
  · rw [if_pos h]
    obtain ⟨L, W, hw, rfl, rfl⟩ := isW_of s p n h
    exact align_core s p n _ _ w hw
  · rw [if_neg h]
    exact align_bad s p n _ w rfl h
end Go.Proofs.YtcoogfifjibkhaaGreat
namespace Go.Proofs.YtcoogfifjibkhaaGreat
open Go.RowKit Go.PlainAid
set_option linter.unusedVariables false
set_option linter.unusedSimpArgs false
theorem pow_le62 (n : Nat) (h : n ≤ 61) : 2 ^ n ≤ 2305843009213693952 := by
  have : 2 ^ n ≤ 2 ^ 61 := Nat.pow_le_pow_right (by omega) h
  simpa using this
theorem or_add2 (p b n : Nat) (hn : n ≤ 60) (hp : p < 2 ^ n) (hb : b ≤ 1) : bits .or .i64 (p : Int) ((b : Int) * 2 ^ n) = (p : Int) + (b : Int) * 2 ^ n := by
  have h8 := pow_le62 n (by omega)
  have hle : b * 2 ^ n ≤ 2305843009213693952 := Nat.le_trans (Nat.mul_le_mul_right _ hb) (by omega)
  have e : ((b : Int) * 2 ^ n) = ((b * 2 ^ n : Nat) : Int) := by simp
  rw [e, i64_or_nat _ _ (by omega) (by omega)]
  rw [Nat.or_comm, Nat.mul_comm, ← Nat.two_pow_add_eq_or_of_lt hp]
  omega
theorem wrap_small2 (b n : Nat) (hn : n ≤ 60) (hb : b ≤ 1) : wrap64 ((b : Int) * 2 ^ n) = (b : Int) * 2 ^ n := by
  have h8 := pow_le62 n (by omega)
  have hle : b * 2 ^ n ≤ 2305843009213693952 := Nat.le_trans (Nat.mul_le_mul_right _ hb) (by omega)
  have e : ((b : Int) * 2 ^ n) = ((b * 2 ^ n : Nat) : Int) := by simp
  rw [e]
  exact IntWalk.wrap64_in _ ⟨by omega, by omega⟩
def peekN (s : ByteArray) (bit n : Nat) : Nat := leN s.data.toList / 2 ^ bit % 2 ^ n
theorem peekN_lt (s : ByteArray) (bit n : Nat) : peekN s bit n < 2 ^ n := mod_bit_lt _ _
def bitN (s : ByteArray) (k : Nat) : Nat := leN s.data.toList / 2 ^ k % 2
theorem bitN_le (s : ByteArray) (k : Nat) : bitN s k ≤ 1 := by unfold bitN; omega
theorem peekN_next (s : ByteArray) (bit n : Nat) : peekN s bit (n + 1) = peekN s bit n + bitN s (bit + n) * 2 ^ n := by
  unfold peekN bitN
  rw [mod_bit, Nat.div_div_eq_div_mul, ← Nat.pow_add]
theorem bitN_end (s : ByteArray) (k : Nat) (h : 8 * s.size ≤ k) : bitN s k = 0 := by
  unfold bitN
  rw [leN_beyond _ _ (by rw [size_le]; exact h)]
theorem getbyte (s : ByteArray) (i : Nat) (h : i < s.size) : s[i].toNat = (s.data.toList[i]'(by rw [size_le]; exact h)).toNat := by
  simp
  rfl
theorem bt_nat (s : ByteArray) (i : Nat) (h : i < s.size) : bt s i = ((s[i].toNat : Nat) : Int) := (get_bt s i h).symm
theorem ofInt_u8 (a : Nat) (ha : a < 256) : (BitVec.ofInt 8 (a : Int)).toNat = a := by
  rw [BitVec.ofInt_natCast, BitVec.toNat_ofNat]; exact Nat.mod_eq_of_lt (by omega)
theorem u8_and_one (Y : Nat) (h : Y < 256) : bits .and .u8 (Y : Int) 1 = ((Y % 2 : Nat) : Int) := by
  show IntKind.u8.wrap ((BitVec.ofInt 8 (Y : Int) &&& BitVec.ofInt 8 ((1 : Nat) : Int)).toNat : Int) = _
  rw [BitVec.toNat_and, ofInt_u8 Y h, ofInt_u8 1 (by omega), Nat.and_one_is_mod, IntKind.wrap_u8]
  omega
theorem byte_shift (s : ByteArray) (k : Nat) (h : k < 8 * s.size) : ∃ Y : Nat, Y < 256 ∧ bt s (k / 8) / 2 ^ (k % 8) = (Y : Int) ∧ Y % 2 = bitN s k := by
  have h8 : k / 8 < s.size := by omega
  refine ⟨s[k / 8].toNat / 2 ^ (k % 8), ?_, ?_, ?_⟩
  · exact Nat.lt_of_le_of_lt (Nat.div_le_self _ _) (UInt8.toNat_lt _)
  · rw [bt_nat s _ h8]; simp
  · rw [getbyte s _ h8, leN_bit s.data.toList k (by rw [size_le]; exact h8)]; rfl
theorem peek_step (s : ByteArray) (k x j b : Nat) (h : k < 8 * s.size) (hb : bitN s k = b) (hj : j ≤ 60) (hx : x < 2 ^ j) :
    bits .or .i64 (x : Int) (wrap64 (wrap64 (bits .and .u8 (bt s (k / 8) / 2 ^ (k % 8)) 1) * 2 ^ j)) = ((x + b * 2 ^ j : Nat) : Int) := by
  obtain ⟨Y, h1, h2, h3⟩ := byte_shift s k h
  have hb1 : b ≤ 1 := by rw [← hb]; exact bitN_le _ _
  rw [h2, u8_and_one Y h1, h3, hb, IntWalk.wrap64_in (b : Int) ⟨by omega, by omega⟩, wrap_small2 b j hj hb1, or_add2 x b j hj hx hb1]
  simp
theorem number_step (s : ByteArray) (k x j b : Nat) (h : k < 8 * s.size) (hb : bitN s k = b) (hj : j ≤ 60) (hx : x < 2 ^ j) :
    wrap64 ((x : Int) + wrap64 (bits .and .i64 (bt s (k / 8) / 2 ^ (k % 8)) 1 * 2 ^ j)) = ((x + b * 2 ^ j : Nat) : Int) := by
  obtain ⟨Y, h1, h2, h3⟩ := byte_shift s k h
  have hb1 : b ≤ 1 := by rw [← hb]; exact bitN_le _ _
  have h8 := pow_le62 j (by omega)
  have hle : b * 2 ^ j ≤ 2305843009213693952 := Nat.le_trans (Nat.mul_le_mul_right _ hb1) (by omega)
  rw [h2, show (1 : Int) = ((1 : Nat) : Int) from rfl, i64_and_nat _ _ (by omega) (by omega), Nat.and_one_is_mod, h3, hb, wrap_small2 b j hj hb1]
  have e : (x : Int) + (b : Int) * 2 ^ j = ((x + b * 2 ^ j : Nat) : Int) := by simp
  rw [e]
  exact IntWalk.wrap64_in _ ⟨by omega, by omega⟩
def PeekRel (s : ByteArray) (bit n : Nat) (out i : Value) : Prop := ∃ j : Nat, j ≤ n ∧ i = .int .i64 j ∧ out = .int .i64 (peekN s bit j)
set_option maxHeartbeats 2000000 in
theorem peek_core (s : ByteArray) (bit n : Nat) (w : World) (hs : s.size ≤ 1048576) (hb : bit ≤ 8 * s.size) (hn : n ≤ 32) :
    Calls Tryz.prog 126 #[.agg #[.string s, .int .i64 bit], .int .i64 n] w fun e w' => e = .returned (.int .i64 (peekN s bit n)) ∧ Below w.heap.size w w' := by
  go_enter Tryz.func126, Tryz.ntmps126
  go_wp2
  go_loop [5, 9] (fun out i => PeekRel s bit n out i) (fun _ i => n - (intOf i).toNat)
  case atStart => exact ⟨0, Nat.zero_le _, rfl, by simp [peekN, Nat.mod_one]⟩
  case round =>
    obtain ⟨j, hj, rfl, rfl⟩ := hrel
    by_cases hlt : j < n
    · have hx := peekN_lt s bit j
      obtain ⟨x, ex⟩ : ∃ x, peekN s bit j = x := ⟨_, rfl⟩
      rw [ex] at hx ⊢
      have Ex := Lib.hid ex
      clear ex
      by_cases hend : bit + j < 8 * s.size
      · have hbt := get_bt s
        obtain ⟨b, eb⟩ : ∃ b, bitN s (bit + j) = b := ⟨_, rfl⟩
        have Hst := Lib.hid (peek_step s (bit + j) x j b hend eb (by omega) hx)
        have Eb := Lib.hid eb
        clear eb
        go_wp2_with fail
        refine ⟨⟨j + 1, by omega, by go_num, ?_⟩, by simp [intOf]; omega⟩
        rw [Hst.out, peekN_next, Ex.out, Eb.out]
      · have Eb := Lib.hid (bitN_end s (bit + j) (by omega))
        go_wp2_with fail
        refine ⟨⟨j + 1, by omega, by go_num, ?_⟩, by simp [intOf]; omega⟩
        rw [peekN_next, Ex.out, Eb.out, Nat.zero_mul, Nat.add_zero]
    · have : j = n := by omega
      subst this
      go_wp2
      go_ret
      exact ⟨rfl, by go_grown⟩
set_option maxHeartbeats 2000000 in
theorem number_core (s : ByteArray) (bit n : Nat) (w : World) (hs : s.size ≤ 1048576) (hb : bit ≤ 8 * s.size) (hn : n ≤ 32) :
    Calls Tryz.prog 127 #[.agg #[.string s, .int .i64 bit], .int .i64 n] w fun e w' => e = .returned (.int .i64 (peekN s bit n)) ∧ Below w.heap.size w w' := by
  go_enter Tryz.func127, Tryz.ntmps127
  go_wp2
  go_loop [5, 6] (fun out i => PeekRel s bit n out i) (fun _ i => n - (intOf i).toNat)
  case atStart => exact ⟨0, Nat.zero_le _, rfl, by simp [peekN, Nat.mod_one]⟩
  case round =>
    obtain ⟨j, hj, rfl, rfl⟩ := hrel
    by_cases hlt : j < n
    · have hx := peekN_lt s bit j
      obtain ⟨x, ex⟩ : ∃ x, peekN s bit j = x := ⟨_, rfl⟩
      rw [ex] at hx ⊢
      have Ex := Lib.hid ex
      clear ex
      by_cases hend : bit + j < 8 * s.size
      · have hbt := get_bt s
        have hlo := bt_nonneg s ((bit + j) / 8)
        have hhi := bt_le s ((bit + j) / 8)
        obtain ⟨b, eb⟩ : ∃ b, bitN s (bit + j) = b := ⟨_, rfl⟩
        have Hst := Lib.hid (number_step s (bit + j) x j b hend eb (by omega) hx)
        have Eb := Lib.hid eb
        clear eb
        go_wp2_with fail
        refine ⟨⟨j + 1, by omega, by go_num, ?_⟩, by simp [intOf]; omega⟩
        rw [Hst.out, peekN_next, Ex.out, Eb.out]
      · have Eb := Lib.hid (bitN_end s (bit + j) (by omega))
        go_wp2_with fail
        refine ⟨⟨j + 1, by omega, by go_num, ?_⟩, by simp [intOf]; omega⟩
        rw [peekN_next, Ex.out, Eb.out, Nat.zero_mul, Nat.add_zero]
    · have : j = n := by omega
      subst this
      go_wp2
      go_ret
      exact ⟨rfl, by go_grown⟩
end Go.Proofs.YtcoogfifjibkhaaGreat
namespace Go.Proofs.YtcoogfifjibkhaaGreat
open Go.RowKit Go.PlainAid
set_option linter.unusedVariables false
set_option linter.unusedSimpArgs false
def rchk (s : ByteArray) (b : Int) : Int := if 1048576 < s.size then 4 else if b < 0 ∨ 8 * (s.size : Int) < b then 2 else 0
def askE (s : ByteArray) (b n : Int) : Int := if rchk s b = 0 then if n < 0 ∨ 32 < n then 2 else 0 else rchk s b
def takeE (s : ByteArray) (b n : Int) : Int := if askE s b n = 0 ∧ 8 * (s.size : Int) < b + n then 5 else askE s b n
def peekR (s : ByteArray) (b n : Int) : Value := if askE s b n = 0 then .tuple #[.int .i64 (peekN s b.toNat n.toNat), .int .i64 0] else .tuple #[.int .i64 0, .int .i64 (askE s b n)]
def takeR (s : ByteArray) (b n : Int) : Value := if takeE s b n = 0 then .tuple #[.agg #[.string s, .int .i64 (b + n)], .int .i64 (peekN s b.toNat n.toNat), .int .i64 0] else .tuple #[.agg #[.string ⟨#[]⟩, .int .i64 0], .int .i64 0, .int .i64 (takeE s b n)]
def nextR (s : ByteArray) (b : Int) : Value := if rchk s b = 0 then .tuple #[.int .i64 ((b + 7) / 8), .int .i64 0] else .tuple #[.int .i64 0, .int .i64 (rchk s b)]
theorem ret_tup {v v' : Value} (h : v = v') : Ending.returned v = .returned v' := by rw [h]
theorem rchk_zero {s : ByteArray} {b : Int} (h : rchk s b = 0) : s.size ≤ 1048576 ∧ 0 ≤ b ∧ b ≤ 8 * (s.size : Int) := by
  unfold rchk at h
  split at h
  · omega
  · split at h
    · omega
    · omega
theorem rchk_nat {s : ByteArray} {b : Int} (h : rchk s b = 0) : ∃ B : Nat, b = B ∧ B ≤ 8 * s.size ∧ s.size ≤ 1048576 := by
  obtain ⟨h1, h2, h3⟩ := rchk_zero h
  obtain ⟨B, rfl⟩ := Int.eq_ofNat_of_zero_le h2
  exact ⟨B, rfl, by omega, h1⟩
set_option maxHeartbeats 1000000 in
theorem right_any (s : ByteArray) (b : Int) (w : World) (hs : s.size ≤ 9223372036854775807) :
    Calls Tryz.prog 105 #[.agg #[.string s, .int .i64 b]] w fun e w' => e = .returned (.int .i64 (rchk s b)) ∧ Below w.heap.size w w' := by
  by_cases h1 : 1048576 < s.size
  · have h2 : (1048576 : Int) < (s.size : Int) := by omega
    go_enter Tryz.func105, Tryz.ntmps105
    go_wp2
    go_ret
    exact ⟨ret_int (by unfold rchk; rw [if_pos h1]), by go_grown⟩
  · have h2 : (s.size : Int) ≤ 1048576 := by omega
    go_enter Tryz.func105, Tryz.ntmps105
    go_wp2
    all_goals
      go_ret
      refine ⟨ret_int ?_, by go_grown⟩
      unfold rchk
      rw [if_neg h1]
      (repeat' split) <;> omega
set_option maxHeartbeats 1000000 in
theorem right_is (s : ByteArray) (b c : Int) (w : World) (hs : s.size ≤ 9223372036854775807) (h : rchk s b = c) :
    Calls Tryz.prog 105 #[.agg #[.string s, .int .i64 b]] w fun e w' => e = .returned (.int .i64 c) ∧ Below w.heap.size w w' := by
  have := right_any s b w hs
  rwa [h] at this
set_option maxHeartbeats 1000000 in
theorem next_any (s : ByteArray) (b : Int) (w : World) (hs : s.size ≤ 9223372036854775807) :
    Calls Tryz.prog 76 #[.agg #[.string s, .int .i64 b]] w fun e w' => e = .returned (nextR s b) ∧ Below w.heap.size w w' := by
  obtain ⟨c, hc⟩ : ∃ c, rchk s b = c := ⟨_, rfl⟩
  by_cases h0 : c = 0
  · subst h0
    obtain ⟨B, rfl, hB, hS⟩ := rchk_nat hc
    have Hc := Lib.hid hc
    clear hc
    go_enter Tryz.func76, Tryz.ntmps76
    go_wp2_with fail
    refine (right_is s B 0 _ hs Hc.out).mono ?_
    rintro e w1 ⟨rfl, hb⟩
    obtain ⟨hcc, hff⟩ := bcell hb
    have hz := hb.size
    simp only [World.size_alloc] at hz
    have HW := Lib.hid (((Below.refl _ _).alloc (Nat.le_refl _) _).trans (hb.mono (by simp)) : Below w.heap.size w w1)
    clear hb
    go_wp2
    go_ret2
    exact ⟨ret_tup (by unfold nextR; rw [if_pos Hc.out]; rfl), HW.out⟩
  · have h1 : (c != 0) = true := by simpa using h0
    have Hc := Lib.hid hc
    clear hc
    go_enter Tryz.func76, Tryz.ntmps76
    go_wp2_with fail
    refine (right_is s b c _ hs Hc.out).mono ?_
    rintro e w1 ⟨rfl, hb⟩
    obtain ⟨hcc, hff⟩ := bcell hb
    have HW := Lib.hid (((Below.refl _ _).alloc (Nat.le_refl _) _).trans (hb.mono (by simp)) : Below w.heap.size w w1)
    clear hb
    go_wp2
    go_ret2
    exact ⟨ret_tup (by unfold nextR; rw [Hc.out, if_neg h0]; rfl), HW.out⟩
set_option maxHeartbeats 1000000 in
theorem asked_any (s : ByteArray) (b n : Int) (w : World) (hs : s.size ≤ 9223372036854775807) :
    Calls Tryz.prog 125 #[.agg #[.string s, .int .i64 b], .int .i64 n] w fun e w' => e = .returned (.int .i64 (askE s b n)) ∧ Below w.heap.size w w' := by
  obtain ⟨c, hc⟩ : ∃ c, rchk s b = c := ⟨_, rfl⟩
  have Hc := Lib.hid hc
  clear hc
  go_enter Tryz.func125, Tryz.ntmps125
  go_wp2_with fail
  refine (right_is s b c _ hs Hc.out).mono ?_
  rintro e w1 ⟨rfl, hb⟩
  obtain ⟨hcc, hff⟩ := bcell hb
  have HW := Lib.hid (((Below.refl _ _).alloc (Nat.le_refl _) _).trans (hb.mono (by simp)) : Below w.heap.size w w1)
  clear hb
  by_cases h0 : c = 0
  · subst h0
    by_cases h1 : n < 0
    · go_wp2
      go_ret
      exact ⟨ret_int (by unfold askE; rw [if_pos Hc.out, if_pos (.inl h1)]), HW.out⟩
    · by_cases h2 : 32 < n
      · go_wp2
        go_ret
        exact ⟨ret_int (by unfold askE; rw [if_pos Hc.out, if_pos (.inr h2)]), HW.out⟩
      · go_wp2
        go_ret
        exact ⟨ret_int (by unfold askE; rw [if_pos Hc.out, if_neg (by omega)]), HW.out⟩
  · have h1 : (c == 0) = false := by simpa using h0
    have H0 := Lib.hid h0
    clear h0
    go_wp2
    go_ret
    exact ⟨ret_int (by unfold askE; rw [Hc.out, if_neg H0.out]), HW.out⟩
theorem asked_is (s : ByteArray) (b n c : Int) (w : World) (hs : s.size ≤ 9223372036854775807) (h : askE s b n = c) :
    Calls Tryz.prog 125 #[.agg #[.string s, .int .i64 b], .int .i64 n] w fun e w' => e = .returned (.int .i64 c) ∧ Below w.heap.size w w' := by
  have := asked_any s b n w hs
  rwa [h] at this
theorem askE_nat {s : ByteArray} {b n : Int} (h : askE s b n = 0) : ∃ B N : Nat, b = B ∧ n = N ∧ B ≤ 8 * s.size ∧ s.size ≤ 1048576 ∧ N ≤ 32 := by
  unfold askE at h
  split at h
  · rename_i h1
    obtain ⟨B, h2, h3, h4⟩ := rchk_nat h1
    split at h
    · omega
    · exact ⟨B, n.toNat, h2, by omega, h3, h4, by omega⟩
  · contradiction
end Go.Proofs.YtcoogfifjibkhaaGreat
namespace Go.Proofs.YtcoogfifjibkhaaGreat
open Go.RowKit Go.PlainAid
set_option linter.unusedVariables false
set_option linter.unusedSimpArgs false
set_option maxHeartbeats 2000000 in
theorem take_any (s : ByteArray) (b n : Int) (w : World) (hs : s.size ≤ 9223372036854775807) :
    Calls Tryz.prog 120 #[.agg #[.string s, .int .i64 b], .int .i64 n] w fun e w' => e = .returned (takeR s b n) ∧ Below w.heap.size w w' := by
  obtain ⟨c, hc⟩ : ∃ c, askE s b n = c := ⟨_, rfl⟩
  by_cases h0 : c = 0
  · subst h0
    obtain ⟨B, N, rfl, rfl, hB, hS, hN⟩ := askE_nat hc
    by_cases hlt : 8 * s.size < B + N
    · have ht : (8 : Int) * (s.size : Int) - (B : Int) < (N : Int) := by omega
      have Ht := Lib.hid (show takeE s B N = 5 by unfold takeE; rw [if_pos ⟨hc, by omega⟩])
      have Hc := Lib.hid hc
      clear hc
      go_enter Tryz.func120, Tryz.ntmps120
      go_wp2_with fail
      refine (asked_is s B N 0 _ hs Hc.out).mono ?_
      rintro e w1 ⟨rfl, hb⟩
      obtain ⟨hcc, hff⟩ := bcell hb
      have hz := hb.size
      simp only [World.size_alloc] at hz
      have HW := Lib.hid ((((Below.refl _ _).alloc (Nat.le_refl _) _).alloc (by simp) _).trans (hb.mono (by simp; omega)) : Below w.heap.size w w1)
      clear hb
      go_wp2
      refine bodyPost_ret (by simp [results, Tryz.results120, go_sem, hcc]; try rfl) rfl ?_
      exact ⟨ret_tup (by unfold takeR; rw [Ht.out, if_neg (by decide)]; try rfl), ((HW.out.setCell (by simp) _).setCell (by simp) _)⟩
    · have ht : ¬ (8 : Int) * (s.size : Int) - (B : Int) < (N : Int) := by omega
      have Ht := Lib.hid (show takeE s B N = 0 by unfold takeE; rw [if_neg (by omega)]; exact hc)
      have Hc := Lib.hid hc
      clear hc
      go_enter Tryz.func120, Tryz.ntmps120
      go_wp2_with fail
      refine (asked_is s B N 0 _ hs Hc.out).mono ?_
      rintro e w1 ⟨rfl, hb⟩
      obtain ⟨hcc, hff⟩ := bcell hb
      have hz := hb.size
      simp only [World.size_alloc] at hz
      have HW := Lib.hid ((((Below.refl _ _).alloc (Nat.le_refl _) _).alloc (by simp) _).trans (hb.mono (by simp; omega)) : Below w.heap.size w w1)
      have hX : Blk w1 w.heap.size 100 #[.string s, .int .i64 B] := ((Blk.new w 100 #[.string s, .int .i64 B]).alloc _).below hb (by simp; omega)
      have hZ : Blk w1 (w.heap.size + 1) 100 #[.string ⟨#[]⟩, .int .i64 0] := by
        have := (Blk.new (w.alloc (.cells #[.string s, .int .i64 B] 100)) 100 #[.string ⟨#[]⟩, .int .i64 0]).below hb (by simp)
        simpa using this
      have HX := Lib.hid hX
      have HZ := Lib.hid hZ
      clear hb hX hZ
      go_wp2_with fail
      refine (peek_core s B N _ hS hB hN).mono ?_
      rintro e w2 ⟨rfl, hb⟩
      have hz2 := hb.size
      have hX2 := HX.out.below hb HX.out.lt
      have hZ2 := HZ.out.below hb HZ.out.lt
      have c0 := hX2.cell 0
      have c1 := hX2.cell 1
      have d0 := hZ2.cell 0
      have d1 := hZ2.cell 1
      simp only [List.getElem?_toArray, List.getElem?_cons_zero, List.getElem?_cons_succ] at c0 c1 d0 d1
      have f0 := hX2.frozen 0
      have f1 := hX2.frozen 1
      have g0 := hZ2.frozen 0
      have g1 := hZ2.frozen 1
      have HW2 := Lib.hid (HW.out.trans (hb.mono (by omega)))
      clear hb hcc hff hX2 hZ2
      obtain ⟨x, ex⟩ : ∃ x : Int, ((peekN s B N : Nat) : Int) = x := ⟨_, rfl⟩
      rw [ex]
      have Ex := Lib.hid ex
      clear ex
      go_wp2
      refine bodyPost_ret (by simp [results, Tryz.results120, go_sem, d0, d1]; try rfl) rfl ?_
      exact ⟨ret_tup (by unfold takeR; rw [Ht.out, if_pos rfl]; simp only [Int.toNat_natCast, Ex.out]; try rfl), (((HW2.out.setCell (by simp) _).setCell (by simp) _).setCell (by simp) _)⟩
  · have h1 : (c != 0) = true := by simpa using h0
    have h2 : (c == 0) = false := by simpa using h0
    have Ht := Lib.hid (show takeE s b n = c by unfold takeE; rw [if_neg (by rintro ⟨h, _⟩; exact h0 (hc.symm.trans h))]; exact hc)
    have Hc := Lib.hid hc
    have H0 := Lib.hid h0
    clear hc h0
    go_enter Tryz.func120, Tryz.ntmps120
    go_wp2_with fail
    refine (asked_is s b n c _ hs Hc.out).mono ?_
    rintro e w1 ⟨rfl, hb⟩
    obtain ⟨hcc, hff⟩ := bcell hb
    have hz := hb.size
    simp only [World.size_alloc] at hz
    have HW := Lib.hid ((((Below.refl _ _).alloc (Nat.le_refl _) _).alloc (by simp) _).trans (hb.mono (by simp; omega)) : Below w.heap.size w w1)
    clear hb
    go_wp2
    refine bodyPost_ret (by simp [results, Tryz.results120, go_sem, hcc]; try rfl) rfl ?_
    exact ⟨ret_tup (by unfold takeR; rw [Ht.out, if_neg H0.out]; try rfl), ((HW.out.setCell (by simp) _).setCell (by simp) _)⟩
set_option maxHeartbeats 1000000 in
theorem rright_any (s : ByteArray) (b : Int) (w : World) (hs : s.size ≤ 9223372036854775807) :
    Calls Tryz.prog 108 #[.agg #[.string s, .int .i64 b]] w fun e w' => e = .returned (.int .i64 (rchk s b)) ∧ Below w.heap.size w w' := by
  by_cases h1 : 1048576 < s.size
  · have h2 : (1048576 : Int) < (s.size : Int) := by omega
    go_enter Tryz.func108, Tryz.ntmps108
    go_wp2
    go_ret
    exact ⟨ret_int (by unfold rchk; rw [if_pos h1]), by go_grown⟩
  · have h2 : (s.size : Int) ≤ 1048576 := by omega
    go_enter Tryz.func108, Tryz.ntmps108
    go_wp2
    all_goals
      go_ret
      refine ⟨ret_int ?_, by go_grown⟩
      unfold rchk
      rw [if_neg h1]
      (repeat' split) <;> omega
theorem rright_is (s : ByteArray) (b c : Int) (w : World) (hs : s.size ≤ 9223372036854775807) (h : rchk s b = c) :
    Calls Tryz.prog 108 #[.agg #[.string s, .int .i64 b]] w fun e w' => e = .returned (.int .i64 c) ∧ Below w.heap.size w w' := by
  have := rright_any s b w hs
  rwa [h] at this
set_option maxHeartbeats 1000000 in
theorem rnext_any (s : ByteArray) (b : Int) (w : World) (hs : s.size ≤ 9223372036854775807) :
    Calls Tryz.prog 79 #[.agg #[.string s, .int .i64 b]] w fun e w' => e = .returned (nextR s b) ∧ Below w.heap.size w w' := by
  obtain ⟨c, hc⟩ : ∃ c, rchk s b = c := ⟨_, rfl⟩
  by_cases h0 : c = 0
  · subst h0
    obtain ⟨B, rfl, hB, hS⟩ := rchk_nat hc
    have Hc := Lib.hid hc
    clear hc
    go_enter Tryz.func79, Tryz.ntmps79
    go_wp2_with fail
    refine (rright_is s B 0 _ hs Hc.out).mono ?_
    rintro e w1 ⟨rfl, hb⟩
    obtain ⟨hcc, hff⟩ := bcell hb
    have hz := hb.size
    simp only [World.size_alloc] at hz
    have HW := Lib.hid (((Below.refl _ _).alloc (Nat.le_refl _) _).trans (hb.mono (by simp)) : Below w.heap.size w w1)
    clear hb
    go_wp2
    go_ret2
    exact ⟨ret_tup (by unfold nextR; rw [if_pos Hc.out]; rfl), HW.out⟩
  · have h1 : (c != 0) = true := by simpa using h0
    have Hc := Lib.hid hc
    clear hc
    go_enter Tryz.func79, Tryz.ntmps79
    go_wp2_with fail
    refine (rright_is s b c _ hs Hc.out).mono ?_
    rintro e w1 ⟨rfl, hb⟩
    obtain ⟨hcc, hff⟩ := bcell hb
    have HW := Lib.hid (((Below.refl _ _).alloc (Nat.le_refl _) _).trans (hb.mono (by simp)) : Below w.heap.size w w1)
    clear hb
    go_wp2
    go_ret2
    exact ⟨ret_tup (by unfold nextR; rw [Hc.out, if_neg h0]; rfl), HW.out⟩
set_option maxHeartbeats 1000000 in
theorem rPeek_any (s : ByteArray) (b n : Int) (w : World) (hs : s.size ≤ 9223372036854775807) :
    Calls Tryz.prog 121 #[.agg #[.string s, .int .i64 b], .int .i64 n] w fun e w' => e = .returned (peekR s b n) ∧ Below w.heap.size w w' := by
  obtain ⟨c, hc⟩ : ∃ c, rchk s b = c := ⟨_, rfl⟩
  by_cases h0 : c = 0
  · subst h0
    obtain ⟨B, rfl, hB, hS⟩ := rchk_nat hc
    have Hc := Lib.hid hc
    clear hc
    go_enter Tryz.func121, Tryz.ntmps121
    go_wp2_with fail
    refine (rright_is s B 0 _ hs Hc.out).mono ?_
    rintro e w1 ⟨rfl, hb⟩
    obtain ⟨hcc, hff⟩ := bcell hb
    have hz := hb.size
    simp only [World.size_alloc] at hz
    have HW := Lib.hid (((Below.refl _ _).alloc (Nat.le_refl _) _).trans (hb.mono (by simp)) : Below w.heap.size w w1)
    clear hb
    by_cases h1 : n < 0
    · go_wp2
      go_ret2
      exact ⟨ret_tup (by have h9 : askE s B n = 2 := (by unfold askE; rw [if_pos Hc.out, if_pos (.inl h1)]); unfold peekR; rw [h9, if_neg (by decide)]; try rfl), HW.out⟩
    · by_cases h2 : 32 < n
      · go_wp2
        go_ret2
        exact ⟨ret_tup (by have h9 : askE s B n = 2 := (by unfold askE; rw [if_pos Hc.out, if_pos (.inr h2)]); unfold peekR; rw [h9, if_neg (by decide)]; try rfl), HW.out⟩
      · obtain ⟨N, rfl⟩ := Int.eq_ofNat_of_zero_le (Int.not_lt.1 h1)
        go_wp2_with fail
        refine (number_core s B N _ hS hB (by omega)).mono ?_
        rintro e w2 ⟨rfl, hb⟩
        have HW2 := Lib.hid (HW.out.trans (hb.mono (by omega)))
        clear hb hcc hff
        go_wp2
        go_ret2
        exact ⟨ret_tup (by have h9 : askE s B N = 0 := (by unfold askE; rw [if_pos Hc.out, if_neg (by omega)]); unfold peekR; rw [if_pos h9]; try rfl), HW2.out⟩
  · have h1 : (c != 0) = true := by simpa using h0
    have h2 : (c == 0) = false := by simpa using h0
    have Hc := Lib.hid hc
    have H0 := Lib.hid h0
    clear hc h0
    go_enter Tryz.func121, Tryz.ntmps121
    go_wp2_with fail
    refine (rright_is s b c _ hs Hc.out).mono ?_
    rintro e w1 ⟨rfl, hb⟩
    obtain ⟨hcc, hff⟩ := bcell hb
    have HW := Lib.hid (((Below.refl _ _).alloc (Nat.le_refl _) _).trans (hb.mono (by simp)) : Below w.heap.size w w1)
    clear hb
    go_wp2
    go_ret2
    exact ⟨ret_tup (by have h9 : askE s b n = c := (by unfold askE; rw [Hc.out, if_neg H0.out]); unfold peekR; rw [h9, if_neg H0.out]; try rfl), HW.out⟩
theorem rPeek_ok (s : ByteArray) (b n : Int) (w : World) (hs : s.size ≤ 9223372036854775807) (h : askE s b n = 0) :
    Calls Tryz.prog 121 #[.agg #[.string s, .int .i64 b], .int .i64 n] w fun e w' => e = .returned (.tuple #[.int .i64 (peekN s b.toNat n.toNat), .int .i64 0]) ∧ Below w.heap.size w w' := by
  have := rPeek_any s b n w hs
  unfold peekR at this
  rwa [if_pos h] at this
theorem rPeek_no (s : ByteArray) (b n c : Int) (w : World) (hs : s.size ≤ 9223372036854775807) (h : askE s b n = c) (h0 : c ≠ 0) :
    Calls Tryz.prog 121 #[.agg #[.string s, .int .i64 b], .int .i64 n] w fun e w' => e = .returned (.tuple #[.int .i64 0, .int .i64 c]) ∧ Below w.heap.size w w' := by
  have := rPeek_any s b n w hs
  unfold peekR at this
  rwa [h, if_neg h0] at this
set_option maxHeartbeats 2000000 in
theorem rtake_any (s : ByteArray) (b n : Int) (w : World) (hs : s.size ≤ 9223372036854775807) :
    Calls Tryz.prog 106 #[.agg #[.string s, .int .i64 b], .int .i64 n] w fun e w' => e = .returned (takeR s b n) ∧ Below w.heap.size w w' := by
  obtain ⟨c, hc⟩ : ∃ c, askE s b n = c := ⟨_, rfl⟩
  by_cases h0 : c = 0
  · subst h0
    obtain ⟨B, N, rfl, rfl, hB, hS, hN⟩ := askE_nat hc
    obtain ⟨x, ex⟩ : ∃ x : Int, ((peekN s B N : Nat) : Int) = x := ⟨_, rfl⟩
    have Ex := Lib.hid ex
    clear ex
    by_cases hlt : 8 * s.size < B + N
    · have ht : (8 : Int) * (s.size : Int) < (B : Int) + (N : Int) := by omega
      have Ht := Lib.hid (show takeE s B N = 5 by unfold takeE; rw [if_pos ⟨hc, by omega⟩])
      have Hc := Lib.hid hc
      clear hc
      go_enter Tryz.func106, Tryz.ntmps106
      go_wp2_with fail
      refine (rPeek_ok s B N _ hs Hc.out).mono ?_
      rintro e w1 ⟨rfl, hb⟩
      simp only [Int.toNat_natCast, Ex.out]
      obtain ⟨hcc, hff⟩ := bcell hb
      have hz := hb.size
      simp only [World.size_alloc] at hz
      have HW := Lib.hid ((((Below.refl _ _).alloc (Nat.le_refl _) _).alloc (by simp) _).trans (hb.mono (by simp; omega)) : Below w.heap.size w w1)
      clear hb
      go_wp2
      refine bodyPost_ret (by simp [results, Tryz.results106, go_sem, hcc]; try rfl) rfl ?_
      exact ⟨ret_tup (by unfold takeR; rw [Ht.out, if_neg (by decide)]; try rfl), ((HW.out.setCell (by simp) _).setCell (by simp) _)⟩
    · have ht : ¬ (8 : Int) * (s.size : Int) < (B : Int) + (N : Int) := by omega
      have Ht := Lib.hid (show takeE s B N = 0 by unfold takeE; rw [if_neg (by omega)]; exact hc)
      have Hc := Lib.hid hc
      clear hc
      go_enter Tryz.func106, Tryz.ntmps106
      go_wp2_with fail
      refine (rPeek_ok s B N _ hs Hc.out).mono ?_
      rintro e w1 ⟨rfl, hb⟩
      simp only [Int.toNat_natCast, Ex.out]
      obtain ⟨hcc, hff⟩ := bcell hb
      have hz := hb.size
      simp only [World.size_alloc] at hz
      have HW := Lib.hid ((((Below.refl _ _).alloc (Nat.le_refl _) _).alloc (by simp) _).trans (hb.mono (by simp; omega)) : Below w.heap.size w w1)
      have hX : Blk w1 w.heap.size 100 #[.string s, .int .i64 B] := ((Blk.new w 100 #[.string s, .int .i64 B]).alloc _).below hb (by simp; omega)
      have hZ : Blk w1 (w.heap.size + 1) 100 #[.string ⟨#[]⟩, .int .i64 0] := by
        have := (Blk.new (w.alloc (.cells #[.string s, .int .i64 B] 100)) 100 #[.string ⟨#[]⟩, .int .i64 0]).below hb (by simp)
        simpa using this
      have c0 := hX.cell 0
      have c1 := hX.cell 1
      have d0 := hZ.cell 0
      have d1 := hZ.cell 1
      simp only [List.getElem?_toArray, List.getElem?_cons_zero, List.getElem?_cons_succ] at c0 c1 d0 d1
      have f0 := hX.frozen 0
      have f1 := hX.frozen 1
      have g0 := hZ.frozen 0
      have g1 := hZ.frozen 1
      clear hb hX hZ hcc hff
      go_wp2
      refine bodyPost_ret (by simp [results, Tryz.results106, go_sem, d0, d1]; try rfl) rfl ?_
      exact ⟨ret_tup (by unfold takeR; rw [Ht.out, if_pos rfl]; simp only [Int.toNat_natCast, Ex.out]; try rfl), (((HW.out.setCell (by simp) _).setCell (by simp) _).setCell (by simp) _)⟩
  · have h1 : (c != 0) = true := by simpa using h0
    have h2 : (c == 0) = false := by simpa using h0
    have Ht := Lib.hid (show takeE s b n = c by unfold takeE; rw [if_neg (by rintro ⟨h, _⟩; exact h0 (hc.symm.trans h))]; exact hc)
    have Hc := Lib.hid hc
    have H0 := Lib.hid h0
    clear hc h0
    go_enter Tryz.func106, Tryz.ntmps106
    go_wp2_with fail
    refine (rPeek_no s b n c _ hs Hc.out H0.out).mono ?_
    rintro e w1 ⟨rfl, hb⟩
    obtain ⟨hcc, hff⟩ := bcell hb
    have hz := hb.size
    simp only [World.size_alloc] at hz
    have HW := Lib.hid ((((Below.refl _ _).alloc (Nat.le_refl _) _).alloc (by simp) _).trans (hb.mono (by simp; omega)) : Below w.heap.size w w1)
    clear hb
    go_wp2
    refine bodyPost_ret (by simp [results, Tryz.results106, go_sem, hcc]; try rfl) rfl ?_
    exact ⟨ret_tup (by unfold takeR; rw [Ht.out, if_neg H0.out]; try rfl), ((HW.out.setCell (by simp) _).setCell (by simp) _)⟩
end Go.Proofs.YtcoogfifjibkhaaGreat
namespace Go.Proofs.YtcoogfifjibkhaaGreat
open Go.RowKit
set_option linter.unusedVariables false
set_option linter.unusedSimpArgs false
set_option maxRecDepth 100000
abbrev W3 : Type := ByteArray × Int × Int
def zW : W3 := (⟨#[]⟩, 0, 0)
def putT (w : W3) (k v : Int) : W3 × Int :=
  if wchk w.1 w.2.1 w.2.2 = 0 then if 0 ≤ k ∧ k ≤ 32 ∧ 0 ≤ v ∧ v < 2 ^ k.toNat then
    (if 1048576 < (8 * w.1.size + w.2.2.toNat + k.toNat) / 8 then (zW, 4) else
      ((wS (8 * w.1.size + w.2.2.toNat + k.toNat) (leN w.1.data.toList + w.2.1.toNat * 2 ^ (8 * w.1.size) + v.toNat * 2 ^ (8 * w.1.size + w.2.2.toNat)),
        (wP (8 * w.1.size + w.2.2.toNat + k.toNat) (leN w.1.data.toList + w.2.1.toNat * 2 ^ (8 * w.1.size) + v.toNat * 2 ^ (8 * w.1.size + w.2.2.toNat)) : Nat), (((8 * w.1.size + w.2.2.toNat + k.toNat) % 8 : Nat) : Int)), 0)) else (zW, 2) else (zW, wchk w.1 w.2.1 w.2.2)
theorem putR_T (s : ByteArray) (p n k v : Int) : putR s p n k v = .tuple #[.agg #[.string (putT (s, p, n) k v).1.1, .int .i64 (putT (s, p, n) k v).1.2.1, .int .i64 (putT (s, p, n) k v).1.2.2], .int .i64 (putT (s, p, n) k v).2] := by
  unfold putR putT putOut zeroV
  split
  · split
    · split <;> rfl
    · rfl
  · rfl
def doneT (w : W3) : ByteArray × Int :=
  if wchk w.1 w.2.1 w.2.2 = 0 then (if 1048576 < (8 * w.1.size + w.2.2.toNat + (8 - (8 * w.1.size + w.2.2.toNat) % 8) % 8) / 8 then (⟨#[]⟩, 4) else
    (wS (8 * w.1.size + w.2.2.toNat + (8 - (8 * w.1.size + w.2.2.toNat) % 8) % 8) (leN w.1.data.toList + w.2.1.toNat * 2 ^ (8 * w.1.size) + 0 * 2 ^ (8 * w.1.size + w.2.2.toNat)), 0)) else (⟨#[]⟩, wchk w.1 w.2.1 w.2.2)
theorem alignR_T (s : ByteArray) (p n : Int) : ∃ a b, alignR s p n = .tuple #[.agg #[.string (doneT (s, p, n)).1, .int .i64 a, .int .i64 b], .int .i64 (doneT (s, p, n)).2] := by
  unfold alignR doneT putOut zeroV
  split
  · split <;> exact ⟨_, _, rfl⟩
  · exact ⟨_, _, rfl⟩
abbrev R2 : Type := ByteArray × Int
def takeT (r : R2) (n : Int) : R2 × Int × Int := if takeE r.1 r.2 n = 0 then ((r.1, r.2 + n), ((peekN r.1 r.2.toNat n.toNat : Nat) : Int), 0) else ((⟨#[]⟩, 0), 0, takeE r.1 r.2 n)
theorem takeR_T (s : ByteArray) (b n : Int) : takeR s b n = .tuple #[.agg #[.string (takeT (s, b) n).1.1, .int .i64 (takeT (s, b) n).1.2], .int .i64 (takeT (s, b) n).2.1, .int .i64 (takeT (s, b) n).2.2] := by
  unfold takeR takeT
  split <;> rfl
def nextT (r : R2) : Int × Int := if rchk r.1 r.2 = 0 then ((r.2 + 7) / 8, 0) else (0, rchk r.1 r.2)
theorem nextR_T (s : ByteArray) (b : Int) : nextR s b = .tuple #[.int .i64 (nextT (s, b)).1, .int .i64 (nextT (s, b)).2] := by
  unfold nextR nextT
  split <;> rfl
def sPut : Spec where
  ι := W3 × Int × Int
  dec l _ := match l with
    | [.ag [.v (.string s), .v (.int .i64 p), .v (.int .i64 n)], .v (.int .i64 k), .v (.int .i64 v)] => some (((s, p, n), k, v), [])
    | _ => none
  args i := [.ag [.v (.string i.1.1), .v (.int .i64 i.1.2.1), .v (.int .i64 i.1.2.2)], .v (.int .i64 i.2.1), .v (.int .i64 i.2.2)]
  out i := .leaf (.tu [.ag [.v (.string (putT i.1 i.2.1 i.2.2).1.1), .v (.int .i64 (putT i.1 i.2.1 i.2.2).1.2.1), .v (.int .i64 (putT i.1 i.2.1 i.2.2).1.2.2)], .v (.int .i64 (putT i.1 i.2.1 i.2.2).2)]) []
def sDone : Spec where
  ι := W3
  dec l _ := match l with
    | [.ag [.v (.string s), .v (.int .i64 p), .v (.int .i64 n)]] => some ((s, p, n), [])
    | _ => none
  args i := [.ag [.v (.string i.1), .v (.int .i64 i.2.1), .v (.int .i64 i.2.2)]]
  out i := .leaf (.tu [.v (.string (doneT i).1), .v (.int .i64 (doneT i).2)]) []
def sTake : Spec where
  ι := R2 × Int
  dec l _ := match l with
    | [.ag [.v (.string s), .v (.int .i64 b)], .v (.int .i64 n)] => some (((s, b), n), [])
    | _ => none
  args i := [.ag [.v (.string i.1.1), .v (.int .i64 i.1.2)], .v (.int .i64 i.2)]
  pre i := [⟨i.1.1.size ≤ 9223372036854775807, inferInstance⟩]
  out i := .leaf (.tu [.ag [.v (.string (takeT i.1 i.2).1.1), .v (.int .i64 (takeT i.1 i.2).1.2)], .v (.int .i64 (takeT i.1 i.2).2.1), .v (.int .i64 (takeT i.1 i.2).2.2)]) []
def sNext : Spec where
  ι := R2
  dec l _ := match l with
    | [.ag [.v (.string s), .v (.int .i64 b)]] => some ((s, b), [])
    | _ => none
  args i := [.ag [.v (.string i.1), .v (.int .i64 i.2)]]
  pre i := [⟨i.1.size ≤ 9223372036854775807, inferInstance⟩]
  out i := .leaf (.tu [.v (.int .i64 (nextT i).1), .v (.int .i64 (nextT i).2)]) []
theorem put_sound : Sound Tryz.prog 91 sPut.ctr := sPut.sound (by kernel_rfl)
  (fun l H n i ls h => by
    simp only [sPut] at h i
    split at h
    · cases h; exact ⟨rfl, rfl⟩
    · cases h)
  fun i _ => sat_of_calls (fun w => by have := put_any i.1.1 i.1.2.1 i.1.2.2 i.2.1 i.2.2 w; rw [putR_T] at this; exact this) rfl rfl
theorem done_sound : Sound Tryz.prog 58 sDone.ctr := sDone.sound (by kernel_rfl)
  (fun l H n i ls h => by
    simp only [sDone] at h i
    split at h
    · cases h; exact ⟨rfl, rfl⟩
    · cases h)
  fun i _ => sat_of_calls (fun w => by
    obtain ⟨a, b, e⟩ := alignR_T i.1 i.2.1 i.2.2
    exact done_of i.1 _ i.2.1 i.2.2 _ _ _ w fun w => by have := align_any i.1 i.2.1 i.2.2 w; rw [e] at this; exact this) rfl rfl
theorem take_sound : Sound Tryz.prog 120 sTake.ctr := sTake.sound (by kernel_rfl)
  (fun l H n i ls h => by
    simp only [sTake] at h i
    split at h
    · cases h; exact ⟨rfl, rfl⟩
    · cases h)
  fun i hc => sat_of_calls (fun w => by have := take_any i.1.1 i.1.2 i.2 w (hc ⟨i.1.1.size ≤ 9223372036854775807, inferInstance⟩ (by simp [sTake])); rw [takeR_T] at this; exact this) rfl rfl
theorem rtake_sound : Sound Tryz.prog 106 sTake.ctr := sTake.sound (by kernel_rfl)
  (fun l H n i ls h => by
    simp only [sTake] at h i
    split at h
    · cases h; exact ⟨rfl, rfl⟩
    · cases h)
  fun i hc => sat_of_calls (fun w => by have := rtake_any i.1.1 i.1.2 i.2 w (hc ⟨i.1.1.size ≤ 9223372036854775807, inferInstance⟩ (by simp [sTake])); rw [takeR_T] at this; exact this) rfl rfl
theorem next_sound : Sound Tryz.prog 76 sNext.ctr := sNext.sound (by kernel_rfl)
  (fun l H n i ls h => by
    simp only [sNext] at h i
    split at h
    · cases h; exact ⟨rfl, rfl⟩
    · cases h)
  fun i hc => sat_of_calls (fun w => by have := next_any i.1 i.2 w (hc ⟨i.1.size ≤ 9223372036854775807, inferInstance⟩ (by simp [sNext])); rw [nextR_T] at this; exact this) rfl rfl
theorem rnext_sound : Sound Tryz.prog 79 sNext.ctr := sNext.sound (by kernel_rfl)
  (fun l H n i ls h => by
    simp only [sNext] at h i
    split at h
    · cases h; exact ⟨rfl, rfl⟩
    · cases h)
  fun i hc => sat_of_calls (fun w => by have := rnext_any i.1 i.2 w (hc ⟨i.1.size ≤ 9223372036854775807, inferInstance⟩ (by simp [sNext])); rw [nextR_T] at this; exact this) rfl rfl
def G02 : List (Nat × Ctr) := (91, sPut.ctr) :: (58, sDone.ctr) :: (120, sTake.ctr) :: (106, sTake.ctr) :: (76, sNext.ctr) :: (79, sNext.ctr) :: []
theorem G02_ok : AllOk Tryz.prog G02 := .cons put_sound <| .cons done_sound <| .cons take_sound <| .cons rtake_sound <| .cons next_sound <| .cons rnext_sound <| AllOk.nil
theorem mixed : Tryz.prog.follows .mixedOrders = true := by kernel_rfl
end Go.Proofs.YtcoogfifjibkhaaGreat
namespace Go.Proofs.YtcoogfifjibkhaaGreat
set_option linter.unusedVariables false
def hiI (n : Int) : Int := cond (decide (n ≤ 0)) (-1) (Nat.log2 n.toNat : Nat)
def hiM (n : Int) (i : Nat) : Int := cond (decide (n ≤ 0)) (-1) (min ((i : Int) - 1) (Nat.log2 n.toNat : Nat))
def minL (l : List Int) : Int := l.tail.foldl min (l.headD 0)
def eqI (a b : List Int) : Bool := a == b
def pt (p : Int) : Int := cond (decide (p < 0)) 1 p
def pts (l : List Int) : Int := l.foldl (fun s p => s + pt p) 0
def dbad (log : Int) (xs : List Int) : Bool := decide (xs.length < 1) || decide (256 < xs.length) || xs.getD (xs.length - 1) 0 == 0 || xs.any (fun x => decide (x < -1)) || !(pts xs == 2 ^ log.toNat)
def dchk (log : Int) (xs : List Int) : Int := cond (decide (log < 5) || decide (12 < log)) 31 (cond (dbad log xs) 23 0)
def shB (left : Int) : Int := hiI (left + 1) + 1
def shT (left : Int) : Int := 2 ^ (shB left).toNat - 1 - (left + 1)
end Go.Proofs.YtcoogfifjibkhaaGreat
namespace Go.Proofs.YtcoogfifjibkhaaGreat
open Go Go.RowKit
set_option linter.unusedVariables false
set_option linter.unusedSimpArgs false
set_option maxRecDepth 100000
def sHigh : Spec where
  ι := Int
  dec l H := match l with
    | [.v (.int .i64 n)] => some (n, [])
    | _ => none
  args := fun n => [.v (.int .i64 n)]
  pre := fun n => [⟨n ≤ 9223372036854775807, inferInstance⟩]
  out := fun n => .leaf (.v (.int .i64 (hiI n))) []
theorem sHigh_enc : ∀ l H n i ls, sHigh.dec l H = some (i, ls) → l = renL (rho ls n) (sHigh.args i) ∧ givenHp H ls = renH (rho ls n) (sHigh.hp i) := by
  intro l H n i ls h
  simp only [sHigh] at h
  repeat' split at h
  all_goals first
    | (cases h; done)
    | (cases h; exact ⟨rfl, rfl⟩)
def sBits : Spec where
  ι := Int
  dec l H := match l with
    | [.v (.int .i64 n)] => some (n, [])
    | _ => none
  args := fun n => [.v (.int .i64 n)]
  pre := fun n => [⟨n ≤ 9223372036854775807, inferInstance⟩]
  out := fun n => .leaf (.v (.int .i64 (hiI n + 1))) []
theorem sBits_enc : ∀ l H n i ls, sBits.dec l H = some (i, ls) → l = renL (rho ls n) (sBits.args i) ∧ givenHp H ls = renH (rho ls n) (sBits.hp i) := by
  intro l H n i ls h
  simp only [sBits] at h
  repeat' split at h
  all_goals first
    | (cases h; done)
    | (cases h; exact ⟨rfl, rfl⟩)
def sMin : Spec where
  ι := List Int
  dec l H := match l with
    | [.dat (.ints .i64 l)] => some (l, [])
    | _ => none
  args := fun l => [.dat (.ints .i64 l)]
  pre := fun l => [⟨0 < l.length, inferInstance⟩, ⟨l.length ≤ 4294967296, inferInstance⟩]
  out := fun l => .leaf (.v (.int .i64 (minL l))) []
theorem sMin_enc : ∀ l H n i ls, sMin.dec l H = some (i, ls) → l = renL (rho ls n) (sMin.args i) ∧ givenHp H ls = renH (rho ls n) (sMin.hp i) := by
  intro l H n i ls h
  simp only [sMin] at h
  repeat' split at h
  all_goals first
    | (cases h; done)
    | (cases h; exact ⟨rfl, rfl⟩)
def sEq : Spec where
  ι := List Int × List Int
  dec l H := match l with
    | [.dat (.ints .i64 a), .dat (.ints .i64 b)] => some ((a, b), [])
    | _ => none
  args := fun (a, b) => [.dat (.ints .i64 a), .dat (.ints .i64 b)]
  pre := fun (a, b) => [⟨a.length ≤ 4294967296, inferInstance⟩]
  out := fun (a, b) => .leaf (.v (.bool (eqI a b))) []
theorem sEq_enc : ∀ l H n i ls, sEq.dec l H = some (i, ls) → l = renL (rho ls n) (sEq.args i) ∧ givenHp H ls = renH (rho ls n) (sEq.hp i) := by
  intro l H n i ls h
  simp only [sEq] at h
  repeat' split at h
  all_goals first
    | (cases h; done)
    | (cases h; exact ⟨rfl, rfl⟩)
def sOwn : Spec where
  ι := List Int
  dec l H := match l with
    | [.dat (.ints .i64 l)] => some (l, [])
    | _ => none
  args := fun l => [.dat (.ints .i64 l)]
  pre := fun l => [⟨l.length ≤ 4294967296, inferInstance⟩]
  out := fun l => .leaf (.o 2000) [(2000, .row 3 (.ints .i64 l))]
theorem sOwn_enc : ∀ l H n i ls, sOwn.dec l H = some (i, ls) → l = renL (rho ls n) (sOwn.args i) ∧ givenHp H ls = renH (rho ls n) (sOwn.hp i) := by
  intro l H n i ls h
  simp only [sOwn] at h
  repeat' split at h
  all_goals first
    | (cases h; done)
    | (cases h; exact ⟨rfl, rfl⟩)
def sAdd : Spec where
  ι := Int × Int
  dec l H := match l with
    | [.v (.int .i64 n), .p l0 0 0] => match H l0 with
      | some (.cells 3 [.v (.int .i64 s)]) => some ((n, s), [l0])
      | _ => none
    | _ => none
  args := fun (n, s) => [.v (.int .i64 n), .p 0 0 0]
  hp := fun (n, s) => [(0, .cells 3 [.v (.int .i64 s)])]
  pre := fun (n, s) => [⟨0 ≤ n, inferInstance⟩, ⟨n ≤ 1048576, inferInstance⟩, ⟨0 ≤ s, inferInstance⟩, ⟨s ≤ 1048576, inferInstance⟩]
  out := fun (n, s) => .leaf (.tu []) [(0, .cells 3 [.v (.int .i64 (min (s + n) 1048576))])]
theorem sAdd_enc : ∀ l H n i ls, sAdd.dec l H = some (i, ls) → l = renL (rho ls n) (sAdd.args i) ∧ givenHp H ls = renH (rho ls n) (sAdd.hp i) := by
  intro l H n i ls h
  simp only [sAdd] at h
  repeat' split at h
  all_goals first
    | (cases h; done)
    | (cases h; exact ⟨rfl, rfl⟩)
    | (cases h; refine ⟨rfl, ?_⟩; simp only [givenHp, List.filterMap_cons, List.filterMap_nil, Option.map, *]; rfl)
def sPoints : Spec where
  ι := Int × List Int
  dec l H := match l with
    | [.ag [.v (.int .i64 g), .dat (.ints .i64 l)]] => some ((g, l), [])
    | _ => none
  args := fun (g, l) => [.ag [.v (.int .i64 g), .dat (.ints .i64 l)]]
  pre := fun (g, l) => [⟨l.length ≤ 4294967296, inferInstance⟩]
  out := fun (g, l) => .leaf (.v (.int .i64 (min (pts l) 1048576))) []
theorem sPoints_enc : ∀ l H n i ls, sPoints.dec l H = some (i, ls) → l = renL (rho ls n) (sPoints.args i) ∧ givenHp H ls = renH (rho ls n) (sPoints.hp i) := by
  intro l H n i ls h
  simp only [sPoints] at h
  repeat' split at h
  all_goals first
    | (cases h; done)
    | (cases h; exact ⟨rfl, rfl⟩)
def sRpoints : Spec where
  ι := List Int
  dec l H := match l with
    | [.dat (.ints .i64 l)] => some (l, [])
    | _ => none
  args := fun l => [.dat (.ints .i64 l)]
  pre := fun l => [⟨l.length ≤ 65536, inferInstance⟩, ⟨l.all (fun x => decide (x ≤ 65536)) = true, inferInstance⟩]
  out := fun l => .leaf (.v (.int .i64 (pts l))) []
theorem sRpoints_enc : ∀ l H n i ls, sRpoints.dec l H = some (i, ls) → l = renL (rho ls n) (sRpoints.args i) ∧ givenHp H ls = renH (rho ls n) (sRpoints.hp i) := by
  intro l H n i ls h
  simp only [sRpoints] at h
  repeat' split at h
  all_goals first
    | (cases h; done)
    | (cases h; exact ⟨rfl, rfl⟩)
def sCheck : Spec where
  ι := Int × List Int
  dec l H := match l with
    | [.ag [.v (.int .i64 g), .dat (.ints .i64 l)]] => some ((g, l), [])
    | _ => none
  args := fun (g, l) => [.ag [.v (.int .i64 g), .dat (.ints .i64 l)]]
  pre := fun (g, l) => [⟨l.length ≤ 4294967296, inferInstance⟩]
  out := fun (g, l) => .leaf (.v (.int .i64 (dchk g l))) []
theorem sCheck_enc : ∀ l H n i ls, sCheck.dec l H = some (i, ls) → l = renL (rho ls n) (sCheck.args i) ∧ givenHp H ls = renH (rho ls n) (sCheck.hp i) := by
  intro l H n i ls h
  simp only [sCheck] at h
  repeat' split at h
  all_goals first
    | (cases h; done)
    | (cases h; exact ⟨rfl, rfl⟩)
def sTimes : Spec where
  ι := List Int × Int × Int
  own := true
  dec l H := match l with
    | [.o l0, .v (.int .i64 n), .v (.int .i64 x)] => match H l0 with
      | some (.row 3 (.ints .i64 l)) => some ((l, n, x), [l0])
      | _ => none
    | _ => none
  args := fun (l, n, x) => [.o 0, .v (.int .i64 n), .v (.int .i64 x)]
  hp := fun (l, n, x) => [(0, .row 3 (.ints .i64 l))]
  pre := fun (l, n, x) => [⟨l.length ≤ 65536, inferInstance⟩, ⟨n ≤ 65536, inferInstance⟩]
  out := fun (l, n, x) => .leaf (.o 2000) [(2000, .row 3 (.ints .i64 (l ++ List.replicate n.toNat x)))]
theorem sTimes_enc : ∀ l H n i ls, sTimes.dec l H = some (i, ls) → l = renL (rho ls n) (sTimes.args i) ∧ givenHp H ls = renH (rho ls n) (sTimes.hp i) := by
  intro l H n i ls h
  simp only [sTimes] at h
  repeat' split at h
  all_goals first
    | (cases h; done)
    | (cases h; exact ⟨rfl, rfl⟩)
    | (cases h; refine ⟨rfl, ?_⟩; simp only [givenHp, List.filterMap_cons, List.filterMap_nil, Option.map, *]; rfl)
def sTimes0 : Spec where
  ι := Int × Int
  own := true
  dec l H := match l with
    | [.v (.slice none 0 0), .v (.int .i64 n), .v (.int .i64 x)] => some ((n, x), [])
    | _ => none
  args := fun (n, x) => [.v (.slice none 0 0), .v (.int .i64 n), .v (.int .i64 x)]
  pre := fun (n, x) => [⟨n ≤ 65536, inferInstance⟩]
  out := fun (n, x) => .leaf (.o 2000) [(2000, .row 3 (.ints .i64 (List.replicate n.toNat x)))]
theorem sTimes0_enc : ∀ l H n i ls, sTimes0.dec l H = some (i, ls) → l = renL (rho ls n) (sTimes0.args i) ∧ givenHp H ls = renH (rho ls n) (sTimes0.hp i) := by
  intro l H n i ls h
  simp only [sTimes0] at h
  repeat' split at h
  all_goals first
    | (cases h; done)
    | (cases h; exact ⟨rfl, rfl⟩)
def sShape : Spec where
  ι := Int
  dec l H := match l with
    | [.v (.int .i64 n)] => some (n, [])
    | _ => none
  args := fun n => [.v (.int .i64 n)]
  pre := fun n => [⟨0 ≤ n, inferInstance⟩, ⟨n ≤ 1073741824, inferInstance⟩]
  out := fun n => .leaf (.tu [.v (.int .i64 (shB n)), .v (.int .i64 (shT n))]) []
theorem sShape_enc : ∀ l H n i ls, sShape.dec l H = some (i, ls) → l = renL (rho ls n) (sShape.args i) ∧ givenHp H ls = renH (rho ls n) (sShape.hp i) := by
  intro l H n i ls h
  simp only [sShape] at h
  repeat' split at h
  all_goals first
    | (cases h; done)
    | (cases h; exact ⟨rfl, rfl⟩)
def one (x : LoopInv) : Nat → Option LoopFam := fun k => cond (Nat.beq k 0) (some (.one x)) none
def oHigh (n : Int) : LoopInv := { ι := Nat, p := fun i => i ≤ 63, tm := fun i => [(0, .v (.int .i64 n)), (3, .v (.int .i64 (hiM n i))), (5, .v (.int .i64 (i : Nat)))], hp := fun _ => [], μ := fun i => 63 - i }
def oRhigh (n : Int) : LoopInv := { ι := Nat, p := fun i => (n ≤ 0 ∧ i = 0) ∨ (0 < n ∧ i ≤ Nat.log2 n.toNat + 1), tm := fun i => [(0, .v (.int .i64 (n / 2 ^ i))), (3, .v (.int .i64 ((i : Int) - 1)))], hp := fun _ => [], μ := fun i => 63 - i }
def oMin (l : List Int) : LoopInv := { ι := Nat, p := fun i => 1 ≤ i ∧ i ≤ l.length, tm := fun i => [(0, .dat (.ints .i64 l)), (3, .v (.int .i64 (minL (l.take i)))), (4, .v (.int .i64 (i : Nat)))], hp := fun _ => [], μ := fun i => l.length - i }
def oEq (t : Nat) (n : Nat) (l : List (Nat × SV)) (a b : List Int) : LoopInv := { ι := Nat, p := fun i => i ≤ a.length ∧ a.take i = b.take i, tm := fun i => (0, .dat (.ints .i64 a)) :: (1, .dat (.ints .i64 b)) :: (t, .v (.int .i64 (i : Nat))) :: l, hp := fun _ => [], μ := fun i => a.length - i }
def oPoints (g : Int) (l : List Int) : LoopInv := { ι := Nat, p := fun i => i ≤ l.length, tm := fun i => [(3, .p 1001 0 0), (4, .fn (.func 101) [] [.p 1001 0 0]), (9, .dat (.ints .i64 l)), (10, .v (.int .i64 l.length)), (11, .v (.int .i64 (i : Nat)))], hp := fun i => [(1001, .cells 3 [.v (.int .i64 (min (pts (l.take i)) 1048576))])], μ := fun i => l.length - i }
def oRpoints (l : List Int) : LoopInv := { ι := Nat, p := fun i => i ≤ l.length, tm := fun i => [(0, .dat (.ints .i64 l)), (3, .v (.int .i64 (pts (l.take i)))), (4, .v (.int .i64 (i : Nat)))], hp := fun _ => [], μ := fun i => l.length - i }
def oRcheck (g : Int) (l : List Int) : LoopInv := { ι := Nat, p := fun i => i ≤ l.length ∧ ∀ x ∈ l.take i, -1 ≤ x ∧ x ≤ 2 ^ g.toNat, tm := fun i => [(1, .p 1000 0 0), (3, .v (.int .i64 (i : Nat)))], hp := fun i => [(1000, .cells 24 [.v (.int .i64 g), .dat (.ints .i64 l)])], μ := fun i => l.length - i }
def oTimes (l : List Int) (n x : Int) : LoopInv := { ι := Nat, p := fun i => i ≤ n.toNat, tm := fun i => [(0, .o 2000), (1, .v (.int .i64 n)), (2, .v (.int .i64 x)), (7, .v (.int .i64 (i : Nat)))], hp := fun i => [(2000, .row 3 (.ints .i64 (l ++ List.replicate i x)))], μ := fun i => n.toNat - i }
def G8a : List (Nat × Ctr) := (43, sHigh.ctr) :: (68, sHigh.ctr) :: (101, sAdd.ctr) :: (70, sMin.ctr) :: (80, sEq.ctr) :: (14, sEq.ctr) :: (8, sOwn.ctr) :: (73, sRpoints.ctr) :: G02
def G8b : List (Nat × Ctr) := (84, sBits.ctr) :: (94, sBits.ctr) :: (71, sPoints.ctr) :: (44, sCheck.ctr) :: G8a
def G8c : List (Nat × Ctr) := (40, sCheck.ctr) :: (92, sShape.ctr) :: G8b
end Go.Proofs.YtcoogfifjibkhaaGreat
namespace Go.Proofs.YtcoogfifjibkhaaGreat
set_option linter.unusedVariables false
def valP (left p : Int) : Int × Int := cond (decide (p + 1 < shT left)) (shB left - 1, p + 1) (cond (decide (p + 1 < 2 ^ (shB left - 1).toNat)) (shB left, p + 1) (shB left, p + 1 + shT left))
def zerosP (z : Nat) : List (Int × Int) := List.replicate (z / 3) (2, 3) ++ [(2, ((z % 3 : Nat) : Int))]
def de : Option Nat → List Int → Int → List (Int × Int)
  | none, [], _ => []
  | some z, [], _ => zerosP z
  | none, p :: r, left => valP left p :: cond (p == 0) (de (some 0) r left) (de none r (left - pt p))
  | some z, q :: r, left => cond (q == 0) (de (some (z + 1)) r left) (zerosP z ++ valP left q :: de none r (left - pt q))
def deP (l : List Int) (i : Nat) : List (Int × Int) := cond (l.getD i 0 == 0) (de (some 0) (l.drop (i + 1)) (pts (l.drop i))) (de none (l.drop (i + 1)) (pts (l.drop i) - pt (l.getD i 0)))
def putAll (w : W3) (l : List (Int × Int)) : W3 := l.foldl (fun w kv => (putT w kv.1 kv.2).1) w
def bsum : List (Int × Int) → Int
  | [] => 0
  | kv :: r => kv.1 + bsum r
def wrT (g : Int) (l : List Int) : W3 := putAll (putT zW 4 (g - 5)).1 (de none l (2 ^ g.toNat))
def writeF (g : Int) (l : List Int) : ByteArray × Int := cond (dchk g l == 0) (doneT (wrT g l)) (⟨#[]⟩, dchk g l)
def pLits : List Int := [4, 3, 2, 2, 2, 2, 2, 2, 2, 2, 2, 2, 2, 1, 1, 1, 2, 2, 2, 2, 2, 2, 2, 2, 2, 3, 2, 1, 1, 1, 1, 1, -1, -1, -1, -1]
def pOffset : List Int := [1, 1, 1, 1, 1, 1, 2, 2, 2, 1, 1, 1, 1, 1, 1, 1, 1, 1, 1, 1, 1, 1, 1, 1, -1, -1, -1, -1, -1]
def pMatch : List Int := [1, 4, 3, 2, 2, 2, 2, 2, 2, 1, 1, 1, 1, 1, 1, 1, 1, 1, 1, 1, 1, 1, 1, 1, 1, 1, 1, 1, 1, 1, 1, 1, 1, 1, 1, 1, 1, 1, 1, 1, 1, 1, 1, 1, 1, 1, -1, -1, -1, -1, -1, -1, -1]
def preL (k : Int) : Int := cond (k == 0) 6 (cond (k == 1) 5 (cond (k == 2) 6 0))
def preP (k : Int) : List Int := cond (k == 0) pLits (cond (k == 1) pOffset (cond (k == 2) pMatch []))
def preE (k : Int) : Int := cond (k == 0) 0 (cond (k == 1) 0 (cond (k == 2) 0 11))
def expandL : List Int → List Int
  | c :: v :: r => List.replicate c.toNat v ++ expandL r
  | _ => []
def okRuns : List Int → Bool
  | c :: v :: r => decide (1 ≤ c) && decide (c ≤ 64) && okRuns r
  | _ => true
end Go.Proofs.YtcoogfifjibkhaaGreat
namespace Go.Proofs.YtcoogfifjibkhaaGreat
open Go Go.RowKit
set_option linter.unusedVariables false
set_option linter.unusedSimpArgs false
set_option maxRecDepth 100000
def sPut1 : Spec where
  ι := Int × Int × ByteArray × Int × Int
  dec l H := match l with
    | [.v (.int .i64 k), .v (.int .i64 v), .p l0 0 0] => match H l0 with
      | some (.cells 90 [.v (.string s), .v (.int .i64 p), .v (.int .i64 m)]) => some ((k, v, s, p, m), [l0])
      | _ => none
    | _ => none
  args := fun (k, v, s, p, m) => [.v (.int .i64 k), .v (.int .i64 v), .p 0 0 0]
  hp := fun (k, v, s, p, m) => [(0, .cells 90 [.v (.string s), .v (.int .i64 p), .v (.int .i64 m)])]
  out := fun (k, v, s, p, m) => .leaf (.tu []) [(0, .cells 90 [.v (.string (putT (s, p, m) k v).1.1), .v (.int .i64 (putT (s, p, m) k v).1.2.1), .v (.int .i64 (putT (s, p, m) k v).1.2.2)])]
theorem sPut1_enc : ∀ l H n i ls, sPut1.dec l H = some (i, ls) → l = renL (rho ls n) (sPut1.args i) ∧ givenHp H ls = renH (rho ls n) (sPut1.hp i) := by
  intro l H n i ls h
  simp only [sPut1] at h
  repeat' split at h
  all_goals first
    | (cases h; done)
    | (cases h; exact ⟨rfl, rfl⟩)
    | (cases h; refine ⟨rfl, ?_⟩; simp only [givenHp, List.filterMap_cons, List.filterMap_nil, Option.map, *]; rfl)
def sWritten : Spec where
  ι := Int × List Int
  dec l H := match l with
    | [.ag [.v (.int .i64 g), .dat (.ints .i64 l)]] => some ((g, l), [])
    | _ => none
  args := fun (g, l) => [.ag [.v (.int .i64 g), .dat (.ints .i64 l)]]
  pre := fun (g, l) => [⟨dchk g l = 0, inferInstance⟩]
  out := fun (g, l) => .leaf (.ag [.v (.string (wrT g l).1), .v (.int .i64 (wrT g l).2.1), .v (.int .i64 (wrT g l).2.2)]) []
theorem sWritten_enc : ∀ l H n i ls, sWritten.dec l H = some (i, ls) → l = renL (rho ls n) (sWritten.args i) ∧ givenHp H ls = renH (rho ls n) (sWritten.hp i) := by
  intro l H n i ls h
  simp only [sWritten] at h
  repeat' split at h
  all_goals first
    | (cases h; done)
    | (cases h; exact ⟨rfl, rfl⟩)
def sWrite : Spec where
  ι := Int × List Int
  dec l H := match l with
    | [.ag [.v (.int .i64 g), .dat (.ints .i64 l)]] => some ((g, l), [])
    | _ => none
  args := fun (g, l) => [.ag [.v (.int .i64 g), .dat (.ints .i64 l)]]
  pre := fun (g, l) => [⟨l.length ≤ 4294967296, inferInstance⟩]
  out := fun (g, l) => .leaf (.tu [.v (.string (writeF g l).1), .v (.int .i64 (writeF g l).2)]) []
theorem sWrite_enc : ∀ l H n i ls, sWrite.dec l H = some (i, ls) → l = renL (rho ls n) (sWrite.args i) ∧ givenHp H ls = renH (rho ls n) (sWrite.hp i) := by
  intro l H n i ls h
  simp only [sWrite] at h
  repeat' split at h
  all_goals first
    | (cases h; done)
    | (cases h; exact ⟨rfl, rfl⟩)
def wCells (w : W3) : SBlk := .cells 90 [.v (.string w.1), .v (.int .i64 w.2.1), .v (.int .i64 w.2.2)]
def dCells (g : Int) (l : List Int) : SBlk := .cells 24 [.v (.int .i64 g), .dat (.ints .i64 l)]
def wTm (i : Int) (left : Int) : List (Nat × SV) := [(1, .p 1000 0 0), (2, .p 1002 0 0), (3, .p 1001 0 0), (4, .fn (.func 90) [] [.p 1001 0 0]), (5, .v (.int .i64 left)), (6, .v (.int .i64 i))]
def wHp (g : Int) (l : List Int) (w : W3) : List (Nat × SBlk) := [(1000, dCells g l), (1001, wCells w), (1002, .cells 90 [.any, .any, .any])]
def oW0 (g : Int) (l : List Int) : LoopInv := { ι := Nat × W3, p := fun x => x.1 ≤ l.length ∧ putAll x.2 (de none (l.drop x.1) (pts (l.drop x.1))) = wrT g l, tm := fun x => wTm (x.1 : Nat) (pts (l.drop x.1)), hp := fun x => wHp g l x.2, μ := fun x => l.length - x.1 }
def oW1 (g : Int) (l : List Int) (j : Nat) : LoopInv := { ι := Nat × Nat × W3, p := fun x => j ≤ x.1 ∧ x.1 < l.length ∧ x.2.1 ≤ x.1 ∧ putAll x.2.2 (de (some x.2.1) (l.drop (x.1 + 1)) (pts (l.drop (x.1 + 1)))) = wrT g l, tm := fun x => (11, .v (.int .i64 (x.2.1 : Nat))) :: wTm (x.1 : Nat) (pts (l.drop (x.1 + 1))), hp := fun x => wHp g l x.2.2, μ := fun x => l.length - x.1 }
def oW2 (g : Int) (l : List Int) (j : Nat) : LoopInv := { ι := Nat × Nat × W3, p := fun x => j ≤ x.1 ∧ x.1 < l.length ∧ x.2.1 ≤ x.1 ∧ putAll x.2.2 (zerosP x.2.1 ++ de none (l.drop (x.1 + 1)) (pts (l.drop (x.1 + 1)))) = wrT g l, tm := fun x => (11, .v (.int .i64 (x.2.1 : Nat))) :: wTm (x.1 : Nat) (pts (l.drop (x.1 + 1))), hp := fun x => wHp g l x.2.2, μ := fun x => x.2.1 }
def omg : List (Nat × LoopFam) → Nat → Option LoopFam
  | [], _ => none
  | (k, x) :: r, i => cond (Nat.beq i k) (some x) (omg r i)
def oW16 (g : Int) (l : List Int) (i : Nat) : LoopInv := { ι := W3, p := fun w => i < l.length ∧ putAll w (deP l i) = wrT g l, tm := fun w => (7, .v (.int .i64 (l.getD i 0))) :: wTm (i : Nat) (pts (l.drop i)), hp := fun w => wHp g l w, μ := fun _ => 0 }
def oWritten (g : Int) (l : List Int) : Nat → Option LoopFam := omg [(0, .one (oW0 g l)), (1, .fam Nat (oW1 g l)), (2, .fam Nat (oW2 g l)), (1016, .fam Nat (oW16 g l)), (1022, .fam Nat (oW2 g l))]
def G8d : List (Nat × Ctr) := (90, sPut1.ctr) :: G8c
def G8e : List (Nat × Ctr) := (59, sWritten.ctr) :: G8d
def G8f : List (Nat × Ctr) := (28, sWrite.ctr) :: G8e
end Go.Proofs.YtcoogfifjibkhaaGreat
namespace Go.Proofs.YtcoogfifjibkhaaGreat
open Go Go.RowKit
set_option linter.unusedVariables false
set_option linter.unusedSimpArgs false
set_option maxRecDepth 100000
def sRepeat : Spec where
  ι := Int × Int
  own := true
  dec l H := match l with
    | [.o l0, .v (.int .i64 c)] => match H l0 with
      | some (.row 3 (.ints .i64 [v])) => some ((v, c), [l0])
      | _ => none
    | _ => none
  args := fun (v, c) => [.o 0, .v (.int .i64 c)]
  hp := fun (v, c) => [(0, .row 3 (.ints .i64 [v]))]
  pre := fun (v, c) => [⟨1 ≤ c, inferInstance⟩, ⟨c ≤ 65536, inferInstance⟩]
  out := fun (v, c) => .leaf (.dat (.ints .i64 (List.replicate c.toNat v))) [(0, .row 3 (.ints .i64 [v]))]
theorem sRepeat_enc : ∀ l H n i ls, sRepeat.dec l H = some (i, ls) → l = renL (rho ls n) (sRepeat.args i) ∧ givenHp H ls = renH (rho ls n) (sRepeat.hp i) := by
  intro l H n i ls h
  simp only [sRepeat] at h
  repeat' split at h
  all_goals first
    | (cases h; done)
    | (cases h; exact ⟨rfl, rfl⟩)
    | (cases h; refine ⟨rfl, ?_⟩; simp only [givenHp, List.filterMap_cons, List.filterMap_nil, Option.map, *]; rfl)
def sRuns : Spec where
  ι := List Int
  dec l H := match l with
    | [.dat (.ints .i64 l)] => some (l, [])
    | _ => none
  args := fun l => [.dat (.ints .i64 l)]
  pre := fun l => [⟨l.length ≤ 64, inferInstance⟩, ⟨okRuns l = true, inferInstance⟩]
  out := fun l => .leaf (.o 2000) [(2000, .row 3 (.ints .i64 (expandL l)))]
theorem sRuns_enc : ∀ l H n i ls, sRuns.dec l H = some (i, ls) → l = renL (rho ls n) (sRuns.args i) ∧ givenHp H ls = renH (rho ls n) (sRuns.hp i) := by
  intro l H n i ls h
  simp only [sRuns] at h
  repeat' split at h
  all_goals first
    | (cases h; done)
    | (cases h; exact ⟨rfl, rfl⟩)
def sPredef : Spec where
  ι := Int
  dec l H := match l with
    | [.v (.int .i64 k)] => some (k, [])
    | _ => none
  args := fun k => [.v (.int .i64 k)]
  out := fun k => .leaf (.tu [.ag [.v (.int .i64 (preL k)), .dat (.ints .i64 (preP k))], .v (.int .i64 (preE k))]) []
theorem sPredef_enc : ∀ l H n i ls, sPredef.dec l H = some (i, ls) → l = renL (rho ls n) (sPredef.args i) ∧ givenHp H ls = renH (rho ls n) (sPredef.hp i) := by
  intro l H n i ls h
  simp only [sPredef] at h
  repeat' split at h
  all_goals first
    | (cases h; done)
    | (cases h; exact ⟨rfl, rfl⟩)
def oRuns (l : List Int) : LoopInv := { ι := Nat × List Int, p := fun x => x.1 ≤ l.length ∧ okRuns (l.drop x.1) = true ∧ x.2.length ≤ 64 * x.1 ∧ x.2 ++ expandL (l.drop x.1) = expandL l, tm := fun x => [(0, .dat (.ints .i64 l)), (3, .o 2000), (4, .v (.int .i64 (x.1 : Nat)))], hp := fun x => [(2000, .row 3 (.ints .i64 x.2))], μ := fun x => l.length - x.1 }
def G8g : List (Nat × Ctr) := (82, sRepeat.ctr) :: (69, orC sTimes0 sTimes) :: G8f
def G8h : List (Nat × Ctr) := (55, sRuns.ctr) :: G8g
def G8i : List (Nat × Ctr) := (25, sPredef.ctr) :: (39, sPredef.ctr) :: G8h
end Go.Proofs.YtcoogfifjibkhaaGreat
namespace Go.Proofs.YtcoogfifjibkhaaGreat
set_option linter.unusedVariables false
def fixV (left v : Int) : Int := cond (decide (2 ^ (shB left - 1).toNat ≤ v)) (v - shT left) v
def valR (r : R2) (left : Int) : R2 × Int × Int :=
  cond ((takeT r (shB left - 1)).2.2 == 0)
    (cond (decide ((takeT r (shB left - 1)).2.1 < shT left)) (takeT r (shB left - 1))
      (cond ((takeT (takeT r (shB left - 1)).1 1).2.2 == 0)
        ((takeT (takeT r (shB left - 1)).1 1).1, fixV left ((takeT r (shB left - 1)).2.1 + (takeT (takeT r (shB left - 1)).1 1).2.1 * 2 ^ (shB left - 1).toNat), 0)
        (r, 0, (takeT (takeT r (shB left - 1)).1 1).2.2)))
    (r, 0, (takeT r (shB left - 1)).2.2)
def flR (sym : Int) : Nat → R2 → List Int → R2 × List Int × Int
  | 0, r, out => (r, out, 23)
  | f + 1, r, out => cond ((takeT r 2).2.2 == 0)
      (cond (decide (sym < out.length + (takeT r 2).2.1)) (r, out, 23)
        (cond ((takeT r 2).2.1 == 3) (flR sym f (takeT r 2).1 (out ++ List.replicate (takeT r 2).2.1.toNat 0)) ((takeT r 2).1, out ++ List.replicate (takeT r 2).2.1.toNat 0, 0)))
      (r, out, (takeT r 2).2.2)
def rdR (sym : Int) : Nat → R2 → Int → List Int → R2 × List Int × Int
  | 0, r, _, out => (r, out, 23)
  | f + 1, r, left, out => cond (decide (0 < left))
      (cond ((valR r left).2.2 == 0)
        (cond ((out.length : Int) == sym) (r, out, 23)
          (cond ((valR r left).2.1 == 1)
            (cond ((flR sym (sym.toNat + 1) (valR r left).1 (out ++ [(valR r left).2.1 - 1])).2.2 == 0)
              (rdR sym f (flR sym (sym.toNat + 1) (valR r left).1 (out ++ [(valR r left).2.1 - 1])).1 left (flR sym (sym.toNat + 1) (valR r left).1 (out ++ [(valR r left).2.1 - 1])).2.1)
              (flR sym (sym.toNat + 1) (valR r left).1 (out ++ [(valR r left).2.1 - 1])))
            (rdR sym f (valR r left).1 (left - max ((valR r left).2.1 - 1) 1) (out ++ [(valR r left).2.1 - 1]))))
        (r, out, (valR r left).2.2))
      (r, out, 0)
def contZ (y : Int) (f : Nat) (left : Int) (z : R2 × List Int × Int) : R2 × List Int × Int := cond (z.2.2 == 0) (rdR y f z.1 left z.2.1) z
def logR (r : R2) : Int := (takeT r 4).2.1 + 5
def rdA (r : R2) (most sym : Int) : R2 × List Int × Int :=
  cond ((takeT r 4).2.2 == 0) (cond (decide (most < logR r)) (r, [], 31) (rdR sym (sym.toNat + 1) (takeT r 4).1 (2 ^ (logR r).toNat) [])) (r, [], (takeT r 4).2.2)
def rngE (s : ByteArray) (a m y : Int) : Bool := decide (a < 0) || decide ((s.size : Int) < a) || decide (m < 5) || decide (12 < m) || decide (y < 1) || decide (256 < y)
def win (s : ByteArray) (a w : Int) : ByteArray := s.extract a.toNat (min (s.size : Int) (a + w)).toNat
def readF (w : Int) (s : ByteArray) (a m y : Int) : (Int × List Int) × Int × Int × Int :=
  cond (rngE s a m y) ((0, []), 0, 2, 0)
    (cond ((rdA (win s a w, 0) m y).2.2 == 0) ((logR (win s a w, 0), (rdA (win s a w, 0) m y).2.1), a + (nextT (rdA (win s a w, 0) m y).1).1, 0, 0)
      ((0, []), 0, cond ((rdA (win s a w, 0) m y).2.2 == 31) 31 23, a))
end Go.Proofs.YtcoogfifjibkhaaGreat
namespace Go.Proofs.YtcoogfifjibkhaaGreat
open Go Go.RowKit
set_option linter.unusedVariables false
set_option linter.unusedSimpArgs false
set_option maxRecDepth 100000
def rC (r : R2) : SBlk := .cells 100 [.v (.string r.1), .v (.int .i64 r.2)]
def xC (r : R2) (e : Int) : SBlk := .cells 110 [.v (.string r.1), .v (.int .i64 r.2), .v (.int .i64 e)]
def errB (e : Int) : SV := .ifc 131 (.ag [.ifc 31 (.v (.int .i64 e))])
def sDTake : Spec where
  ι := Int × ByteArray × Int
  dec l H := match l with
    | [.p l0 0 0, .v (.int .i64 n)] => match H l0 with
      | some (.cells 100 [.v (.string s), .v (.int .i64 b)]) => some ((n, s, b), [l0])
      | _ => none
    | _ => none
  args := fun (n, s, b) => [.p 0 0 0, .v (.int .i64 n)]
  hp := fun (n, s, b) => [(0, .cells 100 [.v (.string s), .v (.int .i64 b)])]
  pre := fun (n, s, b) => [⟨s.size ≤ 9223372036854775807, inferInstance⟩]
  out := fun (n, s, b) => .ite ⟨(takeT (s, b) n).2.2 = 0, inferInstance⟩ (.leaf (.tu [.v (.int .i64 (takeT (s, b) n).2.1), .v .nilIface]) [(0, rC (takeT (s, b) n).1)]) (.leaf (.tu [.v (.int .i64 0), errB (takeT (s, b) n).2.2]) [(0, rC (s, b))])
theorem sDTake_enc : ∀ l H n i ls, sDTake.dec l H = some (i, ls) → l = renL (rho ls n) (sDTake.args i) ∧ givenHp H ls = renH (rho ls n) (sDTake.hp i) := by
  intro l H n i ls h
  simp only [sDTake] at h
  repeat' split at h
  all_goals first
    | (cases h; done)
    | (cases h; exact ⟨rfl, rfl⟩)
    | (cases h; refine ⟨rfl, ?_⟩; simp only [givenHp, List.filterMap_cons, List.filterMap_nil, Option.map, *]; rfl)
def sDRead : Spec where
  ι := Int × Int × ByteArray × Int
  dec l H := match l with
    | [.p l0 0 0, .v (.int .i64 m), .v (.int .i64 y)] => match H l0 with
      | some (.cells 100 [.v (.string s), .v (.int .i64 b)]) => some ((m, y, s, b), [l0])
      | _ => none
    | _ => none
  args := fun (m, y, s, b) => [.p 0 0 0, .v (.int .i64 m), .v (.int .i64 y)]
  hp := fun (m, y, s, b) => [(0, .cells 100 [.v (.string s), .v (.int .i64 b)])]
  pre := fun (m, y, s, b) => [⟨m ≤ 12, inferInstance⟩, ⟨1 ≤ y, inferInstance⟩, ⟨y ≤ 256, inferInstance⟩, ⟨s.size ≤ 9223372036854775807, inferInstance⟩]
  out := fun (m, y, s, b) => .ite ⟨(rdA (s, b) m y).2.2 = 0, inferInstance⟩ (.leaf (.tu [.ag [.v (.int .i64 (logR (s, b))), .dat (.ints .i64 (rdA (s, b) m y).2.1)], .v .nilIface]) [(0, rC (rdA (s, b) m y).1)]) (.leaf (.tu [.ag [.v (.int .i64 0), .dat (.ints .i64 [])], errB (rdA (s, b) m y).2.2]) [(0, .cells 100 [.any, .any])])
theorem sDRead_enc : ∀ l H n i ls, sDRead.dec l H = some (i, ls) → l = renL (rho ls n) (sDRead.args i) ∧ givenHp H ls = renH (rho ls n) (sDRead.hp i) := by
  intro l H n i ls h
  simp only [sDRead] at h
  repeat' split at h
  all_goals first
    | (cases h; done)
    | (cases h; exact ⟨rfl, rfl⟩)
    | (cases h; refine ⟨rfl, ?_⟩; simp only [givenHp, List.filterMap_cons, List.filterMap_nil, Option.map, *]; rfl)
def sRTake : Spec where
  ι := Int × ByteArray × Int
  dec l H := match l with
    | [.p l0 0 0, .v (.int .i64 n)] => match H l0 with
      | some (.cells 110 [.v (.string s), .v (.int .i64 b), .v (.int .i64 0)]) => some ((n, s, b), [l0])
      | _ => none
    | _ => none
  args := fun (n, s, b) => [.p 0 0 0, .v (.int .i64 n)]
  hp := fun (n, s, b) => [(0, .cells 110 [.v (.string s), .v (.int .i64 b), .v (.int .i64 0)])]
  pre := fun (n, s, b) => [⟨s.size ≤ 9223372036854775807, inferInstance⟩]
  out := fun (n, s, b) => .ite ⟨(takeT (s, b) n).2.2 = 0, inferInstance⟩ (.leaf (.v (.int .i64 (takeT (s, b) n).2.1)) [(0, xC (takeT (s, b) n).1 0)]) (.leaf (.v (.int .i64 0)) [(0, xC (s, b) 23)])
theorem sRTake_enc : ∀ l H n i ls, sRTake.dec l H = some (i, ls) → l = renL (rho ls n) (sRTake.args i) ∧ givenHp H ls = renH (rho ls n) (sRTake.hp i) := by
  intro l H n i ls h
  simp only [sRTake] at h
  repeat' split at h
  all_goals first
    | (cases h; done)
    | (cases h; exact ⟨rfl, rfl⟩)
    | (cases h; refine ⟨rfl, ?_⟩; simp only [givenHp, List.filterMap_cons, List.filterMap_nil, Option.map, *]; rfl)
def sRVal : Spec where
  ι := Int × ByteArray × Int
  dec l H := match l with
    | [.p l0 0 0, .v (.int .i64 g)] => match H l0 with
      | some (.cells 110 [.v (.string s), .v (.int .i64 b), .v (.int .i64 0)]) => some ((g, s, b), [l0])
      | _ => none
    | _ => none
  args := fun (g, s, b) => [.p 0 0 0, .v (.int .i64 g)]
  hp := fun (g, s, b) => [(0, .cells 110 [.v (.string s), .v (.int .i64 b), .v (.int .i64 0)])]
  pre := fun (g, s, b) => [⟨s.size ≤ 9223372036854775807, inferInstance⟩, ⟨0 ≤ g, inferInstance⟩, ⟨g ≤ 4096, inferInstance⟩, ⟨0 ≤ b, inferInstance⟩, ⟨b ≤ 9000000, inferInstance⟩]
  out := fun (g, s, b) => .ite ⟨(valR (s, b) g).2.2 = 0, inferInstance⟩ (.leaf (.v (.int .i64 (valR (s, b) g).2.1)) [(0, xC (valR (s, b) g).1 0)]) (.leaf (.v (.int .i64 0)) [(0, xC (s, b) 23)])
theorem sRVal_enc : ∀ l H n i ls, sRVal.dec l H = some (i, ls) → l = renL (rho ls n) (sRVal.args i) ∧ givenHp H ls = renH (rho ls n) (sRVal.hp i) := by
  intro l H n i ls h
  simp only [sRVal] at h
  repeat' split at h
  all_goals first
    | (cases h; done)
    | (cases h; exact ⟨rfl, rfl⟩)
    | (cases h; refine ⟨rfl, ?_⟩; simp only [givenHp, List.filterMap_cons, List.filterMap_nil, Option.map, *]; rfl)
def oD1 (y : Int) (log : Int) (fin : R2 × List Int × Int) : LoopInv := { ι := Nat × R2 × Int × List Int, p := fun x => rdR y x.1 x.2.1 x.2.2.1 x.2.2.2 = fin ∧ y + 1 ≤ x.1 + x.2.2.2.length ∧ x.2.2.2.length ≤ y ∧ 0 ≤ x.2.2.1 ∧ x.2.2.1 ≤ 4096 ∧ x.2.1.1.size ≤ 9223372036854775807, tm := fun x => [(0, .p 0 0 0), (2, .v (.int .i64 y)), (6, .p 1002 0 0), (10, .p 1000 0 0), (11, .v (.int .i64 x.2.2.1))], hp := fun x => [(0, rC x.2.1), (1000, .cells 24 [.v (.int .i64 log), .o 1003]), (1003, .row 3 (.ints .i64 x.2.2.2)), (1002, .cells 24 [.any, .any])], μ := fun x => x.1 }
def oD2 (y : Int) (log : Int) (fin : R2 × List Int × Int) (g : Nat × Int) : LoopInv := { ι := Int × Nat × R2 × List Int, p := fun x => contZ y g.1 g.2 (cond (x.1 == 3) (flR y x.2.1 x.2.2.1 x.2.2.2) (x.2.2.1, x.2.2.2, 0)) = fin ∧ (x.1 = 3 → y + 1 ≤ x.2.1 + x.2.2.2.length) ∧ y + 1 ≤ g.1 + x.2.2.2.length ∧ x.2.2.2.length ≤ y ∧ x.2.2.1.1.size ≤ 9223372036854775807, tm := fun x => [(0, .p 0 0 0), (2, .v (.int .i64 y)), (6, .p 1002 0 0), (10, .p 1000 0 0), (11, .v (.int .i64 g.2)), (18, .v (.int .i64 x.1))], hp := fun x => [(0, rC x.2.2.1), (1000, .cells 24 [.v (.int .i64 log), .o 1003]), (1003, .row 3 (.ints .i64 x.2.2.2)), (1002, .cells 24 [.any, .any])], μ := fun x => cond (x.1 == 3) (x.2.1 + 1) 0 }
def oD20 (y : Int) (log : Int) (fin : R2 × List Int × Int) (g : Nat × R2 × Int × List Int) : LoopInv := { ι := R2 × Int, p := fun x => valR g.2.1 g.2.2.1 = (x.1, x.2, 0) ∧ rdR y g.1 g.2.1 g.2.2.1 g.2.2.2 = fin ∧ 0 < g.2.2.1 ∧ g.2.2.1 ≤ 4096 ∧ x.1.1.size ≤ 9223372036854775807, tm := fun x => [(0, .p 0 0 0), (2, .v (.int .i64 y)), (6, .p 1002 0 0), (10, .p 1000 0 0), (11, .v (.int .i64 g.2.2.1)), (14, .v (.int .i64 x.2))], hp := fun x => [(0, rC x.1), (1000, .cells 24 [.v (.int .i64 log), .o 1003]), (1003, .row 3 (.ints .i64 g.2.2.2)), (1002, .cells 24 [.any, .any])], μ := fun _ => 0 }
def oDRead (m y : Int) (r : R2) : Nat → Option LoopFam := omg [(0, .one (oD1 y (logR r) (rdA r m y))), (1, .fam (Nat × Int) (oD2 y (logR r) (rdA r m y))), (1020, .fam (Nat × R2 × Int × List Int) (oD20 y (logR r) (rdA r m y)))]
def G8k : List (Nat × Ctr) := (102, sDTake.ctr) :: (77, sRTake.ctr) :: G8i
def G8l : List (Nat × Ctr) := (74, sDRead.ctr) :: (107, sRVal.ctr) :: G8k
end Go.Proofs.YtcoogfifjibkhaaGreat
namespace Go.Proofs.YtcoogfifjibkhaaGreat
open Go Go.RowKit
set_option linter.unusedVariables false
set_option linter.unusedSimpArgs false
set_option maxRecDepth 100000
def sIs0 : Spec where
  ι := Int
  dec l H := match l with
    | [.v .nilIface, .ifc 31 (.v (.int .i64 k))] => some (k, [])
    | _ => none
  args := fun k => [.v .nilIface, .ifc 31 (.v (.int .i64 k))]
  out := fun k => .leaf (.v (.bool false)) []
theorem sIs0_enc : ∀ l H n i ls, sIs0.dec l H = some (i, ls) → l = renL (rho ls n) (sIs0.args i) ∧ givenHp H ls = renH (rho ls n) (sIs0.hp i) := by
  intro l H n i ls h
  simp only [sIs0] at h
  repeat' split at h
  all_goals first
    | (cases h; done)
    | (cases h; exact ⟨rfl, rfl⟩)
def sIs1 : Spec where
  ι := Int × Int
  dec l H := match l with
    | [.ifc 131 (.ag [.ifc 31 (.v (.int .i64 e))]), .ifc 31 (.v (.int .i64 k))] => some ((e, k), [])
    | _ => none
  args := fun (e, k) => [.ifc 131 (.ag [.ifc 31 (.v (.int .i64 e))]), .ifc 31 (.v (.int .i64 k))]
  out := fun (e, k) => .leaf (.v (.bool (e == k))) []
theorem sIs1_enc : ∀ l H n i ls, sIs1.dec l H = some (i, ls) → l = renL (rho ls n) (sIs1.args i) ∧ givenHp H ls = renH (rho ls n) (sIs1.hp i) := by
  intro l H n i ls h
  simp only [sIs1] at h
  repeat' split at h
  all_goals first
    | (cases h; done)
    | (cases h; exact ⟨rfl, rfl⟩)
def sRProbs : Spec where
  ι := Int × Int × ByteArray × Int
  dec l H := match l with
    | [.p l0 0 0, .v (.int .i64 g), .v (.int .i64 y)] => match H l0 with
      | some (.cells 110 [.v (.string s), .v (.int .i64 b), .v (.int .i64 0)]) => some ((g, y, s, b), [l0])
      | _ => none
    | _ => none
  args := fun (g, y, s, b) => [.p 0 0 0, .v (.int .i64 g), .v (.int .i64 y)]
  hp := fun (g, y, s, b) => [(0, .cells 110 [.v (.string s), .v (.int .i64 b), .v (.int .i64 0)])]
  pre := fun (g, y, s, b) => [⟨s.size ≤ 9223372036854775807, inferInstance⟩, ⟨0 ≤ g, inferInstance⟩, ⟨g ≤ 4096, inferInstance⟩, ⟨1 ≤ y, inferInstance⟩, ⟨y ≤ 256, inferInstance⟩, ⟨0 ≤ b, inferInstance⟩, ⟨b ≤ 8388608, inferInstance⟩]
  out := fun (g, y, s, b) => .ite ⟨(rdR y (y.toNat + 1) (s, b) g []).2.2 = 0, inferInstance⟩ (.leaf (.dat (.ints .i64 (rdR y (y.toNat + 1) (s, b) g []).2.1)) [(0, xC (rdR y (y.toNat + 1) (s, b) g []).1 0)]) (.leaf (.dat (.ints .i64 [])) [(0, .cells 110 [.any, .any, .v (.int .i64 23)])])
theorem sRProbs_enc : ∀ l H n i ls, sRProbs.dec l H = some (i, ls) → l = renL (rho ls n) (sRProbs.args i) ∧ givenHp H ls = renH (rho ls n) (sRProbs.hp i) := by
  intro l H n i ls h
  simp only [sRProbs] at h
  repeat' split at h
  all_goals first
    | (cases h; done)
    | (cases h; exact ⟨rfl, rfl⟩)
    | (cases h; refine ⟨rfl, ?_⟩; simp only [givenHp, List.filterMap_cons, List.filterMap_nil, Option.map, *]; rfl)
def sReadP : Spec where
  ι := ByteArray × Int × Int × Int
  dec l H := match l with
    | [.v (.string s), .v (.int .i64 a), .v (.int .i64 m), .v (.int .i64 y)] => some ((s, a, m, y), [])
    | _ => none
  args := fun (s, a, m, y) => [.v (.string s), .v (.int .i64 a), .v (.int .i64 m), .v (.int .i64 y)]
  pre := fun (s, a, m, y) => [⟨s.size ≤ 1000000, inferInstance⟩]
  out := fun (s, a, m, y) => .leaf (.tu [.ag [.v (.int .i64 (readF 2000 s a m y).1.1), .dat (.ints .i64 (readF 2000 s a m y).1.2)], .v (.int .i64 (readF 2000 s a m y).2.1), .ag [.v (.int .i64 (readF 2000 s a m y).2.2.1), .v (.int .i64 (readF 2000 s a m y).2.2.2)]]) []
theorem sReadP_enc : ∀ l H n i ls, sReadP.dec l H = some (i, ls) → l = renL (rho ls n) (sReadP.args i) ∧ givenHp H ls = renH (rho ls n) (sReadP.hp i) := by
  intro l H n i ls h
  simp only [sReadP] at h
  repeat' split at h
  all_goals first
    | (cases h; done)
    | (cases h; exact ⟨rfl, rfl⟩)
def sReadR : Spec where
  ι := ByteArray × Int × Int × Int
  dec l H := match l with
    | [.v (.string s), .v (.int .i64 a), .v (.int .i64 m), .v (.int .i64 y)] => some ((s, a, m, y), [])
    | _ => none
  args := fun (s, a, m, y) => [.v (.string s), .v (.int .i64 a), .v (.int .i64 m), .v (.int .i64 y)]
  pre := fun (s, a, m, y) => [⟨s.size ≤ 1000000, inferInstance⟩]
  out := fun (s, a, m, y) => .leaf (.tu [.ag [.v (.int .i64 (readF 600 s a m y).1.1), .dat (.ints .i64 (readF 600 s a m y).1.2)], .v (.int .i64 (readF 600 s a m y).2.1), .ag [.v (.int .i64 (readF 600 s a m y).2.2.1), .v (.int .i64 (readF 600 s a m y).2.2.2)]]) []
theorem sReadR_enc : ∀ l H n i ls, sReadR.dec l H = some (i, ls) → l = renL (rho ls n) (sReadR.args i) ∧ givenHp H ls = renH (rho ls n) (sReadR.hp i) := by
  intro l H n i ls h
  simp only [sReadR] at h
  repeat' split at h
  all_goals first
    | (cases h; done)
    | (cases h; exact ⟨rfl, rfl⟩)
def oP1 (y : Int) (fin : R2 × List Int × Int) : LoopInv := { ι := Nat × R2 × Int × List Int, p := fun x => rdR y x.1 x.2.1 x.2.2.1 x.2.2.2 = fin ∧ y + 1 ≤ x.1 + x.2.2.2.length ∧ x.2.2.2.length ≤ y ∧ 0 ≤ x.2.2.1 ∧ x.2.2.1 ≤ 4096 ∧ x.2.1.1.size ≤ 9223372036854775807 ∧ 0 ≤ x.2.1.2 ∧ x.2.1.2 ≤ 8388608, tm := fun x => [(0, .p 0 0 0), (1, .v (.int .i64 x.2.2.1)), (2, .v (.int .i64 y)), (7, .o 1003)], hp := fun x => [(0, xC x.2.1 0), (1003, .row 3 (.ints .i64 x.2.2.2))], μ := fun x => x.1 }
def oP2 (y : Int) (fin : R2 × List Int × Int) (g : Nat × Int) : LoopInv := { ι := Bool × Nat × R2 × List Int, p := fun x => contZ y g.1 g.2 (cond x.1 (flR y x.2.1 x.2.2.1 x.2.2.2) (x.2.2.1, x.2.2.2, 0)) = fin ∧ (x.1 = true → y + 1 ≤ x.2.1 + x.2.2.2.length) ∧ y + 1 ≤ g.1 + x.2.2.2.length ∧ x.2.2.2.length ≤ y ∧ x.2.2.1.1.size ≤ 9223372036854775807 ∧ 0 ≤ x.2.2.1.2 ∧ x.2.2.1.2 ≤ 8388608, tm := fun x => [(0, .p 0 0 0), (1, .v (.int .i64 g.2)), (2, .v (.int .i64 y)), (7, .o 1003), (9, .v (.bool x.1))], hp := fun x => [(0, xC x.2.2.1 0), (1003, .row 3 (.ints .i64 x.2.2.2))], μ := fun x => cond x.1 (x.2.1 + 1) 0 }
def oRProbs (y : Int) (fin : R2 × List Int × Int) : Nat → Option LoopFam := omg [(0, .one (oP1 y fin)), (1, .fam (Nat × Int) (oP2 y fin))]
def G8m : List (Nat × Ctr) := (75, orC sIs0 sIs1) :: (78, sRProbs.ctr) :: G8l
def G8n : List (Nat × Ctr) := (46, sReadP.ctr) :: (48, sReadR.ctr) :: G8m
end Go.Proofs.YtcoogfifjibkhaaGreat
namespace Go.Proofs.YtcoogfifjibkhaaGreat
open Go Go.RowKit
set_option linter.unusedVariables false
set_option maxRecDepth 100000
def rprobs_t (g y : Int) (s : ByteArray) (b : Int) : Prop :=
 (∃ (x0 : Nat × R2 × Int × List Int),
 (rdR y x0.fst x0.snd.fst x0.snd.snd.fst x0.snd.snd.snd = rdR y (Int.toNat y + (1 : Nat)) (s, b) g [] ∧
 y + (1 : Int) ≤ (↑x0.fst : Int) + (↑(List.length x0.snd.snd.snd) : Int) ∧
 (↑(List.length x0.snd.snd.snd) : Int) ≤ y ∧
 (0 : Int) ≤ x0.snd.snd.fst ∧ x0.snd.snd.fst ≤ (4096 : Int) ∧ ByteArray.size x0.snd.fst.fst ≤ (9223372036854775807 : Nat) ∧ (0 : Int) ≤ x0.snd.fst.snd ∧ x0.snd.fst.snd ≤ (8388608 : Int)) ∧
 g = x0.snd.snd.fst ∧ y = y ∧ s = x0.snd.fst.fst ∧ b = x0.snd.fst.snd ∧ (0 : Int) = (0 : Int) ∧ List.length x0.snd.snd.snd = (0 : Nat)) ∧
 ∀ (x1 : Nat × R2 × Int × List Int),
 rdR y x1.fst x1.snd.fst x1.snd.snd.fst x1.snd.snd.snd = rdR y (Int.toNat y + (1 : Nat)) (s, b) g [] ∧
 y + (1 : Int) ≤ (↑x1.fst : Int) + (↑(List.length x1.snd.snd.snd) : Int) ∧
 (↑(List.length x1.snd.snd.snd) : Int) ≤ y ∧
 (0 : Int) ≤ x1.snd.snd.fst ∧ x1.snd.snd.fst ≤ (4096 : Int) ∧ ByteArray.size x1.snd.fst.fst ≤ (9223372036854775807 : Nat) ∧ (0 : Int) ≤ x1.snd.fst.snd ∧ x1.snd.fst.snd ≤ (8388608 : Int) →
 (decide (x1.snd.snd.fst > (0 : Int)) = true →
 (((0 : Int) == (0 : Int)) = true →
 ((valR (x1.snd.fst.fst, x1.snd.fst.snd) x1.snd.snd.fst).snd.snd = (0 : Int) →
 ByteArray.size x1.snd.fst.fst ≤ (9223372036854775807 : Nat) ∧
 (0 : Int) ≤ x1.snd.snd.fst ∧
 x1.snd.snd.fst ≤ (4096 : Int) ∧
 (0 : Int) ≤ x1.snd.fst.snd ∧
 x1.snd.fst.snd ≤ (9000000 : Int) ∧
 (((0 : Int) != (0 : Int)) = true →
 ((rdR y (Int.toNat y + (1 : Nat)) (s, b) g []).snd.snd = (0 : Int) →
 List.length (rdR y (Int.toNat y + (1 : Nat)) (s, b) g []).snd.fst = (0 : Nat) ∧
 (valR (x1.snd.fst.fst, x1.snd.fst.snd) x1.snd.snd.fst).fst.fst = (rdR y (Int.toNat y + (1 : Nat)) (s, b) g []).fst.fst ∧
 (valR (x1.snd.fst.fst, x1.snd.fst.snd) x1.snd.snd.fst).fst.snd = (rdR y (Int.toNat y + (1 : Nat)) (s, b) g []).fst.snd ∧ (0 : Int) = (0 : Int)) ∧
 (¬(rdR y (Int.toNat y + (1 : Nat)) (s, b) g []).snd.snd = (0 : Int) → (0 : Nat) = (0 : Nat) ∧ (0 : Int) = (23 : Int))) ∧
 (((0 : Int) != (0 : Int)) = false →
 (((↑(List.length x1.snd.snd.snd) : Int) == y) = true →
 ((rdR y (Int.toNat y + (1 : Nat)) (s, b) g []).snd.snd = (0 : Int) →
 List.length (rdR y (Int.toNat y + (1 : Nat)) (s, b) g []).snd.fst = (0 : Nat) ∧
 (valR (x1.snd.fst.fst, x1.snd.fst.snd) x1.snd.snd.fst).fst.fst = (rdR y (Int.toNat y + (1 : Nat)) (s, b) g []).fst.fst ∧
 (valR (x1.snd.fst.fst, x1.snd.fst.snd) x1.snd.snd.fst).fst.snd = (rdR y (Int.toNat y + (1 : Nat)) (s, b) g []).fst.snd ∧ (23 : Int) = (0 : Int)) ∧
 (¬(rdR y (Int.toNat y + (1 : Nat)) (s, b) g []).snd.snd = (0 : Int) → (0 : Nat) = (0 : Nat) ∧ (23 : Int) = (23 : Int))) ∧
 (((↑(List.length x1.snd.snd.snd) : Int) == y) = false →
 (List.length x1.snd.snd.snd + (1 : Nat)) * (8 : Nat) ≤ (140737488355328 : Nat) ∧
 List.length [IntKind.wrap IntKind.i64 ((valR (x1.snd.fst.fst, x1.snd.fst.snd) x1.snd.snd.fst).snd.fst - (1 : Int))] ≤ (65536 : Nat) ∧
 (List.all [IntKind.wrap IntKind.i64 ((valR (x1.snd.fst.fst, x1.snd.fst.snd) x1.snd.snd.fst).snd.fst - (1 : Int))] fun (x : Int) => decide (x ≤ (65536 : Int))) =
 true ∧
 ∃ (g2 : Nat × Int),
 (∃ (x3 : Bool × Nat × R2 × List Int),
 (contZ y g2.fst g2.snd (bif x3.fst then flR y x3.snd.fst x3.snd.snd.fst x3.snd.snd.snd else (x3.snd.snd.fst, x3.snd.snd.snd, (0 : Int))) =
 rdR y (Int.toNat y + (1 : Nat)) (s, b) g [] ∧
 (x3.fst = true → y + (1 : Int) ≤ (↑x3.snd.fst : Int) + (↑(List.length x3.snd.snd.snd) : Int)) ∧
 y + (1 : Int) ≤ (↑g2.fst : Int) + (↑(List.length x3.snd.snd.snd) : Int) ∧
 (↑(List.length x3.snd.snd.snd) : Int) ≤ y ∧
 ByteArray.size x3.snd.snd.fst.fst ≤ (9223372036854775807 : Nat) ∧ (0 : Int) ≤ x3.snd.snd.fst.snd ∧ x3.snd.snd.fst.snd ≤ (8388608 : Int)) ∧
 IntKind.wrap IntKind.i64
 (x1.snd.snd.fst - pts [IntKind.wrap IntKind.i64 ((valR (x1.snd.fst.fst, x1.snd.fst.snd) x1.snd.snd.fst).snd.fst - (1 : Int))]) =
 g2.snd ∧
 y = y ∧
 (IntKind.wrap IntKind.i64 ((valR (x1.snd.fst.fst, x1.snd.fst.snd) x1.snd.snd.fst).snd.fst - (1 : Int)) == (0 : Int)) = x3.fst ∧
 (valR (x1.snd.fst.fst, x1.snd.fst.snd) x1.snd.snd.fst).fst.fst = x3.snd.snd.fst.fst ∧
 (valR (x1.snd.fst.fst, x1.snd.fst.snd) x1.snd.snd.fst).fst.snd = x3.snd.snd.fst.snd ∧
 (0 : Int) = (0 : Int) ∧
 x1.snd.snd.snd ++ [IntKind.wrap IntKind.i64 ((valR (x1.snd.fst.fst, x1.snd.fst.snd) x1.snd.snd.fst).snd.fst - (1 : Int))] =
 x3.snd.snd.snd) ∧
 ∀ (x4 : Bool × Nat × R2 × List Int),
 contZ y g2.fst g2.snd (bif x4.fst then flR y x4.snd.fst x4.snd.snd.fst x4.snd.snd.snd else (x4.snd.snd.fst, x4.snd.snd.snd, (0 : Int))) =
 rdR y (Int.toNat y + (1 : Nat)) (s, b) g [] ∧
 (x4.fst = true → y + (1 : Int) ≤ (↑x4.snd.fst : Int) + (↑(List.length x4.snd.snd.snd) : Int)) ∧
 y + (1 : Int) ≤ (↑g2.fst : Int) + (↑(List.length x4.snd.snd.snd) : Int) ∧
 (↑(List.length x4.snd.snd.snd) : Int) ≤ y ∧
 ByteArray.size x4.snd.snd.fst.fst ≤ (9223372036854775807 : Nat) ∧ (0 : Int) ≤ x4.snd.snd.fst.snd ∧ x4.snd.snd.fst.snd ≤ (8388608 : Int) →
 (x4.fst = true →
 ((takeT (x4.snd.snd.fst.fst, x4.snd.snd.fst.snd) (2 : Int)).snd.snd = (0 : Int) →
 ByteArray.size x4.snd.snd.fst.fst ≤ (9223372036854775807 : Nat) ∧
 (((0 : Int) == (0 : Int)) = true →
 (decide
 (IntKind.wrap IntKind.i64
 ((↑(List.length x4.snd.snd.snd) : Int) + (takeT (x4.snd.snd.fst.fst, x4.snd.snd.fst.snd) (2 : Int)).snd.fst) >
 y) =
 true →
 (((23 : Int) != (0 : Int)) = true →
 ((rdR y (Int.toNat y + (1 : Nat)) (s, b) g []).snd.snd = (0 : Int) →
 List.length (rdR y (Int.toNat y + (1 : Nat)) (s, b) g []).snd.fst = (0 : Nat) ∧
 (takeT (x4.snd.snd.fst.fst, x4.snd.snd.fst.snd) (2 : Int)).fst.fst =
 (rdR y (Int.toNat y + (1 : Nat)) (s, b) g []).fst.fst ∧
 (takeT (x4.snd.snd.fst.fst, x4.snd.snd.fst.snd) (2 : Int)).fst.snd =
 (rdR y (Int.toNat y + (1 : Nat)) (s, b) g []).fst.snd ∧
 (23 : Int) = (0 : Int)) ∧
 (¬(rdR y (Int.toNat y + (1 : Nat)) (s, b) g []).snd.snd = (0 : Int) → (0 : Nat) = (0 : Nat) ∧ (23 : Int) = (23 : Int))) ∧
 (((23 : Int) != (0 : Int)) = false →
 List.length x4.snd.snd.snd ≤ (65536 : Nat) ∧
 (takeT (x4.snd.snd.fst.fst, x4.snd.snd.fst.snd) (2 : Int)).snd.fst ≤ (65536 : Int) ∧
 ∃ (y5 : Bool × Nat × R2 × List Int),
 (contZ y g2.fst g2.snd
 (bif y5.fst then flR y y5.snd.fst y5.snd.snd.fst y5.snd.snd.snd
 else (y5.snd.snd.fst, y5.snd.snd.snd, (0 : Int))) =
 rdR y (Int.toNat y + (1 : Nat)) (s, b) g [] ∧
 (y5.fst = true → y + (1 : Int) ≤ (↑y5.snd.fst : Int) + (↑(List.length y5.snd.snd.snd) : Int)) ∧
 y + (1 : Int) ≤ (↑g2.fst : Int) + (↑(List.length y5.snd.snd.snd) : Int) ∧
 (↑(List.length y5.snd.snd.snd) : Int) ≤ y ∧
 ByteArray.size y5.snd.snd.fst.fst ≤ (9223372036854775807 : Nat) ∧
 (0 : Int) ≤ y5.snd.snd.fst.snd ∧ y5.snd.snd.fst.snd ≤ (8388608 : Int)) ∧
 ((match y5.fst with
 | true => y5.snd.fst + (1 : Nat)
 | false => (0 : Nat)) <
 match x4.fst with
 | true => x4.snd.fst + (1 : Nat)
 | false => (0 : Nat)) ∧
 g2.snd = g2.snd ∧
 y = y ∧
 ((takeT (x4.snd.snd.fst.fst, x4.snd.snd.fst.snd) (2 : Int)).snd.fst == (3 : Int)) = y5.fst ∧
 (takeT (x4.snd.snd.fst.fst, x4.snd.snd.fst.snd) (2 : Int)).fst.fst = y5.snd.snd.fst.fst ∧
 (takeT (x4.snd.snd.fst.fst, x4.snd.snd.fst.snd) (2 : Int)).fst.snd = y5.snd.snd.fst.snd ∧
 (23 : Int) = (0 : Int) ∧
 x4.snd.snd.snd ++
 List.replicate (Int.toNat (takeT (x4.snd.snd.fst.fst, x4.snd.snd.fst.snd) (2 : Int)).snd.fst)
 (0 : Int) =
 y5.snd.snd.snd)) ∧
 (decide
 (IntKind.wrap IntKind.i64
 ((↑(List.length x4.snd.snd.snd) : Int) + (takeT (x4.snd.snd.fst.fst, x4.snd.snd.fst.snd) (2 : Int)).snd.fst) >
 y) =
 false →
 (((0 : Int) != (0 : Int)) = true →
 ((rdR y (Int.toNat y + (1 : Nat)) (s, b) g []).snd.snd = (0 : Int) →
 List.length (rdR y (Int.toNat y + (1 : Nat)) (s, b) g []).snd.fst = (0 : Nat) ∧
 (takeT (x4.snd.snd.fst.fst, x4.snd.snd.fst.snd) (2 : Int)).fst.fst =
 (rdR y (Int.toNat y + (1 : Nat)) (s, b) g []).fst.fst ∧
 (takeT (x4.snd.snd.fst.fst, x4.snd.snd.fst.snd) (2 : Int)).fst.snd =
 (rdR y (Int.toNat y + (1 : Nat)) (s, b) g []).fst.snd ∧
 (0 : Int) = (0 : Int)) ∧
 (¬(rdR y (Int.toNat y + (1 : Nat)) (s, b) g []).snd.snd = (0 : Int) → (0 : Nat) = (0 : Nat) ∧ (0 : Int) = (23 : Int))) ∧
 (((0 : Int) != (0 : Int)) = false →
 List.length x4.snd.snd.snd ≤ (65536 : Nat) ∧
 (takeT (x4.snd.snd.fst.fst, x4.snd.snd.fst.snd) (2 : Int)).snd.fst ≤ (65536 : Int) ∧
 ∃ (y6 : Bool × Nat × R2 × List Int),
 (contZ y g2.fst g2.snd
 (bif y6.fst then flR y y6.snd.fst y6.snd.snd.fst y6.snd.snd.snd
 else (y6.snd.snd.fst, y6.snd.snd.snd, (0 : Int))) =
 rdR y (Int.toNat y + (1 : Nat)) (s, b) g [] ∧
 (y6.fst = true → y + (1 : Int) ≤ (↑y6.snd.fst : Int) + (↑(List.length y6.snd.snd.snd) : Int)) ∧
 y + (1 : Int) ≤ (↑g2.fst : Int) + (↑(List.length y6.snd.snd.snd) : Int) ∧
 (↑(List.length y6.snd.snd.snd) : Int) ≤ y ∧
 ByteArray.size y6.snd.snd.fst.fst ≤ (9223372036854775807 : Nat) ∧
 (0 : Int) ≤ y6.snd.snd.fst.snd ∧ y6.snd.snd.fst.snd ≤ (8388608 : Int)) ∧
 ((match y6.fst with
 | true => y6.snd.fst + (1 : Nat)
 | false => (0 : Nat)) <
 match x4.fst with
 | true => x4.snd.fst + (1 : Nat)
 | false => (0 : Nat)) ∧
 g2.snd = g2.snd ∧
 y = y ∧
 ((takeT (x4.snd.snd.fst.fst, x4.snd.snd.fst.snd) (2 : Int)).snd.fst == (3 : Int)) = y6.fst ∧
 (takeT (x4.snd.snd.fst.fst, x4.snd.snd.fst.snd) (2 : Int)).fst.fst = y6.snd.snd.fst.fst ∧
 (takeT (x4.snd.snd.fst.fst, x4.snd.snd.fst.snd) (2 : Int)).fst.snd = y6.snd.snd.fst.snd ∧
 (0 : Int) = (0 : Int) ∧
 x4.snd.snd.snd ++
 List.replicate (Int.toNat (takeT (x4.snd.snd.fst.fst, x4.snd.snd.fst.snd) (2 : Int)).snd.fst)
 (0 : Int) =
 y6.snd.snd.snd))) ∧
 (((0 : Int) == (0 : Int)) = false →
 (((0 : Int) != (0 : Int)) = true →
 ((rdR y (Int.toNat y + (1 : Nat)) (s, b) g []).snd.snd = (0 : Int) →
 List.length (rdR y (Int.toNat y + (1 : Nat)) (s, b) g []).snd.fst = (0 : Nat) ∧
 (takeT (x4.snd.snd.fst.fst, x4.snd.snd.fst.snd) (2 : Int)).fst.fst = (rdR y (Int.toNat y + (1 : Nat)) (s, b) g []).fst.fst ∧
 (takeT (x4.snd.snd.fst.fst, x4.snd.snd.fst.snd) (2 : Int)).fst.snd = (rdR y (Int.toNat y + (1 : Nat)) (s, b) g []).fst.snd ∧
 (0 : Int) = (0 : Int)) ∧
 (¬(rdR y (Int.toNat y + (1 : Nat)) (s, b) g []).snd.snd = (0 : Int) → (0 : Nat) = (0 : Nat) ∧ (0 : Int) = (23 : Int))) ∧
 (((0 : Int) != (0 : Int)) = false →
 List.length x4.snd.snd.snd ≤ (65536 : Nat) ∧
 (takeT (x4.snd.snd.fst.fst, x4.snd.snd.fst.snd) (2 : Int)).snd.fst ≤ (65536 : Int) ∧
 ∃ (y7 : Bool × Nat × R2 × List Int),
 (contZ y g2.fst g2.snd
 (bif y7.fst then flR y y7.snd.fst y7.snd.snd.fst y7.snd.snd.snd else (y7.snd.snd.fst, y7.snd.snd.snd, (0 : Int))) =
 rdR y (Int.toNat y + (1 : Nat)) (s, b) g [] ∧
 (y7.fst = true → y + (1 : Int) ≤ (↑y7.snd.fst : Int) + (↑(List.length y7.snd.snd.snd) : Int)) ∧
 y + (1 : Int) ≤ (↑g2.fst : Int) + (↑(List.length y7.snd.snd.snd) : Int) ∧
 (↑(List.length y7.snd.snd.snd) : Int) ≤ y ∧
 ByteArray.size y7.snd.snd.fst.fst ≤ (9223372036854775807 : Nat) ∧
 (0 : Int) ≤ y7.snd.snd.fst.snd ∧ y7.snd.snd.fst.snd ≤ (8388608 : Int)) ∧
 ((match y7.fst with
 | true => y7.snd.fst + (1 : Nat)
 | false => (0 : Nat)) <
 match x4.fst with
 | true => x4.snd.fst + (1 : Nat)
 | false => (0 : Nat)) ∧
 g2.snd = g2.snd ∧
 y = y ∧
 ((takeT (x4.snd.snd.fst.fst, x4.snd.snd.fst.snd) (2 : Int)).snd.fst == (3 : Int)) = y7.fst ∧
 (takeT (x4.snd.snd.fst.fst, x4.snd.snd.fst.snd) (2 : Int)).fst.fst = y7.snd.snd.fst.fst ∧
 (takeT (x4.snd.snd.fst.fst, x4.snd.snd.fst.snd) (2 : Int)).fst.snd = y7.snd.snd.fst.snd ∧
 (0 : Int) = (0 : Int) ∧
 x4.snd.snd.snd ++
 List.replicate (Int.toNat (takeT (x4.snd.snd.fst.fst, x4.snd.snd.fst.snd) (2 : Int)).snd.fst) (0 : Int) =
 y7.snd.snd.snd))) ∧
 (¬(takeT (x4.snd.snd.fst.fst, x4.snd.snd.fst.snd) (2 : Int)).snd.snd = (0 : Int) →
 ByteArray.size x4.snd.snd.fst.fst ≤ (9223372036854775807 : Nat) ∧
 (((23 : Int) == (0 : Int)) = true →
 (decide (IntKind.wrap IntKind.i64 ((↑(List.length x4.snd.snd.snd) : Int) + (0 : Int)) > y) = true →
 (((23 : Int) != (0 : Int)) = true →
 ((rdR y (Int.toNat y + (1 : Nat)) (s, b) g []).snd.snd = (0 : Int) →
 List.length (rdR y (Int.toNat y + (1 : Nat)) (s, b) g []).snd.fst = (0 : Nat) ∧
 x4.snd.snd.fst.fst = (rdR y (Int.toNat y + (1 : Nat)) (s, b) g []).fst.fst ∧
 x4.snd.snd.fst.snd = (rdR y (Int.toNat y + (1 : Nat)) (s, b) g []).fst.snd ∧ (23 : Int) = (0 : Int)) ∧
 (¬(rdR y (Int.toNat y + (1 : Nat)) (s, b) g []).snd.snd = (0 : Int) → (0 : Nat) = (0 : Nat) ∧ (23 : Int) = (23 : Int))) ∧
 (((23 : Int) != (0 : Int)) = false →
 List.length x4.snd.snd.snd ≤ (65536 : Nat) ∧
 (0 : Int) ≤ (65536 : Int) ∧
 ∃ (y8 : Bool × Nat × R2 × List Int),
 (contZ y g2.fst g2.snd
 (bif y8.fst then flR y y8.snd.fst y8.snd.snd.fst y8.snd.snd.snd
 else (y8.snd.snd.fst, y8.snd.snd.snd, (0 : Int))) =
 rdR y (Int.toNat y + (1 : Nat)) (s, b) g [] ∧
 (y8.fst = true → y + (1 : Int) ≤ (↑y8.snd.fst : Int) + (↑(List.length y8.snd.snd.snd) : Int)) ∧
 y + (1 : Int) ≤ (↑g2.fst : Int) + (↑(List.length y8.snd.snd.snd) : Int) ∧
 (↑(List.length y8.snd.snd.snd) : Int) ≤ y ∧
 ByteArray.size y8.snd.snd.fst.fst ≤ (9223372036854775807 : Nat) ∧
 (0 : Int) ≤ y8.snd.snd.fst.snd ∧ y8.snd.snd.fst.snd ≤ (8388608 : Int)) ∧
 ((match y8.fst with
 | true => y8.snd.fst + (1 : Nat)
 | false => (0 : Nat)) <
 match x4.fst with
 | true => x4.snd.fst + (1 : Nat)
 | false => (0 : Nat)) ∧
 g2.snd = g2.snd ∧
 y = y ∧
 ((0 : Int) == (3 : Int)) = y8.fst ∧
 x4.snd.snd.fst.fst = y8.snd.snd.fst.fst ∧
 x4.snd.snd.fst.snd = y8.snd.snd.fst.snd ∧
 (23 : Int) = (0 : Int) ∧
 x4.snd.snd.snd ++ List.replicate (Int.toNat (0 : Int)) (0 : Int) = y8.snd.snd.snd)) ∧
 (decide (IntKind.wrap IntKind.i64 ((↑(List.length x4.snd.snd.snd) : Int) + (0 : Int)) > y) = false →
 (((23 : Int) != (0 : Int)) = true →
 ((rdR y (Int.toNat y + (1 : Nat)) (s, b) g []).snd.snd = (0 : Int) →
 List.length (rdR y (Int.toNat y + (1 : Nat)) (s, b) g []).snd.fst = (0 : Nat) ∧
 x4.snd.snd.fst.fst = (rdR y (Int.toNat y + (1 : Nat)) (s, b) g []).fst.fst ∧
 x4.snd.snd.fst.snd = (rdR y (Int.toNat y + (1 : Nat)) (s, b) g []).fst.snd ∧ (23 : Int) = (0 : Int)) ∧
 (¬(rdR y (Int.toNat y + (1 : Nat)) (s, b) g []).snd.snd = (0 : Int) → (0 : Nat) = (0 : Nat) ∧ (23 : Int) = (23 : Int))) ∧
 (((23 : Int) != (0 : Int)) = false →
 List.length x4.snd.snd.snd ≤ (65536 : Nat) ∧
 (0 : Int) ≤ (65536 : Int) ∧
 ∃ (y9 : Bool × Nat × R2 × List Int),
 (contZ y g2.fst g2.snd
 (bif y9.fst then flR y y9.snd.fst y9.snd.snd.fst y9.snd.snd.snd
 else (y9.snd.snd.fst, y9.snd.snd.snd, (0 : Int))) =
 rdR y (Int.toNat y + (1 : Nat)) (s, b) g [] ∧
 (y9.fst = true → y + (1 : Int) ≤ (↑y9.snd.fst : Int) + (↑(List.length y9.snd.snd.snd) : Int)) ∧
 y + (1 : Int) ≤ (↑g2.fst : Int) + (↑(List.length y9.snd.snd.snd) : Int) ∧
 (↑(List.length y9.snd.snd.snd) : Int) ≤ y ∧
 ByteArray.size y9.snd.snd.fst.fst ≤ (9223372036854775807 : Nat) ∧
 (0 : Int) ≤ y9.snd.snd.fst.snd ∧ y9.snd.snd.fst.snd ≤ (8388608 : Int)) ∧
 ((match y9.fst with
 | true => y9.snd.fst + (1 : Nat)
 | false => (0 : Nat)) <
 match x4.fst with
 | true => x4.snd.fst + (1 : Nat)
 | false => (0 : Nat)) ∧
 g2.snd = g2.snd ∧
 y = y ∧
 ((0 : Int) == (3 : Int)) = y9.fst ∧
 x4.snd.snd.fst.fst = y9.snd.snd.fst.fst ∧
 x4.snd.snd.fst.snd = y9.snd.snd.fst.snd ∧
 (23 : Int) = (0 : Int) ∧
 x4.snd.snd.snd ++ List.replicate (Int.toNat (0 : Int)) (0 : Int) = y9.snd.snd.snd))) ∧
 (((23 : Int) == (0 : Int)) = false →
 (((23 : Int) != (0 : Int)) = true →
 ((rdR y (Int.toNat y + (1 : Nat)) (s, b) g []).snd.snd = (0 : Int) →
 List.length (rdR y (Int.toNat y + (1 : Nat)) (s, b) g []).snd.fst = (0 : Nat) ∧
 x4.snd.snd.fst.fst = (rdR y (Int.toNat y + (1 : Nat)) (s, b) g []).fst.fst ∧
 x4.snd.snd.fst.snd = (rdR y (Int.toNat y + (1 : Nat)) (s, b) g []).fst.snd ∧ (23 : Int) = (0 : Int)) ∧
 (¬(rdR y (Int.toNat y + (1 : Nat)) (s, b) g []).snd.snd = (0 : Int) → (0 : Nat) = (0 : Nat) ∧ (23 : Int) = (23 : Int))) ∧
 (((23 : Int) != (0 : Int)) = false →
 List.length x4.snd.snd.snd ≤ (65536 : Nat) ∧
 (0 : Int) ≤ (65536 : Int) ∧
 ∃ (y10 : Bool × Nat × R2 × List Int),
 (contZ y g2.fst g2.snd
 (bif y10.fst then flR y y10.snd.fst y10.snd.snd.fst y10.snd.snd.snd
 else (y10.snd.snd.fst, y10.snd.snd.snd, (0 : Int))) =
 rdR y (Int.toNat y + (1 : Nat)) (s, b) g [] ∧
 (y10.fst = true → y + (1 : Int) ≤ (↑y10.snd.fst : Int) + (↑(List.length y10.snd.snd.snd) : Int)) ∧
 y + (1 : Int) ≤ (↑g2.fst : Int) + (↑(List.length y10.snd.snd.snd) : Int) ∧
 (↑(List.length y10.snd.snd.snd) : Int) ≤ y ∧
 ByteArray.size y10.snd.snd.fst.fst ≤ (9223372036854775807 : Nat) ∧
 (0 : Int) ≤ y10.snd.snd.fst.snd ∧ y10.snd.snd.fst.snd ≤ (8388608 : Int)) ∧
 ((match y10.fst with
 | true => y10.snd.fst + (1 : Nat)
 | false => (0 : Nat)) <
 match x4.fst with
 | true => x4.snd.fst + (1 : Nat)
 | false => (0 : Nat)) ∧
 g2.snd = g2.snd ∧
 y = y ∧
 ((0 : Int) == (3 : Int)) = y10.fst ∧
 x4.snd.snd.fst.fst = y10.snd.snd.fst.fst ∧
 x4.snd.snd.fst.snd = y10.snd.snd.fst.snd ∧
 (23 : Int) = (0 : Int) ∧
 x4.snd.snd.snd ++ List.replicate (Int.toNat (0 : Int)) (0 : Int) = y10.snd.snd.snd)))) ∧
 (x4.fst = false →
 ∃ (y11 : Nat × R2 × Int × List Int),
 (rdR y y11.fst y11.snd.fst y11.snd.snd.fst y11.snd.snd.snd = rdR y (Int.toNat y + (1 : Nat)) (s, b) g [] ∧
 y + (1 : Int) ≤ (↑y11.fst : Int) + (↑(List.length y11.snd.snd.snd) : Int) ∧
 (↑(List.length y11.snd.snd.snd) : Int) ≤ y ∧
 (0 : Int) ≤ y11.snd.snd.fst ∧
 y11.snd.snd.fst ≤ (4096 : Int) ∧
 ByteArray.size y11.snd.fst.fst ≤ (9223372036854775807 : Nat) ∧ (0 : Int) ≤ y11.snd.fst.snd ∧ y11.snd.fst.snd ≤ (8388608 : Int)) ∧
 y11.1 < x1.1 ∧
 g2.snd = y11.snd.snd.fst ∧
 y = y ∧
 x4.snd.snd.fst.fst = y11.snd.fst.fst ∧
 x4.snd.snd.fst.snd = y11.snd.fst.snd ∧ (0 : Int) = (0 : Int) ∧ x4.snd.snd.snd = y11.snd.snd.snd)))) ∧
 (¬(valR (x1.snd.fst.fst, x1.snd.fst.snd) x1.snd.snd.fst).snd.snd = (0 : Int) →
 ByteArray.size x1.snd.fst.fst ≤ (9223372036854775807 : Nat) ∧
 (0 : Int) ≤ x1.snd.snd.fst ∧
 x1.snd.snd.fst ≤ (4096 : Int) ∧
 (0 : Int) ≤ x1.snd.fst.snd ∧
 x1.snd.fst.snd ≤ (9000000 : Int) ∧
 (((23 : Int) != (0 : Int)) = true →
 ((rdR y (Int.toNat y + (1 : Nat)) (s, b) g []).snd.snd = (0 : Int) →
 List.length (rdR y (Int.toNat y + (1 : Nat)) (s, b) g []).snd.fst = (0 : Nat) ∧
 x1.snd.fst.fst = (rdR y (Int.toNat y + (1 : Nat)) (s, b) g []).fst.fst ∧
 x1.snd.fst.snd = (rdR y (Int.toNat y + (1 : Nat)) (s, b) g []).fst.snd ∧ (23 : Int) = (0 : Int)) ∧
 (¬(rdR y (Int.toNat y + (1 : Nat)) (s, b) g []).snd.snd = (0 : Int) → (0 : Nat) = (0 : Nat) ∧ (23 : Int) = (23 : Int))) ∧
 (((23 : Int) != (0 : Int)) = false →
 (((↑(List.length x1.snd.snd.snd) : Int) == y) = true →
 ((rdR y (Int.toNat y + (1 : Nat)) (s, b) g []).snd.snd = (0 : Int) →
 List.length (rdR y (Int.toNat y + (1 : Nat)) (s, b) g []).snd.fst = (0 : Nat) ∧
 x1.snd.fst.fst = (rdR y (Int.toNat y + (1 : Nat)) (s, b) g []).fst.fst ∧
 x1.snd.fst.snd = (rdR y (Int.toNat y + (1 : Nat)) (s, b) g []).fst.snd ∧ (23 : Int) = (0 : Int)) ∧
 (¬(rdR y (Int.toNat y + (1 : Nat)) (s, b) g []).snd.snd = (0 : Int) → (0 : Nat) = (0 : Nat) ∧ (23 : Int) = (23 : Int))) ∧
 (((↑(List.length x1.snd.snd.snd) : Int) == y) = false →
 (List.length x1.snd.snd.snd + (1 : Nat)) * (8 : Nat) ≤ (140737488355328 : Nat) ∧
 List.length [IntKind.wrap IntKind.i64 ((0 : Int) - (1 : Int))] ≤ (65536 : Nat) ∧
 (List.all [IntKind.wrap IntKind.i64 ((0 : Int) - (1 : Int))] fun (x : Int) => decide (x ≤ (65536 : Int))) = true ∧
 ∃ (g12 : Nat × Int),
 (∃ (x13 : Bool × Nat × R2 × List Int),
 (contZ y g12.fst g12.snd (bif x13.fst then flR y x13.snd.fst x13.snd.snd.fst x13.snd.snd.snd else (x13.snd.snd.fst, x13.snd.snd.snd, (0 : Int))) =
 rdR y (Int.toNat y + (1 : Nat)) (s, b) g [] ∧
 (x13.fst = true → y + (1 : Int) ≤ (↑x13.snd.fst : Int) + (↑(List.length x13.snd.snd.snd) : Int)) ∧
 y + (1 : Int) ≤ (↑g12.fst : Int) + (↑(List.length x13.snd.snd.snd) : Int) ∧
 (↑(List.length x13.snd.snd.snd) : Int) ≤ y ∧
 ByteArray.size x13.snd.snd.fst.fst ≤ (9223372036854775807 : Nat) ∧ (0 : Int) ≤ x13.snd.snd.fst.snd ∧ x13.snd.snd.fst.snd ≤ (8388608 : Int)) ∧
 IntKind.wrap IntKind.i64 (x1.snd.snd.fst - pts [IntKind.wrap IntKind.i64 ((0 : Int) - (1 : Int))]) = g12.snd ∧
 y = y ∧
 (IntKind.wrap IntKind.i64 ((0 : Int) - (1 : Int)) == (0 : Int)) = x13.fst ∧
 x1.snd.fst.fst = x13.snd.snd.fst.fst ∧
 x1.snd.fst.snd = x13.snd.snd.fst.snd ∧
 (23 : Int) = (0 : Int) ∧ x1.snd.snd.snd ++ [IntKind.wrap IntKind.i64 ((0 : Int) - (1 : Int))] = x13.snd.snd.snd) ∧
 ∀ (x14 : Bool × Nat × R2 × List Int),
 contZ y g12.fst g12.snd (bif x14.fst then flR y x14.snd.fst x14.snd.snd.fst x14.snd.snd.snd else (x14.snd.snd.fst, x14.snd.snd.snd, (0 : Int))) =
 rdR y (Int.toNat y + (1 : Nat)) (s, b) g [] ∧
 (x14.fst = true → y + (1 : Int) ≤ (↑x14.snd.fst : Int) + (↑(List.length x14.snd.snd.snd) : Int)) ∧
 y + (1 : Int) ≤ (↑g12.fst : Int) + (↑(List.length x14.snd.snd.snd) : Int) ∧
 (↑(List.length x14.snd.snd.snd) : Int) ≤ y ∧
 ByteArray.size x14.snd.snd.fst.fst ≤ (9223372036854775807 : Nat) ∧ (0 : Int) ≤ x14.snd.snd.fst.snd ∧ x14.snd.snd.fst.snd ≤ (8388608 : Int) →
 (x14.fst = true →
 ((takeT (x14.snd.snd.fst.fst, x14.snd.snd.fst.snd) (2 : Int)).snd.snd = (0 : Int) →
 ByteArray.size x14.snd.snd.fst.fst ≤ (9223372036854775807 : Nat) ∧
 (((0 : Int) == (0 : Int)) = true →
 (decide
 (IntKind.wrap IntKind.i64
 ((↑(List.length x14.snd.snd.snd) : Int) + (takeT (x14.snd.snd.fst.fst, x14.snd.snd.fst.snd) (2 : Int)).snd.fst) >
 y) =
 true →
 (((23 : Int) != (0 : Int)) = true →
 ((rdR y (Int.toNat y + (1 : Nat)) (s, b) g []).snd.snd = (0 : Int) →
 List.length (rdR y (Int.toNat y + (1 : Nat)) (s, b) g []).snd.fst = (0 : Nat) ∧
 (takeT (x14.snd.snd.fst.fst, x14.snd.snd.fst.snd) (2 : Int)).fst.fst =
 (rdR y (Int.toNat y + (1 : Nat)) (s, b) g []).fst.fst ∧
 (takeT (x14.snd.snd.fst.fst, x14.snd.snd.fst.snd) (2 : Int)).fst.snd =
 (rdR y (Int.toNat y + (1 : Nat)) (s, b) g []).fst.snd ∧
 (23 : Int) = (0 : Int)) ∧
 (¬(rdR y (Int.toNat y + (1 : Nat)) (s, b) g []).snd.snd = (0 : Int) → (0 : Nat) = (0 : Nat) ∧ (23 : Int) = (23 : Int))) ∧
 (((23 : Int) != (0 : Int)) = false →
 List.length x14.snd.snd.snd ≤ (65536 : Nat) ∧
 (takeT (x14.snd.snd.fst.fst, x14.snd.snd.fst.snd) (2 : Int)).snd.fst ≤ (65536 : Int) ∧
 ∃ (y15 : Bool × Nat × R2 × List Int),
 (contZ y g12.fst g12.snd
 (bif y15.fst then flR y y15.snd.fst y15.snd.snd.fst y15.snd.snd.snd
 else (y15.snd.snd.fst, y15.snd.snd.snd, (0 : Int))) =
 rdR y (Int.toNat y + (1 : Nat)) (s, b) g [] ∧
 (y15.fst = true → y + (1 : Int) ≤ (↑y15.snd.fst : Int) + (↑(List.length y15.snd.snd.snd) : Int)) ∧
 y + (1 : Int) ≤ (↑g12.fst : Int) + (↑(List.length y15.snd.snd.snd) : Int) ∧
 (↑(List.length y15.snd.snd.snd) : Int) ≤ y ∧
 ByteArray.size y15.snd.snd.fst.fst ≤ (9223372036854775807 : Nat) ∧
 (0 : Int) ≤ y15.snd.snd.fst.snd ∧ y15.snd.snd.fst.snd ≤ (8388608 : Int)) ∧
 ((match y15.fst with
 | true => y15.snd.fst + (1 : Nat)
 | false => (0 : Nat)) <
 match x14.fst with
 | true => x14.snd.fst + (1 : Nat)
 | false => (0 : Nat)) ∧
 g12.snd = g12.snd ∧
 y = y ∧
 ((takeT (x14.snd.snd.fst.fst, x14.snd.snd.fst.snd) (2 : Int)).snd.fst == (3 : Int)) = y15.fst ∧
 (takeT (x14.snd.snd.fst.fst, x14.snd.snd.fst.snd) (2 : Int)).fst.fst = y15.snd.snd.fst.fst ∧
 (takeT (x14.snd.snd.fst.fst, x14.snd.snd.fst.snd) (2 : Int)).fst.snd = y15.snd.snd.fst.snd ∧
 (23 : Int) = (0 : Int) ∧
 x14.snd.snd.snd ++
 List.replicate (Int.toNat (takeT (x14.snd.snd.fst.fst, x14.snd.snd.fst.snd) (2 : Int)).snd.fst)
 (0 : Int) =
 y15.snd.snd.snd)) ∧
 (decide
 (IntKind.wrap IntKind.i64
 ((↑(List.length x14.snd.snd.snd) : Int) + (takeT (x14.snd.snd.fst.fst, x14.snd.snd.fst.snd) (2 : Int)).snd.fst) >
 y) =
 false →
 (((0 : Int) != (0 : Int)) = true →
 ((rdR y (Int.toNat y + (1 : Nat)) (s, b) g []).snd.snd = (0 : Int) →
 List.length (rdR y (Int.toNat y + (1 : Nat)) (s, b) g []).snd.fst = (0 : Nat) ∧
 (takeT (x14.snd.snd.fst.fst, x14.snd.snd.fst.snd) (2 : Int)).fst.fst =
 (rdR y (Int.toNat y + (1 : Nat)) (s, b) g []).fst.fst ∧
 (takeT (x14.snd.snd.fst.fst, x14.snd.snd.fst.snd) (2 : Int)).fst.snd =
 (rdR y (Int.toNat y + (1 : Nat)) (s, b) g []).fst.snd ∧
 (0 : Int) = (0 : Int)) ∧
 (¬(rdR y (Int.toNat y + (1 : Nat)) (s, b) g []).snd.snd = (0 : Int) → (0 : Nat) = (0 : Nat) ∧ (0 : Int) = (23 : Int))) ∧
 (((0 : Int) != (0 : Int)) = false →
 List.length x14.snd.snd.snd ≤ (65536 : Nat) ∧
 (takeT (x14.snd.snd.fst.fst, x14.snd.snd.fst.snd) (2 : Int)).snd.fst ≤ (65536 : Int) ∧
 ∃ (y16 : Bool × Nat × R2 × List Int),
 (contZ y g12.fst g12.snd
 (bif y16.fst then flR y y16.snd.fst y16.snd.snd.fst y16.snd.snd.snd
 else (y16.snd.snd.fst, y16.snd.snd.snd, (0 : Int))) =
 rdR y (Int.toNat y + (1 : Nat)) (s, b) g [] ∧
 (y16.fst = true → y + (1 : Int) ≤ (↑y16.snd.fst : Int) + (↑(List.length y16.snd.snd.snd) : Int)) ∧
 y + (1 : Int) ≤ (↑g12.fst : Int) + (↑(List.length y16.snd.snd.snd) : Int) ∧
 (↑(List.length y16.snd.snd.snd) : Int) ≤ y ∧
 ByteArray.size y16.snd.snd.fst.fst ≤ (9223372036854775807 : Nat) ∧
 (0 : Int) ≤ y16.snd.snd.fst.snd ∧ y16.snd.snd.fst.snd ≤ (8388608 : Int)) ∧
 ((match y16.fst with
 | true => y16.snd.fst + (1 : Nat)
 | false => (0 : Nat)) <
 match x14.fst with
 | true => x14.snd.fst + (1 : Nat)
 | false => (0 : Nat)) ∧
 g12.snd = g12.snd ∧
 y = y ∧
 ((takeT (x14.snd.snd.fst.fst, x14.snd.snd.fst.snd) (2 : Int)).snd.fst == (3 : Int)) = y16.fst ∧
 (takeT (x14.snd.snd.fst.fst, x14.snd.snd.fst.snd) (2 : Int)).fst.fst = y16.snd.snd.fst.fst ∧
 (takeT (x14.snd.snd.fst.fst, x14.snd.snd.fst.snd) (2 : Int)).fst.snd = y16.snd.snd.fst.snd ∧
 (0 : Int) = (0 : Int) ∧
 x14.snd.snd.snd ++
 List.replicate (Int.toNat (takeT (x14.snd.snd.fst.fst, x14.snd.snd.fst.snd) (2 : Int)).snd.fst)
 (0 : Int) =
 y16.snd.snd.snd))) ∧
 (((0 : Int) == (0 : Int)) = false →
 (((0 : Int) != (0 : Int)) = true →
 ((rdR y (Int.toNat y + (1 : Nat)) (s, b) g []).snd.snd = (0 : Int) →
 List.length (rdR y (Int.toNat y + (1 : Nat)) (s, b) g []).snd.fst = (0 : Nat) ∧
 (takeT (x14.snd.snd.fst.fst, x14.snd.snd.fst.snd) (2 : Int)).fst.fst = (rdR y (Int.toNat y + (1 : Nat)) (s, b) g []).fst.fst ∧
 (takeT (x14.snd.snd.fst.fst, x14.snd.snd.fst.snd) (2 : Int)).fst.snd =
 (rdR y (Int.toNat y + (1 : Nat)) (s, b) g []).fst.snd ∧
 (0 : Int) = (0 : Int)) ∧
 (¬(rdR y (Int.toNat y + (1 : Nat)) (s, b) g []).snd.snd = (0 : Int) → (0 : Nat) = (0 : Nat) ∧ (0 : Int) = (23 : Int))) ∧
 (((0 : Int) != (0 : Int)) = false →
 List.length x14.snd.snd.snd ≤ (65536 : Nat) ∧
 (takeT (x14.snd.snd.fst.fst, x14.snd.snd.fst.snd) (2 : Int)).snd.fst ≤ (65536 : Int) ∧
 ∃ (y17 : Bool × Nat × R2 × List Int),
 (contZ y g12.fst g12.snd
 (bif y17.fst then flR y y17.snd.fst y17.snd.snd.fst y17.snd.snd.snd
 else (y17.snd.snd.fst, y17.snd.snd.snd, (0 : Int))) =
 rdR y (Int.toNat y + (1 : Nat)) (s, b) g [] ∧
 (y17.fst = true → y + (1 : Int) ≤ (↑y17.snd.fst : Int) + (↑(List.length y17.snd.snd.snd) : Int)) ∧
 y + (1 : Int) ≤ (↑g12.fst : Int) + (↑(List.length y17.snd.snd.snd) : Int) ∧
 (↑(List.length y17.snd.snd.snd) : Int) ≤ y ∧
 ByteArray.size y17.snd.snd.fst.fst ≤ (9223372036854775807 : Nat) ∧
 (0 : Int) ≤ y17.snd.snd.fst.snd ∧ y17.snd.snd.fst.snd ≤ (8388608 : Int)) ∧
 ((match y17.fst with
 | true => y17.snd.fst + (1 : Nat)
 | false => (0 : Nat)) <
 match x14.fst with
 | true => x14.snd.fst + (1 : Nat)
 | false => (0 : Nat)) ∧
 g12.snd = g12.snd ∧
 y = y ∧
 ((takeT (x14.snd.snd.fst.fst, x14.snd.snd.fst.snd) (2 : Int)).snd.fst == (3 : Int)) = y17.fst ∧
 (takeT (x14.snd.snd.fst.fst, x14.snd.snd.fst.snd) (2 : Int)).fst.fst = y17.snd.snd.fst.fst ∧
 (takeT (x14.snd.snd.fst.fst, x14.snd.snd.fst.snd) (2 : Int)).fst.snd = y17.snd.snd.fst.snd ∧
 (0 : Int) = (0 : Int) ∧
 x14.snd.snd.snd ++
 List.replicate (Int.toNat (takeT (x14.snd.snd.fst.fst, x14.snd.snd.fst.snd) (2 : Int)).snd.fst)
 (0 : Int) =
 y17.snd.snd.snd))) ∧
 (¬(takeT (x14.snd.snd.fst.fst, x14.snd.snd.fst.snd) (2 : Int)).snd.snd = (0 : Int) →
 ByteArray.size x14.snd.snd.fst.fst ≤ (9223372036854775807 : Nat) ∧
 (((23 : Int) == (0 : Int)) = true →
 (decide (IntKind.wrap IntKind.i64 ((↑(List.length x14.snd.snd.snd) : Int) + (0 : Int)) > y) = true →
 (((23 : Int) != (0 : Int)) = true →
 ((rdR y (Int.toNat y + (1 : Nat)) (s, b) g []).snd.snd = (0 : Int) →
 List.length (rdR y (Int.toNat y + (1 : Nat)) (s, b) g []).snd.fst = (0 : Nat) ∧
 x14.snd.snd.fst.fst = (rdR y (Int.toNat y + (1 : Nat)) (s, b) g []).fst.fst ∧
 x14.snd.snd.fst.snd = (rdR y (Int.toNat y + (1 : Nat)) (s, b) g []).fst.snd ∧ (23 : Int) = (0 : Int)) ∧
 (¬(rdR y (Int.toNat y + (1 : Nat)) (s, b) g []).snd.snd = (0 : Int) → (0 : Nat) = (0 : Nat) ∧ (23 : Int) = (23 : Int))) ∧
 (((23 : Int) != (0 : Int)) = false →
 List.length x14.snd.snd.snd ≤ (65536 : Nat) ∧
 (0 : Int) ≤ (65536 : Int) ∧
 ∃ (y18 : Bool × Nat × R2 × List Int),
 (contZ y g12.fst g12.snd
 (bif y18.fst then flR y y18.snd.fst y18.snd.snd.fst y18.snd.snd.snd
 else (y18.snd.snd.fst, y18.snd.snd.snd, (0 : Int))) =
 rdR y (Int.toNat y + (1 : Nat)) (s, b) g [] ∧
 (y18.fst = true → y + (1 : Int) ≤ (↑y18.snd.fst : Int) + (↑(List.length y18.snd.snd.snd) : Int)) ∧
 y + (1 : Int) ≤ (↑g12.fst : Int) + (↑(List.length y18.snd.snd.snd) : Int) ∧
 (↑(List.length y18.snd.snd.snd) : Int) ≤ y ∧
 ByteArray.size y18.snd.snd.fst.fst ≤ (9223372036854775807 : Nat) ∧
 (0 : Int) ≤ y18.snd.snd.fst.snd ∧ y18.snd.snd.fst.snd ≤ (8388608 : Int)) ∧
 ((match y18.fst with
 | true => y18.snd.fst + (1 : Nat)
 | false => (0 : Nat)) <
 match x14.fst with
 | true => x14.snd.fst + (1 : Nat)
 | false => (0 : Nat)) ∧
 g12.snd = g12.snd ∧
 y = y ∧
 ((0 : Int) == (3 : Int)) = y18.fst ∧
 x14.snd.snd.fst.fst = y18.snd.snd.fst.fst ∧
 x14.snd.snd.fst.snd = y18.snd.snd.fst.snd ∧
 (23 : Int) = (0 : Int) ∧
 x14.snd.snd.snd ++ List.replicate (Int.toNat (0 : Int)) (0 : Int) = y18.snd.snd.snd)) ∧
 (decide (IntKind.wrap IntKind.i64 ((↑(List.length x14.snd.snd.snd) : Int) + (0 : Int)) > y) = false →
 (((23 : Int) != (0 : Int)) = true →
 ((rdR y (Int.toNat y + (1 : Nat)) (s, b) g []).snd.snd = (0 : Int) →
 List.length (rdR y (Int.toNat y + (1 : Nat)) (s, b) g []).snd.fst = (0 : Nat) ∧
 x14.snd.snd.fst.fst = (rdR y (Int.toNat y + (1 : Nat)) (s, b) g []).fst.fst ∧
 x14.snd.snd.fst.snd = (rdR y (Int.toNat y + (1 : Nat)) (s, b) g []).fst.snd ∧ (23 : Int) = (0 : Int)) ∧
 (¬(rdR y (Int.toNat y + (1 : Nat)) (s, b) g []).snd.snd = (0 : Int) → (0 : Nat) = (0 : Nat) ∧ (23 : Int) = (23 : Int))) ∧
 (((23 : Int) != (0 : Int)) = false →
 List.length x14.snd.snd.snd ≤ (65536 : Nat) ∧
 (0 : Int) ≤ (65536 : Int) ∧
 ∃ (y19 : Bool × Nat × R2 × List Int),
 (contZ y g12.fst g12.snd
 (bif y19.fst then flR y y19.snd.fst y19.snd.snd.fst y19.snd.snd.snd
 else (y19.snd.snd.fst, y19.snd.snd.snd, (0 : Int))) =
 rdR y (Int.toNat y + (1 : Nat)) (s, b) g [] ∧
 (y19.fst = true → y + (1 : Int) ≤ (↑y19.snd.fst : Int) + (↑(List.length y19.snd.snd.snd) : Int)) ∧
 y + (1 : Int) ≤ (↑g12.fst : Int) + (↑(List.length y19.snd.snd.snd) : Int) ∧
 (↑(List.length y19.snd.snd.snd) : Int) ≤ y ∧
 ByteArray.size y19.snd.snd.fst.fst ≤ (9223372036854775807 : Nat) ∧
 (0 : Int) ≤ y19.snd.snd.fst.snd ∧ y19.snd.snd.fst.snd ≤ (8388608 : Int)) ∧
 ((match y19.fst with
 | true => y19.snd.fst + (1 : Nat)
 | false => (0 : Nat)) <
 match x14.fst with
 | true => x14.snd.fst + (1 : Nat)
 | false => (0 : Nat)) ∧
 g12.snd = g12.snd ∧
 y = y ∧
 ((0 : Int) == (3 : Int)) = y19.fst ∧
 x14.snd.snd.fst.fst = y19.snd.snd.fst.fst ∧
 x14.snd.snd.fst.snd = y19.snd.snd.fst.snd ∧
 (23 : Int) = (0 : Int) ∧
 x14.snd.snd.snd ++ List.replicate (Int.toNat (0 : Int)) (0 : Int) = y19.snd.snd.snd))) ∧
 (((23 : Int) == (0 : Int)) = false →
 (((23 : Int) != (0 : Int)) = true →
 ((rdR y (Int.toNat y + (1 : Nat)) (s, b) g []).snd.snd = (0 : Int) →
 List.length (rdR y (Int.toNat y + (1 : Nat)) (s, b) g []).snd.fst = (0 : Nat) ∧
 x14.snd.snd.fst.fst = (rdR y (Int.toNat y + (1 : Nat)) (s, b) g []).fst.fst ∧
 x14.snd.snd.fst.snd = (rdR y (Int.toNat y + (1 : Nat)) (s, b) g []).fst.snd ∧ (23 : Int) = (0 : Int)) ∧
 (¬(rdR y (Int.toNat y + (1 : Nat)) (s, b) g []).snd.snd = (0 : Int) → (0 : Nat) = (0 : Nat) ∧ (23 : Int) = (23 : Int))) ∧
 (((23 : Int) != (0 : Int)) = false →
 List.length x14.snd.snd.snd ≤ (65536 : Nat) ∧
 (0 : Int) ≤ (65536 : Int) ∧
 ∃ (y20 : Bool × Nat × R2 × List Int),
 (contZ y g12.fst g12.snd
 (bif y20.fst then flR y y20.snd.fst y20.snd.snd.fst y20.snd.snd.snd
 else (y20.snd.snd.fst, y20.snd.snd.snd, (0 : Int))) =
 rdR y (Int.toNat y + (1 : Nat)) (s, b) g [] ∧
 (y20.fst = true → y + (1 : Int) ≤ (↑y20.snd.fst : Int) + (↑(List.length y20.snd.snd.snd) : Int)) ∧
 y + (1 : Int) ≤ (↑g12.fst : Int) + (↑(List.length y20.snd.snd.snd) : Int) ∧
 (↑(List.length y20.snd.snd.snd) : Int) ≤ y ∧
 ByteArray.size y20.snd.snd.fst.fst ≤ (9223372036854775807 : Nat) ∧
 (0 : Int) ≤ y20.snd.snd.fst.snd ∧ y20.snd.snd.fst.snd ≤ (8388608 : Int)) ∧
 ((match y20.fst with
 | true => y20.snd.fst + (1 : Nat)
 | false => (0 : Nat)) <
 match x14.fst with
 | true => x14.snd.fst + (1 : Nat)
 | false => (0 : Nat)) ∧
 g12.snd = g12.snd ∧
 y = y ∧
 ((0 : Int) == (3 : Int)) = y20.fst ∧
 x14.snd.snd.fst.fst = y20.snd.snd.fst.fst ∧
 x14.snd.snd.fst.snd = y20.snd.snd.fst.snd ∧
 (23 : Int) = (0 : Int) ∧
 x14.snd.snd.snd ++ List.replicate (Int.toNat (0 : Int)) (0 : Int) = y20.snd.snd.snd)))) ∧
 (x14.fst = false →
 ∃ (y21 : Nat × R2 × Int × List Int),
 (rdR y y21.fst y21.snd.fst y21.snd.snd.fst y21.snd.snd.snd = rdR y (Int.toNat y + (1 : Nat)) (s, b) g [] ∧
 y + (1 : Int) ≤ (↑y21.fst : Int) + (↑(List.length y21.snd.snd.snd) : Int) ∧
 (↑(List.length y21.snd.snd.snd) : Int) ≤ y ∧
 (0 : Int) ≤ y21.snd.snd.fst ∧
 y21.snd.snd.fst ≤ (4096 : Int) ∧
 ByteArray.size y21.snd.fst.fst ≤ (9223372036854775807 : Nat) ∧ (0 : Int) ≤ y21.snd.fst.snd ∧ y21.snd.fst.snd ≤ (8388608 : Int)) ∧
 y21.1 < x1.1 ∧
 g12.snd = y21.snd.snd.fst ∧
 y = y ∧
 x14.snd.snd.fst.fst = y21.snd.fst.fst ∧
 x14.snd.snd.fst.snd = y21.snd.fst.snd ∧ (0 : Int) = (0 : Int) ∧ x14.snd.snd.snd = y21.snd.snd.snd))))) ∧
 (((0 : Int) == (0 : Int)) = false →
 ((rdR y (Int.toNat y + (1 : Nat)) (s, b) g []).snd.snd = (0 : Int) →
 x1.snd.snd.snd = (rdR y (Int.toNat y + (1 : Nat)) (s, b) g []).snd.fst ∧
 x1.snd.fst.fst = (rdR y (Int.toNat y + (1 : Nat)) (s, b) g []).fst.fst ∧ x1.snd.fst.snd = (rdR y (Int.toNat y + (1 : Nat)) (s, b) g []).fst.snd ∧ (0 : Int) = (0 : Int)) ∧
 (¬(rdR y (Int.toNat y + (1 : Nat)) (s, b) g []).snd.snd = (0 : Int) → x1.snd.snd.snd = [] ∧ (0 : Int) = (23 : Int)))) ∧
 (decide (x1.snd.snd.fst > (0 : Int)) = false →
 ((rdR y (Int.toNat y + (1 : Nat)) (s, b) g []).snd.snd = (0 : Int) →
 x1.snd.snd.snd = (rdR y (Int.toNat y + (1 : Nat)) (s, b) g []).snd.fst ∧
 x1.snd.fst.fst = (rdR y (Int.toNat y + (1 : Nat)) (s, b) g []).fst.fst ∧ x1.snd.fst.snd = (rdR y (Int.toNat y + (1 : Nat)) (s, b) g []).fst.snd ∧ (0 : Int) = (0 : Int)) ∧
 (¬(rdR y (Int.toNat y + (1 : Nat)) (s, b) g []).snd.snd = (0 : Int) → x1.snd.snd.snd = [] ∧ (0 : Int) = (23 : Int)))
theorem rprobs_e (g y : Int) (s : ByteArray) (b : Int) : rprobs_t g y s b = vcG Tryz.prog (Gof G8l) (oRProbs y (rdR y (y.toNat + 1) (s, b) g [])) Tryz.f78 [.p 0 0 0, .v (.int .i64 g), .v (.int .i64 y)] [(0, .cells 110 [.v (.string s), .v (.int .i64 b), .v (.int .i64 0)])] (.ite ⟨(rdR y (y.toNat + 1) (s, b) g []).2.2 = 0, inferInstance⟩ (.leaf (.dat (.ints .i64 (rdR y (y.toNat + 1) (s, b) g []).2.1)) ([(0, xC (rdR y (y.toNat + 1) (s, b) g []).1 0)])) (.leaf (.dat (.ints .i64 [])) ([(0, .cells 110 [.any, .any, .v (.int .i64 23)])]))) := by kernel_rfl
def readP_t (s : ByteArray) (a m y : Int) : Prop :=
 (decide (a < (0 : Int)) = true →
 (0 : Int) = (readF (2000 : Int) s a m y).fst.fst ∧
 List.length (readF (2000 : Int) s a m y).fst.snd = (0 : Nat) ∧
 (0 : Int) = (readF (2000 : Int) s a m y).snd.fst ∧ (2 : Int) = (readF (2000 : Int) s a m y).snd.snd.fst ∧ (0 : Int) = (readF (2000 : Int) s a m y).snd.snd.snd) ∧
 (decide (a < (0 : Int)) = false →
 (decide (a > (↑(ByteArray.size s) : Int)) = true →
 (0 : Int) = (readF (2000 : Int) s a m y).fst.fst ∧
 List.length (readF (2000 : Int) s a m y).fst.snd = (0 : Nat) ∧
 (0 : Int) = (readF (2000 : Int) s a m y).snd.fst ∧ (2 : Int) = (readF (2000 : Int) s a m y).snd.snd.fst ∧ (0 : Int) = (readF (2000 : Int) s a m y).snd.snd.snd) ∧
 (decide (a > (↑(ByteArray.size s) : Int)) = false →
 (decide (m < (5 : Int)) = true →
 (0 : Int) = (readF (2000 : Int) s a m y).fst.fst ∧
 List.length (readF (2000 : Int) s a m y).fst.snd = (0 : Nat) ∧
 (0 : Int) = (readF (2000 : Int) s a m y).snd.fst ∧ (2 : Int) = (readF (2000 : Int) s a m y).snd.snd.fst ∧ (0 : Int) = (readF (2000 : Int) s a m y).snd.snd.snd) ∧
 (decide (m < (5 : Int)) = false →
 (decide (m > (12 : Int)) = true →
 (0 : Int) = (readF (2000 : Int) s a m y).fst.fst ∧
 List.length (readF (2000 : Int) s a m y).fst.snd = (0 : Nat) ∧
 (0 : Int) = (readF (2000 : Int) s a m y).snd.fst ∧ (2 : Int) = (readF (2000 : Int) s a m y).snd.snd.fst ∧ (0 : Int) = (readF (2000 : Int) s a m y).snd.snd.snd) ∧
 (decide (m > (12 : Int)) = false →
 (decide (y < (1 : Int)) = true →
 (0 : Int) = (readF (2000 : Int) s a m y).fst.fst ∧
 List.length (readF (2000 : Int) s a m y).fst.snd = (0 : Nat) ∧
 (0 : Int) = (readF (2000 : Int) s a m y).snd.fst ∧ (2 : Int) = (readF (2000 : Int) s a m y).snd.snd.fst ∧ (0 : Int) = (readF (2000 : Int) s a m y).snd.snd.snd) ∧
 (decide (y < (1 : Int)) = false →
 (decide (y > (256 : Int)) = true →
 (0 : Int) = (readF (2000 : Int) s a m y).fst.fst ∧
 List.length (readF (2000 : Int) s a m y).fst.snd = (0 : Nat) ∧
 (0 : Int) = (readF (2000 : Int) s a m y).snd.fst ∧ (2 : Int) = (readF (2000 : Int) s a m y).snd.snd.fst ∧ (0 : Int) = (readF (2000 : Int) s a m y).snd.snd.snd) ∧
 (decide (y > (256 : Int)) = false →
 (0 : Int) ≤ a ∧
 a ≤ min (↑(ByteArray.size s) : Int) (IntKind.wrap IntKind.i64 (a + (2000 : Int))) ∧
 min (↑(ByteArray.size s) : Int) (IntKind.wrap IntKind.i64 (a + (2000 : Int))) ≤ (↑(ByteArray.size s) : Int) ∧
 ((rdA (ByteArray.extract s (Int.toNat a) (Int.toNat (min (↑(ByteArray.size s) : Int) (IntKind.wrap IntKind.i64 (a + (2000 : Int))))), (0 : Int)) m y).snd.snd =
 (0 : Int) →
 m ≤ (12 : Int) ∧
 (1 : Int) ≤ y ∧
 y ≤ (256 : Int) ∧
 ByteArray.size (ByteArray.extract s (Int.toNat a) (Int.toNat (min (↑(ByteArray.size s) : Int) (IntKind.wrap IntKind.i64 (a + (2000 : Int)))))) ≤
 (9223372036854775807 : Nat) ∧
 (false = true →
 (0 : Int) = (readF (2000 : Int) s a m y).fst.fst ∧
 List.length (readF (2000 : Int) s a m y).fst.snd = (0 : Nat) ∧
 (0 : Int) = (readF (2000 : Int) s a m y).snd.fst ∧
 (31 : Int) = (readF (2000 : Int) s a m y).snd.snd.fst ∧ a = (readF (2000 : Int) s a m y).snd.snd.snd) ∧
 (false = false →
 ByteArray.size
 (rdA (ByteArray.extract s (Int.toNat a) (Int.toNat (min (↑(ByteArray.size s) : Int) (IntKind.wrap IntKind.i64 (a + (2000 : Int))))), (0 : Int)) m
 y).fst.fst ≤
 (9223372036854775807 : Nat) ∧
 logR (ByteArray.extract s (Int.toNat a) (Int.toNat (min (↑(ByteArray.size s) : Int) (IntKind.wrap IntKind.i64 (a + (2000 : Int))))), (0 : Int)) =
 (readF (2000 : Int) s a m y).fst.fst ∧
 (rdA (ByteArray.extract s (Int.toNat a) (Int.toNat (min (↑(ByteArray.size s) : Int) (IntKind.wrap IntKind.i64 (a + (2000 : Int))))), (0 : Int)) m
 y).snd.fst =
 (readF (2000 : Int) s a m y).fst.snd ∧
 IntKind.wrap IntKind.i64
 (a +
 (nextT
 ((rdA
 (ByteArray.extract s (Int.toNat a) (Int.toNat (min (↑(ByteArray.size s) : Int) (IntKind.wrap IntKind.i64 (a + (2000 : Int))))),
 (0 : Int))
 m y).fst.fst,
 (rdA
 (ByteArray.extract s (Int.toNat a) (Int.toNat (min (↑(ByteArray.size s) : Int) (IntKind.wrap IntKind.i64 (a + (2000 : Int))))),
 (0 : Int))
 m y).fst.snd)).fst) =
 (readF (2000 : Int) s a m y).snd.fst ∧
 (0 : Int) = (readF (2000 : Int) s a m y).snd.snd.fst ∧ (0 : Int) = (readF (2000 : Int) s a m y).snd.snd.snd)) ∧
 (¬(rdA (ByteArray.extract s (Int.toNat a) (Int.toNat (min (↑(ByteArray.size s) : Int) (IntKind.wrap IntKind.i64 (a + (2000 : Int))))), (0 : Int)) m y).snd.snd =
 (0 : Int) →
 m ≤ (12 : Int) ∧
 (1 : Int) ≤ y ∧
 y ≤ (256 : Int) ∧
 ByteArray.size (ByteArray.extract s (Int.toNat a) (Int.toNat (min (↑(ByteArray.size s) : Int) (IntKind.wrap IntKind.i64 (a + (2000 : Int)))))) ≤
 (9223372036854775807 : Nat) ∧
 (((rdA (ByteArray.extract s (Int.toNat a) (Int.toNat (min (↑(ByteArray.size s) : Int) (IntKind.wrap IntKind.i64 (a + (2000 : Int))))), (0 : Int)) m
 y).snd.snd ==
 (31 : Int)) =
 true →
 (0 : Int) = (readF (2000 : Int) s a m y).fst.fst ∧
 List.length (readF (2000 : Int) s a m y).fst.snd = (0 : Nat) ∧
 (0 : Int) = (readF (2000 : Int) s a m y).snd.fst ∧
 (31 : Int) = (readF (2000 : Int) s a m y).snd.snd.fst ∧ a = (readF (2000 : Int) s a m y).snd.snd.snd) ∧
 (((rdA (ByteArray.extract s (Int.toNat a) (Int.toNat (min (↑(ByteArray.size s) : Int) (IntKind.wrap IntKind.i64 (a + (2000 : Int))))), (0 : Int)) m
 y).snd.snd ==
 (31 : Int)) =
 false →
 (0 : Int) = (readF (2000 : Int) s a m y).fst.fst ∧
 List.length (readF (2000 : Int) s a m y).fst.snd = (0 : Nat) ∧
 (0 : Int) = (readF (2000 : Int) s a m y).snd.fst ∧
 (23 : Int) = (readF (2000 : Int) s a m y).snd.snd.fst ∧ a = (readF (2000 : Int) s a m y).snd.snd.snd))))))))
theorem readP_e (s : ByteArray) (a m y : Int) : readP_t s a m y = vcG Tryz.prog (Gof G8m) (fun _ => none) Tryz.f46 [.v (.string s), .v (.int .i64 a), .v (.int .i64 m), .v (.int .i64 y)] [] (.leaf ((.tu [.ag [.v (.int .i64 (readF 2000 s a m y).1.1), .dat (.ints .i64 (readF 2000 s a m y).1.2)], .v (.int .i64 (readF 2000 s a m y).2.1), .ag [.v (.int .i64 (readF 2000 s a m y).2.2.1), .v (.int .i64 (readF 2000 s a m y).2.2.2)]])) ([])) := by kernel_rfl
def readR_t (s : ByteArray) (a m y : Int) : Prop :=
 (decide (a < (0 : Int)) = true →
 (0 : Int) = (readF (600 : Int) s a m y).fst.fst ∧
 List.length (readF (600 : Int) s a m y).fst.snd = (0 : Nat) ∧
 (0 : Int) = (readF (600 : Int) s a m y).snd.fst ∧ (2 : Int) = (readF (600 : Int) s a m y).snd.snd.fst ∧ (0 : Int) = (readF (600 : Int) s a m y).snd.snd.snd) ∧
 (decide (a < (0 : Int)) = false →
 (decide (a > (↑(ByteArray.size s) : Int)) = true →
 (0 : Int) = (readF (600 : Int) s a m y).fst.fst ∧
 List.length (readF (600 : Int) s a m y).fst.snd = (0 : Nat) ∧
 (0 : Int) = (readF (600 : Int) s a m y).snd.fst ∧ (2 : Int) = (readF (600 : Int) s a m y).snd.snd.fst ∧ (0 : Int) = (readF (600 : Int) s a m y).snd.snd.snd) ∧
 (decide (a > (↑(ByteArray.size s) : Int)) = false →
 (decide (m < (5 : Int)) = true →
 (0 : Int) = (readF (600 : Int) s a m y).fst.fst ∧
 List.length (readF (600 : Int) s a m y).fst.snd = (0 : Nat) ∧
 (0 : Int) = (readF (600 : Int) s a m y).snd.fst ∧ (2 : Int) = (readF (600 : Int) s a m y).snd.snd.fst ∧ (0 : Int) = (readF (600 : Int) s a m y).snd.snd.snd) ∧
 (decide (m < (5 : Int)) = false →
 (decide (m > (12 : Int)) = true →
 (0 : Int) = (readF (600 : Int) s a m y).fst.fst ∧
 List.length (readF (600 : Int) s a m y).fst.snd = (0 : Nat) ∧
 (0 : Int) = (readF (600 : Int) s a m y).snd.fst ∧ (2 : Int) = (readF (600 : Int) s a m y).snd.snd.fst ∧ (0 : Int) = (readF (600 : Int) s a m y).snd.snd.snd) ∧
 (decide (m > (12 : Int)) = false →
 (decide (y < (1 : Int)) = true →
 (0 : Int) = (readF (600 : Int) s a m y).fst.fst ∧
 List.length (readF (600 : Int) s a m y).fst.snd = (0 : Nat) ∧
 (0 : Int) = (readF (600 : Int) s a m y).snd.fst ∧ (2 : Int) = (readF (600 : Int) s a m y).snd.snd.fst ∧ (0 : Int) = (readF (600 : Int) s a m y).snd.snd.snd) ∧
 (decide (y < (1 : Int)) = false →
 (decide (y > (256 : Int)) = true →
 (0 : Int) = (readF (600 : Int) s a m y).fst.fst ∧
 List.length (readF (600 : Int) s a m y).fst.snd = (0 : Nat) ∧
 (0 : Int) = (readF (600 : Int) s a m y).snd.fst ∧ (2 : Int) = (readF (600 : Int) s a m y).snd.snd.fst ∧ (0 : Int) = (readF (600 : Int) s a m y).snd.snd.snd) ∧
 (decide (y > (256 : Int)) = false →
 (0 : Int) ≤ a ∧
 a ≤ min (↑(ByteArray.size s) : Int) (IntKind.wrap IntKind.i64 (a + (600 : Int))) ∧
 min (↑(ByteArray.size s) : Int) (IntKind.wrap IntKind.i64 (a + (600 : Int))) ≤ (↑(ByteArray.size s) : Int) ∧
 ((takeT (ByteArray.extract s (Int.toNat a) (Int.toNat (min (↑(ByteArray.size s) : Int) (IntKind.wrap IntKind.i64 (a + (600 : Int))))), (0 : Int)) (4 : Int)).snd.snd =
 (0 : Int) →
 ByteArray.size (ByteArray.extract s (Int.toNat a) (Int.toNat (min (↑(ByteArray.size s) : Int) (IntKind.wrap IntKind.i64 (a + (600 : Int)))))) ≤
 (9223372036854775807 : Nat) ∧
 (((0 : Int) == (0 : Int)) = true →
 (decide
 (IntKind.wrap IntKind.i64
 ((5 : Int) +
 (takeT (ByteArray.extract s (Int.toNat a) (Int.toNat (min (↑(ByteArray.size s) : Int) (IntKind.wrap IntKind.i64 (a + (600 : Int))))), (0 : Int))
 (4 : Int)).snd.fst) >
 m) =
 true →
 (((31 : Int) == (0 : Int)) = true →
 (0 : Int) ≤
 IntKind.wrap IntKind.u64
 (IntKind.wrap IntKind.i64
 ((5 : Int) +
 (takeT
 (ByteArray.extract s (Int.toNat a) (Int.toNat (min (↑(ByteArray.size s) : Int) (IntKind.wrap IntKind.i64 (a + (600 : Int))))),
 (0 : Int))
 (4 : Int)).snd.fst)) ∧
 False ∧
 False ∧
 (((31 : Int) != (0 : Int)) = true →
 (0 : Int) = (readF (600 : Int) s a m y).fst.fst ∧
 List.length (readF (600 : Int) s a m y).fst.snd = (0 : Nat) ∧
 (0 : Int) = (readF (600 : Int) s a m y).snd.fst ∧
 (31 : Int) = (readF (600 : Int) s a m y).snd.snd.fst ∧ a = (readF (600 : Int) s a m y).snd.snd.snd) ∧
 (((31 : Int) != (0 : Int)) = false →
 ByteArray.size
 (takeT
 (ByteArray.extract s (Int.toNat a) (Int.toNat (min (↑(ByteArray.size s) : Int) (IntKind.wrap IntKind.i64 (a + (600 : Int))))),
 (0 : Int))
 (4 : Int)).fst.fst ≤
 (9223372036854775807 : Nat) ∧
 IntKind.wrap IntKind.i64
 ((5 : Int) +
 (takeT
 (ByteArray.extract s (Int.toNat a) (Int.toNat (min (↑(ByteArray.size s) : Int) (IntKind.wrap IntKind.i64 (a + (600 : Int))))),
 (0 : Int))
 (4 : Int)).snd.fst) =
 (readF (600 : Int) s a m y).fst.fst ∧
 List.length (readF (600 : Int) s a m y).fst.snd = (0 : Nat) ∧
 IntKind.wrap IntKind.i64
 (a +
 (nextT
 ((takeT
 (ByteArray.extract s (Int.toNat a)
 (Int.toNat (min (↑(ByteArray.size s) : Int) (IntKind.wrap IntKind.i64 (a + (600 : Int))))),
 (0 : Int))
 (4 : Int)).fst.fst,
 (takeT
 (ByteArray.extract s (Int.toNat a)
 (Int.toNat (min (↑(ByteArray.size s) : Int) (IntKind.wrap IntKind.i64 (a + (600 : Int))))),
 (0 : Int))
 (4 : Int)).fst.snd)).fst) =
 (readF (600 : Int) s a m y).snd.fst ∧
 (0 : Int) = (readF (600 : Int) s a m y).snd.snd.fst ∧ (0 : Int) = (readF (600 : Int) s a m y).snd.snd.snd)) ∧
 (((31 : Int) == (0 : Int)) = false →
 (((31 : Int) != (0 : Int)) = true →
 (0 : Int) = (readF (600 : Int) s a m y).fst.fst ∧
 List.length (readF (600 : Int) s a m y).fst.snd = (0 : Nat) ∧
 (0 : Int) = (readF (600 : Int) s a m y).snd.fst ∧
 (31 : Int) = (readF (600 : Int) s a m y).snd.snd.fst ∧ a = (readF (600 : Int) s a m y).snd.snd.snd) ∧
 (((31 : Int) != (0 : Int)) = false →
 ByteArray.size
 (takeT
 (ByteArray.extract s (Int.toNat a) (Int.toNat (min (↑(ByteArray.size s) : Int) (IntKind.wrap IntKind.i64 (a + (600 : Int))))),
 (0 : Int))
 (4 : Int)).fst.fst ≤
 (9223372036854775807 : Nat) ∧
 IntKind.wrap IntKind.i64
 ((5 : Int) +
 (takeT
 (ByteArray.extract s (Int.toNat a) (Int.toNat (min (↑(ByteArray.size s) : Int) (IntKind.wrap IntKind.i64 (a + (600 : Int))))),
 (0 : Int))
 (4 : Int)).snd.fst) =
 (readF (600 : Int) s a m y).fst.fst ∧
 List.length (readF (600 : Int) s a m y).fst.snd = (0 : Nat) ∧
 IntKind.wrap IntKind.i64
 (a +
 (nextT
 ((takeT
 (ByteArray.extract s (Int.toNat a)
 (Int.toNat (min (↑(ByteArray.size s) : Int) (IntKind.wrap IntKind.i64 (a + (600 : Int))))),
 (0 : Int))
 (4 : Int)).fst.fst,
 (takeT
 (ByteArray.extract s (Int.toNat a)
 (Int.toNat (min (↑(ByteArray.size s) : Int) (IntKind.wrap IntKind.i64 (a + (600 : Int))))),
 (0 : Int))
 (4 : Int)).fst.snd)).fst) =
 (readF (600 : Int) s a m y).snd.fst ∧
 (0 : Int) = (readF (600 : Int) s a m y).snd.snd.fst ∧ (0 : Int) = (readF (600 : Int) s a m y).snd.snd.snd))) ∧
 (decide
 (IntKind.wrap IntKind.i64
 ((5 : Int) +
 (takeT (ByteArray.extract s (Int.toNat a) (Int.toNat (min (↑(ByteArray.size s) : Int) (IntKind.wrap IntKind.i64 (a + (600 : Int))))), (0 : Int))
 (4 : Int)).snd.fst) >
 m) =
 false →
 (((0 : Int) == (0 : Int)) = true →
 (0 : Int) ≤
 IntKind.wrap IntKind.u64
 (IntKind.wrap IntKind.i64
 ((5 : Int) +
 (takeT
 (ByteArray.extract s (Int.toNat a) (Int.toNat (min (↑(ByteArray.size s) : Int) (IntKind.wrap IntKind.i64 (a + (600 : Int))))),
 (0 : Int))
 (4 : Int)).snd.fst)) ∧
 ((rdR y (Int.toNat y + (1 : Nat))
 ((takeT
 (ByteArray.extract s (Int.toNat a) (Int.toNat (min (↑(ByteArray.size s) : Int) (IntKind.wrap IntKind.i64 (a + (600 : Int))))),
 (0 : Int))
 (4 : Int)).fst.fst,
 (takeT
 (ByteArray.extract s (Int.toNat a) (Int.toNat (min (↑(ByteArray.size s) : Int) (IntKind.wrap IntKind.i64 (a + (600 : Int))))),
 (0 : Int))
 (4 : Int)).fst.snd)
 (IntKind.wrap IntKind.i64
 ((1 : Int) *
 (2 : Int) ^
 min
 (Int.toNat
 (IntKind.wrap IntKind.u64
 (IntKind.wrap IntKind.i64
 ((5 : Int) +
 (takeT
 (ByteArray.extract s (Int.toNat a)
 (Int.toNat (min (↑(ByteArray.size s) : Int) (IntKind.wrap IntKind.i64 (a + (600 : Int))))),
 (0 : Int))
 (4 : Int)).snd.fst))))
 (IntKind.bits IntKind.i64)))
 []).snd.snd =
 (0 : Int) →
 ByteArray.size
 (takeT
 (ByteArray.extract s (Int.toNat a) (Int.toNat (min (↑(ByteArray.size s) : Int) (IntKind.wrap IntKind.i64 (a + (600 : Int))))),
 (0 : Int))
 (4 : Int)).fst.fst ≤
 (9223372036854775807 : Nat) ∧
 (0 : Int) ≤
 IntKind.wrap IntKind.i64
 ((1 : Int) *
 (2 : Int) ^
 min
 (Int.toNat
 (IntKind.wrap IntKind.u64
 (IntKind.wrap IntKind.i64
 ((5 : Int) +
 (takeT
 (ByteArray.extract s (Int.toNat a)
 (Int.toNat (min (↑(ByteArray.size s) : Int) (IntKind.wrap IntKind.i64 (a + (600 : Int))))),
 (0 : Int))
 (4 : Int)).snd.fst))))
 (IntKind.bits IntKind.i64)) ∧
 IntKind.wrap IntKind.i64
 ((1 : Int) *
 (2 : Int) ^
 min
 (Int.toNat
 (IntKind.wrap IntKind.u64
 (IntKind.wrap IntKind.i64
 ((5 : Int) +
 (takeT
 (ByteArray.extract s (Int.toNat a)
 (Int.toNat (min (↑(ByteArray.size s) : Int) (IntKind.wrap IntKind.i64 (a + (600 : Int))))),
 (0 : Int))
 (4 : Int)).snd.fst))))
 (IntKind.bits IntKind.i64)) ≤
 (4096 : Int) ∧
 (1 : Int) ≤ y ∧
 y ≤ (256 : Int) ∧
 (0 : Int) ≤
 (takeT
 (ByteArray.extract s (Int.toNat a) (Int.toNat (min (↑(ByteArray.size s) : Int) (IntKind.wrap IntKind.i64 (a + (600 : Int))))),
 (0 : Int))
 (4 : Int)).fst.snd ∧
 (takeT
 (ByteArray.extract s (Int.toNat a)
 (Int.toNat (min (↑(ByteArray.size s) : Int) (IntKind.wrap IntKind.i64 (a + (600 : Int))))),
 (0 : Int))
 (4 : Int)).fst.snd ≤
 (8388608 : Int) ∧
 (((0 : Int) != (0 : Int)) = true →
 (0 : Int) = (readF (600 : Int) s a m y).fst.fst ∧
 List.length (readF (600 : Int) s a m y).fst.snd = (0 : Nat) ∧
 (0 : Int) = (readF (600 : Int) s a m y).snd.fst ∧
 (0 : Int) = (readF (600 : Int) s a m y).snd.snd.fst ∧ a = (readF (600 : Int) s a m y).snd.snd.snd) ∧
 (((0 : Int) != (0 : Int)) = false →
 ByteArray.size
 (rdR y (Int.toNat y + (1 : Nat))
 ((takeT
 (ByteArray.extract s (Int.toNat a)
 (Int.toNat (min (↑(ByteArray.size s) : Int) (IntKind.wrap IntKind.i64 (a + (600 : Int))))),
 (0 : Int))
 (4 : Int)).fst.fst,
 (takeT
 (ByteArray.extract s (Int.toNat a)
 (Int.toNat (min (↑(ByteArray.size s) : Int) (IntKind.wrap IntKind.i64 (a + (600 : Int))))),
 (0 : Int))
 (4 : Int)).fst.snd)
 (IntKind.wrap IntKind.i64
 ((1 : Int) *
 (2 : Int) ^
 min
 (Int.toNat
 (IntKind.wrap IntKind.u64
 (IntKind.wrap IntKind.i64
 ((5 : Int) +
 (takeT
 (ByteArray.extract s (Int.toNat a)
 (Int.toNat
 (min (↑(ByteArray.size s) : Int) (IntKind.wrap IntKind.i64 (a + (600 : Int))))),
 (0 : Int))
 (4 : Int)).snd.fst))))
 (IntKind.bits IntKind.i64)))
 []).fst.fst ≤
 (9223372036854775807 : Nat) ∧
 IntKind.wrap IntKind.i64
 ((5 : Int) +
 (takeT
 (ByteArray.extract s (Int.toNat a)
 (Int.toNat (min (↑(ByteArray.size s) : Int) (IntKind.wrap IntKind.i64 (a + (600 : Int))))),
 (0 : Int))
 (4 : Int)).snd.fst) =
 (readF (600 : Int) s a m y).fst.fst ∧
 (rdR y (Int.toNat y + (1 : Nat))
 ((takeT
 (ByteArray.extract s (Int.toNat a)
 (Int.toNat (min (↑(ByteArray.size s) : Int) (IntKind.wrap IntKind.i64 (a + (600 : Int))))),
 (0 : Int))
 (4 : Int)).fst.fst,
 (takeT
 (ByteArray.extract s (Int.toNat a)
 (Int.toNat (min (↑(ByteArray.size s) : Int) (IntKind.wrap IntKind.i64 (a + (600 : Int))))),
 (0 : Int))
 (4 : Int)).fst.snd)
 (IntKind.wrap IntKind.i64
 ((1 : Int) *
 (2 : Int) ^
 min
 (Int.toNat
 (IntKind.wrap IntKind.u64
 (IntKind.wrap IntKind.i64
 ((5 : Int) +
 (takeT
 (ByteArray.extract s (Int.toNat a)
 (Int.toNat
 (min (↑(ByteArray.size s) : Int) (IntKind.wrap IntKind.i64 (a + (600 : Int))))),
 (0 : Int))
 (4 : Int)).snd.fst))))
 (IntKind.bits IntKind.i64)))
 []).snd.fst =
 (readF (600 : Int) s a m y).fst.snd ∧
 IntKind.wrap IntKind.i64
 (a +
 (nextT
 ((rdR y (Int.toNat y + (1 : Nat))
 ((takeT
 (ByteArray.extract s (Int.toNat a)
 (Int.toNat
 (min (↑(ByteArray.size s) : Int) (IntKind.wrap IntKind.i64 (a + (600 : Int))))),
 (0 : Int))
 (4 : Int)).fst.fst,
 (takeT
 (ByteArray.extract s (Int.toNat a)
 (Int.toNat
 (min (↑(ByteArray.size s) : Int) (IntKind.wrap IntKind.i64 (a + (600 : Int))))),
 (0 : Int))
 (4 : Int)).fst.snd)
 (IntKind.wrap IntKind.i64
 ((1 : Int) *
 (2 : Int) ^
 min
 (Int.toNat
 (IntKind.wrap IntKind.u64
 (IntKind.wrap IntKind.i64
 ((5 : Int) +
 (takeT
 (ByteArray.extract s (Int.toNat a)
 (Int.toNat
 (min (↑(ByteArray.size s) : Int)
 (IntKind.wrap IntKind.i64 (a + (600 : Int))))),
 (0 : Int))
 (4 : Int)).snd.fst))))
 (IntKind.bits IntKind.i64)))
 []).fst.fst,
 (rdR y (Int.toNat y + (1 : Nat))
 ((takeT
 (ByteArray.extract s (Int.toNat a)
 (Int.toNat
 (min (↑(ByteArray.size s) : Int) (IntKind.wrap IntKind.i64 (a + (600 : Int))))),
 (0 : Int))
 (4 : Int)).fst.fst,
 (takeT
 (ByteArray.extract s (Int.toNat a)
 (Int.toNat
 (min (↑(ByteArray.size s) : Int) (IntKind.wrap IntKind.i64 (a + (600 : Int))))),
 (0 : Int))
 (4 : Int)).fst.snd)
 (IntKind.wrap IntKind.i64
 ((1 : Int) *
 (2 : Int) ^
 min
 (Int.toNat
 (IntKind.wrap IntKind.u64
 (IntKind.wrap IntKind.i64
 ((5 : Int) +
 (takeT
 (ByteArray.extract s (Int.toNat a)
 (Int.toNat
 (min (↑(ByteArray.size s) : Int)
 (IntKind.wrap IntKind.i64 (a + (600 : Int))))),
 (0 : Int))
 (4 : Int)).snd.fst))))
 (IntKind.bits IntKind.i64)))
 []).fst.snd)).fst) =
 (readF (600 : Int) s a m y).snd.fst ∧
 (0 : Int) = (readF (600 : Int) s a m y).snd.snd.fst ∧ (0 : Int) = (readF (600 : Int) s a m y).snd.snd.snd)) ∧
 (¬(rdR y (Int.toNat y + (1 : Nat))
 ((takeT
 (ByteArray.extract s (Int.toNat a) (Int.toNat (min (↑(ByteArray.size s) : Int) (IntKind.wrap IntKind.i64 (a + (600 : Int))))),
 (0 : Int))
 (4 : Int)).fst.fst,
 (takeT
 (ByteArray.extract s (Int.toNat a) (Int.toNat (min (↑(ByteArray.size s) : Int) (IntKind.wrap IntKind.i64 (a + (600 : Int))))),
 (0 : Int))
 (4 : Int)).fst.snd)
 (IntKind.wrap IntKind.i64
 ((1 : Int) *
 (2 : Int) ^
 min
 (Int.toNat
 (IntKind.wrap IntKind.u64
 (IntKind.wrap IntKind.i64
 ((5 : Int) +
 (takeT
 (ByteArray.extract s (Int.toNat a)
 (Int.toNat (min (↑(ByteArray.size s) : Int) (IntKind.wrap IntKind.i64 (a + (600 : Int))))),
 (0 : Int))
 (4 : Int)).snd.fst))))
 (IntKind.bits IntKind.i64)))
 []).snd.snd =
 (0 : Int) →
 ByteArray.size
 (takeT
 (ByteArray.extract s (Int.toNat a) (Int.toNat (min (↑(ByteArray.size s) : Int) (IntKind.wrap IntKind.i64 (a + (600 : Int))))),
 (0 : Int))
 (4 : Int)).fst.fst ≤
 (9223372036854775807 : Nat) ∧
 (0 : Int) ≤
 IntKind.wrap IntKind.i64
 ((1 : Int) *
 (2 : Int) ^
 min
 (Int.toNat
 (IntKind.wrap IntKind.u64
 (IntKind.wrap IntKind.i64
 ((5 : Int) +
 (takeT
 (ByteArray.extract s (Int.toNat a)
 (Int.toNat (min (↑(ByteArray.size s) : Int) (IntKind.wrap IntKind.i64 (a + (600 : Int))))),
 (0 : Int))
 (4 : Int)).snd.fst))))
 (IntKind.bits IntKind.i64)) ∧
 IntKind.wrap IntKind.i64
 ((1 : Int) *
 (2 : Int) ^
 min
 (Int.toNat
 (IntKind.wrap IntKind.u64
 (IntKind.wrap IntKind.i64
 ((5 : Int) +
 (takeT
 (ByteArray.extract s (Int.toNat a)
 (Int.toNat (min (↑(ByteArray.size s) : Int) (IntKind.wrap IntKind.i64 (a + (600 : Int))))),
 (0 : Int))
 (4 : Int)).snd.fst))))
 (IntKind.bits IntKind.i64)) ≤
 (4096 : Int) ∧
 (1 : Int) ≤ y ∧
 y ≤ (256 : Int) ∧
 (0 : Int) ≤
 (takeT
 (ByteArray.extract s (Int.toNat a) (Int.toNat (min (↑(ByteArray.size s) : Int) (IntKind.wrap IntKind.i64 (a + (600 : Int))))),
 (0 : Int))
 (4 : Int)).fst.snd ∧
 (takeT
 (ByteArray.extract s (Int.toNat a)
 (Int.toNat (min (↑(ByteArray.size s) : Int) (IntKind.wrap IntKind.i64 (a + (600 : Int))))),
 (0 : Int))
 (4 : Int)).fst.snd ≤
 (8388608 : Int) ∧
 (((23 : Int) != (0 : Int)) = true →
 (0 : Int) = (readF (600 : Int) s a m y).fst.fst ∧
 List.length (readF (600 : Int) s a m y).fst.snd = (0 : Nat) ∧
 (0 : Int) = (readF (600 : Int) s a m y).snd.fst ∧
 (23 : Int) = (readF (600 : Int) s a m y).snd.snd.fst ∧ a = (readF (600 : Int) s a m y).snd.snd.snd) ∧
 (((23 : Int) != (0 : Int)) = false →
 False ∧
 False ∧
 False ∧
 False ∧
 IntKind.wrap IntKind.i64
 ((5 : Int) +
 (takeT
 (ByteArray.extract s (Int.toNat a)
 (Int.toNat (min (↑(ByteArray.size s) : Int) (IntKind.wrap IntKind.i64 (a + (600 : Int))))),
 (0 : Int))
 (4 : Int)).snd.fst) =
 (readF (600 : Int) s a m y).fst.fst ∧
 [] = (readF (600 : Int) s a m y).fst.snd ∧
 False ∧
 (0 : Int) = (readF (600 : Int) s a m y).snd.snd.fst ∧ (0 : Int) = (readF (600 : Int) s a m y).snd.snd.snd))) ∧
 (((0 : Int) == (0 : Int)) = false →
 (((0 : Int) != (0 : Int)) = true →
 (0 : Int) = (readF (600 : Int) s a m y).fst.fst ∧
 List.length (readF (600 : Int) s a m y).fst.snd = (0 : Nat) ∧
 (0 : Int) = (readF (600 : Int) s a m y).snd.fst ∧
 (0 : Int) = (readF (600 : Int) s a m y).snd.snd.fst ∧ a = (readF (600 : Int) s a m y).snd.snd.snd) ∧
 (((0 : Int) != (0 : Int)) = false →
 ByteArray.size
 (takeT
 (ByteArray.extract s (Int.toNat a) (Int.toNat (min (↑(ByteArray.size s) : Int) (IntKind.wrap IntKind.i64 (a + (600 : Int))))),
 (0 : Int))
 (4 : Int)).fst.fst ≤
 (9223372036854775807 : Nat) ∧
 IntKind.wrap IntKind.i64
 ((5 : Int) +
 (takeT
 (ByteArray.extract s (Int.toNat a) (Int.toNat (min (↑(ByteArray.size s) : Int) (IntKind.wrap IntKind.i64 (a + (600 : Int))))),
 (0 : Int))
 (4 : Int)).snd.fst) =
 (readF (600 : Int) s a m y).fst.fst ∧
 List.length (readF (600 : Int) s a m y).fst.snd = (0 : Nat) ∧
 IntKind.wrap IntKind.i64
 (a +
 (nextT
 ((takeT
 (ByteArray.extract s (Int.toNat a)
 (Int.toNat (min (↑(ByteArray.size s) : Int) (IntKind.wrap IntKind.i64 (a + (600 : Int))))),
 (0 : Int))
 (4 : Int)).fst.fst,
 (takeT
 (ByteArray.extract s (Int.toNat a)
 (Int.toNat (min (↑(ByteArray.size s) : Int) (IntKind.wrap IntKind.i64 (a + (600 : Int))))),
 (0 : Int))
 (4 : Int)).fst.snd)).fst) =
 (readF (600 : Int) s a m y).snd.fst ∧
 (0 : Int) = (readF (600 : Int) s a m y).snd.snd.fst ∧ (0 : Int) = (readF (600 : Int) s a m y).snd.snd.snd)))) ∧
 (((0 : Int) == (0 : Int)) = false →
 (((0 : Int) == (0 : Int)) = true →
 (0 : Int) ≤
 IntKind.wrap IntKind.u64
 (IntKind.wrap IntKind.i64
 ((5 : Int) +
 (takeT (ByteArray.extract s (Int.toNat a) (Int.toNat (min (↑(ByteArray.size s) : Int) (IntKind.wrap IntKind.i64 (a + (600 : Int))))), (0 : Int))
 (4 : Int)).snd.fst)) ∧
 ((rdR y (Int.toNat y + (1 : Nat))
 ((takeT
 (ByteArray.extract s (Int.toNat a) (Int.toNat (min (↑(ByteArray.size s) : Int) (IntKind.wrap IntKind.i64 (a + (600 : Int))))),
 (0 : Int))
 (4 : Int)).fst.fst,
 (takeT
 (ByteArray.extract s (Int.toNat a) (Int.toNat (min (↑(ByteArray.size s) : Int) (IntKind.wrap IntKind.i64 (a + (600 : Int))))),
 (0 : Int))
 (4 : Int)).fst.snd)
 (IntKind.wrap IntKind.i64
 ((1 : Int) *
 (2 : Int) ^
 min
 (Int.toNat
 (IntKind.wrap IntKind.u64
 (IntKind.wrap IntKind.i64
 ((5 : Int) +
 (takeT
 (ByteArray.extract s (Int.toNat a)
 (Int.toNat (min (↑(ByteArray.size s) : Int) (IntKind.wrap IntKind.i64 (a + (600 : Int))))),
 (0 : Int))
 (4 : Int)).snd.fst))))
 (IntKind.bits IntKind.i64)))
 []).snd.snd =
 (0 : Int) →
 ByteArray.size
 (takeT (ByteArray.extract s (Int.toNat a) (Int.toNat (min (↑(ByteArray.size s) : Int) (IntKind.wrap IntKind.i64 (a + (600 : Int))))), (0 : Int))
 (4 : Int)).fst.fst ≤
 (9223372036854775807 : Nat) ∧
 (0 : Int) ≤
 IntKind.wrap IntKind.i64
 ((1 : Int) *
 (2 : Int) ^
 min
 (Int.toNat
 (IntKind.wrap IntKind.u64
 (IntKind.wrap IntKind.i64
 ((5 : Int) +
 (takeT
 (ByteArray.extract s (Int.toNat a)
 (Int.toNat (min (↑(ByteArray.size s) : Int) (IntKind.wrap IntKind.i64 (a + (600 : Int))))),
 (0 : Int))
 (4 : Int)).snd.fst))))
 (IntKind.bits IntKind.i64)) ∧
 IntKind.wrap IntKind.i64
 ((1 : Int) *
 (2 : Int) ^
 min
 (Int.toNat
 (IntKind.wrap IntKind.u64
 (IntKind.wrap IntKind.i64
 ((5 : Int) +
 (takeT
 (ByteArray.extract s (Int.toNat a)
 (Int.toNat (min (↑(ByteArray.size s) : Int) (IntKind.wrap IntKind.i64 (a + (600 : Int))))),
 (0 : Int))
 (4 : Int)).snd.fst))))
 (IntKind.bits IntKind.i64)) ≤
 (4096 : Int) ∧
 (1 : Int) ≤ y ∧
 y ≤ (256 : Int) ∧
 (0 : Int) ≤
 (takeT
 (ByteArray.extract s (Int.toNat a) (Int.toNat (min (↑(ByteArray.size s) : Int) (IntKind.wrap IntKind.i64 (a + (600 : Int))))),
 (0 : Int))
 (4 : Int)).fst.snd ∧
 (takeT
 (ByteArray.extract s (Int.toNat a) (Int.toNat (min (↑(ByteArray.size s) : Int) (IntKind.wrap IntKind.i64 (a + (600 : Int))))),
 (0 : Int))
 (4 : Int)).fst.snd ≤
 (8388608 : Int) ∧
 (((0 : Int) != (0 : Int)) = true →
 (0 : Int) = (readF (600 : Int) s a m y).fst.fst ∧
 List.length (readF (600 : Int) s a m y).fst.snd = (0 : Nat) ∧
 (0 : Int) = (readF (600 : Int) s a m y).snd.fst ∧
 (0 : Int) = (readF (600 : Int) s a m y).snd.snd.fst ∧ a = (readF (600 : Int) s a m y).snd.snd.snd) ∧
 (((0 : Int) != (0 : Int)) = false →
 ByteArray.size
 (rdR y (Int.toNat y + (1 : Nat))
 ((takeT
 (ByteArray.extract s (Int.toNat a)
 (Int.toNat (min (↑(ByteArray.size s) : Int) (IntKind.wrap IntKind.i64 (a + (600 : Int))))),
 (0 : Int))
 (4 : Int)).fst.fst,
 (takeT
 (ByteArray.extract s (Int.toNat a)
 (Int.toNat (min (↑(ByteArray.size s) : Int) (IntKind.wrap IntKind.i64 (a + (600 : Int))))),
 (0 : Int))
 (4 : Int)).fst.snd)
 (IntKind.wrap IntKind.i64
 ((1 : Int) *
 (2 : Int) ^
 min
 (Int.toNat
 (IntKind.wrap IntKind.u64
 (IntKind.wrap IntKind.i64
 ((5 : Int) +
 (takeT
 (ByteArray.extract s (Int.toNat a)
 (Int.toNat (min (↑(ByteArray.size s) : Int) (IntKind.wrap IntKind.i64 (a + (600 : Int))))),
 (0 : Int))
 (4 : Int)).snd.fst))))
 (IntKind.bits IntKind.i64)))
 []).fst.fst ≤
 (9223372036854775807 : Nat) ∧
 IntKind.wrap IntKind.i64
 ((5 : Int) +
 (takeT
 (ByteArray.extract s (Int.toNat a)
 (Int.toNat (min (↑(ByteArray.size s) : Int) (IntKind.wrap IntKind.i64 (a + (600 : Int))))),
 (0 : Int))
 (4 : Int)).snd.fst) =
 (readF (600 : Int) s a m y).fst.fst ∧
 (rdR y (Int.toNat y + (1 : Nat))
 ((takeT
 (ByteArray.extract s (Int.toNat a)
 (Int.toNat (min (↑(ByteArray.size s) : Int) (IntKind.wrap IntKind.i64 (a + (600 : Int))))),
 (0 : Int))
 (4 : Int)).fst.fst,
 (takeT
 (ByteArray.extract s (Int.toNat a)
 (Int.toNat (min (↑(ByteArray.size s) : Int) (IntKind.wrap IntKind.i64 (a + (600 : Int))))),
 (0 : Int))
 (4 : Int)).fst.snd)
 (IntKind.wrap IntKind.i64
 ((1 : Int) *
 (2 : Int) ^
 min
 (Int.toNat
 (IntKind.wrap IntKind.u64
 (IntKind.wrap IntKind.i64
 ((5 : Int) +
 (takeT
 (ByteArray.extract s (Int.toNat a)
 (Int.toNat (min (↑(ByteArray.size s) : Int) (IntKind.wrap IntKind.i64 (a + (600 : Int))))),
 (0 : Int))
 (4 : Int)).snd.fst))))
 (IntKind.bits IntKind.i64)))
 []).snd.fst =
 (readF (600 : Int) s a m y).fst.snd ∧
 IntKind.wrap IntKind.i64
 (a +
 (nextT
 ((rdR y (Int.toNat y + (1 : Nat))
 ((takeT
 (ByteArray.extract s (Int.toNat a)
 (Int.toNat (min (↑(ByteArray.size s) : Int) (IntKind.wrap IntKind.i64 (a + (600 : Int))))),
 (0 : Int))
 (4 : Int)).fst.fst,
 (takeT
 (ByteArray.extract s (Int.toNat a)
 (Int.toNat (min (↑(ByteArray.size s) : Int) (IntKind.wrap IntKind.i64 (a + (600 : Int))))),
 (0 : Int))
 (4 : Int)).fst.snd)
 (IntKind.wrap IntKind.i64
 ((1 : Int) *
 (2 : Int) ^
 min
 (Int.toNat
 (IntKind.wrap IntKind.u64
 (IntKind.wrap IntKind.i64
 ((5 : Int) +
 (takeT
 (ByteArray.extract s (Int.toNat a)
 (Int.toNat
 (min (↑(ByteArray.size s) : Int)
 (IntKind.wrap IntKind.i64 (a + (600 : Int))))),
 (0 : Int))
 (4 : Int)).snd.fst))))
 (IntKind.bits IntKind.i64)))
 []).fst.fst,
 (rdR y (Int.toNat y + (1 : Nat))
 ((takeT
 (ByteArray.extract s (Int.toNat a)
 (Int.toNat (min (↑(ByteArray.size s) : Int) (IntKind.wrap IntKind.i64 (a + (600 : Int))))),
 (0 : Int))
 (4 : Int)).fst.fst,
 (takeT
 (ByteArray.extract s (Int.toNat a)
 (Int.toNat (min (↑(ByteArray.size s) : Int) (IntKind.wrap IntKind.i64 (a + (600 : Int))))),
 (0 : Int))
 (4 : Int)).fst.snd)
 (IntKind.wrap IntKind.i64
 ((1 : Int) *
 (2 : Int) ^
 min
 (Int.toNat
 (IntKind.wrap IntKind.u64
 (IntKind.wrap IntKind.i64
 ((5 : Int) +
 (takeT
 (ByteArray.extract s (Int.toNat a)
 (Int.toNat
 (min (↑(ByteArray.size s) : Int)
 (IntKind.wrap IntKind.i64 (a + (600 : Int))))),
 (0 : Int))
 (4 : Int)).snd.fst))))
 (IntKind.bits IntKind.i64)))
 []).fst.snd)).fst) =
 (readF (600 : Int) s a m y).snd.fst ∧
 (0 : Int) = (readF (600 : Int) s a m y).snd.snd.fst ∧ (0 : Int) = (readF (600 : Int) s a m y).snd.snd.snd)) ∧
 (¬(rdR y (Int.toNat y + (1 : Nat))
 ((takeT
 (ByteArray.extract s (Int.toNat a) (Int.toNat (min (↑(ByteArray.size s) : Int) (IntKind.wrap IntKind.i64 (a + (600 : Int))))),
 (0 : Int))
 (4 : Int)).fst.fst,
 (takeT
 (ByteArray.extract s (Int.toNat a) (Int.toNat (min (↑(ByteArray.size s) : Int) (IntKind.wrap IntKind.i64 (a + (600 : Int))))),
 (0 : Int))
 (4 : Int)).fst.snd)
 (IntKind.wrap IntKind.i64
 ((1 : Int) *
 (2 : Int) ^
 min
 (Int.toNat
 (IntKind.wrap IntKind.u64
 (IntKind.wrap IntKind.i64
 ((5 : Int) +
 (takeT
 (ByteArray.extract s (Int.toNat a)
 (Int.toNat (min (↑(ByteArray.size s) : Int) (IntKind.wrap IntKind.i64 (a + (600 : Int))))),
 (0 : Int))
 (4 : Int)).snd.fst))))
 (IntKind.bits IntKind.i64)))
 []).snd.snd =
 (0 : Int) →
 ByteArray.size
 (takeT (ByteArray.extract s (Int.toNat a) (Int.toNat (min (↑(ByteArray.size s) : Int) (IntKind.wrap IntKind.i64 (a + (600 : Int))))), (0 : Int))
 (4 : Int)).fst.fst ≤
 (9223372036854775807 : Nat) ∧
 (0 : Int) ≤
 IntKind.wrap IntKind.i64
 ((1 : Int) *
 (2 : Int) ^
 min
 (Int.toNat
 (IntKind.wrap IntKind.u64
 (IntKind.wrap IntKind.i64
 ((5 : Int) +
 (takeT
 (ByteArray.extract s (Int.toNat a)
 (Int.toNat (min (↑(ByteArray.size s) : Int) (IntKind.wrap IntKind.i64 (a + (600 : Int))))),
 (0 : Int))
 (4 : Int)).snd.fst))))
 (IntKind.bits IntKind.i64)) ∧
 IntKind.wrap IntKind.i64
 ((1 : Int) *
 (2 : Int) ^
 min
 (Int.toNat
 (IntKind.wrap IntKind.u64
 (IntKind.wrap IntKind.i64
 ((5 : Int) +
 (takeT
 (ByteArray.extract s (Int.toNat a)
 (Int.toNat (min (↑(ByteArray.size s) : Int) (IntKind.wrap IntKind.i64 (a + (600 : Int))))),
 (0 : Int))
 (4 : Int)).snd.fst))))
 (IntKind.bits IntKind.i64)) ≤
 (4096 : Int) ∧
 (1 : Int) ≤ y ∧
 y ≤ (256 : Int) ∧
 (0 : Int) ≤
 (takeT
 (ByteArray.extract s (Int.toNat a) (Int.toNat (min (↑(ByteArray.size s) : Int) (IntKind.wrap IntKind.i64 (a + (600 : Int))))),
 (0 : Int))
 (4 : Int)).fst.snd ∧
 (takeT
 (ByteArray.extract s (Int.toNat a) (Int.toNat (min (↑(ByteArray.size s) : Int) (IntKind.wrap IntKind.i64 (a + (600 : Int))))),
 (0 : Int))
 (4 : Int)).fst.snd ≤
 (8388608 : Int) ∧
 (((23 : Int) != (0 : Int)) = true →
 (0 : Int) = (readF (600 : Int) s a m y).fst.fst ∧
 List.length (readF (600 : Int) s a m y).fst.snd = (0 : Nat) ∧
 (0 : Int) = (readF (600 : Int) s a m y).snd.fst ∧
 (23 : Int) = (readF (600 : Int) s a m y).snd.snd.fst ∧ a = (readF (600 : Int) s a m y).snd.snd.snd) ∧
 (((23 : Int) != (0 : Int)) = false →
 False ∧
 False ∧
 False ∧
 False ∧
 IntKind.wrap IntKind.i64
 ((5 : Int) +
 (takeT
 (ByteArray.extract s (Int.toNat a)
 (Int.toNat (min (↑(ByteArray.size s) : Int) (IntKind.wrap IntKind.i64 (a + (600 : Int))))),
 (0 : Int))
 (4 : Int)).snd.fst) =
 (readF (600 : Int) s a m y).fst.fst ∧
 [] = (readF (600 : Int) s a m y).fst.snd ∧
 False ∧ (0 : Int) = (readF (600 : Int) s a m y).snd.snd.fst ∧ (0 : Int) = (readF (600 : Int) s a m y).snd.snd.snd))) ∧
 (((0 : Int) == (0 : Int)) = false →
 (((0 : Int) != (0 : Int)) = true →
 (0 : Int) = (readF (600 : Int) s a m y).fst.fst ∧
 List.length (readF (600 : Int) s a m y).fst.snd = (0 : Nat) ∧
 (0 : Int) = (readF (600 : Int) s a m y).snd.fst ∧
 (0 : Int) = (readF (600 : Int) s a m y).snd.snd.fst ∧ a = (readF (600 : Int) s a m y).snd.snd.snd) ∧
 (((0 : Int) != (0 : Int)) = false →
 ByteArray.size
 (takeT (ByteArray.extract s (Int.toNat a) (Int.toNat (min (↑(ByteArray.size s) : Int) (IntKind.wrap IntKind.i64 (a + (600 : Int))))), (0 : Int))
 (4 : Int)).fst.fst ≤
 (9223372036854775807 : Nat) ∧
 IntKind.wrap IntKind.i64
 ((5 : Int) +
 (takeT
 (ByteArray.extract s (Int.toNat a) (Int.toNat (min (↑(ByteArray.size s) : Int) (IntKind.wrap IntKind.i64 (a + (600 : Int))))),
 (0 : Int))
 (4 : Int)).snd.fst) =
 (readF (600 : Int) s a m y).fst.fst ∧
 List.length (readF (600 : Int) s a m y).fst.snd = (0 : Nat) ∧
 IntKind.wrap IntKind.i64
 (a +
 (nextT
 ((takeT
 (ByteArray.extract s (Int.toNat a) (Int.toNat (min (↑(ByteArray.size s) : Int) (IntKind.wrap IntKind.i64 (a + (600 : Int))))),
 (0 : Int))
 (4 : Int)).fst.fst,
 (takeT
 (ByteArray.extract s (Int.toNat a) (Int.toNat (min (↑(ByteArray.size s) : Int) (IntKind.wrap IntKind.i64 (a + (600 : Int))))),
 (0 : Int))
 (4 : Int)).fst.snd)).fst) =
 (readF (600 : Int) s a m y).snd.fst ∧
 (0 : Int) = (readF (600 : Int) s a m y).snd.snd.fst ∧ (0 : Int) = (readF (600 : Int) s a m y).snd.snd.snd)))) ∧
 (¬(takeT (ByteArray.extract s (Int.toNat a) (Int.toNat (min (↑(ByteArray.size s) : Int) (IntKind.wrap IntKind.i64 (a + (600 : Int))))), (0 : Int)) (4 : Int)).snd.snd =
 (0 : Int) →
 ByteArray.size (ByteArray.extract s (Int.toNat a) (Int.toNat (min (↑(ByteArray.size s) : Int) (IntKind.wrap IntKind.i64 (a + (600 : Int)))))) ≤
 (9223372036854775807 : Nat) ∧
 (((23 : Int) == (0 : Int)) = true →
 (decide (IntKind.wrap IntKind.i64 ((5 : Int) + (0 : Int)) > m) = true →
 (((31 : Int) == (0 : Int)) = true →
 (0 : Int) ≤ IntKind.wrap IntKind.u64 (IntKind.wrap IntKind.i64 ((5 : Int) + (0 : Int))) ∧
 False ∧
 False ∧
 (((31 : Int) != (0 : Int)) = true →
 (0 : Int) = (readF (600 : Int) s a m y).fst.fst ∧
 List.length (readF (600 : Int) s a m y).fst.snd = (0 : Nat) ∧
 (0 : Int) = (readF (600 : Int) s a m y).snd.fst ∧
 (31 : Int) = (readF (600 : Int) s a m y).snd.snd.fst ∧ a = (readF (600 : Int) s a m y).snd.snd.snd) ∧
 (((31 : Int) != (0 : Int)) = false →
 ByteArray.size
 (ByteArray.extract s (Int.toNat a) (Int.toNat (min (↑(ByteArray.size s) : Int) (IntKind.wrap IntKind.i64 (a + (600 : Int)))))) ≤
 (9223372036854775807 : Nat) ∧
 IntKind.wrap IntKind.i64 ((5 : Int) + (0 : Int)) = (readF (600 : Int) s a m y).fst.fst ∧
 List.length (readF (600 : Int) s a m y).fst.snd = (0 : Nat) ∧
 IntKind.wrap IntKind.i64
 (a +
 (nextT
 (ByteArray.extract s (Int.toNat a)
 (Int.toNat (min (↑(ByteArray.size s) : Int) (IntKind.wrap IntKind.i64 (a + (600 : Int))))),
 (0 : Int))).fst) =
 (readF (600 : Int) s a m y).snd.fst ∧
 (0 : Int) = (readF (600 : Int) s a m y).snd.snd.fst ∧ (0 : Int) = (readF (600 : Int) s a m y).snd.snd.snd)) ∧
 (((31 : Int) == (0 : Int)) = false →
 (((31 : Int) != (0 : Int)) = true →
 (0 : Int) = (readF (600 : Int) s a m y).fst.fst ∧
 List.length (readF (600 : Int) s a m y).fst.snd = (0 : Nat) ∧
 (0 : Int) = (readF (600 : Int) s a m y).snd.fst ∧
 (31 : Int) = (readF (600 : Int) s a m y).snd.snd.fst ∧ a = (readF (600 : Int) s a m y).snd.snd.snd) ∧
 (((31 : Int) != (0 : Int)) = false →
 ByteArray.size (ByteArray.extract s (Int.toNat a) (Int.toNat (min (↑(ByteArray.size s) : Int) (IntKind.wrap IntKind.i64 (a + (600 : Int)))))) ≤
 (9223372036854775807 : Nat) ∧
 IntKind.wrap IntKind.i64 ((5 : Int) + (0 : Int)) = (readF (600 : Int) s a m y).fst.fst ∧
 List.length (readF (600 : Int) s a m y).fst.snd = (0 : Nat) ∧
 IntKind.wrap IntKind.i64
 (a +
 (nextT
 (ByteArray.extract s (Int.toNat a) (Int.toNat (min (↑(ByteArray.size s) : Int) (IntKind.wrap IntKind.i64 (a + (600 : Int))))),
 (0 : Int))).fst) =
 (readF (600 : Int) s a m y).snd.fst ∧
 (0 : Int) = (readF (600 : Int) s a m y).snd.snd.fst ∧ (0 : Int) = (readF (600 : Int) s a m y).snd.snd.snd))) ∧
 (decide (IntKind.wrap IntKind.i64 ((5 : Int) + (0 : Int)) > m) = false →
 (((23 : Int) == (0 : Int)) = true →
 (0 : Int) ≤ IntKind.wrap IntKind.u64 (IntKind.wrap IntKind.i64 ((5 : Int) + (0 : Int))) ∧
 False ∧
 False ∧
 (((23 : Int) != (0 : Int)) = true →
 (0 : Int) = (readF (600 : Int) s a m y).fst.fst ∧
 List.length (readF (600 : Int) s a m y).fst.snd = (0 : Nat) ∧
 (0 : Int) = (readF (600 : Int) s a m y).snd.fst ∧
 (23 : Int) = (readF (600 : Int) s a m y).snd.snd.fst ∧ a = (readF (600 : Int) s a m y).snd.snd.snd) ∧
 (((23 : Int) != (0 : Int)) = false →
 ByteArray.size
 (ByteArray.extract s (Int.toNat a) (Int.toNat (min (↑(ByteArray.size s) : Int) (IntKind.wrap IntKind.i64 (a + (600 : Int)))))) ≤
 (9223372036854775807 : Nat) ∧
 IntKind.wrap IntKind.i64 ((5 : Int) + (0 : Int)) = (readF (600 : Int) s a m y).fst.fst ∧
 List.length (readF (600 : Int) s a m y).fst.snd = (0 : Nat) ∧
 IntKind.wrap IntKind.i64
 (a +
 (nextT
 (ByteArray.extract s (Int.toNat a)
 (Int.toNat (min (↑(ByteArray.size s) : Int) (IntKind.wrap IntKind.i64 (a + (600 : Int))))),
 (0 : Int))).fst) =
 (readF (600 : Int) s a m y).snd.fst ∧
 (0 : Int) = (readF (600 : Int) s a m y).snd.snd.fst ∧ (0 : Int) = (readF (600 : Int) s a m y).snd.snd.snd)) ∧
 (((23 : Int) == (0 : Int)) = false →
 (((23 : Int) != (0 : Int)) = true →
 (0 : Int) = (readF (600 : Int) s a m y).fst.fst ∧
 List.length (readF (600 : Int) s a m y).fst.snd = (0 : Nat) ∧
 (0 : Int) = (readF (600 : Int) s a m y).snd.fst ∧
 (23 : Int) = (readF (600 : Int) s a m y).snd.snd.fst ∧ a = (readF (600 : Int) s a m y).snd.snd.snd) ∧
 (((23 : Int) != (0 : Int)) = false →
 ByteArray.size (ByteArray.extract s (Int.toNat a) (Int.toNat (min (↑(ByteArray.size s) : Int) (IntKind.wrap IntKind.i64 (a + (600 : Int)))))) ≤
 (9223372036854775807 : Nat) ∧
 IntKind.wrap IntKind.i64 ((5 : Int) + (0 : Int)) = (readF (600 : Int) s a m y).fst.fst ∧
 List.length (readF (600 : Int) s a m y).fst.snd = (0 : Nat) ∧
 IntKind.wrap IntKind.i64
 (a +
 (nextT
 (ByteArray.extract s (Int.toNat a) (Int.toNat (min (↑(ByteArray.size s) : Int) (IntKind.wrap IntKind.i64 (a + (600 : Int))))),
 (0 : Int))).fst) =
 (readF (600 : Int) s a m y).snd.fst ∧
 (0 : Int) = (readF (600 : Int) s a m y).snd.snd.fst ∧ (0 : Int) = (readF (600 : Int) s a m y).snd.snd.snd)))) ∧
 (((23 : Int) == (0 : Int)) = false →
 (((23 : Int) == (0 : Int)) = true →
 (0 : Int) ≤ IntKind.wrap IntKind.u64 (IntKind.wrap IntKind.i64 ((5 : Int) + (0 : Int))) ∧
 False ∧
 False ∧
 (((23 : Int) != (0 : Int)) = true →
 (0 : Int) = (readF (600 : Int) s a m y).fst.fst ∧
 List.length (readF (600 : Int) s a m y).fst.snd = (0 : Nat) ∧
 (0 : Int) = (readF (600 : Int) s a m y).snd.fst ∧
 (23 : Int) = (readF (600 : Int) s a m y).snd.snd.fst ∧ a = (readF (600 : Int) s a m y).snd.snd.snd) ∧
 (((23 : Int) != (0 : Int)) = false →
 ByteArray.size (ByteArray.extract s (Int.toNat a) (Int.toNat (min (↑(ByteArray.size s) : Int) (IntKind.wrap IntKind.i64 (a + (600 : Int)))))) ≤
 (9223372036854775807 : Nat) ∧
 IntKind.wrap IntKind.i64 ((5 : Int) + (0 : Int)) = (readF (600 : Int) s a m y).fst.fst ∧
 List.length (readF (600 : Int) s a m y).fst.snd = (0 : Nat) ∧
 IntKind.wrap IntKind.i64
 (a +
 (nextT
 (ByteArray.extract s (Int.toNat a) (Int.toNat (min (↑(ByteArray.size s) : Int) (IntKind.wrap IntKind.i64 (a + (600 : Int))))),
 (0 : Int))).fst) =
 (readF (600 : Int) s a m y).snd.fst ∧
 (0 : Int) = (readF (600 : Int) s a m y).snd.snd.fst ∧ (0 : Int) = (readF (600 : Int) s a m y).snd.snd.snd)) ∧
 (((23 : Int) == (0 : Int)) = false →
 (((23 : Int) != (0 : Int)) = true →
 (0 : Int) = (readF (600 : Int) s a m y).fst.fst ∧
 List.length (readF (600 : Int) s a m y).fst.snd = (0 : Nat) ∧
 (0 : Int) = (readF (600 : Int) s a m y).snd.fst ∧
 (23 : Int) = (readF (600 : Int) s a m y).snd.snd.fst ∧ a = (readF (600 : Int) s a m y).snd.snd.snd) ∧
 (((23 : Int) != (0 : Int)) = false →
 ByteArray.size (ByteArray.extract s (Int.toNat a) (Int.toNat (min (↑(ByteArray.size s) : Int) (IntKind.wrap IntKind.i64 (a + (600 : Int)))))) ≤
 (9223372036854775807 : Nat) ∧
 IntKind.wrap IntKind.i64 ((5 : Int) + (0 : Int)) = (readF (600 : Int) s a m y).fst.fst ∧
 List.length (readF (600 : Int) s a m y).fst.snd = (0 : Nat) ∧
 IntKind.wrap IntKind.i64
 (a +
 (nextT
 (ByteArray.extract s (Int.toNat a) (Int.toNat (min (↑(ByteArray.size s) : Int) (IntKind.wrap IntKind.i64 (a + (600 : Int))))),
 (0 : Int))).fst) =
 (readF (600 : Int) s a m y).snd.fst ∧
 (0 : Int) = (readF (600 : Int) s a m y).snd.snd.fst ∧ (0 : Int) = (readF (600 : Int) s a m y).snd.snd.snd))))))))))
theorem readR_e (s : ByteArray) (a m y : Int) : readR_t s a m y = vcG Tryz.prog (Gof G8m) (fun _ => none) Tryz.f48 [.v (.string s), .v (.int .i64 a), .v (.int .i64 m), .v (.int .i64 y)] [] (.leaf ((.tu [.ag [.v (.int .i64 (readF 600 s a m y).1.1), .dat (.ints .i64 (readF 600 s a m y).1.2)], .v (.int .i64 (readF 600 s a m y).2.1), .ag [.v (.int .i64 (readF 600 s a m y).2.2.1), .v (.int .i64 (readF 600 s a m y).2.2.2)]])) ([])) := by kernel_rfl
end Go.Proofs.YtcoogfifjibkhaaGreat
namespace Go.Proofs.YtcoogfifjibkhaaGreat
open Go Go.RowKit
set_option linter.unusedVariables false
set_option maxRecDepth 100000
def dtake_t (n : Int) (s : ByteArray) (b : Int) : Prop :=
 ByteArray.size (s, b).fst ≤ (9223372036854775807 : Nat) ∧
 (((takeT (s, b) n).snd.snd != (0 : Int)) = true →
 ((takeT (s, b) n).snd.snd = (0 : Int) → (0 : Int) = (takeT (s, b) n).snd.fst ∧ False ∧ s = (takeT (s, b) n).fst.fst ∧ b = (takeT (s, b) n).fst.snd) ∧
 (¬(takeT (s, b) n).snd.snd = (0 : Int) → (0 : Int) = (0 : Int) ∧ (takeT (s, b) n).snd.snd = (takeT (s, b) n).snd.snd ∧ s = s ∧ b = b)) ∧
 (((takeT (s, b) n).snd.snd != (0 : Int)) = false →
 ((takeT (s, b) n).snd.snd = (0 : Int) →
 (takeT (s, b) n).snd.fst = (takeT (s, b) n).snd.fst ∧
 Value.nilIface = Value.nilIface ∧ (takeT (s, b) n).fst.fst = (takeT (s, b) n).fst.fst ∧ (takeT (s, b) n).fst.snd = (takeT (s, b) n).fst.snd) ∧
 (¬(takeT (s, b) n).snd.snd = (0 : Int) → (takeT (s, b) n).snd.fst = (0 : Int) ∧ False ∧ (takeT (s, b) n).fst.fst = s ∧ (takeT (s, b) n).fst.snd = b))
theorem dtake_e (n : Int) (s : ByteArray) (b : Int) : dtake_t n s b = vcG Tryz.prog (Gof G8i) (fun _ => none) Tryz.f102 [.p 0 0 0, .v (.int .i64 n)] [(0, .cells 100 [.v (.string s), .v (.int .i64 b)])] (.ite ⟨(takeT (s, b) n).2.2 = 0, inferInstance⟩ (.leaf (.tu [.v (.int .i64 (takeT (s, b) n).2.1), .v .nilIface]) ([(0, rC (takeT (s, b) n).1)])) (.leaf (.tu [.v (.int .i64 0), errB (takeT (s, b) n).2.2]) ([(0, rC (s, b))]))) := by kernel_rfl
def rtake8_t (n : Int) (s : ByteArray) (b : Int) : Prop :=
 ByteArray.size (s, b).fst ≤ (9223372036854775807 : Nat) ∧
 (((takeT (s, b) n).snd.snd != (0 : Int)) = true →
 ((takeT (s, b) n).snd.snd = (0 : Int) → (0 : Int) = (takeT (s, b) n).snd.fst ∧ s = (takeT (s, b) n).fst.fst ∧ b = (takeT (s, b) n).fst.snd ∧ (23 : Int) = (0 : Int)) ∧
 (¬(takeT (s, b) n).snd.snd = (0 : Int) → (0 : Int) = (0 : Int) ∧ s = s ∧ b = b ∧ (23 : Int) = (23 : Int))) ∧
 (((takeT (s, b) n).snd.snd != (0 : Int)) = false →
 ((takeT (s, b) n).snd.snd = (0 : Int) →
 (takeT (s, b) n).snd.fst = (takeT (s, b) n).snd.fst ∧ (takeT (s, b) n).fst.fst = (takeT (s, b) n).fst.fst ∧ (takeT (s, b) n).fst.snd = (takeT (s, b) n).fst.snd ∧ (0 : Int) = (0 : Int)) ∧
 (¬(takeT (s, b) n).snd.snd = (0 : Int) → (takeT (s, b) n).snd.fst = (0 : Int) ∧ (takeT (s, b) n).fst.fst = s ∧ (takeT (s, b) n).fst.snd = b ∧ (0 : Int) = (23 : Int)))
theorem rtake8_e (n : Int) (s : ByteArray) (b : Int) : rtake8_t n s b = vcG Tryz.prog (Gof G8i) (fun _ => none) Tryz.f77 [.p 0 0 0, .v (.int .i64 n)] [(0, .cells 110 [.v (.string s), .v (.int .i64 b), .v (.int .i64 0)])] (.ite ⟨(takeT (s, b) n).2.2 = 0, inferInstance⟩ (.leaf (.v (.int .i64 (takeT (s, b) n).2.1)) ([(0, xC (takeT (s, b) n).1 0)])) (.leaf (.v (.int .i64 0)) ([(0, xC (s, b) 23)]))) := by kernel_rfl
def dread_t (m y : Int) (s : ByteArray) (b : Int) : Prop :=
 ((takeT (s, b) (4 : Int)).snd.snd = (0 : Int) →
 ByteArray.size s ≤ (9223372036854775807 : Nat) ∧
 (decide (IntKind.wrap IntKind.i64 ((takeT (s, b) (4 : Int)).snd.fst + (5 : Int)) > m) = true →
 ((rdA (s, b) m y).snd.snd = (0 : Int) →
 (0 : Int) = logR (s, b) ∧
 List.length (rdA (s, b) m y).snd.fst = (0 : Nat) ∧ False ∧ (takeT (s, b) (4 : Int)).fst.fst = (rdA (s, b) m y).fst.fst ∧ (takeT (s, b) (4 : Int)).fst.snd = (rdA (s, b) m y).fst.snd) ∧
 (¬(rdA (s, b) m y).snd.snd = (0 : Int) → (0 : Int) = (0 : Int) ∧ (0 : Nat) = (0 : Nat) ∧ (31 : Int) = (rdA (s, b) m y).snd.snd)) ∧
 (decide (IntKind.wrap IntKind.i64 ((takeT (s, b) (4 : Int)).snd.fst + (5 : Int)) > m) = false →
 (0 : Int) ≤ IntKind.wrap IntKind.i64 ((takeT (s, b) (4 : Int)).snd.fst + (5 : Int)) ∧
 (∃ (x0 : Nat × R2 × Int × List Int),
 (rdR y x0.fst x0.snd.fst x0.snd.snd.fst x0.snd.snd.snd = rdA (s, b) m y ∧
 y + (1 : Int) ≤ (↑x0.fst : Int) + (↑(List.length x0.snd.snd.snd) : Int) ∧
 (↑(List.length x0.snd.snd.snd) : Int) ≤ y ∧ (0 : Int) ≤ x0.snd.snd.fst ∧ x0.snd.snd.fst ≤ (4096 : Int) ∧ ByteArray.size x0.snd.fst.fst ≤ (9223372036854775807 : Nat)) ∧
 y = y ∧
 IntKind.wrap IntKind.i64 ((1 : Int) * (2 : Int) ^ min (Int.toNat (IntKind.wrap IntKind.i64 ((takeT (s, b) (4 : Int)).snd.fst + (5 : Int)))) (IntKind.bits IntKind.i64)) =
 x0.snd.snd.fst ∧
 (takeT (s, b) (4 : Int)).fst.fst = x0.snd.fst.fst ∧
 (takeT (s, b) (4 : Int)).fst.snd = x0.snd.fst.snd ∧
 IntKind.wrap IntKind.i64 ((takeT (s, b) (4 : Int)).snd.fst + (5 : Int)) = logR (s, b) ∧ List.length x0.snd.snd.snd = (0 : Nat)) ∧
 ∀ (x1 : Nat × R2 × Int × List Int),
 rdR y x1.fst x1.snd.fst x1.snd.snd.fst x1.snd.snd.snd = rdA (s, b) m y ∧
 y + (1 : Int) ≤ (↑x1.fst : Int) + (↑(List.length x1.snd.snd.snd) : Int) ∧
 (↑(List.length x1.snd.snd.snd) : Int) ≤ y ∧ (0 : Int) ≤ x1.snd.snd.fst ∧ x1.snd.snd.fst ≤ (4096 : Int) ∧ ByteArray.size x1.snd.fst.fst ≤ (9223372036854775807 : Nat) →
 (decide (x1.snd.snd.fst > (0 : Int)) = true →
 (0 : Int) ≤ x1.snd.snd.fst ∧
 x1.snd.snd.fst ≤ (1073741824 : Int) ∧
 ((takeT (x1.snd.fst.fst, x1.snd.fst.snd) (IntKind.wrap IntKind.i64 (shB x1.snd.snd.fst - (1 : Int)))).snd.snd = (0 : Int) →
 ByteArray.size x1.snd.fst.fst ≤ (9223372036854775807 : Nat) ∧
 ∃ (g2 : Nat × R2 × Int × List Int),
 ((decide ((takeT (x1.snd.fst.fst, x1.snd.fst.snd) (IntKind.wrap IntKind.i64 (shB x1.snd.snd.fst - (1 : Int)))).snd.fst ≥ shT x1.snd.snd.fst) = true →
 ((takeT
 ((takeT (x1.snd.fst.fst, x1.snd.fst.snd) (IntKind.wrap IntKind.i64 (shB x1.snd.snd.fst - (1 : Int)))).fst.fst,
 (takeT (x1.snd.fst.fst, x1.snd.fst.snd) (IntKind.wrap IntKind.i64 (shB x1.snd.snd.fst - (1 : Int)))).fst.snd)
 (1 : Int)).snd.snd =
 (0 : Int) →
 ByteArray.size (takeT (x1.snd.fst.fst, x1.snd.fst.snd) (IntKind.wrap IntKind.i64 (shB x1.snd.snd.fst - (1 : Int)))).fst.fst ≤ (9223372036854775807 : Nat) ∧
 (0 : Int) ≤ IntKind.wrap IntKind.i64 (shB x1.snd.snd.fst - (1 : Int)) ∧
 (0 : Int) ≤ IntKind.wrap IntKind.i64 (shB x1.snd.snd.fst - (1 : Int)) ∧
 (decide
 (IntKind.wrap IntKind.i64
 ((takeT (x1.snd.fst.fst, x1.snd.fst.snd) (IntKind.wrap IntKind.i64 (shB x1.snd.snd.fst - (1 : Int)))).snd.fst +
 IntKind.wrap IntKind.i64
 ((takeT
 ((takeT (x1.snd.fst.fst, x1.snd.fst.snd) (IntKind.wrap IntKind.i64 (shB x1.snd.snd.fst - (1 : Int)))).fst.fst,
 (takeT (x1.snd.fst.fst, x1.snd.fst.snd) (IntKind.wrap IntKind.i64 (shB x1.snd.snd.fst - (1 : Int)))).fst.snd)
 (1 : Int)).snd.fst *
 (2 : Int) ^ min (Int.toNat (IntKind.wrap IntKind.i64 (shB x1.snd.snd.fst - (1 : Int)))) (IntKind.bits IntKind.i64))) ≥
 IntKind.wrap IntKind.i64
 ((1 : Int) * (2 : Int) ^ min (Int.toNat (IntKind.wrap IntKind.i64 (shB x1.snd.snd.fst - (1 : Int)))) (IntKind.bits IntKind.i64))) =
 true →
 ∃ (x3 : R2 × Int),
 (valR g2.snd.fst g2.snd.snd.fst = (x3.fst, x3.snd, (0 : Int)) ∧
 rdR y g2.fst g2.snd.fst g2.snd.snd.fst g2.snd.snd.snd = rdA (s, b) m y ∧
 (0 : Int) < g2.snd.snd.fst ∧ g2.snd.snd.fst ≤ (4096 : Int) ∧ ByteArray.size x3.fst.fst ≤ (9223372036854775807 : Nat)) ∧
 y = y ∧
 x1.snd.snd.fst = g2.snd.snd.fst ∧
 IntKind.wrap IntKind.i64
 (IntKind.wrap IntKind.i64
 ((takeT (x1.snd.fst.fst, x1.snd.fst.snd) (IntKind.wrap IntKind.i64 (shB x1.snd.snd.fst - (1 : Int)))).snd.fst +
 IntKind.wrap IntKind.i64
 ((takeT
 ((takeT (x1.snd.fst.fst, x1.snd.fst.snd) (IntKind.wrap IntKind.i64 (shB x1.snd.snd.fst - (1 : Int)))).fst.fst,
 (takeT (x1.snd.fst.fst, x1.snd.fst.snd) (IntKind.wrap IntKind.i64 (shB x1.snd.snd.fst - (1 : Int)))).fst.snd)
 (1 : Int)).snd.fst *
 (2 : Int) ^ min (Int.toNat (IntKind.wrap IntKind.i64 (shB x1.snd.snd.fst - (1 : Int)))) (IntKind.bits IntKind.i64))) -
 shT x1.snd.snd.fst) =
 x3.snd ∧
 (takeT
 ((takeT (x1.snd.fst.fst, x1.snd.fst.snd) (IntKind.wrap IntKind.i64 (shB x1.snd.snd.fst - (1 : Int)))).fst.fst,
 (takeT (x1.snd.fst.fst, x1.snd.fst.snd) (IntKind.wrap IntKind.i64 (shB x1.snd.snd.fst - (1 : Int)))).fst.snd)
 (1 : Int)).fst.fst =
 x3.fst.fst ∧
 (takeT
 ((takeT (x1.snd.fst.fst, x1.snd.fst.snd) (IntKind.wrap IntKind.i64 (shB x1.snd.snd.fst - (1 : Int)))).fst.fst,
 (takeT (x1.snd.fst.fst, x1.snd.fst.snd) (IntKind.wrap IntKind.i64 (shB x1.snd.snd.fst - (1 : Int)))).fst.snd)
 (1 : Int)).fst.snd =
 x3.fst.snd ∧
 logR (s, b) = logR (s, b) ∧ x1.snd.snd.snd = g2.snd.snd.snd) ∧
 (decide
 (IntKind.wrap IntKind.i64
 ((takeT (x1.snd.fst.fst, x1.snd.fst.snd) (IntKind.wrap IntKind.i64 (shB x1.snd.snd.fst - (1 : Int)))).snd.fst +
 IntKind.wrap IntKind.i64
 ((takeT
 ((takeT (x1.snd.fst.fst, x1.snd.fst.snd) (IntKind.wrap IntKind.i64 (shB x1.snd.snd.fst - (1 : Int)))).fst.fst,
 (takeT (x1.snd.fst.fst, x1.snd.fst.snd) (IntKind.wrap IntKind.i64 (shB x1.snd.snd.fst - (1 : Int)))).fst.snd)
 (1 : Int)).snd.fst *
 (2 : Int) ^ min (Int.toNat (IntKind.wrap IntKind.i64 (shB x1.snd.snd.fst - (1 : Int)))) (IntKind.bits IntKind.i64))) ≥
 IntKind.wrap IntKind.i64
 ((1 : Int) * (2 : Int) ^ min (Int.toNat (IntKind.wrap IntKind.i64 (shB x1.snd.snd.fst - (1 : Int)))) (IntKind.bits IntKind.i64))) =
 false →
 ∃ (x4 : R2 × Int),
 (valR g2.snd.fst g2.snd.snd.fst = (x4.fst, x4.snd, (0 : Int)) ∧
 rdR y g2.fst g2.snd.fst g2.snd.snd.fst g2.snd.snd.snd = rdA (s, b) m y ∧
 (0 : Int) < g2.snd.snd.fst ∧ g2.snd.snd.fst ≤ (4096 : Int) ∧ ByteArray.size x4.fst.fst ≤ (9223372036854775807 : Nat)) ∧
 y = y ∧
 x1.snd.snd.fst = g2.snd.snd.fst ∧
 IntKind.wrap IntKind.i64
 ((takeT (x1.snd.fst.fst, x1.snd.fst.snd) (IntKind.wrap IntKind.i64 (shB x1.snd.snd.fst - (1 : Int)))).snd.fst +
 IntKind.wrap IntKind.i64
 ((takeT
 ((takeT (x1.snd.fst.fst, x1.snd.fst.snd) (IntKind.wrap IntKind.i64 (shB x1.snd.snd.fst - (1 : Int)))).fst.fst,
 (takeT (x1.snd.fst.fst, x1.snd.fst.snd) (IntKind.wrap IntKind.i64 (shB x1.snd.snd.fst - (1 : Int)))).fst.snd)
 (1 : Int)).snd.fst *
 (2 : Int) ^ min (Int.toNat (IntKind.wrap IntKind.i64 (shB x1.snd.snd.fst - (1 : Int)))) (IntKind.bits IntKind.i64))) =
 x4.snd ∧
 (takeT
 ((takeT (x1.snd.fst.fst, x1.snd.fst.snd) (IntKind.wrap IntKind.i64 (shB x1.snd.snd.fst - (1 : Int)))).fst.fst,
 (takeT (x1.snd.fst.fst, x1.snd.fst.snd) (IntKind.wrap IntKind.i64 (shB x1.snd.snd.fst - (1 : Int)))).fst.snd)
 (1 : Int)).fst.fst =
 x4.fst.fst ∧
 (takeT
 ((takeT (x1.snd.fst.fst, x1.snd.fst.snd) (IntKind.wrap IntKind.i64 (shB x1.snd.snd.fst - (1 : Int)))).fst.fst,
 (takeT (x1.snd.fst.fst, x1.snd.fst.snd) (IntKind.wrap IntKind.i64 (shB x1.snd.snd.fst - (1 : Int)))).fst.snd)
 (1 : Int)).fst.snd =
 x4.fst.snd ∧
 logR (s, b) = logR (s, b) ∧ x1.snd.snd.snd = g2.snd.snd.snd)) ∧
 (¬(takeT
 ((takeT (x1.snd.fst.fst, x1.snd.fst.snd) (IntKind.wrap IntKind.i64 (shB x1.snd.snd.fst - (1 : Int)))).fst.fst,
 (takeT (x1.snd.fst.fst, x1.snd.fst.snd) (IntKind.wrap IntKind.i64 (shB x1.snd.snd.fst - (1 : Int)))).fst.snd)
 (1 : Int)).snd.snd =
 (0 : Int) →
 ByteArray.size (takeT (x1.snd.fst.fst, x1.snd.fst.snd) (IntKind.wrap IntKind.i64 (shB x1.snd.snd.fst - (1 : Int)))).fst.fst ≤ (9223372036854775807 : Nat) ∧
 ((rdA (s, b) m y).snd.snd = (0 : Int) →
 (0 : Int) = logR (s, b) ∧
 List.length (rdA (s, b) m y).snd.fst = (0 : Nat) ∧
 False ∧
 (takeT (x1.snd.fst.fst, x1.snd.fst.snd) (IntKind.wrap IntKind.i64 (shB x1.snd.snd.fst - (1 : Int)))).fst.fst = (rdA (s, b) m y).fst.fst ∧
 (takeT (x1.snd.fst.fst, x1.snd.fst.snd) (IntKind.wrap IntKind.i64 (shB x1.snd.snd.fst - (1 : Int)))).fst.snd = (rdA (s, b) m y).fst.snd) ∧
 (¬(rdA (s, b) m y).snd.snd = (0 : Int) →
 (0 : Int) = (0 : Int) ∧
 (0 : Nat) = (0 : Nat) ∧
 (takeT
 ((takeT (x1.snd.fst.fst, x1.snd.fst.snd) (IntKind.wrap IntKind.i64 (shB x1.snd.snd.fst - (1 : Int)))).fst.fst,
 (takeT (x1.snd.fst.fst, x1.snd.fst.snd) (IntKind.wrap IntKind.i64 (shB x1.snd.snd.fst - (1 : Int)))).fst.snd)
 (1 : Int)).snd.snd =
 (rdA (s, b) m y).snd.snd))) ∧
 (decide ((takeT (x1.snd.fst.fst, x1.snd.fst.snd) (IntKind.wrap IntKind.i64 (shB x1.snd.snd.fst - (1 : Int)))).snd.fst ≥ shT x1.snd.snd.fst) = false →
 ∃ (x5 : R2 × Int),
 (valR g2.snd.fst g2.snd.snd.fst = (x5.fst, x5.snd, (0 : Int)) ∧
 rdR y g2.fst g2.snd.fst g2.snd.snd.fst g2.snd.snd.snd = rdA (s, b) m y ∧
 (0 : Int) < g2.snd.snd.fst ∧ g2.snd.snd.fst ≤ (4096 : Int) ∧ ByteArray.size x5.fst.fst ≤ (9223372036854775807 : Nat)) ∧
 y = y ∧
 x1.snd.snd.fst = g2.snd.snd.fst ∧
 (takeT (x1.snd.fst.fst, x1.snd.fst.snd) (IntKind.wrap IntKind.i64 (shB x1.snd.snd.fst - (1 : Int)))).snd.fst = x5.snd ∧
 (takeT (x1.snd.fst.fst, x1.snd.fst.snd) (IntKind.wrap IntKind.i64 (shB x1.snd.snd.fst - (1 : Int)))).fst.fst = x5.fst.fst ∧
 (takeT (x1.snd.fst.fst, x1.snd.fst.snd) (IntKind.wrap IntKind.i64 (shB x1.snd.snd.fst - (1 : Int)))).fst.snd = x5.fst.snd ∧
 logR (s, b) = logR (s, b) ∧ x1.snd.snd.snd = g2.snd.snd.snd)) ∧
 ∀ (x6 : R2 × Int),
 valR g2.snd.fst g2.snd.snd.fst = (x6.fst, x6.snd, (0 : Int)) ∧
 rdR y g2.fst g2.snd.fst g2.snd.snd.fst g2.snd.snd.snd = rdA (s, b) m y ∧
 (0 : Int) < g2.snd.snd.fst ∧ g2.snd.snd.fst ≤ (4096 : Int) ∧ ByteArray.size x6.fst.fst ≤ (9223372036854775807 : Nat) →
 (((↑(List.length g2.snd.snd.snd) : Int) == y) = true →
 ((rdA (s, b) m y).snd.snd = (0 : Int) →
 (0 : Int) = logR (s, b) ∧
 List.length (rdA (s, b) m y).snd.fst = (0 : Nat) ∧ False ∧ x6.fst.fst = (rdA (s, b) m y).fst.fst ∧ x6.fst.snd = (rdA (s, b) m y).fst.snd) ∧
 (¬(rdA (s, b) m y).snd.snd = (0 : Int) → (0 : Int) = (0 : Int) ∧ (0 : Nat) = (0 : Nat) ∧ (23 : Int) = (rdA (s, b) m y).snd.snd)) ∧
 (((↑(List.length g2.snd.snd.snd) : Int) == y) = false →
 (List.length g2.snd.snd.snd + (1 : Nat)) * (8 : Nat) ≤ (140737488355328 : Nat) ∧
 ((x6.snd != (1 : Int)) = true →
 ∃ (y7 : Nat × R2 × Int × List Int),
 (rdR y y7.fst y7.snd.fst y7.snd.snd.fst y7.snd.snd.snd = rdA (s, b) m y ∧
 y + (1 : Int) ≤ (↑y7.fst : Int) + (↑(List.length y7.snd.snd.snd) : Int) ∧
 (↑(List.length y7.snd.snd.snd) : Int) ≤ y ∧
 (0 : Int) ≤ y7.snd.snd.fst ∧ y7.snd.snd.fst ≤ (4096 : Int) ∧ ByteArray.size y7.snd.fst.fst ≤ (9223372036854775807 : Nat)) ∧
 y7.1 < x1.1 ∧
 y = y ∧
 IntKind.wrap IntKind.i64 (g2.snd.snd.fst - max (IntKind.wrap IntKind.i64 (x6.snd - (1 : Int))) (1 : Int)) = y7.snd.snd.fst ∧
 x6.fst.fst = y7.snd.fst.fst ∧
 x6.fst.snd = y7.snd.fst.snd ∧
 logR (s, b) = logR (s, b) ∧ g2.snd.snd.snd ++ [IntKind.wrap IntKind.i64 (x6.snd - (1 : Int))] = y7.snd.snd.snd) ∧
 ((x6.snd != (1 : Int)) = false →
 ∃ (g8 : Nat × Int),
 (∃ (x9 : Int × Nat × R2 × List Int),
 (contZ y g8.fst g8.snd
 (bif x9.fst == (3 : Int) then flR y x9.snd.fst x9.snd.snd.fst x9.snd.snd.snd else (x9.snd.snd.fst, x9.snd.snd.snd, (0 : Int))) =
 rdA (s, b) m y ∧
 (x9.fst = (3 : Int) → y + (1 : Int) ≤ (↑x9.snd.fst : Int) + (↑(List.length x9.snd.snd.snd) : Int)) ∧
 y + (1 : Int) ≤ (↑g8.fst : Int) + (↑(List.length x9.snd.snd.snd) : Int) ∧
 (↑(List.length x9.snd.snd.snd) : Int) ≤ y ∧ ByteArray.size x9.snd.snd.fst.fst ≤ (9223372036854775807 : Nat)) ∧
 y = y ∧
 g2.snd.snd.fst = g8.snd ∧
 (3 : Int) = x9.fst ∧
 x6.fst.fst = x9.snd.snd.fst.fst ∧
 x6.fst.snd = x9.snd.snd.fst.snd ∧
 logR (s, b) = logR (s, b) ∧ g2.snd.snd.snd ++ [IntKind.wrap IntKind.i64 (x6.snd - (1 : Int))] = x9.snd.snd.snd) ∧
 ∀ (x10 : Int × Nat × R2 × List Int),
 contZ y g8.fst g8.snd
 (bif x10.fst == (3 : Int) then flR y x10.snd.fst x10.snd.snd.fst x10.snd.snd.snd else (x10.snd.snd.fst, x10.snd.snd.snd, (0 : Int))) =
 rdA (s, b) m y ∧
 (x10.fst = (3 : Int) → y + (1 : Int) ≤ (↑x10.snd.fst : Int) + (↑(List.length x10.snd.snd.snd) : Int)) ∧
 y + (1 : Int) ≤ (↑g8.fst : Int) + (↑(List.length x10.snd.snd.snd) : Int) ∧
 (↑(List.length x10.snd.snd.snd) : Int) ≤ y ∧ ByteArray.size x10.snd.snd.fst.fst ≤ (9223372036854775807 : Nat) →
 ((x10.fst == (3 : Int)) = true →
 ((takeT (x10.snd.snd.fst.fst, x10.snd.snd.fst.snd) (2 : Int)).snd.snd = (0 : Int) →
 ByteArray.size x10.snd.snd.fst.fst ≤ (9223372036854775807 : Nat) ∧
 (decide
 (IntKind.wrap IntKind.i64
 ((↑(List.length x10.snd.snd.snd) : Int) + (takeT (x10.snd.snd.fst.fst, x10.snd.snd.fst.snd) (2 : Int)).snd.fst) >
 y) =
 true →
 ((rdA (s, b) m y).snd.snd = (0 : Int) →
 (0 : Int) = logR (s, b) ∧
 List.length (rdA (s, b) m y).snd.fst = (0 : Nat) ∧
 False ∧
 (takeT (x10.snd.snd.fst.fst, x10.snd.snd.fst.snd) (2 : Int)).fst.fst = (rdA (s, b) m y).fst.fst ∧
 (takeT (x10.snd.snd.fst.fst, x10.snd.snd.fst.snd) (2 : Int)).fst.snd = (rdA (s, b) m y).fst.snd) ∧
 (¬(rdA (s, b) m y).snd.snd = (0 : Int) →
 (0 : Int) = (0 : Int) ∧ (0 : Nat) = (0 : Nat) ∧ (23 : Int) = (rdA (s, b) m y).snd.snd)) ∧
 (decide
 (IntKind.wrap IntKind.i64
 ((↑(List.length x10.snd.snd.snd) : Int) + (takeT (x10.snd.snd.fst.fst, x10.snd.snd.fst.snd) (2 : Int)).snd.fst) >
 y) =
 false →
 (0 : Int) ≤ (takeT (x10.snd.snd.fst.fst, x10.snd.snd.fst.snd) (2 : Int)).snd.fst ∧
 (takeT (x10.snd.snd.fst.fst, x10.snd.snd.fst.snd) (2 : Int)).snd.fst ≤ (4294967296 : Int) ∧
 (List.length x10.snd.snd.snd +
 List.length
 (List.replicate (Int.toNat (takeT (x10.snd.snd.fst.fst, x10.snd.snd.fst.snd) (2 : Int)).snd.fst) (0 : Int))) *
 (8 : Nat) ≤
 (140737488355328 : Nat) ∧
 ∃ (y11 : Int × Nat × R2 × List Int),
 (contZ y g8.fst g8.snd
 (bif y11.fst == (3 : Int) then flR y y11.snd.fst y11.snd.snd.fst y11.snd.snd.snd
 else (y11.snd.snd.fst, y11.snd.snd.snd, (0 : Int))) =
 rdA (s, b) m y ∧
 (y11.fst = (3 : Int) → y + (1 : Int) ≤ (↑y11.snd.fst : Int) + (↑(List.length y11.snd.snd.snd) : Int)) ∧
 y + (1 : Int) ≤ (↑g8.fst : Int) + (↑(List.length y11.snd.snd.snd) : Int) ∧
 (↑(List.length y11.snd.snd.snd) : Int) ≤ y ∧ ByteArray.size y11.snd.snd.fst.fst ≤ (9223372036854775807 : Nat)) ∧
 ((match y11.fst == (3 : Int) with
 | true => y11.snd.fst + (1 : Nat)
 | false => (0 : Nat)) <
 match x10.fst == (3 : Int) with
 | true => x10.snd.fst + (1 : Nat)
 | false => (0 : Nat)) ∧
 y = y ∧
 g8.snd = g8.snd ∧
 (takeT (x10.snd.snd.fst.fst, x10.snd.snd.fst.snd) (2 : Int)).snd.fst = y11.fst ∧
 (takeT (x10.snd.snd.fst.fst, x10.snd.snd.fst.snd) (2 : Int)).fst.fst = y11.snd.snd.fst.fst ∧
 (takeT (x10.snd.snd.fst.fst, x10.snd.snd.fst.snd) (2 : Int)).fst.snd = y11.snd.snd.fst.snd ∧
 logR (s, b) = logR (s, b) ∧
 x10.snd.snd.snd ++
 List.replicate (Int.toNat (takeT (x10.snd.snd.fst.fst, x10.snd.snd.fst.snd) (2 : Int)).snd.fst)
 (0 : Int) =
 y11.snd.snd.snd)) ∧
 (¬(takeT (x10.snd.snd.fst.fst, x10.snd.snd.fst.snd) (2 : Int)).snd.snd = (0 : Int) →
 ByteArray.size x10.snd.snd.fst.fst ≤ (9223372036854775807 : Nat) ∧
 ((rdA (s, b) m y).snd.snd = (0 : Int) →
 (0 : Int) = logR (s, b) ∧
 List.length (rdA (s, b) m y).snd.fst = (0 : Nat) ∧
 False ∧ x10.snd.snd.fst.fst = (rdA (s, b) m y).fst.fst ∧ x10.snd.snd.fst.snd = (rdA (s, b) m y).fst.snd) ∧
 (¬(rdA (s, b) m y).snd.snd = (0 : Int) →
 (0 : Int) = (0 : Int) ∧
 (0 : Nat) = (0 : Nat) ∧ (takeT (x10.snd.snd.fst.fst, x10.snd.snd.fst.snd) (2 : Int)).snd.snd = (rdA (s, b) m y).snd.snd))) ∧
 ((x10.fst == (3 : Int)) = false →
 ∃ (y12 : Nat × R2 × Int × List Int),
 (rdR y y12.fst y12.snd.fst y12.snd.snd.fst y12.snd.snd.snd = rdA (s, b) m y ∧
 y + (1 : Int) ≤ (↑y12.fst : Int) + (↑(List.length y12.snd.snd.snd) : Int) ∧
 (↑(List.length y12.snd.snd.snd) : Int) ≤ y ∧
 (0 : Int) ≤ y12.snd.snd.fst ∧ y12.snd.snd.fst ≤ (4096 : Int) ∧ ByteArray.size y12.snd.fst.fst ≤ (9223372036854775807 : Nat)) ∧
 y12.1 < x1.1 ∧
 y = y ∧
 g8.snd = y12.snd.snd.fst ∧
 x10.snd.snd.fst.fst = y12.snd.fst.fst ∧
 x10.snd.snd.fst.snd = y12.snd.fst.snd ∧ logR (s, b) = logR (s, b) ∧ x10.snd.snd.snd = y12.snd.snd.snd)))) ∧
 (¬(takeT (x1.snd.fst.fst, x1.snd.fst.snd) (IntKind.wrap IntKind.i64 (shB x1.snd.snd.fst - (1 : Int)))).snd.snd = (0 : Int) →
 ByteArray.size x1.snd.fst.fst ≤ (9223372036854775807 : Nat) ∧
 ((rdA (s, b) m y).snd.snd = (0 : Int) →
 (0 : Int) = logR (s, b) ∧
 List.length (rdA (s, b) m y).snd.fst = (0 : Nat) ∧ False ∧ x1.snd.fst.fst = (rdA (s, b) m y).fst.fst ∧ x1.snd.fst.snd = (rdA (s, b) m y).fst.snd) ∧
 (¬(rdA (s, b) m y).snd.snd = (0 : Int) →
 (0 : Int) = (0 : Int) ∧
 (0 : Nat) = (0 : Nat) ∧
 (takeT (x1.snd.fst.fst, x1.snd.fst.snd) (IntKind.wrap IntKind.i64 (shB x1.snd.snd.fst - (1 : Int)))).snd.snd = (rdA (s, b) m y).snd.snd))) ∧
 (decide (x1.snd.snd.fst > (0 : Int)) = false →
 ((rdA (s, b) m y).snd.snd = (0 : Int) →
 logR (s, b) = logR (s, b) ∧
 x1.snd.snd.snd = (rdA (s, b) m y).snd.fst ∧ Value.nilIface = Value.nilIface ∧ x1.snd.fst.fst = (rdA (s, b) m y).fst.fst ∧ x1.snd.fst.snd = (rdA (s, b) m y).fst.snd) ∧
 (¬(rdA (s, b) m y).snd.snd = (0 : Int) → logR (s, b) = (0 : Int) ∧ x1.snd.snd.snd = [] ∧ False)))) ∧
 (¬(takeT (s, b) (4 : Int)).snd.snd = (0 : Int) →
 ByteArray.size s ≤ (9223372036854775807 : Nat) ∧
 ((rdA (s, b) m y).snd.snd = (0 : Int) → (0 : Int) = logR (s, b) ∧ List.length (rdA (s, b) m y).snd.fst = (0 : Nat) ∧ False ∧ s = (rdA (s, b) m y).fst.fst ∧ b = (rdA (s, b) m y).fst.snd) ∧
 (¬(rdA (s, b) m y).snd.snd = (0 : Int) → (0 : Int) = (0 : Int) ∧ (0 : Nat) = (0 : Nat) ∧ (takeT (s, b) (4 : Int)).snd.snd = (rdA (s, b) m y).snd.snd))
theorem dread_e (m y : Int) (s : ByteArray) (b : Int) : dread_t m y s b = vcG Tryz.prog (Gof G8k) (oDRead m y (s, b)) Tryz.f74 [.p 0 0 0, .v (.int .i64 m), .v (.int .i64 y)] [(0, .cells 100 [.v (.string s), .v (.int .i64 b)])] (.ite ⟨(rdA (s, b) m y).2.2 = 0, inferInstance⟩ (.leaf (.tu [.ag [.v (.int .i64 (logR (s, b))), .dat (.ints .i64 (rdA (s, b) m y).2.1)], .v .nilIface]) ([(0, rC (rdA (s, b) m y).1)])) (.leaf (.tu [.ag [.v (.int .i64 0), .dat (.ints .i64 [])], errB (rdA (s, b) m y).2.2]) ([(0, .cells 100 [.any, .any])]))) := by kernel_rfl
def rval_t (g : Int) (s : ByteArray) (b : Int) : Prop :=
 IntKind.wrap IntKind.i64 (g + (1 : Int)) ≤ (9223372036854775807 : Int) ∧
 (0 : Int) ≤ IntKind.wrap IntKind.u64 (hiI (IntKind.wrap IntKind.i64 (g + (1 : Int))) + (1 : Int)) ∧
 ((takeT (s, b) (IntKind.wrap IntKind.i64 (hiI (IntKind.wrap IntKind.i64 (g + (1 : Int))) + (1 : Int) - (1 : Int)))).snd.snd = (0 : Int) →
 ByteArray.size s ≤ (9223372036854775807 : Nat) ∧
 (((0 : Int) != (0 : Int)) = true →
 ((valR (s, b) g).snd.snd = (0 : Int) →
 (takeT (s, b) (IntKind.wrap IntKind.i64 (hiI (IntKind.wrap IntKind.i64 (g + (1 : Int))) + (1 : Int) - (1 : Int)))).snd.fst = (valR (s, b) g).snd.fst ∧
 (takeT (s, b) (IntKind.wrap IntKind.i64 (hiI (IntKind.wrap IntKind.i64 (g + (1 : Int))) + (1 : Int) - (1 : Int)))).fst.fst = (valR (s, b) g).fst.fst ∧
 (takeT (s, b) (IntKind.wrap IntKind.i64 (hiI (IntKind.wrap IntKind.i64 (g + (1 : Int))) + (1 : Int) - (1 : Int)))).fst.snd = (valR (s, b) g).fst.snd ∧ (0 : Int) = (0 : Int)) ∧
 (¬(valR (s, b) g).snd.snd = (0 : Int) →
 (takeT (s, b) (IntKind.wrap IntKind.i64 (hiI (IntKind.wrap IntKind.i64 (g + (1 : Int))) + (1 : Int) - (1 : Int)))).snd.fst = (0 : Int) ∧
 (takeT (s, b) (IntKind.wrap IntKind.i64 (hiI (IntKind.wrap IntKind.i64 (g + (1 : Int))) + (1 : Int) - (1 : Int)))).fst.fst = s ∧
 (takeT (s, b) (IntKind.wrap IntKind.i64 (hiI (IntKind.wrap IntKind.i64 (g + (1 : Int))) + (1 : Int) - (1 : Int)))).fst.snd = b ∧ (0 : Int) = (23 : Int))) ∧
 (((0 : Int) != (0 : Int)) = false →
 (decide
 ((takeT (s, b) (IntKind.wrap IntKind.i64 (hiI (IntKind.wrap IntKind.i64 (g + (1 : Int))) + (1 : Int) - (1 : Int)))).snd.fst <
 IntKind.wrap IntKind.i64
 (IntKind.wrap IntKind.i64
 (IntKind.wrap IntKind.i64
 ((1 : Int) * (2 : Int) ^ min (Int.toNat (IntKind.wrap IntKind.u64 (hiI (IntKind.wrap IntKind.i64 (g + (1 : Int))) + (1 : Int)))) (IntKind.bits IntKind.i64)) -
 (1 : Int)) -
 IntKind.wrap IntKind.i64 (g + (1 : Int)))) =
 true →
 ((valR (s, b) g).snd.snd = (0 : Int) →
 (takeT (s, b) (IntKind.wrap IntKind.i64 (hiI (IntKind.wrap IntKind.i64 (g + (1 : Int))) + (1 : Int) - (1 : Int)))).snd.fst = (valR (s, b) g).snd.fst ∧
 (takeT (s, b) (IntKind.wrap IntKind.i64 (hiI (IntKind.wrap IntKind.i64 (g + (1 : Int))) + (1 : Int) - (1 : Int)))).fst.fst = (valR (s, b) g).fst.fst ∧
 (takeT (s, b) (IntKind.wrap IntKind.i64 (hiI (IntKind.wrap IntKind.i64 (g + (1 : Int))) + (1 : Int) - (1 : Int)))).fst.snd = (valR (s, b) g).fst.snd ∧
 (0 : Int) = (0 : Int)) ∧
 (¬(valR (s, b) g).snd.snd = (0 : Int) →
 (takeT (s, b) (IntKind.wrap IntKind.i64 (hiI (IntKind.wrap IntKind.i64 (g + (1 : Int))) + (1 : Int) - (1 : Int)))).snd.fst = (0 : Int) ∧
 (takeT (s, b) (IntKind.wrap IntKind.i64 (hiI (IntKind.wrap IntKind.i64 (g + (1 : Int))) + (1 : Int) - (1 : Int)))).fst.fst = s ∧
 (takeT (s, b) (IntKind.wrap IntKind.i64 (hiI (IntKind.wrap IntKind.i64 (g + (1 : Int))) + (1 : Int) - (1 : Int)))).fst.snd = b ∧ (0 : Int) = (23 : Int))) ∧
 (decide
 ((takeT (s, b) (IntKind.wrap IntKind.i64 (hiI (IntKind.wrap IntKind.i64 (g + (1 : Int))) + (1 : Int) - (1 : Int)))).snd.fst <
 IntKind.wrap IntKind.i64
 (IntKind.wrap IntKind.i64
 (IntKind.wrap IntKind.i64
 ((1 : Int) * (2 : Int) ^ min (Int.toNat (IntKind.wrap IntKind.u64 (hiI (IntKind.wrap IntKind.i64 (g + (1 : Int))) + (1 : Int)))) (IntKind.bits IntKind.i64)) -
 (1 : Int)) -
 IntKind.wrap IntKind.i64 (g + (1 : Int)))) =
 false →
 ((takeT (s, b) (hiI (IntKind.wrap IntKind.i64 (g + (1 : Int))) + (1 : Int))).snd.snd = (0 : Int) →
 ByteArray.size s ≤ (9223372036854775807 : Nat) ∧
 (0 : Int) ≤ IntKind.wrap IntKind.u64 (IntKind.wrap IntKind.i64 (hiI (IntKind.wrap IntKind.i64 (g + (1 : Int))) + (1 : Int) - (1 : Int))) ∧
 (decide
 ((takeT (s, b) (hiI (IntKind.wrap IntKind.i64 (g + (1 : Int))) + (1 : Int))).snd.fst ≥
 IntKind.wrap IntKind.i64
 ((1 : Int) *
 (2 : Int) ^
 min (Int.toNat (IntKind.wrap IntKind.u64 (IntKind.wrap IntKind.i64 (hiI (IntKind.wrap IntKind.i64 (g + (1 : Int))) + (1 : Int) - (1 : Int)))))
 (IntKind.bits IntKind.i64))) =
 true →
 ((valR (s, b) g).snd.snd = (0 : Int) →
 IntKind.wrap IntKind.i64
 ((takeT (s, b) (hiI (IntKind.wrap IntKind.i64 (g + (1 : Int))) + (1 : Int))).snd.fst -
 IntKind.wrap IntKind.i64
 (IntKind.wrap IntKind.i64
 (IntKind.wrap IntKind.i64
 ((1 : Int) *
 (2 : Int) ^ min (Int.toNat (IntKind.wrap IntKind.u64 (hiI (IntKind.wrap IntKind.i64 (g + (1 : Int))) + (1 : Int)))) (IntKind.bits IntKind.i64)) -
 (1 : Int)) -
 IntKind.wrap IntKind.i64 (g + (1 : Int)))) =
 (valR (s, b) g).snd.fst ∧
 (takeT (s, b) (hiI (IntKind.wrap IntKind.i64 (g + (1 : Int))) + (1 : Int))).fst.fst = (valR (s, b) g).fst.fst ∧
 (takeT (s, b) (hiI (IntKind.wrap IntKind.i64 (g + (1 : Int))) + (1 : Int))).fst.snd = (valR (s, b) g).fst.snd ∧ (0 : Int) = (0 : Int)) ∧
 (¬(valR (s, b) g).snd.snd = (0 : Int) →
 IntKind.wrap IntKind.i64
 ((takeT (s, b) (hiI (IntKind.wrap IntKind.i64 (g + (1 : Int))) + (1 : Int))).snd.fst -
 IntKind.wrap IntKind.i64
 (IntKind.wrap IntKind.i64
 (IntKind.wrap IntKind.i64
 ((1 : Int) *
 (2 : Int) ^ min (Int.toNat (IntKind.wrap IntKind.u64 (hiI (IntKind.wrap IntKind.i64 (g + (1 : Int))) + (1 : Int)))) (IntKind.bits IntKind.i64)) -
 (1 : Int)) -
 IntKind.wrap IntKind.i64 (g + (1 : Int)))) =
 (0 : Int) ∧
 (takeT (s, b) (hiI (IntKind.wrap IntKind.i64 (g + (1 : Int))) + (1 : Int))).fst.fst = s ∧
 (takeT (s, b) (hiI (IntKind.wrap IntKind.i64 (g + (1 : Int))) + (1 : Int))).fst.snd = b ∧ (0 : Int) = (23 : Int))) ∧
 (decide
 ((takeT (s, b) (hiI (IntKind.wrap IntKind.i64 (g + (1 : Int))) + (1 : Int))).snd.fst ≥
 IntKind.wrap IntKind.i64
 ((1 : Int) *
 (2 : Int) ^
 min (Int.toNat (IntKind.wrap IntKind.u64 (IntKind.wrap IntKind.i64 (hiI (IntKind.wrap IntKind.i64 (g + (1 : Int))) + (1 : Int) - (1 : Int)))))
 (IntKind.bits IntKind.i64))) =
 false →
 ((valR (s, b) g).snd.snd = (0 : Int) →
 (takeT (s, b) (hiI (IntKind.wrap IntKind.i64 (g + (1 : Int))) + (1 : Int))).snd.fst = (valR (s, b) g).snd.fst ∧
 (takeT (s, b) (hiI (IntKind.wrap IntKind.i64 (g + (1 : Int))) + (1 : Int))).fst.fst = (valR (s, b) g).fst.fst ∧
 (takeT (s, b) (hiI (IntKind.wrap IntKind.i64 (g + (1 : Int))) + (1 : Int))).fst.snd = (valR (s, b) g).fst.snd ∧ (0 : Int) = (0 : Int)) ∧
 (¬(valR (s, b) g).snd.snd = (0 : Int) →
 (takeT (s, b) (hiI (IntKind.wrap IntKind.i64 (g + (1 : Int))) + (1 : Int))).snd.fst = (0 : Int) ∧
 (takeT (s, b) (hiI (IntKind.wrap IntKind.i64 (g + (1 : Int))) + (1 : Int))).fst.fst = s ∧
 (takeT (s, b) (hiI (IntKind.wrap IntKind.i64 (g + (1 : Int))) + (1 : Int))).fst.snd = b ∧ (0 : Int) = (23 : Int)))) ∧
 (¬(takeT (s, b) (hiI (IntKind.wrap IntKind.i64 (g + (1 : Int))) + (1 : Int))).snd.snd = (0 : Int) →
 ByteArray.size s ≤ (9223372036854775807 : Nat) ∧
 (0 : Int) ≤ IntKind.wrap IntKind.u64 (IntKind.wrap IntKind.i64 (hiI (IntKind.wrap IntKind.i64 (g + (1 : Int))) + (1 : Int) - (1 : Int))) ∧
 (decide
 ((0 : Int) ≥
 IntKind.wrap IntKind.i64
 ((1 : Int) *
 (2 : Int) ^
 min (Int.toNat (IntKind.wrap IntKind.u64 (IntKind.wrap IntKind.i64 (hiI (IntKind.wrap IntKind.i64 (g + (1 : Int))) + (1 : Int) - (1 : Int)))))
 (IntKind.bits IntKind.i64))) =
 true →
 ((valR (s, b) g).snd.snd = (0 : Int) →
 IntKind.wrap IntKind.i64
 ((0 : Int) -
 IntKind.wrap IntKind.i64
 (IntKind.wrap IntKind.i64
 (IntKind.wrap IntKind.i64
 ((1 : Int) *
 (2 : Int) ^ min (Int.toNat (IntKind.wrap IntKind.u64 (hiI (IntKind.wrap IntKind.i64 (g + (1 : Int))) + (1 : Int)))) (IntKind.bits IntKind.i64)) -
 (1 : Int)) -
 IntKind.wrap IntKind.i64 (g + (1 : Int)))) =
 (valR (s, b) g).snd.fst ∧
 s = (valR (s, b) g).fst.fst ∧ b = (valR (s, b) g).fst.snd ∧ (23 : Int) = (0 : Int)) ∧
 (¬(valR (s, b) g).snd.snd = (0 : Int) →
 IntKind.wrap IntKind.i64
 ((0 : Int) -
 IntKind.wrap IntKind.i64
 (IntKind.wrap IntKind.i64
 (IntKind.wrap IntKind.i64
 ((1 : Int) *
 (2 : Int) ^ min (Int.toNat (IntKind.wrap IntKind.u64 (hiI (IntKind.wrap IntKind.i64 (g + (1 : Int))) + (1 : Int)))) (IntKind.bits IntKind.i64)) -
 (1 : Int)) -
 IntKind.wrap IntKind.i64 (g + (1 : Int)))) =
 (0 : Int) ∧
 s = s ∧ b = b ∧ (23 : Int) = (23 : Int))) ∧
 (decide
 ((0 : Int) ≥
 IntKind.wrap IntKind.i64
 ((1 : Int) *
 (2 : Int) ^
 min (Int.toNat (IntKind.wrap IntKind.u64 (IntKind.wrap IntKind.i64 (hiI (IntKind.wrap IntKind.i64 (g + (1 : Int))) + (1 : Int) - (1 : Int)))))
 (IntKind.bits IntKind.i64))) =
 false →
 ((valR (s, b) g).snd.snd = (0 : Int) → (0 : Int) = (valR (s, b) g).snd.fst ∧ s = (valR (s, b) g).fst.fst ∧ b = (valR (s, b) g).fst.snd ∧ (23 : Int) = (0 : Int)) ∧
 (¬(valR (s, b) g).snd.snd = (0 : Int) → (0 : Int) = (0 : Int) ∧ s = s ∧ b = b ∧ (23 : Int) = (23 : Int))))))) ∧
 (¬(takeT (s, b) (IntKind.wrap IntKind.i64 (hiI (IntKind.wrap IntKind.i64 (g + (1 : Int))) + (1 : Int) - (1 : Int)))).snd.snd = (0 : Int) →
 ByteArray.size s ≤ (9223372036854775807 : Nat) ∧
 (((23 : Int) != (0 : Int)) = true →
 ((valR (s, b) g).snd.snd = (0 : Int) → (0 : Int) = (valR (s, b) g).snd.fst ∧ s = (valR (s, b) g).fst.fst ∧ b = (valR (s, b) g).fst.snd ∧ (23 : Int) = (0 : Int)) ∧
 (¬(valR (s, b) g).snd.snd = (0 : Int) → (0 : Int) = (0 : Int) ∧ s = s ∧ b = b ∧ (23 : Int) = (23 : Int))) ∧
 (((23 : Int) != (0 : Int)) = false →
 (decide
 ((0 : Int) <
 IntKind.wrap IntKind.i64
 (IntKind.wrap IntKind.i64
 (IntKind.wrap IntKind.i64
 ((1 : Int) * (2 : Int) ^ min (Int.toNat (IntKind.wrap IntKind.u64 (hiI (IntKind.wrap IntKind.i64 (g + (1 : Int))) + (1 : Int)))) (IntKind.bits IntKind.i64)) -
 (1 : Int)) -
 IntKind.wrap IntKind.i64 (g + (1 : Int)))) =
 true →
 ((valR (s, b) g).snd.snd = (0 : Int) → (0 : Int) = (valR (s, b) g).snd.fst ∧ s = (valR (s, b) g).fst.fst ∧ b = (valR (s, b) g).fst.snd ∧ (23 : Int) = (0 : Int)) ∧
 (¬(valR (s, b) g).snd.snd = (0 : Int) → (0 : Int) = (0 : Int) ∧ s = s ∧ b = b ∧ (23 : Int) = (23 : Int))) ∧
 (decide
 ((0 : Int) <
 IntKind.wrap IntKind.i64
 (IntKind.wrap IntKind.i64
 (IntKind.wrap IntKind.i64
 ((1 : Int) * (2 : Int) ^ min (Int.toNat (IntKind.wrap IntKind.u64 (hiI (IntKind.wrap IntKind.i64 (g + (1 : Int))) + (1 : Int)))) (IntKind.bits IntKind.i64)) -
 (1 : Int)) -
 IntKind.wrap IntKind.i64 (g + (1 : Int)))) =
 false →
 False ∧ (0 : Int) ≤ IntKind.wrap IntKind.u64 (IntKind.wrap IntKind.i64 (hiI (IntKind.wrap IntKind.i64 (g + (1 : Int))) + (1 : Int) - (1 : Int))) ∧ False ∧ False)))
theorem rval_e (g : Int) (s : ByteArray) (b : Int) : rval_t g s b = vcG Tryz.prog (Gof G8k) (fun _ => none) Tryz.f107 [.p 0 0 0, .v (.int .i64 g)] [(0, .cells 110 [.v (.string s), .v (.int .i64 b), .v (.int .i64 0)])] (.ite ⟨(valR (s, b) g).2.2 = 0, inferInstance⟩ (.leaf (.v (.int .i64 (valR (s, b) g).2.1)) ([(0, xC (valR (s, b) g).1 0)])) (.leaf (.v (.int .i64 0)) ([(0, xC (s, b) 23)]))) := by kernel_rfl
end Go.Proofs.YtcoogfifjibkhaaGreat
namespace Go.Proofs.YtcoogfifjibkhaaGreat
open Go Go.RowKit
set_option linter.unusedVariables false
set_option maxRecDepth 100000
def put1_t (k v : Int) (s : ByteArray) (p m : Int) : Prop :=
 (putT (s, p, m) (k, v).fst (k, v).snd).fst.fst = (putT (s, p, m) k v).fst.fst ∧
 (putT (s, p, m) (k, v).fst (k, v).snd).fst.snd.fst = (putT (s, p, m) k v).fst.snd.fst ∧ (putT (s, p, m) (k, v).fst (k, v).snd).fst.snd.snd = (putT (s, p, m) k v).fst.snd.snd
theorem put1_e (k v : Int) (s : ByteArray) (p m : Int) : put1_t k v s p m = vcG Tryz.prog (Gof G8c) (fun _ => none) Tryz.f90 [.v (.int .i64 k), .v (.int .i64 v), .p 0 0 0] [(0, .cells 90 [.v (.string s), .v (.int .i64 p), .v (.int .i64 m)])] (.leaf ((.tu [])) ([(0, .cells 90 [.v (.string (putT (s, p, m) k v).1.1), .v (.int .i64 (putT (s, p, m) k v).1.2.1), .v (.int .i64 (putT (s, p, m) k v).1.2.2)])])) := by kernel_rfl
def written_t (g : Int) (l : List Int) : Prop :=
 (0 : Int) ≤ g ∧
 (∃ (x0 : Nat × W3),
 (x0.fst ≤ List.length l ∧ putAll x0.snd (de none (List.drop x0.fst l) (pts (List.drop x0.fst l))) = wrT g l) ∧
 IntKind.wrap IntKind.i64 ((1 : Int) * (2 : Int) ^ min (Int.toNat g) (IntKind.bits IntKind.i64)) = pts (List.drop x0.fst l) ∧
 (0 : Int) = (↑x0.fst : Int) ∧
 g = g ∧
 l = l ∧
 (putT (ByteArray.empty, (0 : Int), (0 : Int)) (4 : Int) (IntKind.wrap IntKind.i64 (g - (5 : Int)))).fst.fst = x0.snd.fst ∧
 (putT (ByteArray.empty, (0 : Int), (0 : Int)) (4 : Int) (IntKind.wrap IntKind.i64 (g - (5 : Int)))).fst.snd.fst = x0.snd.snd.fst ∧
 (putT (ByteArray.empty, (0 : Int), (0 : Int)) (4 : Int) (IntKind.wrap IntKind.i64 (g - (5 : Int)))).fst.snd.snd = x0.snd.snd.snd) ∧
 ∀ (x1 : Nat × W3),
 x1.fst ≤ List.length l ∧ putAll x1.snd (de none (List.drop x1.fst l) (pts (List.drop x1.fst l))) = wrT g l →
 (decide ((↑x1.fst : Int) < (↑(List.length l) : Int)) = true →
 (0 : Int) ≤ (↑x1.fst : Int) ∧
 (↑x1.fst : Int) < (↑(List.length l) : Int) ∧
 (0 : Int) ≤ pts (List.drop x1.fst l) ∧
 pts (List.drop x1.fst l) ≤ (1073741824 : Int) ∧
 ∃ (g2 : Nat),
 ((decide (IntKind.wrap IntKind.i64 (List.getD l (Int.toNat (↑x1.fst : Int)) (0 : Int) + (1 : Int)) < shT (pts (List.drop x1.fst l))) = true →
 ∃ (x3 : ByteArray × Int × Int),
 (g2 < List.length l ∧ putAll x3 (deP l g2) = wrT g l) ∧
 List.getD l (Int.toNat (↑x1.fst : Int)) (0 : Int) = List.getD l g2 (0 : Int) ∧
 pts (List.drop x1.fst l) = pts (List.drop g2 l) ∧
 (↑x1.fst : Int) = (↑g2 : Int) ∧
 g = g ∧
 l = l ∧
 (putT (x1.snd.fst, x1.snd.snd.fst, x1.snd.snd.snd) (IntKind.wrap IntKind.i64 (shB (pts (List.drop x1.fst l)) - (1 : Int)))
 (IntKind.wrap IntKind.i64 (List.getD l (Int.toNat (↑x1.fst : Int)) (0 : Int) + (1 : Int)))).fst.fst =
 x3.fst ∧
 (putT (x1.snd.fst, x1.snd.snd.fst, x1.snd.snd.snd) (IntKind.wrap IntKind.i64 (shB (pts (List.drop x1.fst l)) - (1 : Int)))
 (IntKind.wrap IntKind.i64 (List.getD l (Int.toNat (↑x1.fst : Int)) (0 : Int) + (1 : Int)))).fst.snd.fst =
 x3.snd.fst ∧
 (putT (x1.snd.fst, x1.snd.snd.fst, x1.snd.snd.snd) (IntKind.wrap IntKind.i64 (shB (pts (List.drop x1.fst l)) - (1 : Int)))
 (IntKind.wrap IntKind.i64 (List.getD l (Int.toNat (↑x1.fst : Int)) (0 : Int) + (1 : Int)))).fst.snd.snd =
 x3.snd.snd) ∧
 (decide (IntKind.wrap IntKind.i64 (List.getD l (Int.toNat (↑x1.fst : Int)) (0 : Int) + (1 : Int)) < shT (pts (List.drop x1.fst l))) = false →
 (0 : Int) ≤ IntKind.wrap IntKind.i64 (shB (pts (List.drop x1.fst l)) - (1 : Int)) ∧
 (decide
 (IntKind.wrap IntKind.i64 (List.getD l (Int.toNat (↑x1.fst : Int)) (0 : Int) + (1 : Int)) <
 IntKind.wrap IntKind.i64
 ((1 : Int) * (2 : Int) ^ min (Int.toNat (IntKind.wrap IntKind.i64 (shB (pts (List.drop x1.fst l)) - (1 : Int)))) (IntKind.bits IntKind.i64))) =
 true →
 ∃ (x4 : ByteArray × Int × Int),
 (g2 < List.length l ∧ putAll x4 (deP l g2) = wrT g l) ∧
 List.getD l (Int.toNat (↑x1.fst : Int)) (0 : Int) = List.getD l g2 (0 : Int) ∧
 pts (List.drop x1.fst l) = pts (List.drop g2 l) ∧
 (↑x1.fst : Int) = (↑g2 : Int) ∧
 g = g ∧
 l = l ∧
 (putT (x1.snd.fst, x1.snd.snd.fst, x1.snd.snd.snd) (shB (pts (List.drop x1.fst l)))
 (IntKind.wrap IntKind.i64 (List.getD l (Int.toNat (↑x1.fst : Int)) (0 : Int) + (1 : Int)))).fst.fst =
 x4.fst ∧
 (putT (x1.snd.fst, x1.snd.snd.fst, x1.snd.snd.snd) (shB (pts (List.drop x1.fst l)))
 (IntKind.wrap IntKind.i64 (List.getD l (Int.toNat (↑x1.fst : Int)) (0 : Int) + (1 : Int)))).fst.snd.fst =
 x4.snd.fst ∧
 (putT (x1.snd.fst, x1.snd.snd.fst, x1.snd.snd.snd) (shB (pts (List.drop x1.fst l)))
 (IntKind.wrap IntKind.i64 (List.getD l (Int.toNat (↑x1.fst : Int)) (0 : Int) + (1 : Int)))).fst.snd.snd =
 x4.snd.snd) ∧
 (decide
 (IntKind.wrap IntKind.i64 (List.getD l (Int.toNat (↑x1.fst : Int)) (0 : Int) + (1 : Int)) <
 IntKind.wrap IntKind.i64
 ((1 : Int) * (2 : Int) ^ min (Int.toNat (IntKind.wrap IntKind.i64 (shB (pts (List.drop x1.fst l)) - (1 : Int)))) (IntKind.bits IntKind.i64))) =
 false →
 ∃ (x5 : ByteArray × Int × Int),
 (g2 < List.length l ∧ putAll x5 (deP l g2) = wrT g l) ∧
 List.getD l (Int.toNat (↑x1.fst : Int)) (0 : Int) = List.getD l g2 (0 : Int) ∧
 pts (List.drop x1.fst l) = pts (List.drop g2 l) ∧
 (↑x1.fst : Int) = (↑g2 : Int) ∧
 g = g ∧
 l = l ∧
 (putT (x1.snd.fst, x1.snd.snd.fst, x1.snd.snd.snd) (shB (pts (List.drop x1.fst l)))
 (IntKind.wrap IntKind.i64
 (IntKind.wrap IntKind.i64 (List.getD l (Int.toNat (↑x1.fst : Int)) (0 : Int) + (1 : Int)) + shT (pts (List.drop x1.fst l))))).fst.fst =
 x5.fst ∧
 (putT (x1.snd.fst, x1.snd.snd.fst, x1.snd.snd.snd) (shB (pts (List.drop x1.fst l)))
 (IntKind.wrap IntKind.i64
 (IntKind.wrap IntKind.i64 (List.getD l (Int.toNat (↑x1.fst : Int)) (0 : Int) + (1 : Int)) +
 shT (pts (List.drop x1.fst l))))).fst.snd.fst =
 x5.snd.fst ∧
 (putT (x1.snd.fst, x1.snd.snd.fst, x1.snd.snd.snd) (shB (pts (List.drop x1.fst l)))
 (IntKind.wrap IntKind.i64
 (IntKind.wrap IntKind.i64 (List.getD l (Int.toNat (↑x1.fst : Int)) (0 : Int) + (1 : Int)) +
 shT (pts (List.drop x1.fst l))))).fst.snd.snd =
 x5.snd.snd))) ∧
 ∀ (x6 : ByteArray × Int × Int),
 g2 < List.length l ∧ putAll x6 (deP l g2) = wrT g l →
 ((List.getD l g2 (0 : Int) != (0 : Int)) = true →
 ∃ (y7 : Nat × W3),
 (y7.fst ≤ List.length l ∧ putAll y7.snd (de none (List.drop y7.fst l) (pts (List.drop y7.fst l))) = wrT g l) ∧
 Nat.sub (List.length l) y7.fst < Nat.sub (List.length l) x1.fst ∧
 IntKind.wrap IntKind.i64 (pts (List.drop g2 l) - max (List.getD l g2 (0 : Int)) (1 : Int)) = pts (List.drop y7.fst l) ∧
 IntKind.wrap IntKind.i64 ((↑g2 : Int) + (1 : Int)) = (↑y7.fst : Int) ∧
 g = g ∧ l = l ∧ x6.fst = y7.snd.fst ∧ x6.snd.fst = y7.snd.snd.fst ∧ x6.snd.snd = y7.snd.snd.snd) ∧
 ((List.getD l g2 (0 : Int) != (0 : Int)) = false →
 ∃ (g8 : Nat),
 (∃ (g9 : Nat),
 (∃ (x10 : Nat × Nat × W3),
 (g9 ≤ x10.fst ∧
 x10.fst < List.length l ∧
 x10.snd.fst ≤ x10.fst ∧
 putAll x10.snd.snd (de (some x10.snd.fst) (List.drop (x10.fst + (1 : Nat)) l) (pts (List.drop (x10.fst + (1 : Nat)) l))) = wrT g l) ∧
 (0 : Int) = (↑x10.snd.fst : Int) ∧
 pts (List.drop g2 l) = pts (List.drop (x10.fst + (1 : Nat)) l) ∧
 (↑g2 : Int) = (↑x10.fst : Int) ∧ g = g ∧ l = l ∧ x6.fst = x10.snd.snd.fst ∧ x6.snd.fst = x10.snd.snd.snd.fst ∧ x6.snd.snd = x10.snd.snd.snd.snd) ∧
 ∀ (x11 : Nat × Nat × W3),
 g9 ≤ x11.fst ∧
 x11.fst < List.length l ∧
 x11.snd.fst ≤ x11.fst ∧
 putAll x11.snd.snd (de (some x11.snd.fst) (List.drop (x11.fst + (1 : Nat)) l) (pts (List.drop (x11.fst + (1 : Nat)) l))) = wrT g l →
 (decide (IntKind.wrap IntKind.i64 ((↑x11.fst : Int) + (1 : Int)) < (↑(List.length l) : Int)) = true →
 (0 : Int) ≤ IntKind.wrap IntKind.i64 ((↑x11.fst : Int) + (1 : Int)) ∧
 IntKind.wrap IntKind.i64 ((↑x11.fst : Int) + (1 : Int)) < (↑(List.length l) : Int) ∧
 ((List.getD l (Int.toNat (IntKind.wrap IntKind.i64 ((↑x11.fst : Int) + (1 : Int)))) (0 : Int) == (0 : Int)) = true →
 ∃ (y12 : Nat × Nat × W3),
 (g9 ≤ y12.fst ∧
 y12.fst < List.length l ∧
 y12.snd.fst ≤ y12.fst ∧
 putAll y12.snd.snd (de (some y12.snd.fst) (List.drop (y12.fst + (1 : Nat)) l) (pts (List.drop (y12.fst + (1 : Nat)) l))) = wrT g l) ∧
 Nat.sub (List.length l) y12.fst < Nat.sub (List.length l) x11.fst ∧
 IntKind.wrap IntKind.i64 ((↑x11.snd.fst : Int) + (1 : Int)) = (↑y12.snd.fst : Int) ∧
 pts (List.drop (x11.fst + (1 : Nat)) l) = pts (List.drop (y12.fst + (1 : Nat)) l) ∧
 IntKind.wrap IntKind.i64 ((↑x11.fst : Int) + (1 : Int)) = (↑y12.fst : Int) ∧
 g = g ∧
 l = l ∧
 x11.snd.snd.fst = y12.snd.snd.fst ∧ x11.snd.snd.snd.fst = y12.snd.snd.snd.fst ∧ x11.snd.snd.snd.snd = y12.snd.snd.snd.snd) ∧
 ((List.getD l (Int.toNat (IntKind.wrap IntKind.i64 ((↑x11.fst : Int) + (1 : Int)))) (0 : Int) == (0 : Int)) = false →
 ∃ (x13 : Nat × Nat × W3),
 (g8 ≤ x13.fst ∧
 x13.fst < List.length l ∧
 x13.snd.fst ≤ x13.fst ∧
 putAll x13.snd.snd (zerosP x13.snd.fst ++ de none (List.drop (x13.fst + (1 : Nat)) l) (pts (List.drop (x13.fst + (1 : Nat)) l))) =
 wrT g l) ∧
 (↑x11.snd.fst : Int) = (↑x13.snd.fst : Int) ∧
 pts (List.drop (x11.fst + (1 : Nat)) l) = pts (List.drop (x13.fst + (1 : Nat)) l) ∧
 (↑x11.fst : Int) = (↑x13.fst : Int) ∧
 g = g ∧
 l = l ∧
 x11.snd.snd.fst = x13.snd.snd.fst ∧ x11.snd.snd.snd.fst = x13.snd.snd.snd.fst ∧ x11.snd.snd.snd.snd = x13.snd.snd.snd.snd)) ∧
 (decide (IntKind.wrap IntKind.i64 ((↑x11.fst : Int) + (1 : Int)) < (↑(List.length l) : Int)) = false →
 ∃ (x14 : Nat × Nat × W3),
 (g8 ≤ x14.fst ∧
 x14.fst < List.length l ∧
 x14.snd.fst ≤ x14.fst ∧
 putAll x14.snd.snd (zerosP x14.snd.fst ++ de none (List.drop (x14.fst + (1 : Nat)) l) (pts (List.drop (x14.fst + (1 : Nat)) l))) = wrT g l) ∧
 (↑x11.snd.fst : Int) = (↑x14.snd.fst : Int) ∧
 pts (List.drop (x11.fst + (1 : Nat)) l) = pts (List.drop (x14.fst + (1 : Nat)) l) ∧
 (↑x11.fst : Int) = (↑x14.fst : Int) ∧
 g = g ∧ l = l ∧ x11.snd.snd.fst = x14.snd.snd.fst ∧ x11.snd.snd.snd.fst = x14.snd.snd.snd.fst ∧ x11.snd.snd.snd.snd = x14.snd.snd.snd.snd)) ∧
 ∀ (x15 : Nat × Nat × W3),
 g8 ≤ x15.fst ∧
 x15.fst < List.length l ∧
 x15.snd.fst ≤ x15.fst ∧
 putAll x15.snd.snd (zerosP x15.snd.fst ++ de none (List.drop (x15.fst + (1 : Nat)) l) (pts (List.drop (x15.fst + (1 : Nat)) l))) = wrT g l →
 ∃ (g16 : Nat),
 (∃ (x17 : Nat × Nat × W3),
 (g16 ≤ x17.fst ∧
 x17.fst < List.length l ∧
 x17.snd.fst ≤ x17.fst ∧
 putAll x17.snd.snd (zerosP x17.snd.fst ++ de none (List.drop (x17.fst + (1 : Nat)) l) (pts (List.drop (x17.fst + (1 : Nat)) l))) = wrT g l) ∧
 (↑x15.snd.fst : Int) = (↑x17.snd.fst : Int) ∧
 pts (List.drop (x15.fst + (1 : Nat)) l) = pts (List.drop (x17.fst + (1 : Nat)) l) ∧
 (↑x15.fst : Int) = (↑x17.fst : Int) ∧
 g = g ∧ l = l ∧ x15.snd.snd.fst = x17.snd.snd.fst ∧ x15.snd.snd.snd.fst = x17.snd.snd.snd.fst ∧ x15.snd.snd.snd.snd = x17.snd.snd.snd.snd) ∧
 ∀ (x18 : Nat × Nat × W3),
 g16 ≤ x18.fst ∧
 x18.fst < List.length l ∧
 x18.snd.fst ≤ x18.fst ∧
 putAll x18.snd.snd (zerosP x18.snd.fst ++ de none (List.drop (x18.fst + (1 : Nat)) l) (pts (List.drop (x18.fst + (1 : Nat)) l))) = wrT g l →
 (decide ((↑x18.snd.fst : Int) ≥ (3 : Int)) = true →
 ∃ (y19 : Nat × Nat × W3),
 (g16 ≤ y19.fst ∧
 y19.fst < List.length l ∧
 y19.snd.fst ≤ y19.fst ∧
 putAll y19.snd.snd (zerosP y19.snd.fst ++ de none (List.drop (y19.fst + (1 : Nat)) l) (pts (List.drop (y19.fst + (1 : Nat)) l))) =
 wrT g l) ∧
 y19.snd.1 < x18.snd.1 ∧
 IntKind.wrap IntKind.i64 ((↑x18.snd.fst : Int) - (3 : Int)) = (↑y19.snd.fst : Int) ∧
 pts (List.drop (x18.fst + (1 : Nat)) l) = pts (List.drop (y19.fst + (1 : Nat)) l) ∧
 (↑x18.fst : Int) = (↑y19.fst : Int) ∧
 g = g ∧
 l = l ∧
 (putT (x18.snd.snd.fst, x18.snd.snd.snd.fst, x18.snd.snd.snd.snd) (2 : Int) (3 : Int)).fst.fst = y19.snd.snd.fst ∧
 (putT (x18.snd.snd.fst, x18.snd.snd.snd.fst, x18.snd.snd.snd.snd) (2 : Int) (3 : Int)).fst.snd.fst = y19.snd.snd.snd.fst ∧
 (putT (x18.snd.snd.fst, x18.snd.snd.snd.fst, x18.snd.snd.snd.snd) (2 : Int) (3 : Int)).fst.snd.snd = y19.snd.snd.snd.snd) ∧
 (decide ((↑x18.snd.fst : Int) ≥ (3 : Int)) = false →
 ∃ (y20 : Nat × W3),
 (y20.fst ≤ List.length l ∧ putAll y20.snd (de none (List.drop y20.fst l) (pts (List.drop y20.fst l))) = wrT g l) ∧
 Nat.sub (List.length l) y20.fst < Nat.sub (List.length l) x1.fst ∧
 pts (List.drop (x18.fst + (1 : Nat)) l) = pts (List.drop y20.fst l) ∧
 IntKind.wrap IntKind.i64 ((↑x18.fst : Int) + (1 : Int)) = (↑y20.fst : Int) ∧
 g = g ∧
 l = l ∧
 (putT (x18.snd.snd.fst, x18.snd.snd.snd.fst, x18.snd.snd.snd.snd) (2 : Int) (↑x18.snd.fst : Int)).fst.fst = y20.snd.fst ∧
 (putT (x18.snd.snd.fst, x18.snd.snd.snd.fst, x18.snd.snd.snd.snd) (2 : Int) (↑x18.snd.fst : Int)).fst.snd.fst = y20.snd.snd.fst ∧
 (putT (x18.snd.snd.fst, x18.snd.snd.snd.fst, x18.snd.snd.snd.snd) (2 : Int) (↑x18.snd.fst : Int)).fst.snd.snd =
 y20.snd.snd.snd))) ∧
 (decide ((↑x1.fst : Int) < (↑(List.length l) : Int)) = false → x1.snd.fst = (wrT g l).fst ∧ x1.snd.snd.fst = (wrT g l).snd.fst ∧ x1.snd.snd.snd = (wrT g l).snd.snd)
theorem written_e (g : Int) (l : List Int) : written_t g l = vcG Tryz.prog (Gof G8d) (oWritten g l) Tryz.f59 [.ag [.v (.int .i64 g), .dat (.ints .i64 l)]] [] (.leaf ((.ag [.v (.string (wrT g l).1), .v (.int .i64 (wrT g l).2.1), .v (.int .i64 (wrT g l).2.2)])) ([])) := by kernel_rfl
def write_t (g : Int) (l : List Int) : Prop :=
 List.length l ≤ (4294967296 : Nat) ∧
 ((dchk g l != (0 : Int)) = true → ByteArray.empty = (writeF g l).fst ∧ dchk g l = (writeF g l).snd) ∧
 ((dchk g l != (0 : Int)) = false →
 dchk g l = (0 : Int) ∧
 (doneT ((wrT g l).fst, (wrT g l).snd.fst, (wrT g l).snd.snd)).fst = (writeF g l).fst ∧ (doneT ((wrT g l).fst, (wrT g l).snd.fst, (wrT g l).snd.snd)).snd = (writeF g l).snd)
theorem write_e (g : Int) (l : List Int) : write_t g l = vcG Tryz.prog (Gof G8e) (fun _ => none) Tryz.f28 [.ag [.v (.int .i64 g), .dat (.ints .i64 l)]] [] (.leaf ((.tu [.v (.string (writeF g l).1), .v (.int .i64 (writeF g l).2)])) ([])) := by kernel_rfl
end Go.Proofs.YtcoogfifjibkhaaGreat
namespace Go.Proofs.YtcoogfifjibkhaaGreat
open Go Go.RowKit
set_option linter.unusedVariables false
set_option maxRecDepth 100000
def high_t (n : Int) : Prop :=
 (∃ (x0 : Nat), Nat.le x0 (63 : Nat) ∧ n = n ∧ (-1 : Int) = hiM n x0 ∧ (0 : Int) = (↑x0 : Int)) ∧
 ∀ (x1 : Nat),
 Nat.le x1 (63 : Nat) →
 (decide ((↑x1 : Int) < (63 : Int)) = true →
 (0 : Int) ≤ (↑x1 : Int) ∧
 (decide (Int.fdiv n ((2 : Int) ^ min (Int.toNat (↑x1 : Int)) (IntKind.bits IntKind.i64)) > (0 : Int)) = true →
 ∃ (y2 : Nat),
 Nat.le y2 (63 : Nat) ∧ Nat.sub (63 : Nat) y2 < Nat.sub (63 : Nat) x1 ∧ n = n ∧ (↑x1 : Int) = hiM n y2 ∧ IntKind.wrap IntKind.i64 ((↑x1 : Int) + (1 : Int)) = (↑y2 : Int)) ∧
 (decide (Int.fdiv n ((2 : Int) ^ min (Int.toNat (↑x1 : Int)) (IntKind.bits IntKind.i64)) > (0 : Int)) = false →
 ∃ (y3 : Nat), Nat.le y3 (63 : Nat) ∧ Nat.sub (63 : Nat) y3 < Nat.sub (63 : Nat) x1 ∧ n = n ∧ hiM n x1 = hiM n y3 ∧ IntKind.wrap IntKind.i64 ((↑x1 : Int) + (1 : Int)) = (↑y3 : Int))) ∧
 (decide ((↑x1 : Int) < (63 : Int)) = false → hiM n x1 = hiI n)
theorem high_e (n : Int) : high_t n = vcG Tryz.prog (Gof G02) (one (oHigh n)) Tryz.f43 [.v (.int .i64 n)] [] (.leaf ((.v (.int .i64 (hiI n)))) ([])) := by kernel_rfl
def rhigh_t (n : Int) : Prop :=
 (∃ (x0 : Nat), (n ≤ (0 : Int) ∧ x0 = (0 : Nat) ∨ (0 : Int) < n ∧ x0 ≤ Nat.log2 (Int.toNat n) + (1 : Nat)) ∧ n = n / (2 : Int) ^ x0 ∧ (-1 : Int) = (↑x0 : Int) - (1 : Int)) ∧
 ∀ (x1 : Nat),
 n ≤ (0 : Int) ∧ x1 = (0 : Nat) ∨ (0 : Int) < n ∧ x1 ≤ Nat.log2 (Int.toNat n) + (1 : Nat) →
 (decide (n / (2 : Int) ^ x1 > (0 : Int)) = true →
 (2 : Int) ≠ (0 : Int) ∧
 ∃ (y2 : Nat),
 (n ≤ (0 : Int) ∧ y2 = (0 : Nat) ∨ (0 : Int) < n ∧ y2 ≤ Nat.log2 (Int.toNat n) + (1 : Nat)) ∧
 Nat.sub (63 : Nat) y2 < Nat.sub (63 : Nat) x1 ∧
 IntKind.wrap IntKind.i64 (Int.tdiv (n / (2 : Int) ^ x1) (2 : Int)) = n / (2 : Int) ^ y2 ∧ IntKind.wrap IntKind.i64 ((↑x1 : Int) - (1 : Int) + (1 : Int)) = (↑y2 : Int) - (1 : Int)) ∧
 (decide (n / (2 : Int) ^ x1 > (0 : Int)) = false → (↑x1 : Int) - (1 : Int) = hiI n)
theorem rhigh_e (n : Int) : rhigh_t n = vcG Tryz.prog (Gof G02) (one (oRhigh n)) Tryz.f68 [.v (.int .i64 n)] [] (.leaf ((.v (.int .i64 (hiI n)))) ([])) := by kernel_rfl
def minK_t (l : List Int) : Prop :=
 (decide ((↑(List.length l) : Int) < (1 : Int)) = true → False) ∧
 (decide ((↑(List.length l) : Int) < (1 : Int)) = false →
 (0 : Int) ≤ (0 : Int) ∧
 (0 : Int) < (↑(List.length l) : Int) ∧
 (∃ (x0 : Nat), ((1 : Nat) ≤ x0 ∧ x0 ≤ List.length l) ∧ l = l ∧ List.getD l (Int.toNat (0 : Int)) (0 : Int) = minL (List.take x0 l) ∧ (1 : Int) = (↑x0 : Int)) ∧
 ∀ (x1 : Nat),
 (1 : Nat) ≤ x1 ∧ x1 ≤ List.length l →
 (decide ((↑x1 : Int) < (↑(List.length l) : Int)) = true →
 (0 : Int) ≤ (↑x1 : Int) ∧
 (↑x1 : Int) < (↑(List.length l) : Int) ∧
 ∃ (y2 : Nat),
 ((1 : Nat) ≤ y2 ∧ y2 ≤ List.length l) ∧
 Nat.sub (List.length l) y2 < Nat.sub (List.length l) x1 ∧
 l = l ∧
 min (minL (List.take x1 l)) (List.getD l (Int.toNat (↑x1 : Int)) (0 : Int)) = minL (List.take y2 l) ∧ IntKind.wrap IntKind.i64 ((↑x1 : Int) + (1 : Int)) = (↑y2 : Int)) ∧
 (decide ((↑x1 : Int) < (↑(List.length l) : Int)) = false → minL (List.take x1 l) = minL l))
theorem minK_e (l : List Int) : minK_t l = vcG Tryz.prog (Gof G02) (one (oMin l)) Tryz.f70 [.dat (.ints .i64 l)] [] (.leaf ((.v (.int .i64 (minL l)))) ([])) := by kernel_rfl
def equal_t (a b : List Int) : Prop :=
 (((↑(List.length a) : Int) != (↑(List.length b) : Int)) = true → false = eqI a b) ∧
 (((↑(List.length a) : Int) != (↑(List.length b) : Int)) = false →
 (∃ (x0 : Nat), (x0 ≤ List.length a ∧ List.take x0 a = List.take x0 b) ∧ a = a ∧ b = b ∧ (0 : Int) = (↑x0 : Int) ∧ (↑(List.length a) : Int) = (↑(List.length a) : Int)) ∧
 ∀ (x1 : Nat),
 x1 ≤ List.length a ∧ List.take x1 a = List.take x1 b →
 (decide ((↑x1 : Int) < (↑(List.length a) : Int)) = true →
 (0 : Int) ≤ (↑x1 : Int) ∧
 (↑x1 : Int) < (↑(List.length a) : Int) ∧
 (0 : Int) ≤ (↑x1 : Int) ∧
 (↑x1 : Int) < (↑(List.length b) : Int) ∧
 ((List.getD a (Int.toNat (↑x1 : Int)) (0 : Int) != List.getD b (Int.toNat (↑x1 : Int)) (0 : Int)) = true → false = eqI a b) ∧
 ((List.getD a (Int.toNat (↑x1 : Int)) (0 : Int) != List.getD b (Int.toNat (↑x1 : Int)) (0 : Int)) = false →
 ∃ (y2 : Nat),
 (y2 ≤ List.length a ∧ List.take y2 a = List.take y2 b) ∧
 Nat.sub (List.length a) y2 < Nat.sub (List.length a) x1 ∧
 a = a ∧ b = b ∧ IntKind.wrap IntKind.i64 ((↑x1 : Int) + (1 : Int)) = (↑y2 : Int) ∧ (↑(List.length a) : Int) = (↑(List.length a) : Int))) ∧
 (decide ((↑x1 : Int) < (↑(List.length a) : Int)) = false → true = eqI a b))
theorem equal_e (a b : List Int) : equal_t a b = vcG Tryz.prog (Gof G02) (one (oEq 13 12 [(12, .v (.int .i64 a.length))] a b)) Tryz.f80 [.dat (.ints .i64 a), .dat (.ints .i64 b)] [] (.leaf ((.v (.bool (eqI a b)))) ([])) := by kernel_rfl
def sameInts_t (a b : List Int) : Prop :=
 (((↑(List.length a) : Int) != (↑(List.length b) : Int)) = true → false = eqI a b) ∧
 (((↑(List.length a) : Int) != (↑(List.length b) : Int)) = false →
 (∃ (x0 : Nat), (x0 ≤ List.length a ∧ List.take x0 a = List.take x0 b) ∧ a = a ∧ b = b ∧ (0 : Int) = (↑x0 : Int)) ∧
 ∀ (x1 : Nat),
 x1 ≤ List.length a ∧ List.take x1 a = List.take x1 b →
 (decide ((↑x1 : Int) < (↑(List.length a) : Int)) = true →
 (0 : Int) ≤ (↑x1 : Int) ∧
 (↑x1 : Int) < (↑(List.length a) : Int) ∧
 (0 : Int) ≤ (↑x1 : Int) ∧
 (↑x1 : Int) < (↑(List.length b) : Int) ∧
 ((List.getD a (Int.toNat (↑x1 : Int)) (0 : Int) != List.getD b (Int.toNat (↑x1 : Int)) (0 : Int)) = true → false = eqI a b) ∧
 ((List.getD a (Int.toNat (↑x1 : Int)) (0 : Int) != List.getD b (Int.toNat (↑x1 : Int)) (0 : Int)) = false →
 ∃ (y2 : Nat),
 (y2 ≤ List.length a ∧ List.take y2 a = List.take y2 b) ∧
 Nat.sub (List.length a) y2 < Nat.sub (List.length a) x1 ∧ a = a ∧ b = b ∧ IntKind.wrap IntKind.i64 ((↑x1 : Int) + (1 : Int)) = (↑y2 : Int))) ∧
 (decide ((↑x1 : Int) < (↑(List.length a) : Int)) = false → true = eqI a b))
theorem sameInts_e (a b : List Int) : sameInts_t a b = vcG Tryz.prog (Gof G02) (one (oEq 5 0 [] a b)) Tryz.f14 [.dat (.ints .i64 a), .dat (.ints .i64 b)] [] (.leaf ((.v (.bool (eqI a b)))) ([])) := by kernel_rfl
def ownInts_t (l : List Int) : Prop :=
 ((0 : Nat) + List.length l) * (8 : Nat) ≤ (140737488355328 : Nat) ∧ [] ++ l = l
theorem ownInts_e (l : List Int) : ownInts_t l = vcG Tryz.prog (Gof G02) (fun _ => none) Tryz.f8 [.dat (.ints .i64 l)] [] (.leaf ((.o 2000)) ([(2000, .row 3 (.ints .i64 l))])) := by kernel_rfl
def rpoints_t (l : List Int) : Prop :=
 (∃ (x0 : Nat), Nat.le x0 (List.length l) ∧ l = l ∧ (0 : Int) = pts (List.take x0 l) ∧ (0 : Int) = (↑x0 : Int)) ∧
 ∀ (x1 : Nat),
 Nat.le x1 (List.length l) →
 (decide ((↑x1 : Int) < (↑(List.length l) : Int)) = true →
 (0 : Int) ≤ (↑x1 : Int) ∧
 (↑x1 : Int) < (↑(List.length l) : Int) ∧
 (decide (List.getD l (Int.toNat (↑x1 : Int)) (0 : Int) < (0 : Int)) = true →
 ∃ (y2 : Nat),
 Nat.le y2 (List.length l) ∧
 Nat.sub (List.length l) y2 < Nat.sub (List.length l) x1 ∧
 l = l ∧ IntKind.wrap IntKind.i64 (pts (List.take x1 l) + (1 : Int)) = pts (List.take y2 l) ∧ IntKind.wrap IntKind.i64 ((↑x1 : Int) + (1 : Int)) = (↑y2 : Int)) ∧
 (decide (List.getD l (Int.toNat (↑x1 : Int)) (0 : Int) < (0 : Int)) = false →
 (0 : Int) ≤ (↑x1 : Int) ∧
 (↑x1 : Int) < (↑(List.length l) : Int) ∧
 ∃ (y3 : Nat),
 Nat.le y3 (List.length l) ∧
 Nat.sub (List.length l) y3 < Nat.sub (List.length l) x1 ∧
 l = l ∧
 IntKind.wrap IntKind.i64 (pts (List.take x1 l) + List.getD l (Int.toNat (↑x1 : Int)) (0 : Int)) = pts (List.take y3 l) ∧
 IntKind.wrap IntKind.i64 ((↑x1 : Int) + (1 : Int)) = (↑y3 : Int))) ∧
 (decide ((↑x1 : Int) < (↑(List.length l) : Int)) = false → pts (List.take x1 l) = pts l)
theorem rpoints_e (l : List Int) : rpoints_t l = vcG Tryz.prog (Gof G02) (one (oRpoints l)) Tryz.f73 [.dat (.ints .i64 l)] [] (.leaf ((.v (.int .i64 (pts l)))) ([])) := by kernel_rfl
def add_t (n s : Int) : Prop :=
 min (IntKind.wrap IntKind.i64 (s + n)) (1048576 : Int) = min (s + n) (1048576 : Int)
theorem add_e (n s : Int) : add_t n s = vcG Tryz.prog (Gof G02) (fun _ => none) Tryz.f101 [.v (.int .i64 n), .p 0 0 0] [(0, .cells 3 [.v (.int .i64 s)])] (.leaf ((.tu [])) ([(0, .cells 3 [.v (.int .i64 (min (s + n) 1048576))])])) := by kernel_rfl
def bits_t (n : Int) : Prop :=
 n ≤ (9223372036854775807 : Int) ∧ IntKind.wrap IntKind.i64 (hiI n + (1 : Int)) = hiI n + (1 : Int)
theorem bits_e (n : Int) : bits_t n = vcG Tryz.prog (Gof G8a) (fun _ => none) Tryz.f84 [.v (.int .i64 n)] [] (.leaf ((.v (.int .i64 (hiI n + 1)))) ([])) := by kernel_rfl
def rbits_t (n : Int) : Prop :=
 n ≤ (9223372036854775807 : Int) ∧ IntKind.wrap IntKind.i64 (hiI n + (1 : Int)) = hiI n + (1 : Int)
theorem rbits_e (n : Int) : rbits_t n = vcG Tryz.prog (Gof G8a) (fun _ => none) Tryz.f94 [.v (.int .i64 n)] [] (.leaf ((.v (.int .i64 (hiI n + 1)))) ([])) := by kernel_rfl
def points_t (g : Int) (l : List Int) : Prop :=
 (∃ (x0 : Nat), Nat.le x0 (List.length l) ∧ l = l ∧ (↑(List.length l) : Int) = (↑(List.length l) : Int) ∧ (0 : Int) = (↑x0 : Int) ∧ (0 : Int) = min (pts (List.take x0 l)) (1048576 : Int)) ∧
 ∀ (x1 : Nat),
 Nat.le x1 (List.length l) →
 (decide ((↑x1 : Int) < (↑(List.length l) : Int)) = true →
 (0 : Int) ≤ (↑x1 : Int) ∧
 (↑x1 : Int) < (↑(List.length l) : Int) ∧
 (decide (List.getD l (Int.toNat (↑x1 : Int)) (0 : Int) < (0 : Int)) = true →
 (0 : Int) ≤ (1 : Int) ∧
 (1 : Int) ≤ (1048576 : Int) ∧
 (0 : Int) ≤ min (pts (List.take x1 l)) (1048576 : Int) ∧
 min (pts (List.take x1 l)) (1048576 : Int) ≤ (1048576 : Int) ∧
 ∃ (y2 : Nat),
 Nat.le y2 (List.length l) ∧
 Nat.sub (List.length l) y2 < Nat.sub (List.length l) x1 ∧
 l = l ∧
 (↑(List.length l) : Int) = (↑(List.length l) : Int) ∧
 IntKind.wrap IntKind.i64 ((↑x1 : Int) + (1 : Int)) = (↑y2 : Int) ∧
 min (min (pts (List.take x1 l)) (1048576 : Int) + (1 : Int)) (1048576 : Int) = min (pts (List.take y2 l)) (1048576 : Int)) ∧
 (decide (List.getD l (Int.toNat (↑x1 : Int)) (0 : Int) < (0 : Int)) = false →
 (0 : Int) ≤ min (List.getD l (Int.toNat (↑x1 : Int)) (0 : Int)) (1048576 : Int) ∧
 min (List.getD l (Int.toNat (↑x1 : Int)) (0 : Int)) (1048576 : Int) ≤ (1048576 : Int) ∧
 (0 : Int) ≤ min (pts (List.take x1 l)) (1048576 : Int) ∧
 min (pts (List.take x1 l)) (1048576 : Int) ≤ (1048576 : Int) ∧
 ∃ (y3 : Nat),
 Nat.le y3 (List.length l) ∧
 Nat.sub (List.length l) y3 < Nat.sub (List.length l) x1 ∧
 l = l ∧
 (↑(List.length l) : Int) = (↑(List.length l) : Int) ∧
 IntKind.wrap IntKind.i64 ((↑x1 : Int) + (1 : Int)) = (↑y3 : Int) ∧
 min (min (pts (List.take x1 l)) (1048576 : Int) + min (List.getD l (Int.toNat (↑x1 : Int)) (0 : Int)) (1048576 : Int)) (1048576 : Int) =
 min (pts (List.take y3 l)) (1048576 : Int))) ∧
 (decide ((↑x1 : Int) < (↑(List.length l) : Int)) = false → min (pts (List.take x1 l)) (1048576 : Int) = min (pts l) (1048576 : Int))
theorem points_e (g : Int) (l : List Int) : points_t g l = vcG Tryz.prog (Gof G8a) (one (oPoints g l)) Tryz.f71 [.ag [.v (.int .i64 g), .dat (.ints .i64 l)]] [] (.leaf ((.v (.int .i64 (min (pts l) 1048576)))) ([])) := by kernel_rfl
def rcheck_t (g : Int) (l : List Int) : Prop :=
 (decide (g < (5 : Int)) = true → (31 : Int) = dchk g l) ∧
 (decide (g < (5 : Int)) = false →
 (decide (g > (12 : Int)) = true → (31 : Int) = dchk g l) ∧
 (decide (g > (12 : Int)) = false →
 (decide ((↑(List.length l) : Int) < (1 : Int)) = true → (23 : Int) = dchk g l) ∧
 (decide ((↑(List.length l) : Int) < (1 : Int)) = false →
 (decide ((↑(List.length l) : Int) > (256 : Int)) = true → (23 : Int) = dchk g l) ∧
 (decide ((↑(List.length l) : Int) > (256 : Int)) = false →
 (0 : Int) ≤ IntKind.wrap IntKind.i64 ((↑(List.length l) : Int) - (1 : Int)) ∧
 IntKind.wrap IntKind.i64 ((↑(List.length l) : Int) - (1 : Int)) < (↑(List.length l) : Int) ∧
 ((List.getD l (Int.toNat (IntKind.wrap IntKind.i64 ((↑(List.length l) : Int) - (1 : Int)))) (0 : Int) == (0 : Int)) = true → (23 : Int) = dchk g l) ∧
 ((List.getD l (Int.toNat (IntKind.wrap IntKind.i64 ((↑(List.length l) : Int) - (1 : Int)))) (0 : Int) == (0 : Int)) = false →
 (∃ (x0 : Nat), (x0 ≤ List.length l ∧ ∀ (x1 : Int), x1 ∈ List.take x0 l → (-1 : Int) ≤ x1 ∧ x1 ≤ (2 : Int) ^ Int.toNat g) ∧ (0 : Int) = (↑x0 : Int) ∧ g = g ∧ l = l) ∧
 ∀ (x2 : Nat),
 (x2 ≤ List.length l ∧ ∀ (x3 : Int), x3 ∈ List.take x2 l → (-1 : Int) ≤ x3 ∧ x3 ≤ (2 : Int) ^ Int.toNat g) →
 (decide ((↑x2 : Int) < (↑(List.length l) : Int)) = true →
 (0 : Int) ≤ (↑x2 : Int) ∧
 (↑x2 : Int) < (↑(List.length l) : Int) ∧
 (decide (List.getD l (Int.toNat (↑x2 : Int)) (0 : Int) < (-1 : Int)) = true → (23 : Int) = dchk g l) ∧
 (decide (List.getD l (Int.toNat (↑x2 : Int)) (0 : Int) < (-1 : Int)) = false →
 (0 : Int) ≤ (↑x2 : Int) ∧
 (↑x2 : Int) < (↑(List.length l) : Int) ∧
 (0 : Int) ≤ IntKind.wrap IntKind.u64 g ∧
 (decide
 (List.getD l (Int.toNat (↑x2 : Int)) (0 : Int) >
 IntKind.wrap IntKind.i64 ((1 : Int) * (2 : Int) ^ min (Int.toNat (IntKind.wrap IntKind.u64 g)) (IntKind.bits IntKind.i64))) =
 true →
 (23 : Int) = dchk g l) ∧
 (decide
 (List.getD l (Int.toNat (↑x2 : Int)) (0 : Int) >
 IntKind.wrap IntKind.i64 ((1 : Int) * (2 : Int) ^ min (Int.toNat (IntKind.wrap IntKind.u64 g)) (IntKind.bits IntKind.i64))) =
 false →
 ∃ (y4 : Nat),
 (y4 ≤ List.length l ∧ ∀ (x5 : Int), x5 ∈ List.take y4 l → (-1 : Int) ≤ x5 ∧ x5 ≤ (2 : Int) ^ Int.toNat g) ∧
 Nat.sub (List.length l) y4 < Nat.sub (List.length l) x2 ∧ IntKind.wrap IntKind.i64 ((↑x2 : Int) + (1 : Int)) = (↑y4 : Int) ∧ g = g ∧ l = l))) ∧
 (decide ((↑x2 : Int) < (↑(List.length l) : Int)) = false →
 List.length l ≤ (65536 : Nat) ∧
 (List.all l fun (x : Int) => decide (x ≤ (65536 : Int))) = true ∧
 (0 : Int) ≤ IntKind.wrap IntKind.u64 g ∧
 ((pts l != IntKind.wrap IntKind.i64 ((1 : Int) * (2 : Int) ^ min (Int.toNat (IntKind.wrap IntKind.u64 g)) (IntKind.bits IntKind.i64))) = true →
 (23 : Int) = dchk g l) ∧
 ((pts l != IntKind.wrap IntKind.i64 ((1 : Int) * (2 : Int) ^ min (Int.toNat (IntKind.wrap IntKind.u64 g)) (IntKind.bits IntKind.i64))) = false →
 (0 : Int) = dchk g l)))))))
theorem rcheck_e (g : Int) (l : List Int) : rcheck_t g l = vcG Tryz.prog (Gof G8a) (one (oRcheck g l)) Tryz.f44 [.ag [.v (.int .i64 g), .dat (.ints .i64 l)]] [] (.leaf ((.v (.int .i64 (dchk g l)))) ([])) := by kernel_rfl
def check_t (g : Int) (l : List Int) : Prop :=
 (decide (g < (5 : Int)) = true → (31 : Int) = dchk g l) ∧
 (decide (g < (5 : Int)) = false →
 (decide (g > (12 : Int)) = true → (31 : Int) = dchk g l) ∧
 (decide (g > (12 : Int)) = false →
 (decide ((↑(List.length l) : Int) < (1 : Int)) = true → (23 : Int) = dchk g l) ∧
 (decide ((↑(List.length l) : Int) < (1 : Int)) = false →
 (decide ((↑(List.length l) : Int) > (256 : Int)) = true → (23 : Int) = dchk g l) ∧
 (decide ((↑(List.length l) : Int) > (256 : Int)) = false →
 (0 : Int) ≤ IntKind.wrap IntKind.i64 ((↑(List.length l) : Int) - (1 : Int)) ∧
 IntKind.wrap IntKind.i64 ((↑(List.length l) : Int) - (1 : Int)) < (↑(List.length l) : Int) ∧
 ((List.getD l (Int.toNat (IntKind.wrap IntKind.i64 ((↑(List.length l) : Int) - (1 : Int)))) (0 : Int) == (0 : Int)) = true → (23 : Int) = dchk g l) ∧
 ((List.getD l (Int.toNat (IntKind.wrap IntKind.i64 ((↑(List.length l) : Int) - (1 : Int)))) (0 : Int) == (0 : Int)) = false →
 (0 : Nat) < List.length l ∧
 List.length l ≤ (4294967296 : Nat) ∧
 (decide (minL l < (-1 : Int)) = true → (23 : Int) = dchk g l) ∧
 (decide (minL l < (-1 : Int)) = false →
 List.length l ≤ (4294967296 : Nat) ∧
 (0 : Int) ≤ g ∧
 ((min (pts l) (1048576 : Int) != IntKind.wrap IntKind.i64 ((1 : Int) * (2 : Int) ^ min (Int.toNat g) (IntKind.bits IntKind.i64))) = true → (23 : Int) = dchk g l) ∧
 ((min (pts l) (1048576 : Int) != IntKind.wrap IntKind.i64 ((1 : Int) * (2 : Int) ^ min (Int.toNat g) (IntKind.bits IntKind.i64))) = false →
 (0 : Int) = dchk g l)))))))
theorem check_e (g : Int) (l : List Int) : check_t g l = vcG Tryz.prog (Gof G8b) (fun _ => none) Tryz.f40 [.ag [.v (.int .i64 g), .dat (.ints .i64 l)]] [] (.leaf ((.v (.int .i64 (dchk g l)))) ([])) := by kernel_rfl
def shape_t (n : Int) : Prop :=
 IntKind.wrap IntKind.i64 (n + (1 : Int)) ≤ (9223372036854775807 : Int) ∧
 (0 : Int) ≤ hiI (IntKind.wrap IntKind.i64 (n + (1 : Int))) + (1 : Int) ∧
 hiI (IntKind.wrap IntKind.i64 (n + (1 : Int))) + (1 : Int) = shB n ∧
 IntKind.wrap IntKind.i64
 (IntKind.wrap IntKind.i64
 (IntKind.wrap IntKind.i64 ((1 : Int) * (2 : Int) ^ min (Int.toNat (hiI (IntKind.wrap IntKind.i64 (n + (1 : Int))) + (1 : Int))) (IntKind.bits IntKind.i64)) - (1 : Int)) -
 IntKind.wrap IntKind.i64 (n + (1 : Int))) =
 shT n
theorem shape_e (n : Int) : shape_t n = vcG Tryz.prog (Gof G8b) (fun _ => none) Tryz.f92 [.v (.int .i64 n)] [] (.leaf ((.tu [.v (.int .i64 (shB n)), .v (.int .i64 (shT n))])) ([])) := by kernel_rfl
def times_t (l : List Int) (n x : Int) : Prop :=
 (∃ (x0 : Nat), Nat.le x0 (Int.toNat n) ∧ n = n ∧ x = x ∧ (0 : Int) = (↑x0 : Int) ∧ l = l ++ List.replicate x0 x) ∧
 ∀ (x1 : Nat),
 Nat.le x1 (Int.toNat n) →
 (decide ((↑x1 : Int) < n) = true →
 (List.length (l ++ List.replicate x1 x) + (1 : Nat)) * (8 : Nat) ≤ (140737488355328 : Nat) ∧
 ∃ (y2 : Nat),
 Nat.le y2 (Int.toNat n) ∧
 Nat.sub (Int.toNat n) y2 < Nat.sub (Int.toNat n) x1 ∧
 n = n ∧ x = x ∧ IntKind.wrap IntKind.i64 ((↑x1 : Int) + (1 : Int)) = (↑y2 : Int) ∧ l ++ List.replicate x1 x ++ [x] = l ++ List.replicate y2 x) ∧
 (decide ((↑x1 : Int) < n) = false → l ++ List.replicate x1 x = l ++ List.replicate (Int.toNat n) x)
theorem times_e (l : List Int) (n x : Int) : times_t l n x = vcG Tryz.prog (Gof G8a) (one (oTimes l n x)) Tryz.f69 [.o 0, .v (.int .i64 n), .v (.int .i64 x)] [(0, .row 3 (.ints .i64 l))] (.leaf ((.o 2000)) ([(2000, .row 3 (.ints .i64 (l ++ List.replicate n.toNat x)))])) := by kernel_rfl
def times0_t (n x : Int) : Prop :=
 (∃ (x0 : Nat), Nat.le x0 (Int.toNat n) ∧ n = n ∧ x = x ∧ (0 : Int) = (↑x0 : Int) ∧ List.length ([] ++ List.replicate x0 x) = (0 : Nat)) ∧
 ∀ (x1 : Nat),
 Nat.le x1 (Int.toNat n) →
 (decide ((↑x1 : Int) < n) = true →
 (List.length ([] ++ List.replicate x1 x) + (1 : Nat)) * (8 : Nat) ≤ (140737488355328 : Nat) ∧
 ∃ (y2 : Nat),
 Nat.le y2 (Int.toNat n) ∧
 Nat.sub (Int.toNat n) y2 < Nat.sub (Int.toNat n) x1 ∧
 n = n ∧ x = x ∧ IntKind.wrap IntKind.i64 ((↑x1 : Int) + (1 : Int)) = (↑y2 : Int) ∧ [] ++ List.replicate x1 x ++ [x] = [] ++ List.replicate y2 x) ∧
 (decide ((↑x1 : Int) < n) = false → [] ++ List.replicate x1 x = List.replicate (Int.toNat n) x)
theorem times0_e (n x : Int) : times0_t n x = vcG Tryz.prog (Gof G8a) (one (oTimes [] n x)) Tryz.f69 [.v (.slice none 0 0), .v (.int .i64 n), .v (.int .i64 x)] [] (.leaf ((.o 2000)) ([(2000, .row 3 (.ints .i64 (List.replicate n.toNat x)))])) := by kernel_rfl
end Go.Proofs.YtcoogfifjibkhaaGreat

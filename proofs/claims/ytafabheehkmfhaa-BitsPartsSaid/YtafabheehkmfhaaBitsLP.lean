/-
  BitsParts: the walk. Conditions: numbers of int's range.
-/
import Derived.Test.YtafabheehkmfhaaBitsBM
import Derived.Test.YtafabheehkmfhaaBitsK
import Derived.Test.YtafabheehkmfhaaBitsLR
import Derived.Deep.DeepCutAuto
namespace Go.Proofs.Ytafabheehkmfhaa
open Go.RowKit Go.PlainAid
set_option linter.unusedVariables false
set_option linter.unusedSimpArgs false

theorem peek_ok (s : ByteArray) (b n : Nat) (B N : Int) (eB : B = b) (eN : N = n) (w : World) (hb : b ≤ 8 * s.size) (hs : s.size ≤ 1048576) (hn : n ≤ 32) :
    Calls Try.prog 29 #[.agg #[.string s, .int .i64 B], .int .i64 N] w fun e w' => e = .returned (.tuple #[.int .i64 (peekN s b n), .int .i64 0]) ∧ Below w.heap.size w w' := by
  subst eB eN
  have hr : rchk s b = 0 := by unfold rchk; rw [if_neg (by omega), if_neg (by omega)]
  have ha : askE s b n = 0 := by unfold askE; rw [if_pos hr, if_neg (by omega)]
  exact ret_is (Peek_any s b n w (by omega)) (by unfold peekR; rw [if_pos ha]; rfl)
theorem take_fit (s : ByteArray) (b n : Nat) (B N : Int) (eB : B = b) (eN : N = n) (w : World) (hb : b + n ≤ 8 * s.size) (hs : s.size ≤ 1048576) (hn : n ≤ 32) :
    Calls Try.prog 27 #[.agg #[.string s, .int .i64 B], .int .i64 N] w fun e w' => e = .returned (.tuple #[.agg #[.string s, .int .i64 (B + N)], .int .i64 (peekN s b n), .int .i64 0]) ∧ Below w.heap.size w w' := by
  subst eB eN
  have hr : rchk s b = 0 := by unfold rchk; rw [if_neg (by omega), if_neg (by omega)]
  have ha : askE s b n = 0 := by unfold askE; rw [if_pos hr, if_neg (by omega)]
  have hE : takeE s b n = 0 := by unfold takeE; rw [if_neg (by omega)]; exact ha
  exact take_ok s b n w (by omega) hE
theorem take_short (s : ByteArray) (b n : Nat) (B N : Int) (eB : B = b) (eN : N = n) (w : World) (hb : b ≤ 8 * s.size) (hb2 : 8 * s.size < b + n) (hs : s.size ≤ 1048576) (hn : n ≤ 32) :
    Calls Try.prog 27 #[.agg #[.string s, .int .i64 B], .int .i64 N] w fun e w' => e = .returned (.tuple #[.agg #[.string ⟨#[]⟩, .int .i64 0], .int .i64 0, .int .i64 5]) ∧ Below w.heap.size w w' := by
  subst eB eN
  have hr : rchk s b = 0 := by unfold rchk; rw [if_neg (by omega), if_neg (by omega)]
  have ha : askE s b n = 0 := by unfold askE; rw [if_pos hr, if_neg (by omega)]
  have hE : takeE s b n = 5 := by unfold takeE; rw [if_pos ⟨ha, by omega⟩]
  exact take_no s b n 5 w (by omega) hE (by decide)
theorem peekN_add (s : ByteArray) (b n m : Nat) : peekN s b (n + m) = peekN s b n + peekN s (b + n) m * 2 ^ n := by
  unfold peekN
  rw [Nat.pow_add 2 n m, Nat.mod_mul, Nat.div_div_eq_div_mul, ← Nat.pow_add, Nat.mul_comm (2 ^ n)]
theorem parts_none (s : ByteArray) (bit n m : Int) (w : World) (g : (60 : Int) < (s.size : Int)) (hs : s.size ≤ 9223372036854775807) :
    Calls Try.prog 7 #[.string s, .int .i64 bit, .int .i64 n, .int .i64 m] w fun e w' => e = .returned (.bool true) ∧ Below w.heap.size w w' := by
  go_enter Try.func7, Try.ntmps7
  go_wp2_with fail
  refine (known_any _).mono ?_
  rintro e w1 ⟨rfl, hb⟩
  have hz1 := hb.size
  try simp only [World.size_alloc, World.size_setCell, World.size_drew] at hz1
  have HW1 : Hid (Below w.heap.size w w1) := by
    refine Lib.hid (Below.trans ?_ (hb.mono ?_))
    · go_grown
    · try simp
      try omega
  have zw1 := HW1.out.size
  clear hb
  go_wp2
  go_ret
  exact ⟨rfl, HW1.out⟩
def Bnd32 (v : Int) : Prop := 0 ≤ v ∧ v < 4294967296
theorem wrap_sum32 {p v : Int} (hp0 : 0 ≤ p) (hp : p < 65536) (hv : Bnd32 v) : wrap64 (p + v) = p + v := by
  unfold Bnd32 at hv
  exact IntWalk.wrap64_in _ ⟨by omega, by omega⟩
def PartsRel (B : Nat) (w2 : World) (s : ByteArray) (b t : Nat) (sum i : Value) (wr : World) : Prop :=
  ∃ k : Nat, k ≤ t ∧ i = .int .i64 k ∧ sum = .int .i64 (peekN s b k) ∧ Blk wr B 34 #[.string s, .int .i64 ((b + k : Nat) : Int)] ∧ Below w2.heap.size w2 wr
set_option maxRecDepth 100000 in
set_option maxHeartbeats 4000000 in
theorem parts_main (s : ByteArray) (bit n m : Int) (b x y : Nat) (w : World) (g : ¬ (60 : Int) < (s.size : Int)) (hbit : InR bit) (hn : InR n) (hm : InR m)
    (eb : bit % (8 * (s.size : Int) + 1) = (b : Int)) (ex : n % 17 = (x : Int)) (ey : m % 17 = (y : Int)) (hb8 : b ≤ 8 * s.size) (hx : x ≤ 16) (hy : y ≤ 16) :
    Calls Try.prog 7 #[.string s, .int .i64 bit, .int .i64 n, .int .i64 m] w fun e w' => e = .returned (.bool true) ∧ Below w.heap.size w w' := by
  have EB := Lib.hid eb
  have EX := Lib.hid ex
  have EY := Lib.hid ey
  have Hbit := Lib.hid hbit
  have Hn := Lib.hid hn
  have Hm := Lib.hid hm
  clear eb ex ey hbit hn hm
  have hsz : s.size ≤ 60 := by omega
  go_enter Try.func7, Try.ntmps7
  go_wp2_with fail
  refine (known_any _).mono ?_
  rintro e w1 ⟨rfl, hb⟩
  have hz1 := hb.size
  try simp only [World.size_alloc, World.size_setCell, World.size_drew] at hz1
  have HW1 : Hid (Below w.heap.size w w1) := by
    refine Lib.hid (Below.trans ?_ (hb.mono ?_))
    · go_grown
    · try simp
      try omega
  have zw1 := HW1.out.size
  clear hb
  go_wp2_with fail
  refine (mod_pos bit _ Hbit.out ⟨by omega, by omega⟩ _).mono ?_
  rintro e w' ⟨rfl, rfl⟩
  rw [EB.out]
  go_wp2_with fail
  refine (mod_pos n _ Hn.out ⟨by omega, by omega⟩ _).mono ?_
  rintro e w' ⟨rfl, rfl⟩
  rw [EX.out]
  go_wp2_with fail
  refine (mod_pos m _ Hm.out ⟨by omega, by omega⟩ _).mono ?_
  rintro e w' ⟨rfl, rfl⟩
  rw [EY.out]
  go_wp2_with fail
  refine (peek_ok s b (x + y) _ _ rfl (by simp) _ hb8 (by omega) (by omega)).mono ?_
  rintro e w2 ⟨rfl, hb⟩
  have hz2 := hb.size
  try simp only [World.size_alloc, World.size_setCell, World.size_drew] at hz2
  have HW2 : Hid (Below w.heap.size w w2) := by
    have h0 := HW1.out
    have h1 := h0.size
    refine Lib.hid (Below.trans ?_ (hb.mono ?_))
    · go_grown
    · try simp
      try omega
  have zw2 := HW2.out.size
  have bX : Blk w2 (w1.heap.size) 34 #[.string s, .int .i64 b] := Blk.below (by (repeat' (first | (with_reducible exact Blk.new _ _ _) | (with_reducible exact Blk.new_at _ _ _ _ (by (simp <;> omega))) | (with_reducible refine Blk.drew ?_) | (with_reducible refine Blk.alloc ?_ _) | (with_reducible refine Blk.far ?_ (by (simp <;> omega)) _)))) hb (by (try simp only [World.size_alloc, World.size_setCell, World.size_drew]); omega)
  have cX0 := bX.cell 0
  have cX1 := bX.cell 1
  simp only [List.getElem?_toArray, List.getElem?_cons_zero, List.getElem?_cons_succ] at cX0 cX1
  have fX0 := bX.frozen 0
  have fX1 := bX.frozen 1
  have lX := bX.lt
  have HX := Lib.hid bX
  clear bX
  clear hb
  by_cases hfit : b + (x + y) ≤ 8 * s.size
  · have hfit' : ¬ (8 * (s.size : Int) - (b : Int) < (x : Int) + (y : Int)) := by omega
    have hx1 := peekN_lt s b x
    have hy1 := peekN_lt s (b + x) y
    have hz1 := peekN_lt s b (x + y)
    have hzz := peekN_add s b x y
    obtain ⟨p, ep⟩ : ∃ p, peekN s b x = p := ⟨_, rfl⟩
    obtain ⟨q, eq⟩ : ∃ q, peekN s (b + x) y = q := ⟨_, rfl⟩
    obtain ⟨r, er⟩ : ∃ r, peekN s b (x + y) = r := ⟨_, rfl⟩
    rw [ep] at hx1
    rw [eq] at hy1
    rw [ep, eq, er] at hzz
    have Hp := Lib.hid ep
    have Hq := Lib.hid eq
    have Hr := Lib.hid er
    have hq2 : q * 2 ^ x < 4294967296 := by
      have h1 : 2 ^ y ≤ 2 ^ 16 := Nat.pow_le_pow_right (by omega) hy
      have h2 : 2 ^ x ≤ 2 ^ 16 := Nat.pow_le_pow_right (by omega) hx
      calc q * 2 ^ x < 2 ^ y * 2 ^ x := Nat.mul_lt_mul_of_pos_right hy1 (Nat.pow_pos (by omega))
        _ ≤ 2 ^ 16 * 2 ^ 16 := Nat.mul_le_mul h1 h2
    have hp2 : p < 65536 := Nat.lt_of_lt_of_le hx1 (Nat.pow_le_pow_right (by omega) hx)
    have hw1 : wrap64 ((q : Int) * 2 ^ x) = (q : Int) * 2 ^ x := by
      have e : ((q : Int) * 2 ^ x) = ((q * 2 ^ x : Nat) : Int) := by simp
      rw [e]
      exact IntWalk.wrap64_in _ ⟨by omega, by omega⟩
    have hsum : ((p : Int) + (q : Int) * 2 ^ x) = (r : Int) := by
      have e : ((q : Int) * 2 ^ x) = ((q * 2 ^ x : Nat) : Int) := by simp
      rw [e]; omega
    have hq3 : (q : Int) * 2 ^ x < 4294967296 := by
      have e : ((q : Int) * 2 ^ x) = ((q * 2 ^ x : Nat) : Int) := by simp
      rw [e]; omega
    have hq4 : 0 ≤ (q : Int) * 2 ^ x := by
      have e : ((q : Int) * 2 ^ x) = ((q * 2 ^ x : Nat) : Int) := by simp
      rw [e]; omega
    have Hsum := Lib.hid hsum
    have Hw1 := Lib.hid hw1
    have Hq3 : Bnd32 ((q : Int) * 2 ^ x) := ⟨hq4, hq3⟩
    clear ep eq er hx1 hy1 hz1 hzz hq2 hsum hw1 hq3 hq4
    go_wp2_with fail
    refine (take_fit s b x _ _ rfl rfl _ (by omega) (by omega) (by omega)).mono ?_
    rintro e w3 ⟨rfl, hb⟩
    rw [Hp.out]
    have hz3 := hb.size
    try simp only [World.size_alloc, World.size_setCell, World.size_drew] at hz3
    have HW3 : Hid (Below w.heap.size w w3) := by
      have h0 := HW2.out
      have h1 := h0.size
      refine Lib.hid (Below.trans ?_ (hb.mono ?_))
      · go_grown
      · try simp
        try omega
    have zw3 := HW3.out.size
    have bX := Blk.next HX (fun h => by (repeat' (first | (with_reducible exact h) | (with_reducible refine Blk.drew ?_) | (with_reducible refine Blk.drewN ?_ _) | (with_reducible refine Blk.alloc ?_ _) | (with_reducible refine Blk.far ?_ (by (simp <;> omega)) _)))) hb (by have := HX.out.lt; (try simp only [World.size_alloc, World.size_setCell, World.size_drew]); omega)
    clear HX lX cX0 fX0 cX1 fX1
    have cX0 := bX.cell 0
    have cX1 := bX.cell 1
    simp only [List.getElem?_toArray, List.getElem?_cons_zero, List.getElem?_cons_succ] at cX0 cX1
    have fX0 := bX.frozen 0
    have fX1 := bX.frozen 1
    have lX := bX.lt
    have HX := Lib.hid bX
    clear bX
    clear hb
    go_wp2_with fail
    refine (take_fit s (b + x) y _ _ (by simp) rfl _ (by omega) (by omega) (by omega)).mono ?_
    rintro e w4 ⟨rfl, hb⟩
    rw [Hq.out]
    have hz4 := hb.size
    try simp only [World.size_alloc, World.size_setCell, World.size_drew] at hz4
    have HW4 : Hid (Below w.heap.size w w4) := by
      have h0 := HW3.out
      have h1 := h0.size
      refine Lib.hid (Below.trans ?_ (hb.mono ?_))
      · go_grown
      · try simp
        try omega
    have zw4 := HW4.out.size
    have bX := Blk.next HX (fun h => by (repeat' (first | (with_reducible exact h) | (with_reducible refine Blk.drew ?_) | (with_reducible refine Blk.drewN ?_ _) | (with_reducible refine Blk.alloc ?_ _) | (with_reducible refine Blk.far ?_ (by (simp <;> omega)) _)))) hb (by have := HX.out.lt; (try simp only [World.size_alloc, World.size_setCell, World.size_drew]); omega)
    clear HX lX cX0 fX0 cX1 fX1
    have cX0 := bX.cell 0
    have cX1 := bX.cell 1
    simp only [List.getElem?_toArray, List.getElem?_cons_zero, List.getElem?_cons_succ] at cX0 cX1
    have fX0 := bX.frozen 0
    have fX1 := bX.frozen 1
    have lX := bX.lt
    have HX := Lib.hid bX
    clear bX
    clear hb
    go_wp2_with fail
    refine (take_fit s b (x + y) _ _ rfl (by simp) _ (by omega) (by omega) (by omega)).mono ?_
    rintro e w5 ⟨rfl, hb⟩
    rw [show (b : Int) + ((x : Int) + (y : Int)) = (b : Int) + (x : Int) + (y : Int) from by omega]
    try rw [Hr.out]
    have hz5 := hb.size
    try simp only [World.size_alloc, World.size_setCell, World.size_drew] at hz5
    have HW5 : Hid (Below w.heap.size w w5) := by
      have h0 := HW4.out
      have h1 := h0.size
      refine Lib.hid (Below.trans ?_ (hb.mono ?_))
      · go_grown
      · try simp
        try omega
    have zw5 := HW5.out.size
    have bY : Blk w5 (w4.heap.size) 34 #[.string s, .int .i64 ((b : Int) + (x : Int) + (y : Int))] := Blk.below (by (repeat' (first | (with_reducible exact Blk.new _ _ _) | (with_reducible exact Blk.new_at _ _ _ _ (by (simp <;> omega))) | (with_reducible refine Blk.drew ?_) | (with_reducible refine Blk.alloc ?_ _) | (with_reducible refine Blk.far ?_ (by (simp <;> omega)) _)))) hb (by (try simp only [World.size_alloc, World.size_setCell, World.size_drew]); omega)
    have cY0 := bY.cell 0
    have cY1 := bY.cell 1
    simp only [List.getElem?_toArray, List.getElem?_cons_zero, List.getElem?_cons_succ] at cY0 cY1
    have fY0 := bY.frozen 0
    have fY1 := bY.frozen 1
    have lY := bY.lt
    have HY := Lib.hid bY
    clear bY
    have bX := Blk.next HX (fun h => by (repeat' (first | (with_reducible exact h) | (with_reducible refine Blk.drew ?_) | (with_reducible refine Blk.drewN ?_ _) | (with_reducible refine Blk.alloc ?_ _) | (with_reducible refine Blk.far ?_ (by (simp <;> omega)) _)))) hb (by have := HX.out.lt; (try simp only [World.size_alloc, World.size_setCell, World.size_drew]); omega)
    clear HX lX cX0 fX0 cX1 fX1
    have cX0 := bX.cell 0
    have cX1 := bX.cell 1
    simp only [List.getElem?_toArray, List.getElem?_cons_zero, List.getElem?_cons_succ] at cX0 cX1
    have fX0 := bX.frozen 0
    have fX1 := bX.frozen 1
    have lX := bX.lt
    have HX := Lib.hid bX
    clear bX
    clear hb
    have hw1 := Hw1.out
    have hws := (wrap_sum32 (by omega) (by omega : (p : Int) < 65536) Hq3).trans Hsum.out
    have hneq : ((r : Int) != (r : Int)) = false := by simp
    go_wp2_with fail
    go_loopw [25, 26] (fun sum i wr => PartsRel w1.heap.size w s b (x + y) sum i wr) (fun _ i _ => x + y - (intOf i).toNat)
    case atStart =>
      refine ⟨0, Nat.zero_le _, rfl, by simp [peekN, Nat.mod_one], ?_, ?_⟩
      · exact HX.out.alloc _
      · exact HW5.out.alloc HW5.out.size _
    case round =>
      obtain ⟨k, hk, rfl, rfl, hB, hW⟩ := hrel
      have bX := hB
      have HWk := Lib.hid hW
      have zwk := hW.size
      clear hB hW HX HY cX0 cX1 fX0 fX1 lX cY0 cY1 fY0 fY1 lY hw1 hws hneq
      obtain ⟨c, hc⟩ : ∃ c : Int, ((b + k : Nat) : Int) = c := ⟨_, rfl⟩
      rw [hc] at bX
      have Hc := Lib.hid hc
      clear hc
      have cX0 := bX.cell 0
      have cX1 := bX.cell 1
      simp only [List.getElem?_toArray, List.getElem?_cons_zero, List.getElem?_cons_succ] at cX0 cX1
      have fX0 := bX.frozen 0
      have fX1 := bX.frozen 1
      have lX := bX.lt
      have HX := Lib.hid bX
      clear bX
      obtain ⟨P, hP⟩ : ∃ P, peekN s b k = P := ⟨_, rfl⟩
      rw [hP]
      have HP := Lib.hid hP
      clear hP
      by_cases hlt : k < x + y
      · have hlt' : (k : Int) < (x : Int) + (y : Int) := by omega
        obtain ⟨d, hd⟩ : ∃ d, peekN s (b + k) 1 = d := ⟨_, rfl⟩
        have hd2 : bitN s (b + k) = d := by rw [← hd]; rfl
        have hd1 : d ≤ 1 := by rw [← hd2]; exact bitN_le _ _
        have HT := Lib.hid (fun W => take_fit s (b + k) 1 c 1 Hc.out.symm rfl W (by omega) (by omega) (by omega))
        rw [hd] at HT
        have hw1 := wrap_small2 d k (by omega) hd1
        have hP' : peekN s b (k + 1) = P + d * 2 ^ k := by rw [peekN_next, HP.out, hd2]
        have hlt2 : P + d * 2 ^ k < 4294967296 := by
          rw [← hP']
          exact Nat.lt_of_lt_of_le (peekN_lt _ _ _) (Nat.pow_le_pow_right (by omega) (by omega : k + 1 ≤ 32))
        have hw2 : wrap64 ((P : Int) + (d : Int) * 2 ^ k) = ((peekN s b (k + 1) : Nat) : Int) := by
          have e : (P : Int) + (d : Int) * 2 ^ k = ((P + d * 2 ^ k : Nat) : Int) := by simp
          rw [hP', e]
          exact IntWalk.wrap64_in _ ⟨by omega, by omega⟩
        have hc1 := Hc.out
        have hc2 : 0 ≤ c := by omega
        have hc3 : c ≤ 480 := by omega
        obtain ⟨P2, hP2⟩ : ∃ P2, peekN s b (k + 1) = P2 := ⟨_, rfl⟩
        rw [hP2] at hw2
        have HP2 := Lib.hid hP2
        clear hd hd2 hP' hlt2 hP2 hc1
        go_wp2_with fail
        refine (HT.out _).mono ?_
        rintro e w6 ⟨rfl, hb⟩
        have hz6 := hb.size
        have HW6 : Hid (Below w.heap.size w w6) := Lib.hid (HWk.out.trans (hb.mono zwk))
        have zw6 := HW6.out.size
        have bX := Blk.next HX (fun h => by (repeat' (first | (with_reducible exact h) | (with_reducible refine Blk.drew ?_) | (with_reducible refine Blk.drewN ?_ _) | (with_reducible refine Blk.alloc ?_ _) | (with_reducible refine Blk.far ?_ (by (simp <;> omega)) _)))) hb (by have := HX.out.lt; (try simp only [World.size_alloc, World.size_setCell, World.size_drew]); omega)
        clear HX lX cX0 fX0 cX1 fX1
        have cX0 := bX.cell 0
        have cX1 := bX.cell 1
        simp only [List.getElem?_toArray, List.getElem?_cons_zero, List.getElem?_cons_succ] at cX0 cX1
        have fX0 := bX.frozen 0
        have fX1 := bX.frozen 1
        have lX := bX.lt
        have HX := Lib.hid bX
        clear bX
        clear hb
        have nX : ¬ w1.heap.size = w6.heap.size := by omega
        have nX' : ¬ w6.heap.size = w1.heap.size := by omega
        have hk64 : (k : Int) < 64 := by omega
        go_wp2
        go_region
        go_wp2
        go_roundw
        case rel =>
          refine ⟨k + 1, by omega, by go_num, by rw [hw2, HP2.out], ?_, ?_⟩
          · have := ((((HX.out.set_ 0 (.string s)).set_ 1 (.int .i64 (c + 1)))).alloc (.cells #[.string s, .int .i64 (c + 1)] 34)).drew
            have e : ((b + (k + 1) : Nat) : Int) = c + 1 := by rw [← Hc.out]; omega
            rw [e]
            simpa using this
          · have h6 := HW6.out
            go_grown
        case measure => simp [intOf]; omega
      · have hkt : k = x + y := by omega
        subst hkt
        have hPr : P = r := by rw [← HP.out, Hr.out]
        subst hPr
        go_wp2
        go_ret
        exact ⟨by simp, HWk.out⟩
  · have hfit' : (8 * (s.size : Int) - (b : Int) < (x : Int) + (y : Int)) := by omega
    go_wp2_with fail
    refine (take_short s b (x + y) _ _ rfl (by simp) _ (by omega) (by omega) (by omega) (by omega)).mono ?_
    rintro e w3 ⟨rfl, hb⟩
    have hz3 := hb.size
    try simp only [World.size_alloc, World.size_setCell, World.size_drew] at hz3
    have HW3 : Hid (Below w.heap.size w w3) := by
      have h0 := HW2.out
      have h1 := h0.size
      refine Lib.hid (Below.trans ?_ (hb.mono ?_))
      · go_grown
      · try simp
        try omega
    have zw3 := HW3.out.size
    clear hb
    go_wp2
    go_ret
    refine ⟨rfl, ?_⟩
    have h0 := HW3.out
    have h1 := h0.size
    go_grown
theorem parts_any (s : ByteArray) (bit n m : Int) (w : World) (hs : s.size ≤ 9223372036854775807) (hb : InR bit) (hn : InR n) (hm : InR m) :
    Calls Try.prog 7 #[.string s, .int .i64 bit, .int .i64 n, .int .i64 m] w fun e w' => e = .returned (.bool true) ∧ Below w.heap.size w w' := by
  by_cases h : (60 : Int) < (s.size : Int)
  · exact parts_none s bit n m w h hs
  · have h1 := Int.emod_nonneg bit (show (8 * (s.size : Int) + 1) ≠ 0 by omega)
    have h2 := Int.emod_lt_of_pos bit (show 0 < (8 * (s.size : Int) + 1) by omega)
    exact parts_main s bit n m (bit % (8 * (s.size : Int) + 1)).toNat (n % 17).toNat (m % 17).toNat w h hb hn hm (by omega) (by omega) (by omega) (by omega) (by omega) (by omega)
end Go.Proofs.Ytafabheehkmfhaa

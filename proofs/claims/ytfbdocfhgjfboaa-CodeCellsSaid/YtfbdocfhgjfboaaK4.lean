/-
  Texts joined: C6C, C6L, C6F, C6A, C6S, C6At, C6G, C6B, C6D, C6Dt, C6H, C6E, C6K, C7F, C7A, C7J, C7K. Conditions: each theorem's own.
-/
import Derived.Test.YtfbdocfhgjfboaaK1
import Derived.Shelf.SlSortCmp.WholeK
import Derived.Test.YtfbdocfhgjfboaaK3
/-
  The order of symbols: what the closure of code.ranges answers, with the memory that it makes told exactly. Conditions: each theorem's own.
-/
namespace Go.Proofs.Ytfbdocfhgjfboaa
open Go Go.Shelf Go.RowKit Go.Lib Go.Sort
set_option linter.unusedVariables false
set_option linter.unusedSimpArgs false
set_option maxRecDepth 100000
def cmpI (a b : Int) : Int := if a < b then -1 else if b < a then 1 else 0
theorem nan_w (a : Int) (w : World) : Calls Try.prog 117 #[.int .i64 a] w fun e w' => e = .returned (.bool false) ∧ w' = w := by
  go_enter Try.func117, Try.ntmps117
  go_wp2
  go_ret
  simp
theorem cmp_w (a b : Int) (w : World) : Calls Try.prog 94 #[.int .i64 a, .int .i64 b] w fun e w' => e = .returned (.int .i64 (cmpI a b)) ∧ w' = w := by
  have h := nan_w
  unfold cmpI
  go_enter Try.func94, Try.ntmps94
  go_wp2_with (go_at_call 117; refine (h _ _).mono ?_; rintro e w' ⟨rfl, rfl⟩)
  all_goals (go_ret; exact ⟨rfl, rfl⟩)
theorem or_w (a b : Int) (w : World) (g : Nat) (h0 : w.cell? ⟨g, 0, none⟩ = some (.int .i64 a)) (h1 : w.cell? ⟨g, 1, none⟩ = some (.int .i64 b)) :
    Calls Try.prog 93 #[.slice (some ⟨g, 0, none⟩) 2 2] w fun e w' => e = .returned (.int .i64 (if a = 0 then b else a)) ∧ w' = w := by
  by_cases ha : a = 0
  · subst ha
    rw [if_pos rfl]
    by_cases hb : b = 0
    · subst hb
      go_enter Try.func93, Try.ntmps93
      go_wp2
      refine wp_loop_rounds 3 ?_
      rw [rounds_succ]
      go_wp2
      rw [rounds_succ]
      go_wp2
      rw [rounds_succ]
      go_wp2
      go_ret
      exact ⟨rfl, rfl⟩
    · have hb2 : (b != 0) = true := by simpa using hb
      go_enter Try.func93, Try.ntmps93
      go_wp2
      refine wp_loop_rounds 3 ?_
      rw [rounds_succ]
      go_wp2
      rw [rounds_succ]
      go_wp2
      go_ret
      exact ⟨rfl, rfl⟩
  · have ha2 : (a != 0) = true := by simpa using ha
    rw [if_neg ha]
    go_enter Try.func93, Try.ntmps93
    go_wp2
    refine wp_loop_rounds 3 ?_
    rw [rounds_succ]
    go_wp2
    go_ret
    exact ⟨rfl, rfl⟩
theorem closure_w (x y : Int × Int) (w : World) : Calls Try.prog 92 #[.agg #[.int .i64 x.1, .int .i64 x.2], .agg #[.int .i64 y.1, .int .i64 y.2]] w fun e w' =>
    e = .returned (.int .i64 (if cmpI y.2 x.2 = 0 then cmpI x.1 y.1 else cmpI y.2 x.2)) ∧ ∃ q os', w' = Sort.grow (w.drewN q) os' := by
  have hc := cmp_w
  generalize e1 : cmpI y.2 x.2 = c1
  generalize e2 : cmpI x.1 y.1 = c2
  obtain ⟨c3, h3⟩ : ∃ c3, (if c1 = 0 then c2 else c1) = c3 := ⟨_, rfl⟩
  have ho := or_w c1 c2
  simp only [h3] at ho ⊢
  go_enter Try.func92, Try.ntmps92
  go_wp2
  obtain ⟨W1, hW1⟩ : ∃ W1, W1 = ((w.alloc (.cells #[.int .i64 x.1, .int .i64 x.2] 87)).alloc (.cells #[.int .i64 y.1, .int .i64 y.2] 87)).drew := ⟨_, rfl⟩
  obtain ⟨W2, hW2⟩ : ∃ W2, W2 = (((w.alloc (.cells #[.int .i64 x.1, .int .i64 x.2] 87)).alloc (.cells #[.int .i64 y.1, .int .i64 y.2] 87)).alloc (.cells #[.int .i64 c1, .int .i64 c2] 3)).drew := ⟨_, rfl⟩
  go_region_held3 (fun w' => w'.cell? ⟨w.heap.size, 0, none⟩ = some (.int .i64 x.1) ∧ w'.cell? ⟨w.heap.size, 1, none⟩ = some (.int .i64 x.2) ∧ w'.cell? ⟨w.heap.size + 1, 0, none⟩ = some (.int .i64 y.1) ∧ w'.cell? ⟨w.heap.size + 1, 1, none⟩ = some (.int .i64 y.2) ∧ (w' = W1 ∨ w' = W2))
    (first | assumption | (refine ⟨?_, ?_, ?_, ?_, ?_⟩ <;> first | exact Or.inl rfl | exact Or.inl hW1.symm | (simp [go_sem]; done) | (rw [hW1]; simp [go_sem]; done) | exact Or.inr hW2.symm | (rw [hW2]; exact Or.inr (by simp [go_sem, *])) | skip))
    (first | (go_at_call 94; refine (hc _ _ _).mono ?_; rintro e w' ⟨rfl, rfl⟩) | (go_at_call 93; refine (ho _ _ (by simp [go_sem]) (by simp [go_sem])).mono ?_; rintro e w' ⟨rfl, rfl⟩))
  go_wp2
  go_ret
  exact ⟨rfl, 1, _, by rw [Sort.alloc_eq_grow, Sort.alloc_eq_grow, Sort.alloc_eq_grow, Sort.grow_grow, Sort.grow_grow]; rfl⟩
end Go.Proofs.Ytfbdocfhgjfboaa
/-
  The library's contract of slices.SortFunc, laid at this program's function (written by the kit's lay-plain, its numbers are this seat's). Conditions: none.
-/
namespace Go.Proofs.Ytfbdocfhgjfboaa
open Go Go.Shelf
def sortSym_ren : Go.Shelf.Ren := ⟨fun | 6 => 91 | 15 => 103 | 14 => 116 | 28 => 122 | 29 => 123 | 20 => 139 | 21 => 140 | 22 => 141 | 23 => 142 | 24 => 143 | 25 => 144 | 26 => 145 | 27 => 146 | 46 => 155 | 47 => 148 | 48 => 149 | 49 => 156 | 50 => 157 | 57 => 160 | n => n, fun | 22 => 116 | 24 => 87 | 25 => 119 | 3 => 3 | 39 => 33 | 0 => 0 | 53 => 145 | 55 => 131 | 4 => 4 | 46 => 149 | 45 => 148 | 50 => 92 | 5 => 5 | 9 => 9 | 66 => 160 | 70 => 164 | 76 => 170 | 77 => 171 | n => n, fun | n => n⟩
theorem sortSym : Go.Proofs.SlLaysF0.n6 Try.prog sortSym_ren := {
  mixed := by kernel_rfl
  f6 := ⟨Try.f91.name, by decide, Try.func91.trans (congrArg some (by kernel_rfl))⟩
  f14 := ⟨Try.f116.name, by decide, Try.func116.trans (congrArg some (by kernel_rfl))⟩
  f15 := Try.func103.trans (congrArg some (by kernel_rfl))
  f20 := ⟨Try.f139.name, by decide, Try.func139.trans (congrArg some (by kernel_rfl))⟩
  f21 := ⟨Try.f140.name, by decide, Try.func140.trans (congrArg some (by kernel_rfl))⟩
  f22 := ⟨Try.f141.name, by decide, Try.func141.trans (congrArg some (by kernel_rfl))⟩
  f23 := ⟨Try.f142.name, by decide, Try.func142.trans (congrArg some (by kernel_rfl))⟩
  f24 := ⟨Try.f143.name, by decide, Try.func143.trans (congrArg some (by kernel_rfl))⟩
  f25 := ⟨Try.f144.name, by decide, Try.func144.trans (congrArg some (by kernel_rfl))⟩
  f26 := ⟨Try.f145.name, by decide, Try.func145.trans (congrArg some (by kernel_rfl))⟩
  f27 := ⟨Try.f146.name, by decide, Try.func146.trans (congrArg some (by kernel_rfl))⟩
  f28 := Try.func122.trans (congrArg some (by kernel_rfl))
  f29 := Try.func123.trans (congrArg some (by kernel_rfl))
  f46 := ⟨Try.f155.name, by decide, Try.func155.trans (congrArg some (by kernel_rfl))⟩
  f47 := Try.func148.trans (congrArg some (by kernel_rfl))
  f48 := Try.func149.trans (congrArg some (by kernel_rfl))
  f49 := ⟨Try.f156.name, by decide, Try.func156.trans (congrArg some (by kernel_rfl))⟩
  f50 := ⟨Try.f157.name, by decide, Try.func157.trans (congrArg some (by kernel_rfl))⟩
  f57 := ⟨Try.f160.name, by decide, Try.func160.trans (congrArg some (by kernel_rfl))⟩
  t0 := Try.underlying0
  a0 := Try.isAgg0
  z0 := Try.sizeOf0
  v0 := Try.zeroValue0
  t3 := Try.underlying3
  a3 := Try.isAgg3
  z3 := Try.sizeOf3
  v3 := Try.zeroValue3
  t4 := Try.underlying4
  a4 := Try.isAgg4
  z4 := Try.sizeOf4
  v4 := Try.zeroValue4
  t5 := Try.underlying5
  a5 := Try.isAgg5
  z5 := Try.sizeOf5
  v5 := Try.zeroValue5
  t9 := Try.underlying9
  a9 := Try.isAgg9
  z9 := Try.sizeOf9
  v9 := Try.zeroValue9
  t22 := Try.underlying116
  a22 := Try.isAgg116
  z22 := Try.sizeOf116
  v22 := Try.zeroValue116
  t25 := Try.underlying119
  a25 := Try.isAgg119
  z25 := Try.sizeOf119
  v25 := Try.zeroValue119
  t39 := Try.underlying33
  a39 := Try.isAgg33
  z39 := Try.sizeOf33
  v39 := Try.zeroValue33
  t45 := Try.underlying148
  a45 := Try.isAgg148
  z45 := Try.sizeOf148
  v45 := Try.zeroValue148
  t46 := Try.underlying149
  a46 := Try.isAgg149
  z46 := Try.sizeOf149
  v46 := Try.zeroValue149
  t50 := Try.underlying92
  a50 := Try.isAgg92
  z50 := Try.sizeOf92
  v50 := Try.zeroValue92
  t53 := Try.underlying145
  a53 := Try.isAgg145
  z53 := Try.sizeOf145
  v53 := Try.zeroValue145
  t55 := Try.underlying131
  a55 := Try.isAgg131
  z55 := Try.sizeOf131
  v55 := Try.zeroValue131
  t66 := Try.underlying160
  a66 := Try.isAgg160
  z66 := Try.sizeOf160
  v66 := Try.zeroValue160
  t70 := Try.underlying164
  a70 := Try.isAgg164
  z70 := Try.sizeOf164
  v70 := Try.zeroValue164
  t76 := Try.underlying170
  a76 := Try.isAgg170
  z76 := Try.sizeOf170
  v76 := Try.zeroValue170
  t77 := Try.underlying171
  a77 := Try.isAgg171
  z77 := Try.sizeOf171
  v77 := Try.zeroValue171 }
end Go.Proofs.Ytfbdocfhgjfboaa
/-
  Chapter 16: what its functions compute. Conditions: none (definitions).
-/
namespace Go.Proofs.Ytfbdocfhgjfboaa
open Go Go.RowKit
set_option linter.unusedVariables false
set_option maxRecDepth 100000
/-! ### plain -/
def eqL (a b : List Int) : Bool := a == b
def okLen (x : Int) : Bool := decide (0 ≤ x) && decide (x ≤ 11)
def zeros12 : List Int := [0, 0, 0, 0, 0, 0, 0, 0, 0, 0, 0, 0]
def bump (out : List Int) (x : Int) : List Int := out.set x.toNat (out.getD x.toNat 0 + 1)
def bumps (l : List Int) : List Int := l.foldl bump zeros12
def manyG (out : List Int) : List Int → List Int × Int
  | [] => (out, 0)
  | x :: r => cond (okLen x) (manyG (bump out x) r) (out, 2)
def manyT (l : List Int) : List Int × Int := cond (decide (256 < l.length)) (zeros12, 2) (manyG zeros12 l)
def rmC (c : List Int) (i : Nat) : Int := (List.range i).foldl (fun s k => s + c.getD (k + 1) 0 * 2 ^ (10 - k)) 0
def cdC (c : List Int) (i : Nat) : Int := (List.range i).foldl (fun s k => s + c.getD (k + 1) 0) 0
def cntP (l : List Int) : Int := l.foldl (fun s x => cond (decide (0 < x)) (s + 1) s) 0
def sumM (m : Int) (l : List Int) : Int := l.foldl (fun s x => cond (decide (0 < x)) (s + 2 ^ (m - x).toNat) s) 0
def roomL (l : List Int) : Int := sumM 11 l
def chk (l : List Int) : Int := cond (decide (256 < l.length)) 2 (cond (l.all okLen) (cond (decide (cntP l < 2) || !(roomL l == 2048)) 21 0) 2)
def maxL (l : List Int) : Int := l.tail.foldl max (l.headD 0)
def gmx (l : List Int) : Int := l.foldl max 0
def mostI (l : List Int) : Int := cond (chk l == 0) (gmx l) 0
def okCnt (x : Int) : Bool := decide (0 ≤ x) && decide (x ≤ 1099511627776)
def cntd (l c : List Int) : Int := cond (chk l == 0) (cond (decide (256 < c.length)) 2 (cond (c.all okCnt) 0 2)) (chk l)
def lenOk (l : List Int) (s n : Int) : Bool := (decide (s < l.length) && decide (0 < l.getD s.toNat 0)) || n == 0
def lenN (l : List Int) (s n : Int) : Int := cond (decide (s < l.length) && decide (0 < l.getD s.toNat 0)) (l.getD s.toNat 0) 0
def covI (l c : List Int) : Bool := (List.range c.length).all fun s => lenOk l s (c.getD s 0)
def covV (l c : List Int) : Bool := cond (cntd l c == 0) (covI l c) false
def bitE (l c : List Int) : Int := cond (cntd l c == 0) (cond (covI l c) 0 7) (cntd l c)
def bitS (l c : List Int) (i : Nat) : Int := (List.range i).foldl (fun s k => s + c.getD k 0 * lenN l k (c.getD k 0)) 0
def bitV (l c : List Int) : Int := cond (bitE l c == 0) (bitS l c c.length) 0
def rbitS (l c : List Int) (i : Nat) : Int := (List.range i).foldl (fun s k => s + c.getD k 0 * l.getD k 0) 0
/-- the symbols that have codes: number, length -/
def symsF (i : Int) : List Int → List (List Int)
  | [] => []
  | x :: r => cond (decide (0 < x)) ([i, x] :: symsF (i + 1) r) (symsF (i + 1) r)
def syms (l : List Int) : List (List Int) := symsF 0 l
/-- the order of the cells -/
def sLe (a b : List Int) : Bool := decide (b.getD 1 0 < a.getD 1 0) || (decide (b.getD 1 0 = a.getD 1 0) && decide (a.getD 0 0 ≤ b.getD 0 0))
def insS (a : List Int) : List (List Int) → List (List Int)
  | [] => [a]
  | b :: r => cond (sLe a b) (a :: b :: r) (b :: insS a r)
def srt : List (List Int) → List (List Int)
  | [] => []
  | a :: r => insS a (srt r)
def wid (m : Int) (s : List Int) : Nat := 2 ^ (m - s.getD 1 0).toNat
/-- where a symbol's cells begin -/
def atF (m : Int) (ss : List (List Int)) (i : Nat) : Int := (ss.take i).foldl (fun a s => a + (wid m s : Int)) 0
/-- what the iterator yields -/
def itemF (m : Int) : Int → List (List Int) → List (List Value)
  | _, [] => []
  | a, s :: r => [.agg #[.int .i64 (s.getD 0 0), .int .i64 (s.getD 1 0)], .int .i64 a] :: itemF m (a + (wid m s : Int)) r
def ordS (l : List Int) : List (List Int) := srt (syms l)
def items (l : List Int) : List (List Value) := itemF (gmx l) 0 (ordS l)
/-- cells -/
def blkS (m : Int) (s : List Int) : List (List Int) := List.replicate (wid m s) [s.getD 0 0, s.getD 1 0, 0]
def tblF (m : Int) : List (List Int) → List (List Int)
  | [] => []
  | s :: r => blkS m s ++ tblF m r
def tblL (l : List Int) : List (List Int) := tblF (gmx l) (ordS l)
/-- codes -/
def codF (m : Int) : Int → List (List Int) → List (List Int) → List (List Int)
  | _, [], out => out
  | a, s :: r, out => codF m (a + (wid m s : Int)) r (out.set (s.getD 0 0).toNat [s.getD 1 0, a / 2 ^ (m - s.getD 1 0).toNat])
def codL (l : List Int) : List (List Int) := codF (gmx l) 0 (ordS l) (List.replicate l.length [0, 0])
/-- the reference's: cells from the end -/
def refC (m : Int) : Int → List (List Int) → List (List Int) → List (List Int)
  | _, [], out => out
  | a, c :: r, out => (refC m (a + 1) r out).set (c.getD 0 0).toNat [c.getD 1 0, a / 2 ^ (m - c.getD 1 0).toNat]
def decE (l : List Int) (v : Int) : Int := cond (chk l == 0) (cond (decide (v < 0) || decide (((tblL l).length : Int) ≤ v)) 2 0) (chk l)
def decC (l : List Int) (v : Int) (j : Nat) : Int := cond (decE l v == 0) (((tblL l).getD v.toNat []).getD j 0) 0
def rowN (w : Nat) (r : List Int) : List Int := (List.range w).map fun j => r.getD j 0
def eqR (w : Nat) (a b : List (List Int)) : Bool := a.map (rowN w) == b.map (rowN w)
/-! ### partial results -/
def codP (l : List Int) (i : Nat) : List (List Int) := codF (gmx l) 0 ((ordS l).take i) (List.replicate l.length [0, 0])
def symI (l : List Int) (i : Nat) : List Int := (ordS l).getD i []
def tblP (l : List Int) (i : Nat) : List (List Int) := tblF (gmx l) ((ordS l).take i) ++ List.replicate ((2 ^ (gmx l).toNat : Nat) - (atF (gmx l) (ordS l) i).toNat) [0, 0, 0]
def tblQ (l : List Int) (i j : Nat) : List (List Int) := tblF (gmx l) ((ordS l).take i) ++ (List.replicate j [(symI l i).getD 0 0, (symI l i).getD 1 0, 0] ++ List.replicate ((2 ^ (gmx l).toNat : Nat) - (atF (gmx l) (ordS l) i).toNat - j) [0, 0, 0])
def isLen (n : Int) (r : List Int) : Bool := r.getD 1 0 == n
def refT (l : List Int) : Nat → List (List Int)
  | 0 => []
  | j + 1 => refT l j ++ tblF (gmx l) ((syms l).filter (isLen (gmx l - j)))
def refS (l : List Int) (j s : Nat) : List (List Int) := refT l j ++ tblF (gmx l) ((syms (l.take s)).filter (isLen (gmx l - j)))
def refK (l : List Int) (j s k : Nat) : List (List Int) := refS l j s ++ List.replicate k [(s : Int), gmx l - j, 0]
def itemI (l : List Int) (i : Nat) : List Value := [.agg #[.int .i64 ((symI l i).getD 0 0), .int .i64 ((symI l i).getD 1 0)], .int .i64 (atF (gmx l) (ordS l) i)]
def refCL (l : List Int) (c : Nat) : List (List Int) := refC (gmx l) ((tblL l).length - c) ((tblL l).drop ((tblL l).length - c)) (List.replicate l.length [0, 0])
end Go.Proofs.Ytfbdocfhgjfboaa
/-
  Chapter 16: what its functions compute, and their contracts, as far as no symbols are put in order. Conditions: none (definitions).
-/
namespace Go.Proofs.Ytfbdocfhgjfboaa
open Go Go.RowKit
set_option linter.unusedVariables false
set_option linter.unusedSimpArgs false
set_option maxRecDepth 100000
/-! ### contracts -/
def sEqR2 : Spec where
  ι := Option (List (List Int) × List (List Int))
  dec l H := match l with
    | [.dat (.recs 2 a), .dat (.recs 2 b)] => some (some (a, b), [])
    | [.v (.slice none 0 0), .v (.slice none 0 0)] => some (none, [])
    | _ => none
  args := fun | some (a, b) => [.dat (.recs 2 a), .dat (.recs 2 b)]
              | none => [.v (.slice none 0 0), .v (.slice none 0 0)]
  pre := fun | some (a, b) => [⟨a.length ≤ 4294967296, inferInstance⟩]
             | none => []
  out := fun | some (a, b) => .leaf (.v (.bool (eqR 2 a b))) []
             | none => .leaf (.v (.bool true)) []
theorem sEqR2_enc : ∀ l H n i ls, sEqR2.dec l H = some (i, ls) → l = renL (rho ls n) (sEqR2.args i) ∧ givenHp H ls = renH (rho ls n) (sEqR2.hp i) := by
  intro l H n i ls h
  simp only [sEqR2] at h
  repeat' split at h
  all_goals first
    | (cases h; done)
    | (cases h; exact ⟨rfl, rfl⟩)
def sEqR3 : Spec where
  ι := Option (List (List Int) × List (List Int))
  dec l H := match l with
    | [.dat (.recs 3 a), .dat (.recs 3 b)] => some (some (a, b), [])
    | [.v (.slice none 0 0), .v (.slice none 0 0)] => some (none, [])
    | _ => none
  args := fun | some (a, b) => [.dat (.recs 3 a), .dat (.recs 3 b)]
              | none => [.v (.slice none 0 0), .v (.slice none 0 0)]
  pre := fun | some (a, b) => [⟨a.length ≤ 4294967296, inferInstance⟩]
             | none => []
  out := fun | some (a, b) => .leaf (.v (.bool (eqR 3 a b))) []
             | none => .leaf (.v (.bool true)) []
theorem sEqR3_enc : ∀ l H n i ls, sEqR3.dec l H = some (i, ls) → l = renL (rho ls n) (sEqR3.args i) ∧ givenHp H ls = renH (rho ls n) (sEqR3.hp i) := by
  intro l H n i ls h
  simp only [sEqR3] at h
  repeat' split at h
  all_goals first
    | (cases h; done)
    | (cases h; exact ⟨rfl, rfl⟩)
def sMany : Spec where
  ι := List Int
  dec l H := match l with
    | [.dat (.ints .i64 l)] => some (l, [])
    | _ => none
  args := fun l => [.dat (.ints .i64 l)]
  pre := fun l => [⟨l.length ≤ 4294967296, inferInstance⟩]
  out := fun l => .leaf (.tu [.av (.ints .i64 (manyT l).1), .v (.int .i64 (manyT l).2)]) []
theorem sMany_enc : ∀ l H n i ls, sMany.dec l H = some (i, ls) → l = renL (rho ls n) (sMany.args i) ∧ givenHp H ls = renH (rho ls n) (sMany.hp i) := by
  intro l H n i ls h
  simp only [sMany] at h
  repeat' split at h
  all_goals first
    | (cases h; done)
    | (cases h; exact ⟨rfl, rfl⟩)
def sChk : Spec where
  ι := List Int
  dec l H := match l with
    | [.dat (.ints .i64 l)] => some (l, [])
    | _ => none
  args := fun l => [.dat (.ints .i64 l)]
  pre := fun l => [⟨l.length ≤ 4294967296, inferInstance⟩]
  out := fun l => .leaf (.v (.int .i64 (chk l))) []
theorem sChk_enc : ∀ l H n i ls, sChk.dec l H = some (i, ls) → l = renL (rho ls n) (sChk.args i) ∧ givenHp H ls = renH (rho ls n) (sChk.hp i) := by
  intro l H n i ls h
  simp only [sChk] at h
  repeat' split at h
  all_goals first
    | (cases h; done)
    | (cases h; exact ⟨rfl, rfl⟩)
def sMaxL : Spec where
  ι := List Int
  dec l H := match l with
    | [.dat (.ints .i64 l)] => some (l, [])
    | _ => none
  args := fun l => [.dat (.ints .i64 l)]
  pre := fun l => [⟨0 < l.length, inferInstance⟩, ⟨l.length ≤ 4294967296, inferInstance⟩]
  out := fun l => .leaf (.v (.int .i64 (maxL l))) []
theorem sMaxL_enc : ∀ l H n i ls, sMaxL.dec l H = some (i, ls) → l = renL (rho ls n) (sMaxL.args i) ∧ givenHp H ls = renH (rho ls n) (sMaxL.hp i) := by
  intro l H n i ls h
  simp only [sMaxL] at h
  repeat' split at h
  all_goals first
    | (cases h; done)
    | (cases h; exact ⟨rfl, rfl⟩)
def sGmx : Spec where
  ι := List Int
  dec l H := match l with
    | [.dat (.ints .i64 l)] => some (l, [])
    | _ => none
  args := fun l => [.dat (.ints .i64 l)]
  pre := fun l => [⟨chk l = 0, inferInstance⟩]
  out := fun l => .leaf (.v (.int .i64 (gmx l))) []
theorem sGmx_enc : ∀ l H n i ls, sGmx.dec l H = some (i, ls) → l = renL (rho ls n) (sGmx.args i) ∧ givenHp H ls = renH (rho ls n) (sGmx.hp i) := by
  intro l H n i ls h
  simp only [sGmx] at h
  repeat' split at h
  all_goals first
    | (cases h; done)
    | (cases h; exact ⟨rfl, rfl⟩)
def sRgmx : Spec where
  ι := List Int
  dec l H := match l with
    | [.dat (.ints .i64 l)] => some (l, [])
    | _ => none
  args := fun l => [.dat (.ints .i64 l)]
  pre := fun l => [⟨l.length ≤ 4294967296, inferInstance⟩]
  out := fun l => .leaf (.v (.int .i64 (gmx l))) []
theorem sRgmx_enc : ∀ l H n i ls, sRgmx.dec l H = some (i, ls) → l = renL (rho ls n) (sRgmx.args i) ∧ givenHp H ls = renH (rho ls n) (sRgmx.hp i) := by
  intro l H n i ls h
  simp only [sRgmx] at h
  repeat' split at h
  all_goals first
    | (cases h; done)
    | (cases h; exact ⟨rfl, rfl⟩)
def sMost : Spec where
  ι := List Int
  dec l H := match l with
    | [.dat (.ints .i64 l)] => some (l, [])
    | _ => none
  args := fun l => [.dat (.ints .i64 l)]
  pre := fun l => [⟨l.length ≤ 4294967296, inferInstance⟩]
  out := fun l => .leaf (.tu [.v (.int .i64 (mostI l)), .v (.int .i64 (chk l))]) []
theorem sMost_enc : ∀ l H n i ls, sMost.dec l H = some (i, ls) → l = renL (rho ls n) (sMost.args i) ∧ givenHp H ls = renH (rho ls n) (sMost.hp i) := by
  intro l H n i ls h
  simp only [sMost] at h
  repeat' split at h
  all_goals first
    | (cases h; done)
    | (cases h; exact ⟨rfl, rfl⟩)
def sWrong : Spec where
  ι := Int
  dec l H := match l with
    | [.v (.int .i64 n)] => some (n, [])
    | _ => none
  args := fun n => [.v (.int .i64 n)]
  out := fun n => .leaf (.v (.bool (!okCnt n))) []
theorem sWrong_enc : ∀ l H n i ls, sWrong.dec l H = some (i, ls) → l = renL (rho ls n) (sWrong.args i) ∧ givenHp H ls = renH (rho ls n) (sWrong.hp i) := by
  intro l H n i ls h
  simp only [sWrong] at h
  repeat' split at h
  all_goals first
    | (cases h; done)
    | (cases h; exact ⟨rfl, rfl⟩)
def sIdx : Spec where
  ι := List Int
  dec l H := match l with
    | [.dat (.ints .i64 l), .fn (.func 96) [] []] => some (l, [])
    | _ => none
  args := fun l => [.dat (.ints .i64 l), .fn (.func 96) [] []]
  pre := fun l => [⟨l.length ≤ 4294967296, inferInstance⟩]
  out := fun l => .leaf (.v (.int .i64 (cond (l.all okCnt) (-1) ((l.findIdx fun x => !okCnt x : Nat) : Int)))) []
theorem sIdx_enc : ∀ l H n i ls, sIdx.dec l H = some (i, ls) → l = renL (rho ls n) (sIdx.args i) ∧ givenHp H ls = renH (rho ls n) (sIdx.hp i) := by
  intro l H n i ls h
  simp only [sIdx] at h
  repeat' split at h
  all_goals first
    | (cases h; done)
    | (cases h; exact ⟨rfl, rfl⟩)
def sHas : Spec where
  ι := List Int
  dec l H := match l with
    | [.dat (.ints .i64 l), .fn (.func 96) [] []] => some (l, [])
    | _ => none
  args := fun l => [.dat (.ints .i64 l), .fn (.func 96) [] []]
  pre := fun l => [⟨l.length ≤ 4294967296, inferInstance⟩]
  out := fun l => .leaf (.v (.bool (!l.all okCnt))) []
theorem sHas_enc : ∀ l H n i ls, sHas.dec l H = some (i, ls) → l = renL (rho ls n) (sHas.args i) ∧ givenHp H ls = renH (rho ls n) (sHas.hp i) := by
  intro l H n i ls h
  simp only [sHas] at h
  repeat' split at h
  all_goals first
    | (cases h; done)
    | (cases h; exact ⟨rfl, rfl⟩)
def sCntd : Spec where
  ι := List Int × List Int
  dec l H := match l with
    | [.dat (.ints .i64 l), .dat (.ints .i64 c)] => some ((l, c), [])
    | _ => none
  args := fun (l, c) => [.dat (.ints .i64 l), .dat (.ints .i64 c)]
  pre := fun (l, c) => [⟨l.length ≤ 4294967296, inferInstance⟩, ⟨c.length ≤ 4294967296, inferInstance⟩]
  out := fun (l, c) => .leaf (.v (.int .i64 (cntd l c))) []
theorem sCntd_enc : ∀ l H n i ls, sCntd.dec l H = some (i, ls) → l = renL (rho ls n) (sCntd.args i) ∧ givenHp H ls = renH (rho ls n) (sCntd.hp i) := by
  intro l H n i ls h
  simp only [sCntd] at h
  repeat' split at h
  all_goals first
    | (cases h; done)
    | (cases h; exact ⟨rfl, rfl⟩)
def sLen : Spec where
  ι := List Int × Int × Int
  dec l H := match l with
    | [.dat (.ints .i64 l), .v (.int .i64 s), .v (.int .i64 n)] => some ((l, s, n), [])
    | _ => none
  args := fun (l, s, n) => [.dat (.ints .i64 l), .v (.int .i64 s), .v (.int .i64 n)]
  pre := fun (l, s, n) => [⟨0 ≤ s, inferInstance⟩]
  out := fun (l, s, n) => .leaf (.tu [.v (.int .i64 (lenN l s n)), .v (.bool (lenOk l s n))]) []
theorem sLen_enc : ∀ l H n i ls, sLen.dec l H = some (i, ls) → l = renL (rho ls n) (sLen.args i) ∧ givenHp H ls = renH (rho ls n) (sLen.hp i) := by
  intro l H n i ls h
  simp only [sLen] at h
  repeat' split at h
  all_goals first
    | (cases h; done)
    | (cases h; exact ⟨rfl, rfl⟩)
def sCov : Spec where
  ι := List Int × List Int
  dec l H := match l with
    | [.dat (.ints .i64 l), .dat (.ints .i64 c)] => some ((l, c), [])
    | _ => none
  args := fun (l, c) => [.dat (.ints .i64 l), .dat (.ints .i64 c)]
  pre := fun (l, c) => [⟨l.length ≤ 4294967296, inferInstance⟩, ⟨c.length ≤ 4294967296, inferInstance⟩]
  out := fun (l, c) => .leaf (.tu [.v (.bool (covV l c)), .v (.int .i64 (cntd l c))]) []
theorem sCov_enc : ∀ l H n i ls, sCov.dec l H = some (i, ls) → l = renL (rho ls n) (sCov.args i) ∧ givenHp H ls = renH (rho ls n) (sCov.hp i) := by
  intro l H n i ls h
  simp only [sCov] at h
  repeat' split at h
  all_goals first
    | (cases h; done)
    | (cases h; exact ⟨rfl, rfl⟩)
def sBit : Spec where
  ι := List Int × List Int
  dec l H := match l with
    | [.dat (.ints .i64 l), .dat (.ints .i64 c)] => some ((l, c), [])
    | _ => none
  args := fun (l, c) => [.dat (.ints .i64 l), .dat (.ints .i64 c)]
  pre := fun (l, c) => [⟨l.length ≤ 4294967296, inferInstance⟩, ⟨c.length ≤ 4294967296, inferInstance⟩]
  out := fun (l, c) => .leaf (.tu [.v (.int .i64 (bitV l c)), .v (.int .i64 (bitE l c))]) []
theorem sBit_enc : ∀ l H n i ls, sBit.dec l H = some (i, ls) → l = renL (rho ls n) (sBit.args i) ∧ givenHp H ls = renH (rho ls n) (sBit.hp i) := by
  intro l H n i ls h
  simp only [sBit] at h
  repeat' split at h
  all_goals first
    | (cases h; done)
    | (cases h; exact ⟨rfl, rfl⟩)
def sOwnL : Spec where
  ι := List Int
  dec l H := match l with
    | [.dat (.ints .i64 l)] => some (l, [])
    | _ => none
  args := fun l => [.dat (.ints .i64 l)]
  pre := fun l => [⟨l.length ≤ 4294967296, inferInstance⟩]
  out := fun l => .leaf (.o 2000) [(2000, .row 3 (.ints .i64 l))]
theorem sOwnL_enc : ∀ l H n i ls, sOwnL.dec l H = some (i, ls) → l = renL (rho ls n) (sOwnL.args i) ∧ givenHp H ls = renH (rho ls n) (sOwnL.hp i) := by
  intro l H n i ls h
  simp only [sOwnL] at h
  repeat' split at h
  all_goals first
    | (cases h; done)
    | (cases h; exact ⟨rfl, rfl⟩)
def sEqL : Spec where
  ι := List Int × List Int
  dec l H := match l with
    | [.dat (.ints .i64 a), .dat (.ints .i64 b)] => some ((a, b), [])
    | _ => none
  args := fun (a, b) => [.dat (.ints .i64 a), .dat (.ints .i64 b)]
  pre := fun (a, b) => [⟨a.length ≤ 4294967296, inferInstance⟩]
  out := fun (a, b) => .leaf (.v (.bool (eqL a b))) []
theorem sEqL_enc : ∀ l H n i ls, sEqL.dec l H = some (i, ls) → l = renL (rho ls n) (sEqL.args i) ∧ givenHp H ls = renH (rho ls n) (sEqL.hp i) := by
  intro l H n i ls h
  simp only [sEqL] at h
  repeat' split at h
  all_goals first
    | (cases h; done)
    | (cases h; exact ⟨rfl, rfl⟩)
def sNaN : Spec where
  ι := Int
  dec l H := match l with
    | [.v (.int .i64 a)] => some (a, [])
    | _ => none
  args := fun a => [.v (.int .i64 a)]
  out := fun a => .leaf (.v (.bool false)) []
theorem sNaN_enc : ∀ l H n i ls, sNaN.dec l H = some (i, ls) → l = renL (rho ls n) (sNaN.args i) ∧ givenHp H ls = renH (rho ls n) (sNaN.hp i) := by
  intro l H n i ls h
  simp only [sNaN] at h
  repeat' split at h
  all_goals first
    | (cases h; done)
    | (cases h; exact ⟨rfl, rfl⟩)
def sCmp : Spec where
  ι := Int × Int
  dec l H := match l with
    | [.v (.int .i64 a), .v (.int .i64 b)] => some ((a, b), [])
    | _ => none
  args := fun (a, b) => [.v (.int .i64 a), .v (.int .i64 b)]
  out := fun (a, b) => .leaf (.v (.int .i64 (cond (decide (a < b)) (-1) (cond (decide (b < a)) 1 0)))) []
theorem sCmp_enc : ∀ l H n i ls, sCmp.dec l H = some (i, ls) → l = renL (rho ls n) (sCmp.args i) ∧ givenHp H ls = renH (rho ls n) (sCmp.hp i) := by
  intro l H n i ls h
  simp only [sCmp] at h
  repeat' split at h
  all_goals first
    | (cases h; done)
    | (cases h; exact ⟨rfl, rfl⟩)
def sOr : Spec where
  ι := Int × Int
  dec l H := match l with
    | [.dat (.ints .i64 [a, b])] => some ((a, b), [])
    | _ => none
  args := fun (a, b) => [.dat (.ints .i64 [a, b])]
  out := fun (a, b) => .leaf (.v (.int .i64 (cond (a == 0) b a))) []
theorem sOr_enc : ∀ l H n i ls, sOr.dec l H = some (i, ls) → l = renL (rho ls n) (sOr.args i) ∧ givenHp H ls = renH (rho ls n) (sOr.hp i) := by
  intro l H n i ls h
  simp only [sOr] at h
  repeat' split at h
  all_goals first
    | (cases h; done)
    | (cases h; exact ⟨rfl, rfl⟩)
/-! ### loops -/
def one6 (x : LoopInv) : Nat → Option LoopFam := fun k => cond (Nat.beq k 0) (some (.one x)) none
def two6 (x y : LoopInv) : Nat → Option LoopFam := fun k => cond (Nat.beq k 0) (some (.one x)) (cond (Nat.beq k 1) (some (.one y)) none)
def oMany (l : List Int) : LoopInv := { ι := Nat, p := fun i => i ≤ l.length ∧ (l.take i).all okLen = true, tm := fun i => [(2, .p 1000 0 0), (10, .dat (.ints .i64 l)), (11, .v (.int .i64 l.length)), (12, .v (.int .i64 (i : Nat)))], hp := fun i => [(1000, .arr 89 (.ints .i64 (bumps (l.take i))))], μ := fun i => l.length - i }
def oChk6 (l : List Int) : LoopInv := { ι := Nat, p := fun i => i ≤ 11 ∧ (manyT l).2 = 0, tm := fun i => [(3, .p 1000 0 0), (5, .v (.int .i64 (rmC (manyT l).1 i))), (6, .v (.int .i64 (cdC (manyT l).1 i))), (7, .v (.int .i64 ((i : Int) + 1)))], hp := fun i => [(1000, .arr 89 (.ints .i64 (manyT l).1))], μ := fun i => 11 - i }
def oMaxL (l : List Int) : LoopInv := { ι := Nat, p := fun i => 1 ≤ i ∧ i ≤ l.length, tm := fun i => [(0, .dat (.ints .i64 l)), (3, .v (.int .i64 (maxL (l.take i)))), (4, .v (.int .i64 (i : Nat)))], hp := fun _ => [], μ := fun i => l.length - i }
def oRgmx (l : List Int) : LoopInv := { ι := Nat, p := fun i => i ≤ l.length, tm := fun i => [(0, .dat (.ints .i64 l)), (3, .v (.int .i64 (gmx (l.take i)))), (4, .v (.int .i64 (i : Nat)))], hp := fun _ => [], μ := fun i => l.length - i }
def oRchkA (l : List Int) : LoopInv := { ι := Nat, p := fun i => i ≤ l.length ∧ (l.take i).all okLen = true, tm := fun i => [(0, .dat (.ints .i64 l)), (3, .v (.int .i64 (i : Nat)))], hp := fun _ => [], μ := fun i => l.length - i }
def oRchkB (l : List Int) : LoopInv := { ι := Nat, p := fun i => i ≤ l.length ∧ l.all okLen = true, tm := fun i => [(0, .dat (.ints .i64 l)), (4, .v (.int .i64 (gmx l))), (5, .v (.int .i64 (cntP (l.take i)))), (6, .v (.int .i64 (sumM (gmx l) (l.take i)))), (7, .v (.int .i64 (i : Nat)))], hp := fun _ => [], μ := fun i => l.length - i }
def oIdx (l : List Int) : LoopInv := { ι := Nat, p := fun i => i ≤ l.length ∧ (l.take i).all okCnt = true, tm := fun i => [(0, .dat (.ints .i64 l)), (1, .fn (.func 96) [] []), (7, .v (.int .i64 l.length)), (8, .v (.int .i64 (i : Nat)))], hp := fun _ => [], μ := fun i => l.length - i }
def oRcntd (l c : List Int) : LoopInv := { ι := Nat, p := fun i => i ≤ c.length ∧ (c.take i).all okCnt = true, tm := fun i => [(1, .dat (.ints .i64 c)), (6, .v (.int .i64 (i : Nat)))], hp := fun _ => [], μ := fun i => c.length - i }
def oCov (l c : List Int) : LoopInv := { ι := Nat, p := fun i => i ≤ c.length ∧ (List.range i).all (fun s => lenOk l s (c.getD s 0)) = true, tm := fun i => [(0, .dat (.ints .i64 l)), (17, .dat (.ints .i64 c)), (18, .v (.int .i64 c.length)), (19, .v (.int .i64 (i : Nat)))], hp := fun _ => [], μ := fun i => c.length - i }
def oRcov (l c : List Int) : LoopInv := { ι := Nat, p := fun i => i ≤ c.length ∧ (List.range i).all (fun s => lenOk l s (c.getD s 0)) = true, tm := fun i => [(0, .dat (.ints .i64 l)), (1, .dat (.ints .i64 c)), (7, .v (.int .i64 (i : Nat)))], hp := fun _ => [], μ := fun i => c.length - i }
def oBit (l c : List Int) : LoopInv := { ι := Nat, p := fun i => i ≤ c.length, tm := fun i => [(0, .dat (.ints .i64 l)), (8, .v (.int .i64 (bitS l c i))), (28, .dat (.ints .i64 c)), (29, .v (.int .i64 c.length)), (30, .v (.int .i64 (i : Nat)))], hp := fun _ => [], μ := fun i => c.length - i }
def oRbit (l c : List Int) : LoopInv := { ι := Nat, p := fun i => i ≤ c.length ∧ i ≤ l.length, tm := fun i => [(0, .dat (.ints .i64 l)), (1, .dat (.ints .i64 c)), (8, .v (.int .i64 (rbitS l c i))), (9, .v (.int .i64 (i : Nat)))], hp := fun _ => [], μ := fun i => c.length - i }
def oEqR (w : Nat) (a b : List (List Int)) : LoopInv := { ι := Nat, p := fun i => i ≤ a.length ∧ (a.take i).map (rowN w) = (b.take i).map (rowN w), tm := fun i => [(0, .dat (.recs w a)), (1, .dat (.recs w b)), (5, .v (.int .i64 (i : Nat)))], hp := fun _ => [], μ := fun i => a.length - i }
def oEqL (a b : List Int) : LoopInv := { ι := Nat, p := fun i => i ≤ a.length ∧ a.take i = b.take i, tm := fun i => [(0, .dat (.ints .i64 a)), (1, .dat (.ints .i64 b)), (5, .v (.int .i64 (i : Nat)))], hp := fun _ => [], μ := fun i => a.length - i }
def oEqN : LoopInv := { ι := Nat, p := fun i => i = 0, tm := fun _ => [(0, .v (.slice none 0 0)), (1, .v (.slice none 0 0)), (5, .v (.int .i64 0))], hp := fun _ => [], μ := fun _ => 0 }
def oOr (a b : Int) : LoopInv := { ι := Nat, p := fun i => i ≤ 2 ∧ ([a, b].take i).all (fun x => x == 0) = true, tm := fun i => [(3, .v (.int .i64 0)), (6, .dat (.ints .i64 [a, b])), (7, .v (.int .i64 2)), (8, .v (.int .i64 (i : Nat)))], hp := fun _ => [], μ := fun i => 2 - i }
/-! ### tables -/
def G6a : List (Nat × Ctr) := (65, sMany.ctr) :: (90, sMaxL.ctr) :: (64, sRgmx.ctr) :: (96, sWrong.ctr) :: (21, sOwnL.ctr) :: (31, sEqL.ctr) :: (66, sLen.ctr) :: (117, sNaN.ctr) :: (93, sOr.ctr) :: []
def G6b : List (Nat × Ctr) := (23, sChk.ctr) :: (24, sChk.ctr) :: (61, sGmx.ctr) :: (102, sIdx.ctr) :: (94, sCmp.ctr) :: G6a
def G6c : List (Nat × Ctr) := (17, sMost.ctr) :: (22, sMost.ctr) :: (73, sHas.ctr) :: (68, sCntd.ctr) :: G6b
def G6d : List (Nat × Ctr) := (67, sCntd.ctr) :: (35, sCov.ctr) :: G6c
def G6e : List (Nat × Ctr) := (34, sCov.ctr) :: (33, sBit.ctr) :: G6d
def G6f : List (Nat × Ctr) := (32, sBit.ctr) :: G6e
/-! ### conditions
--%VC many6 ;; (l : List Int) ;; [] ;; one6 (oMany l) ;; code.many ;; [.dat (.ints .i64 l)] ;; [] ;; (.tu [.av (.ints .i64 (manyT l).1), .v (.int .i64 (manyT l).2)]) ;; []
--%VC max6 ;; (l : List Int) ;; [] ;; one6 (oMaxL l) ;; slices.Max[[]int,int] ;; [.dat (.ints .i64 l)] ;; [] ;; (.v (.int .i64 (maxL l))) ;; []
--%VC rgmx6 ;; (l : List Int) ;; [] ;; one6 (oRgmx l) ;; ref16.greatest ;; [.dat (.ints .i64 l)] ;; [] ;; (.v (.int .i64 (gmx l))) ;; []
--%VC wrong6 ;; (n : Int) ;; [] ;; fun _ => none ;; code.counted$1 ;; [.v (.int .i64 n)] ;; [] ;; (.v (.bool (!okCnt n))) ;; []
--%VC own6 ;; (l : List Int) ;; [] ;; fun _ => none ;; kit.OwnInts ;; [.dat (.ints .i64 l)] ;; [] ;; (.o 2000) ;; [(2000, .row 3 (.ints .i64 l))]
--%VC eq6 ;; (a b : List Int) ;; [] ;; one6 (oEqL a b) ;; kit.SameInts ;; [.dat (.ints .i64 a), .dat (.ints .i64 b)] ;; [] ;; (.v (.bool (eqL a b))) ;; []
--%VC len6 ;; (l : List Int) (s n : Int) ;; [] ;; fun _ => none ;; code.length ;; [.dat (.ints .i64 l), .v (.int .i64 s), .v (.int .i64 n)] ;; [] ;; (.tu [.v (.int .i64 (lenN l s n)), .v (.bool (lenOk l s n))]) ;; []
--%VC nan6 ;; (a : Int) ;; [] ;; fun _ => none ;; cmp.isNaN[int] ;; [.v (.int .i64 a)] ;; [] ;; (.v (.bool false)) ;; []
--%VC or6 ;; (a b : Int) ;; [] ;; one6 (oOr a b) ;; cmp.Or[int] ;; [.dat (.ints .i64 [a, b])] ;; [] ;; (.v (.int .i64 (cond (a == 0) b a))) ;; []
--%VC cmp6 ;; (a b : Int) ;; G6a ;; fun _ => none ;; cmp.Compare[int] ;; [.v (.int .i64 a), .v (.int .i64 b)] ;; [] ;; (.v (.int .i64 (cond (decide (a < b)) (-1) (cond (decide (b < a)) 1 0)))) ;; []
--%VC check6 ;; (l : List Int) ;; G6a ;; one6 (oChk6 l) ;; code.Check ;; [.dat (.ints .i64 l)] ;; [] ;; (.v (.int .i64 (chk l))) ;; []
--%VC rcheck6 ;; (l : List Int) ;; G6a ;; two6 (oRchkA l) (oRchkB l) ;; ref16.Check ;; [.dat (.ints .i64 l)] ;; [] ;; (.v (.int .i64 (chk l))) ;; []
--%VC great6 ;; (l : List Int) ;; G6a ;; fun _ => none ;; code.greatest ;; [.dat (.ints .i64 l)] ;; [] ;; (.v (.int .i64 (gmx l))) ;; []
--%VC idx6 ;; (l : List Int) ;; G6a ;; one6 (oIdx l) ;; slices.IndexFunc[[]int,int] ;; [.dat (.ints .i64 l), .fn (.func 96) [] []] ;; [] ;; (.v (.int .i64 (cond (l.all okCnt) (-1) ((l.findIdx fun x => !okCnt x : Nat) : Int)))) ;; []
--%VC most6 ;; (l : List Int) ;; G6b ;; fun _ => none ;; code.Most ;; [.dat (.ints .i64 l)] ;; [] ;; (.tu [.v (.int .i64 (mostI l)), .v (.int .i64 (chk l))]) ;; []
--%VC rmost6 ;; (l : List Int) ;; G6b ;; fun _ => none ;; ref16.Most ;; [.dat (.ints .i64 l)] ;; [] ;; (.tu [.v (.int .i64 (mostI l)), .v (.int .i64 (chk l))]) ;; []
--%VC has6 ;; (l : List Int) ;; G6b ;; fun _ => none ;; slices.ContainsFunc[[]int,int] ;; [.dat (.ints .i64 l), .fn (.func 96) [] []] ;; [] ;; (.v (.bool (!l.all okCnt))) ;; []
--%VC rcntd6 ;; (l c : List Int) ;; G6b ;; one6 (oRcntd l c) ;; ref16.counted ;; [.dat (.ints .i64 l), .dat (.ints .i64 c)] ;; [] ;; (.v (.int .i64 (cntd l c))) ;; []
--%VC cntd6 ;; (l c : List Int) ;; G6c ;; fun _ => none ;; code.counted ;; [.dat (.ints .i64 l), .dat (.ints .i64 c)] ;; [] ;; (.v (.int .i64 (cntd l c))) ;; []
--%VC rcov6 ;; (l c : List Int) ;; G6c ;; one6 (oRcov l c) ;; ref16.Covers ;; [.dat (.ints .i64 l), .dat (.ints .i64 c)] ;; [] ;; (.tu [.v (.bool (covV l c)), .v (.int .i64 (cntd l c))]) ;; []
--%VC cov6 ;; (l c : List Int) ;; G6d ;; one6 (oCov l c) ;; code.Covers ;; [.dat (.ints .i64 l), .dat (.ints .i64 c)] ;; [] ;; (.tu [.v (.bool (covV l c)), .v (.int .i64 (cntd l c))]) ;; []
--%VC bit6 ;; (l c : List Int) ;; G6e ;; one6 (oBit l c) ;; code.Bits ;; [.dat (.ints .i64 l), .dat (.ints .i64 c)] ;; [] ;; (.tu [.v (.int .i64 (bitV l c)), .v (.int .i64 (bitE l c))]) ;; []
--%VC rbit6 ;; (l c : List Int) ;; G6d ;; one6 (oRbit l c) ;; ref16.Bits ;; [.dat (.ints .i64 l), .dat (.ints .i64 c)] ;; [] ;; (.tu [.v (.int .i64 (bitV l c)), .v (.int .i64 (bitE l c))]) ;; []
--%VC eqr2 ;; (a b : List (List Int)) ;; [] ;; one6 (oEqR 2 a b) ;; kit.SameCodes ;; [.dat (.recs 2 a), .dat (.recs 2 b)] ;; [] ;; (.v (.bool (eqR 2 a b))) ;; []
--%VC eqr2n ;;  ;; [] ;; one6 oEqN ;; kit.SameCodes ;; [.v (.slice none 0 0), .v (.slice none 0 0)] ;; [] ;; (.v (.bool true)) ;; []
--%VC eqr3 ;; (a b : List (List Int)) ;; [] ;; one6 (oEqR 3 a b) ;; kit.SameCells ;; [.dat (.recs 3 a), .dat (.recs 3 b)] ;; [] ;; (.v (.bool (eqR 3 a b))) ;; []
--%VC eqr3n ;;  ;; [] ;; one6 oEqN ;; kit.SameCells ;; [.v (.slice none 0 0), .v (.slice none 0 0)] ;; [] ;; (.v (.bool true)) ;; []
-/
end Go.Proofs.Ytfbdocfhgjfboaa
/-
  slices.SortFunc on the symbols of code.ranges: its contract. Conditions: each theorem's own.
-/
namespace Go.Proofs.Ytfbdocfhgjfboaa
open Go Go.Shelf Go.RowKit Go.Lib Go.Sort
set_option linter.unusedVariables false
set_option linter.unusedSimpArgs false
set_option maxRecDepth 100000
/-! ### the plain order -/
theorem insS_perm (a : List Int) : ∀ l, (insS a l).Perm (a :: l)
  | [] => List.Perm.refl _
  | b :: r => by
    unfold insS
    cases sLe a b
    · exact ((insS_perm a r).cons b).trans (List.Perm.swap a b r)
    · exact List.Perm.refl _
theorem srt_perm : ∀ l, (srt l).Perm l
  | [] => List.Perm.refl _
  | a :: r => (insS_perm a (srt r)).trans ((srt_perm r).cons a)
theorem sLe_iff {a b : List Int} : sLe a b = true ↔ b.getD 1 0 < a.getD 1 0 ∨ (b.getD 1 0 = a.getD 1 0 ∧ a.getD 0 0 ≤ b.getD 0 0) := by
  simp [sLe]
theorem sLe_total {a b : List Int} (h : sLe a b = false) : sLe b a = true := by
  have h' : ¬ sLe a b = true := by rw [h]; simp
  rw [sLe_iff] at h' ⊢
  omega
theorem sLe_trans {a b c : List Int} (h : sLe a b = true) (k : sLe b c = true) : sLe a c = true := by
  rw [sLe_iff] at *
  omega
theorem insS_sorted (a : List Int) : ∀ l, l.Pairwise (fun x y => sLe x y = true) → (insS a l).Pairwise (fun x y => sLe x y = true)
  | [], _ => by simp [insS]
  | b :: r, h => by
    unfold insS
    obtain ⟨h1, h2⟩ := List.pairwise_cons.1 h
    cases hab : sLe a b
    · refine List.pairwise_cons.2 ⟨fun y hy => ?_, insS_sorted a r h2⟩
      have := (insS_perm a r).mem_iff.1 hy
      simp only [List.mem_cons] at this
      rcases this with rfl | hy
      · exact sLe_total hab
      · exact h1 y hy
    · refine List.pairwise_cons.2 ⟨fun y hy => ?_, h⟩
      simp only [List.mem_cons] at hy
      rcases hy with rfl | hy
      · exact hab
      · exact sLe_trans hab (h1 y hy)
theorem srt_sorted : ∀ l, (srt l).Pairwise (fun x y => sLe x y = true)
  | [] => List.Pairwise.nil
  | a :: r => insS_sorted a _ (srt_sorted r)
/-- there is one order -/
theorem srt_unique {l d : List (List Int)} (h2 : ∀ r ∈ l, r.length = 2) (hp : d.Perm l) (hs : d.Pairwise (fun x y => sLe x y = true)) : d = srt l := by
  refine List.Perm.eq_of_pairwise ?_ hs (srt_sorted l) (hp.trans (srt_perm l).symm)
  intro a b ha hb h k
  have la := h2 a (hp.mem_iff.1 ha)
  have lb := h2 b ((srt_perm l).mem_iff.1 hb)
  rw [sLe_iff] at h k
  match a, la, b, lb with
  | [a0, a1], _, [b0, b1], _ =>
    simp only [List.getD_cons_zero, List.getD_cons_succ] at h k
    have e1 : a1 = b1 := by omega
    have e0 : a0 = b0 := by omega
    rw [e1, e0]
/-! ### pairs -/
def prL (p : Int × Int) : List Int := [p.1, p.2]
def unP (r : List Int) : Int × Int := (r.getD 0 0, r.getD 1 0)
theorem prL_unP {r : List Int} (h : r.length = 2) : prL (unP r) = r := by
  match r, h with
  | [a, b], _ => rfl
def encS (x : Int × Int) : List Value := [.int .i64 x.1, .int .i64 x.2]
def cfS (x y : Int × Int) : Int := if cmpI y.2 x.2 = 0 then cmpI x.1 y.1 else cmpI y.2 x.2
theorem ltS (x y : Int × Int) : ltOf cfS x y = decide (y.2 < x.2 ∨ (y.2 = x.2 ∧ x.1 < y.1)) := by
  unfold ltOf cfS cmpI
  by_cases h1 : y.2 < x.2
  · simp [h1]
  · by_cases h2 : x.2 < y.2
    · have : ¬ y.2 = x.2 := by omega
      simp [h1, h2, this]
    · have : y.2 = x.2 := by omega
      by_cases h3 : x.1 < y.1
      · simp [this, h3]
      · by_cases h4 : y.1 < x.1 <;> simp [this, h3, h4]
theorem swoS : SWO (ltOf cfS) where
  irrefl x := by rw [ltS]; simp
  trans x y z h1 h2 := by rw [ltS, decide_eq_true_eq] at *; omega
  ntrans x y z h1 h2 := by rw [ltS, decide_eq_false_iff_not] at *; omega
theorem sortCmp (blk off size : Nat) (w : World) : CmpLays Try.prog 92 #[] encS 2 cfS blk off size w := fun _ _ _ _ x y => closure_w x y _
/-- the sorted row, as a list -/
theorem sorted_list {xs : List (List Int)} (h2 : ∀ r ∈ xs, r.length = 2) {d' : Array (Int × Int)} (hp : PermIn 0 (xs.map unP).toArray.size (xs.map unP).toArray d') (hs : SortedIn (ltOf cfS) 0 (xs.map unP).toArray.size d') :
    d'.toList.map prL = srt xs := by
  obtain ⟨p1, _, p3⟩ := hp
  have e1 : (xs.map unP).toArray.size = d'.size := p1.symm
  rw [e1] at p3 hs
  have p4 : d'.toList.Perm (xs.map unP) := by
    have k1 : d'.extract 0 d'.size = d' := by simp
    have k2 : ((xs.map unP).toArray.extract 0 d'.size).toList = xs.map unP := by
      rw [← e1]
      simp [List.take_of_length_le]
    rw [k1, k2] at p3
    exact p3
  refine srt_unique h2 ?_ ?_
  · have := p4.map prL
    rw [List.map_map] at this
    have e : xs.map (prL ∘ unP) = xs := by
      conv => rhs; rw [← List.map_id xs]
      exact List.map_congr_left fun r hr => prL_unP (h2 r hr)
    rw [e] at this
    exact this
  · rw [List.pairwise_map, List.pairwise_iff_getElem]
    intro i j hi hj hij
    have hi' : i < d'.size := by simpa using hi
    have hj' : j < d'.size := by simpa using hj
    have := hs i j (Nat.zero_le _) hij hj'
    rw [ltS, decide_eq_false_iff_not, getElem!_pos d' i hi', getElem!_pos d' j hj'] at this
    rw [sLe_iff]
    simp only [Array.getElem_toList, prL, List.getD_cons_zero, List.getD_cons_succ]
    omega
def sSort : Spec where
  ι := List (List Int)
  own := true
  dec l H := match l with
    | [.o l0, .fn (.func 92) [] []] => match H l0 with
      | some (.row 87 (.recs 2 xs)) => some (xs, [l0])
      | _ => none
    | _ => none
  args := fun xs => [.o 0, .fn (.func 92) [] []]
  hp := fun xs => [(0, .row 87 (.recs 2 xs))]
  pre := fun xs => [⟨1 ≤ xs.length, inferInstance⟩, ⟨xs.length ≤ 4294967296, inferInstance⟩, ⟨xs.all (fun r => decide (r.length = 2)) = true, inferInstance⟩]
  out := fun xs => .leaf (.tu []) [(0, .row 87 (.recs 2 (srt xs)))]
theorem sSort_enc : ∀ l H n i ls, sSort.dec l H = some (i, ls) → l = renL (rho ls n) (sSort.args i) ∧ givenHp H ls = renH (rho ls n) (sSort.hp i) := by
  intro l H n i ls h
  simp only [sSort] at h
  repeat' split at h
  all_goals first
    | (cases h; done)
    | (cases h; exact ⟨rfl, rfl⟩)
    | (cases h; refine ⟨rfl, ?_⟩; simp only [givenHp, List.filterMap_cons, List.filterMap_nil, Option.map, *]; rfl)
theorem putBlk {w : World} {g : Nat} {m : Nat} {F : Array Value} {os : Array Obj} {us : Array Value} {ty : TypeId} (h : w.heap[g]? = some (Obj.cells us ty (0, 0))) :
    (Sort.grow (putRow id (Sort.ahead w m) g 0 F) os).heap[g]? = some (Obj.cells (putCells id 0 F us) ty (0, 0)) := by
  have hlt : g < w.heap.size := (Array.getElem?_eq_some_iff.1 h).1
  unfold Sort.grow putRow mapBlock Sort.ahead
  simp only
  rw [Array.getElem?_append_left (by simpa using hlt), Array.getElem?_modify, if_pos rfl, h]
  rfl
theorem putBlk_ne {w : World} {g k : Nat} {m : Nat} {F : Array Value} {os : Array Obj} (hk : k < w.heap.size) (hne : k ≠ g) : (Sort.grow (putRow id (Sort.ahead w m) g 0 F) os).heap[k]? = w.heap[k]? := by
  unfold Sort.grow putRow mapBlock Sort.ahead
  simp only
  rw [Array.getElem?_append_left (by simpa using hk), Array.getElem?_modify, if_neg (Ne.symm hne)]
theorem sort_sat (xs : List (List Int)) (h0 : 1 ≤ xs.length) (h1 : xs.length ≤ 4294967296) (h2 : xs.all (fun r => decide (r.length = 2)) = true) :
    Sat Try.prog 91 [.o 0, .fn (.func 92) [] []] [(0, .row 87 (.recs 2 xs))] (.tu []) [(0, .row 87 (.recs 2 (srt xs)))] := by
  have h2 : ∀ r ∈ xs, r.length = 2 := fun r hr => by simpa using List.all_eq_true.1 h2 r hr
  intro D β w us hargs hhp hD hβ
  simp only [Reps, Rep] at hargs
  obtain ⟨u0, r0, rfl, ⟨L, hL, rfl⟩, u1, r1, rfl, ⟨a1, a2, rfl, rfl, rfl⟩, rfl⟩ := hargs
  obtain ⟨L', hL', hB, hdis⟩ := hhp.1 0 (SBlk.row 87 (.recs 2 xs)) (by simp)
  rw [hL] at hL'
  cases hL'
  obtain ⟨hw, hlen, hB⟩ := hB
  simp only [Dat.wd, Dat.len] at hw hlen hB
  rcases hB with ⟨_, hz⟩ | ⟨hni, hcap, hmax, cs, hcs, hcl, hval⟩
  · omega
  obtain ⟨hnD, hlt⟩ := hdis hni
  obtain ⟨d, hd⟩ : ∃ d : Array (Int × Int), d = (xs.map unP).toArray := ⟨_, rfl⟩
  have hds : d.size = xs.length := by rw [hd]; simp
  have hget : ∀ i, i < xs.length → d[i]! = unP (xs.getD i []) := fun i hi => by
    rw [getElem!_pos d i (by omega)]
    subst hd
    simp [List.getD_eq_getElem?_getD, List.getElem?_eq_getElem hi]
  have cellv : ∀ i j, i < xs.length → j < 2 → cs[i * 2 + j]? = some (.int .i64 ((xs.getD i []).getD j 0)) := fun i j hi hj => by
    obtain ⟨x, hx, hok⟩ := hval i j hi hj
    rw [hx]
    simp only [Dat.ok] at hok
    rw [hok]
  have hH : HoldsK encS 2 w L.g 0 d := by
    intro t ht
    rw [size_flatK, hds] at ht
    have hi : t / 2 < xs.length := by omega
    have hv : (flatK encS 2 d)[t]! = .int .i64 ((xs.getD (t / 2) []).getD (t % 2) 0) := by
      rw [get_flatK _ _ _ _ (by rw [hds]; exact ht), hget _ hi]
      have : t % 2 = 0 ∨ t % 2 = 1 := by omega
      rcases this with e | e <;> rw [e] <;> rfl
    have hc := cellv (t / 2) (t % 2) hi (by omega)
    rw [show t / 2 * 2 + t % 2 = t by omega] at hc
    rw [hv]
    refine ⟨?_, ?_⟩
    · simp [World.cell?, hcs, hc]
    · simp [World.frozen?, hcs]
  have hval2 : L.val = .slice (some ⟨L.g, 0, none⟩) d.size L.cap := by
    unfold Loc.val
    rw [hni, hlen, hds]
    rfl
  have eg : ∀ args w, (callFunc 92 args).run Try.prog w = .ok (.enter 92 args) w := enters_of Try.func92 (by kernel_rfl) rfl
  have key := AnyQ.slices_SortFunc sortSym 2 Try.isAgg87 Try.sizeOf87 encS (fun _ => rfl) (fun x v hv => by simp [encS] at hv; rcases hv with rfl | rfl <;> rfl) cfS swoS 92 #[] L.g 0 L.cap d w eg (sortCmp _ _ _ _) hH hlt (by omega)
  have e : (L.val :: Value.func (.func 92) [].toArray [].toArray :: []).toArray = #[.slice (some ⟨L.g, 0, none⟩) d.size L.cap, .func (.func 92) #[] #[]] := by rw [hval2]
  rw [e]
  refine Calls.mono (show Calls Try.prog 91 _ _ _ from key) ?_
  rintro e w' ⟨rfl, d', n, os, hperm, hsort, rfl⟩
  have hds' : d'.size = xs.length := by rw [hperm.1, hds]
  have hsl : d'.toList.map prL = srt xs := by
    rw [hd] at hperm hsort
    exact sorted_list h2 hperm hsort
  refine ⟨_, D, β, rfl, ?_⟩
  have hg : (sortWorldK encS 2 w L.g 0 n d' os).heap[L.g]? = some (Obj.cells (putCells id 0 (flatK encS 2 d') cs.toArray) 87 (0, 0)) := putBlk hcs
  have hne : ∀ k, k < w.heap.size → k ≠ L.g → (sortWorldK encS 2 w L.g 0 n d' os).heap[k]? = w.heap[k]? := fun k hk hne => putBlk_ne hk hne
  have hsz : w.heap.size ≤ (sortWorldK encS 2 w L.g 0 n d' os).heap.size := by
    unfold sortWorldK Sort.grow putRowK putRow mapBlock Sort.ahead
    simp
  have G : Grows D w β D (sortWorldK encS 2 w L.g 0 n d' os) β := ⟨fun _ h => h, fun g hgD => hne g (hD g hgD) (fun e => hnD (e ▸ hgD)), fun _ _ h => h⟩
  have hgiven : ∀ g, Given β [(0, SBlk.row 87 (.recs 2 xs))] g ↔ g = L.g := by
    intro g
    constructor
    · rintro ⟨l, b, L2, h1, h2, h3, h4⟩
      simp only [List.mem_singleton, Prod.mk.injEq] at h1
      obtain ⟨rfl, rfl⟩ := h1
      rw [hL] at h2
      cases h2
      exact h4.symm
    · rintro rfl
      exact ⟨0, SBlk.row 87 (.recs 2 xs), L, by simp, hL, hni, rfl⟩
  have hsrtlen : (srt xs).length = xs.length := (srt_perm xs).length_eq
  exact {
    grows := G
    ret := by simp only [Rep, Reps]; exact ⟨[], rfl, rfl⟩
    hps := by
      refine ⟨fun l b hl => ?_, fun l l' b b' L1 L2 hl hl' _ _ _ _ _ => ?_⟩
      · simp only [List.mem_singleton, Prod.mk.injEq] at hl
        obtain ⟨rfl, rfl⟩ := hl
        refine ⟨L, hL, ⟨hw, by simp only [Dat.len]; omega, .inr ⟨hni, by simp only [Dat.len]; omega, hmax, (putCells id 0 (flatK encS 2 d') cs.toArray).toList, by simpa using hg, ?_, ?_⟩⟩, fun _ => ⟨hnD, by omega⟩⟩
        · simp only [putCells, Array.length_toList, Array.size_mapIdx, List.size_toArray]
          exact hcl
        · intro i j hi hj
          simp only [Dat.len, Dat.wd] at hi hj
          refine ⟨.int .i64 (((srt xs).getD i []).getD j 0), ?_, rfl⟩
          have hlt2 : i * 2 + j < cs.length := by rw [hcl]; omega
          simp only [Dat.wd, putCells, Array.getElem?_toList, Array.getElem?_mapIdx, List.getElem?_toArray, List.getElem?_eq_getElem hlt2, Option.map_some, size_flatK, Nat.zero_add, Nat.sub_zero, id]
          rw [if_pos ⟨Nat.zero_le _, by omega⟩, get_flatK _ _ _ _ (by omega)]
          have q1 : (i * 2 + j) / 2 = i := by omega
          have q2 : (i * 2 + j) % 2 = j := by omega
          rw [q1, q2, ← hsl]
          have hi3 : i < d'.toList.length := by simp; omega
          simp only [List.getD_eq_getElem?_getD, List.getElem?_map, List.getElem?_eq_getElem hi3, Option.map_some, Option.getD_some, Array.getElem_toList]
          rw [getElem!_pos d' i (by omega)]
          have : j = 0 ∨ j = 1 := by omega
          rcases this with rfl | rfl <;> rfl
      · simp only [List.mem_singleton, Prod.mk.injEq] at hl hl'
        rw [hl.1, hl'.1]
    d := fun g hgD => ⟨.inl hgD, by have := hD g hgD; omega⟩
    dom := fun l L hL => .inl hL
    own := fun l b L2 hl hL2 hn2 => by
      simp only [List.mem_singleton, Prod.mk.injEq] at hl
      obtain ⟨rfl, rfl⟩ := hl
      rw [hL] at hL2
      cases hL2
      exact .inr ((hgiven _).2 rfl)
    os := rfl, tape := rfl, output := rfl, size := hsz
    block := fun g hg1 hg2 => hne g hg1 fun e => hg2 ((hgiven g).2 e) }
theorem sort_sound : Sound Try.prog 91 sSort.ctr := sSort.sound (by kernel_rfl) sSort_enc fun xs hc => by
  have h0 := hc _ (.head _)
  have h1 := hc _ (.tail _ (.head _))
  have h2 := hc _ (.tail _ (.tail _ (.head _)))
  exact sort_sat xs h0 h1 h2
end Go.Proofs.Ytfbdocfhgjfboaa
/-
  The conditions of the functions told in the text before, and that they are the executor's. Conditions: none.
-/
namespace Go.Proofs.Ytfbdocfhgjfboaa
open Go Go.RowKit
set_option linter.unusedVariables false
set_option maxRecDepth 100000
def many6_t (l : List Int) : Prop :=
 (decide ((↑(List.length l) : Int) > (256 : Int)) = true →
 (12 : Nat) = (12 : Nat) ∧
 List.length (List.replicate (12 : Nat) (0 : Int)) = (12 : Nat) ∧
 List.length (List.replicate (12 : Nat) (0 : Int)) = List.length (List.replicate (12 : Nat) (0 : Int)) ∧
 (12 : Nat) = (12 : Nat) ∧ List.replicate (12 : Nat) (0 : Int) = (manyT l).fst ∧ (2 : Int) = (manyT l).snd) ∧
 (decide ((↑(List.length l) : Int) > (256 : Int)) = false →
 (∃ (x0 : Nat),
 (x0 ≤ List.length l ∧ List.all (List.take x0 l) okLen = true) ∧
 l = l ∧ (↑(List.length l) : Int) = (↑(List.length l) : Int) ∧ (0 : Int) = (↑x0 : Int) ∧ List.replicate (12 : Nat) (0 : Int) = bumps (List.take x0 l)) ∧
 ∀ (x1 : Nat),
 x1 ≤ List.length l ∧ List.all (List.take x1 l) okLen = true →
 (decide ((↑x1 : Int) < (↑(List.length l) : Int)) = true →
 (0 : Int) ≤ (↑x1 : Int) ∧
 (↑x1 : Int) < (↑(List.length l) : Int) ∧
 (decide (List.getD l (Int.toNat (↑x1 : Int)) (0 : Int) < (0 : Int)) = true →
 (12 : Nat) = List.length (bumps (List.take x1 l)) ∧
 List.length (bumps (List.take x1 l)) = (12 : Nat) ∧
 List.length (bumps (List.take x1 l)) = List.length (bumps (List.take x1 l)) ∧
 (12 : Nat) = List.length (bumps (List.take x1 l)) ∧ bumps (List.take x1 l) = (manyT l).fst ∧ (2 : Int) = (manyT l).snd) ∧
 (decide (List.getD l (Int.toNat (↑x1 : Int)) (0 : Int) < (0 : Int)) = false →
 (decide (List.getD l (Int.toNat (↑x1 : Int)) (0 : Int) > (11 : Int)) = true →
 (12 : Nat) = List.length (bumps (List.take x1 l)) ∧
 List.length (bumps (List.take x1 l)) = (12 : Nat) ∧
 List.length (bumps (List.take x1 l)) = List.length (bumps (List.take x1 l)) ∧
 (12 : Nat) = List.length (bumps (List.take x1 l)) ∧ bumps (List.take x1 l) = (manyT l).fst ∧ (2 : Int) = (manyT l).snd) ∧
 (decide (List.getD l (Int.toNat (↑x1 : Int)) (0 : Int) > (11 : Int)) = false →
 (0 : Int) ≤ List.getD l (Int.toNat (↑x1 : Int)) (0 : Int) ∧
 List.getD l (Int.toNat (↑x1 : Int)) (0 : Int) < (↑(12 : Nat) : Int) ∧
 Int.toNat (List.getD l (Int.toNat (↑x1 : Int)) (0 : Int)) < List.length (bumps (List.take x1 l)) ∧
 (0 : Int) ≤ List.getD l (Int.toNat (↑x1 : Int)) (0 : Int) ∧
 List.getD l (Int.toNat (↑x1 : Int)) (0 : Int) < (↑(12 : Nat) : Int) ∧
 Int.toNat (List.getD l (Int.toNat (↑x1 : Int)) (0 : Int)) < List.length (bumps (List.take x1 l)) ∧
 ∃ (y2 : Nat),
 (y2 ≤ List.length l ∧ List.all (List.take y2 l) okLen = true) ∧
 Nat.sub (List.length l) y2 < Nat.sub (List.length l) x1 ∧
 l = l ∧
 (↑(List.length l) : Int) = (↑(List.length l) : Int) ∧
 IntKind.wrap IntKind.i64 ((↑x1 : Int) + (1 : Int)) = (↑y2 : Int) ∧
 List.set (bumps (List.take x1 l)) (Int.toNat (List.getD l (Int.toNat (↑x1 : Int)) (0 : Int)))
 (IntKind.wrap IntKind.i64
 (List.getD (bumps (List.take x1 l)) (Int.toNat (List.getD l (Int.toNat (↑x1 : Int)) (0 : Int))) (0 : Int) + (1 : Int))) =
 bumps (List.take y2 l)))) ∧
 (decide ((↑x1 : Int) < (↑(List.length l) : Int)) = false →
 (12 : Nat) = List.length (bumps (List.take x1 l)) ∧
 List.length (bumps (List.take x1 l)) = (12 : Nat) ∧
 List.length (bumps (List.take x1 l)) = List.length (bumps (List.take x1 l)) ∧
 (12 : Nat) = List.length (bumps (List.take x1 l)) ∧ bumps (List.take x1 l) = (manyT l).fst ∧ (0 : Int) = (manyT l).snd))
--end
theorem many6_e (l : List Int) : many6_t l = vcG Try.prog (Gof []) (one6 (oMany l)) Try.f65 [.dat (.ints .i64 l)] [] (.leaf ((.tu [.av (.ints .i64 (manyT l).1), .v (.int .i64 (manyT l).2)])) ([])) := by kernel_rfl
def max6_t (l : List Int) : Prop :=
 (decide ((↑(List.length l) : Int) < (1 : Int)) = true → False) ∧
 (decide ((↑(List.length l) : Int) < (1 : Int)) = false →
 (0 : Int) ≤ (0 : Int) ∧
 (0 : Int) < (↑(List.length l) : Int) ∧
 (∃ (x0 : Nat), ((1 : Nat) ≤ x0 ∧ x0 ≤ List.length l) ∧ l = l ∧ List.getD l (Int.toNat (0 : Int)) (0 : Int) = maxL (List.take x0 l) ∧ (1 : Int) = (↑x0 : Int)) ∧
 ∀ (x1 : Nat),
 (1 : Nat) ≤ x1 ∧ x1 ≤ List.length l →
 (decide ((↑x1 : Int) < (↑(List.length l) : Int)) = true →
 (0 : Int) ≤ (↑x1 : Int) ∧
 (↑x1 : Int) < (↑(List.length l) : Int) ∧
 ∃ (y2 : Nat),
 ((1 : Nat) ≤ y2 ∧ y2 ≤ List.length l) ∧
 Nat.sub (List.length l) y2 < Nat.sub (List.length l) x1 ∧
 l = l ∧
 max (maxL (List.take x1 l)) (List.getD l (Int.toNat (↑x1 : Int)) (0 : Int)) = maxL (List.take y2 l) ∧ IntKind.wrap IntKind.i64 ((↑x1 : Int) + (1 : Int)) = (↑y2 : Int)) ∧
 (decide ((↑x1 : Int) < (↑(List.length l) : Int)) = false → maxL (List.take x1 l) = maxL l))
--end
theorem max6_e (l : List Int) : max6_t l = vcG Try.prog (Gof []) (one6 (oMaxL l)) Try.f90 [.dat (.ints .i64 l)] [] (.leaf ((.v (.int .i64 (maxL l)))) ([])) := by kernel_rfl
def rgmx6_t (l : List Int) : Prop :=
 (∃ (x0 : Nat), Nat.le x0 (List.length l) ∧ l = l ∧ (0 : Int) = gmx (List.take x0 l) ∧ (0 : Int) = (↑x0 : Int)) ∧
 ∀ (x1 : Nat),
 Nat.le x1 (List.length l) →
 (decide ((↑x1 : Int) < (↑(List.length l) : Int)) = true →
 (0 : Int) ≤ (↑x1 : Int) ∧
 (↑x1 : Int) < (↑(List.length l) : Int) ∧
 ∃ (y2 : Nat),
 Nat.le y2 (List.length l) ∧
 Nat.sub (List.length l) y2 < Nat.sub (List.length l) x1 ∧
 l = l ∧ max (gmx (List.take x1 l)) (List.getD l (Int.toNat (↑x1 : Int)) (0 : Int)) = gmx (List.take y2 l) ∧ IntKind.wrap IntKind.i64 ((↑x1 : Int) + (1 : Int)) = (↑y2 : Int)) ∧
 (decide ((↑x1 : Int) < (↑(List.length l) : Int)) = false → gmx (List.take x1 l) = gmx l)
--end
theorem rgmx6_e (l : List Int) : rgmx6_t l = vcG Try.prog (Gof []) (one6 (oRgmx l)) Try.f64 [.dat (.ints .i64 l)] [] (.leaf ((.v (.int .i64 (gmx l)))) ([])) := by kernel_rfl
def wrong6_t (n : Int) : Prop :=
 (decide (n < (0 : Int)) = true → true = !okCnt n) ∧ (decide (n < (0 : Int)) = false → decide (n > (1099511627776 : Int)) = !okCnt n)
--end
theorem wrong6_e (n : Int) : wrong6_t n = vcG Try.prog (Gof []) (fun _ => none) Try.f96 [.v (.int .i64 n)] [] (.leaf ((.v (.bool (!okCnt n)))) ([])) := by kernel_rfl
def own6_t (l : List Int) : Prop :=
 ((0 : Nat) + List.length l) * (8 : Nat) ≤ (140737488355328 : Nat) ∧ [] ++ l = l
--end
theorem own6_e (l : List Int) : own6_t l = vcG Try.prog (Gof []) (fun _ => none) Try.f21 [.dat (.ints .i64 l)] [] (.leaf ((.o 2000)) ([(2000, .row 3 (.ints .i64 l))])) := by kernel_rfl
def eq6_t (a b : List Int) : Prop :=
 (((↑(List.length a) : Int) != (↑(List.length b) : Int)) = true → false = eqL a b) ∧
 (((↑(List.length a) : Int) != (↑(List.length b) : Int)) = false →
 (∃ (x0 : Nat), (x0 ≤ List.length a ∧ List.take x0 a = List.take x0 b) ∧ a = a ∧ b = b ∧ (0 : Int) = (↑x0 : Int)) ∧
 ∀ (x1 : Nat),
 x1 ≤ List.length a ∧ List.take x1 a = List.take x1 b →
 (decide ((↑x1 : Int) < (↑(List.length a) : Int)) = true →
 (0 : Int) ≤ (↑x1 : Int) ∧
 (↑x1 : Int) < (↑(List.length a) : Int) ∧
 (0 : Int) ≤ (↑x1 : Int) ∧
 (↑x1 : Int) < (↑(List.length b) : Int) ∧
 ((List.getD a (Int.toNat (↑x1 : Int)) (0 : Int) != List.getD b (Int.toNat (↑x1 : Int)) (0 : Int)) = true → false = eqL a b) ∧
 ((List.getD a (Int.toNat (↑x1 : Int)) (0 : Int) != List.getD b (Int.toNat (↑x1 : Int)) (0 : Int)) = false →
 ∃ (y2 : Nat),
 (y2 ≤ List.length a ∧ List.take y2 a = List.take y2 b) ∧
 Nat.sub (List.length a) y2 < Nat.sub (List.length a) x1 ∧ a = a ∧ b = b ∧ IntKind.wrap IntKind.i64 ((↑x1 : Int) + (1 : Int)) = (↑y2 : Int))) ∧
 (decide ((↑x1 : Int) < (↑(List.length a) : Int)) = false → true = eqL a b))
--end
theorem eq6_e (a b : List Int) : eq6_t a b = vcG Try.prog (Gof []) (one6 (oEqL a b)) Try.f31 [.dat (.ints .i64 a), .dat (.ints .i64 b)] [] (.leaf ((.v (.bool (eqL a b)))) ([])) := by kernel_rfl
def len6_t (l : List Int) (s n : Int) : Prop :=
 (decide (s < (↑(List.length l) : Int)) = true →
 (0 : Int) ≤ s ∧
 s < (↑(List.length l) : Int) ∧
 (decide (List.getD l (Int.toNat s) (0 : Int) > (0 : Int)) = true → (0 : Int) ≤ s ∧ s < (↑(List.length l) : Int) ∧ List.getD l (Int.toNat s) (0 : Int) = lenN l s n ∧ true = lenOk l s n) ∧
 (decide (List.getD l (Int.toNat s) (0 : Int) > (0 : Int)) = false →
 ((n == (0 : Int)) = true → (0 : Int) = lenN l s n ∧ true = lenOk l s n) ∧ ((n == (0 : Int)) = false → (0 : Int) = lenN l s n ∧ false = lenOk l s n))) ∧
 (decide (s < (↑(List.length l) : Int)) = false → ((n == (0 : Int)) = true → (0 : Int) = lenN l s n ∧ true = lenOk l s n) ∧ ((n == (0 : Int)) = false → (0 : Int) = lenN l s n ∧ false = lenOk l s n))
--end
theorem len6_e (l : List Int) (s n : Int) : len6_t l s n = vcG Try.prog (Gof []) (fun _ => none) Try.f66 [.dat (.ints .i64 l), .v (.int .i64 s), .v (.int .i64 n)] [] (.leaf ((.tu [.v (.int .i64 (lenN l s n)), .v (.bool (lenOk l s n))])) ([])) := by kernel_rfl
def nan6_t (a : Int) : Prop :=
 (a != a) = false
--end
theorem nan6_e (a : Int) : nan6_t a = vcG Try.prog (Gof []) (fun _ => none) Try.f117 [.v (.int .i64 a)] [] (.leaf ((.v (.bool false))) ([])) := by kernel_rfl
def or6_t (a b : Int) : Prop :=
 (∃ (x0 : Nat),
 (x0 ≤ (2 : Nat) ∧ (List.all (List.take x0 [a, b]) fun (x : Int) => x == (0 : Int)) = true) ∧
 (0 : Int) = (0 : Int) ∧ [a, b] = [a, b] ∧ (↑(Nat.succ (Nat.add (List.length [b]) ((0 : Nat)))) : Int) = (2 : Int) ∧ (0 : Int) = (↑x0 : Int)) ∧
 ∀ (x1 : Nat),
 x1 ≤ (2 : Nat) ∧ (List.all (List.take x1 [a, b]) fun (x : Int) => x == (0 : Int)) = true →
 (decide ((↑x1 : Int) < (2 : Int)) = true →
 (0 : Int) ≤ (↑x1 : Int) ∧
 (↑x1 : Int) < (↑(Nat.succ (Nat.add (List.length [b]) ((0 : Nat)))) : Int) ∧
 ((List.getD [a, b] (Int.toNat (↑x1 : Int)) (0 : Int) != (0 : Int)) = true → List.getD [a, b] (Int.toNat (↑x1 : Int)) (0 : Int) = bif a == (0 : Int) then b else a) ∧
 ((List.getD [a, b] (Int.toNat (↑x1 : Int)) (0 : Int) != (0 : Int)) = false →
 ∃ (y2 : Nat),
 (y2 ≤ (2 : Nat) ∧ (List.all (List.take y2 [a, b]) fun (x : Int) => x == (0 : Int)) = true) ∧
 Nat.sub (2 : Nat) y2 < Nat.sub (2 : Nat) x1 ∧
 (0 : Int) = (0 : Int) ∧ [a, b] = [a, b] ∧ (2 : Int) = (2 : Int) ∧ IntKind.wrap IntKind.i64 ((↑x1 : Int) + (1 : Int)) = (↑y2 : Int))) ∧
 (decide ((↑x1 : Int) < (2 : Int)) = false → (0 : Int) = bif a == (0 : Int) then b else a)
--end
theorem or6_e (a b : Int) : or6_t a b = vcG Try.prog (Gof []) (one6 (oOr a b)) Try.f93 [.dat (.ints .i64 [a, b])] [] (.leaf ((.v (.int .i64 (cond (a == 0) b a)))) ([])) := by kernel_rfl
def cmp6_t (a b : Int) : Prop :=
 (false = true →
 (false = true → (0 : Int) = bif decide (a < b) then (-1 : Int) else bif decide (b < a) then (1 : Int) else (0 : Int)) ∧
 (false = false → (-1 : Int) = bif decide (a < b) then (-1 : Int) else bif decide (b < a) then (1 : Int) else (0 : Int))) ∧
 (false = false →
 (false = true → (1 : Int) = bif decide (a < b) then (-1 : Int) else bif decide (b < a) then (1 : Int) else (0 : Int)) ∧
 (false = false →
 (decide (a < b) = true → (-1 : Int) = bif decide (a < b) then (-1 : Int) else bif decide (b < a) then (1 : Int) else (0 : Int)) ∧
 (decide (a < b) = false →
 (decide (a > b) = true → (1 : Int) = bif decide (a < b) then (-1 : Int) else bif decide (b < a) then (1 : Int) else (0 : Int)) ∧
 (decide (a > b) = false → (0 : Int) = bif decide (a < b) then (-1 : Int) else bif decide (b < a) then (1 : Int) else (0 : Int)))))
--end
theorem cmp6_e (a b : Int) : cmp6_t a b = vcG Try.prog (Gof G6a) (fun _ => none) Try.f94 [.v (.int .i64 a), .v (.int .i64 b)] [] (.leaf ((.v (.int .i64 (cond (decide (a < b)) (-1) (cond (decide (b < a)) 1 0))))) ([])) := by kernel_rfl
def check6_t (l : List Int) : Prop :=
 List.length l ≤ (4294967296 : Nat) ∧
 List.length (manyT l).fst = (12 : Nat) ∧
 List.length (manyT l).fst = List.length (List.replicate (12 : Nat) (0 : Int)) ∧
 (((manyT l).snd != (0 : Int)) = true → (manyT l).snd = chk l) ∧
 (((manyT l).snd != (0 : Int)) = false →
 (∃ (x0 : Nat),
 (x0 ≤ (11 : Nat) ∧ (manyT l).snd = (0 : Int)) ∧
 (0 : Int) = rmC (manyT l).fst x0 ∧ (0 : Int) = cdC (manyT l).fst x0 ∧ (1 : Int) = (↑x0 : Int) + (1 : Int) ∧ (manyT l).fst = (manyT l).fst) ∧
 ∀ (x1 : Nat),
 x1 ≤ (11 : Nat) ∧ (manyT l).snd = (0 : Int) →
 (decide ((↑x1 : Int) + (1 : Int) ≤ (11 : Int)) = true →
 (0 : Int) ≤ (↑x1 : Int) + (1 : Int) ∧
 (↑x1 : Int) + (1 : Int) < (↑(12 : Nat) : Int) ∧
 Int.toNat ((↑x1 : Int) + (1 : Int)) < List.length (manyT l).fst ∧
 (0 : Int) ≤ IntKind.wrap IntKind.i64 ((11 : Int) - ((↑x1 : Int) + (1 : Int))) ∧
 (0 : Int) ≤ (↑x1 : Int) + (1 : Int) ∧
 (↑x1 : Int) + (1 : Int) < (↑(12 : Nat) : Int) ∧
 Int.toNat ((↑x1 : Int) + (1 : Int)) < List.length (manyT l).fst ∧
 ∃ (y2 : Nat),
 (y2 ≤ (11 : Nat) ∧ (manyT l).snd = (0 : Int)) ∧
 Nat.sub (11 : Nat) y2 < Nat.sub (11 : Nat) x1 ∧
 IntKind.wrap IntKind.i64
 (rmC (manyT l).fst x1 +
 IntKind.wrap IntKind.i64
 (List.getD (manyT l).fst (Int.toNat ((↑x1 : Int) + (1 : Int))) (0 : Int) *
 (2 : Int) ^ min (Int.toNat (IntKind.wrap IntKind.i64 ((11 : Int) - ((↑x1 : Int) + (1 : Int))))) (IntKind.bits IntKind.i64))) =
 rmC (manyT l).fst y2 ∧
 IntKind.wrap IntKind.i64 (cdC (manyT l).fst x1 + List.getD (manyT l).fst (Int.toNat ((↑x1 : Int) + (1 : Int))) (0 : Int)) = cdC (manyT l).fst y2 ∧
 IntKind.wrap IntKind.i64 ((↑x1 : Int) + (1 : Int) + (1 : Int)) = (↑y2 : Int) + (1 : Int) ∧ (manyT l).fst = (manyT l).fst) ∧
 (decide ((↑x1 : Int) + (1 : Int) ≤ (11 : Int)) = false →
 (decide (cdC (manyT l).fst x1 < (2 : Int)) = true → (21 : Int) = chk l) ∧
 (decide (cdC (manyT l).fst x1 < (2 : Int)) = false →
 ((rmC (manyT l).fst x1 != (2048 : Int)) = true → (21 : Int) = chk l) ∧ ((rmC (manyT l).fst x1 != (2048 : Int)) = false → (0 : Int) = chk l))))
--end
theorem check6_e (l : List Int) : check6_t l = vcG Try.prog (Gof G6a) (one6 (oChk6 l)) Try.f23 [.dat (.ints .i64 l)] [] (.leaf ((.v (.int .i64 (chk l)))) ([])) := by kernel_rfl
def rcheck6_t (l : List Int) : Prop :=
 (decide ((↑(List.length l) : Int) > (256 : Int)) = true → (2 : Int) = chk l) ∧
 (decide ((↑(List.length l) : Int) > (256 : Int)) = false →
 (∃ (x0 : Nat), (x0 ≤ List.length l ∧ List.all (List.take x0 l) okLen = true) ∧ l = l ∧ (0 : Int) = (↑x0 : Int)) ∧
 ∀ (x1 : Nat),
 x1 ≤ List.length l ∧ List.all (List.take x1 l) okLen = true →
 (decide ((↑x1 : Int) < (↑(List.length l) : Int)) = true →
 (0 : Int) ≤ (↑x1 : Int) ∧
 (↑x1 : Int) < (↑(List.length l) : Int) ∧
 (decide (List.getD l (Int.toNat (↑x1 : Int)) (0 : Int) < (0 : Int)) = true → (2 : Int) = chk l) ∧
 (decide (List.getD l (Int.toNat (↑x1 : Int)) (0 : Int) < (0 : Int)) = false →
 (0 : Int) ≤ (↑x1 : Int) ∧
 (↑x1 : Int) < (↑(List.length l) : Int) ∧
 (decide (List.getD l (Int.toNat (↑x1 : Int)) (0 : Int) > (11 : Int)) = true → (2 : Int) = chk l) ∧
 (decide (List.getD l (Int.toNat (↑x1 : Int)) (0 : Int) > (11 : Int)) = false →
 ∃ (y2 : Nat),
 (y2 ≤ List.length l ∧ List.all (List.take y2 l) okLen = true) ∧
 Nat.sub (List.length l) y2 < Nat.sub (List.length l) x1 ∧ l = l ∧ IntKind.wrap IntKind.i64 ((↑x1 : Int) + (1 : Int)) = (↑y2 : Int)))) ∧
 (decide ((↑x1 : Int) < (↑(List.length l) : Int)) = false →
 List.length l ≤ (4294967296 : Nat) ∧
 (∃ (x3 : Nat),
 (x3 ≤ List.length l ∧ List.all l okLen = true) ∧ l = l ∧ gmx l = gmx l ∧ (0 : Int) = cntP (List.take x3 l) ∧ (0 : Int) = sumM (gmx l) (List.take x3 l) ∧ (0 : Int) = (↑x3 : Int)) ∧
 ∀ (x4 : Nat),
 x4 ≤ List.length l ∧ List.all l okLen = true →
 (decide ((↑x4 : Int) < (↑(List.length l) : Int)) = true →
 (0 : Int) ≤ (↑x4 : Int) ∧
 (↑x4 : Int) < (↑(List.length l) : Int) ∧
 (decide (List.getD l (Int.toNat (↑x4 : Int)) (0 : Int) > (0 : Int)) = true →
 (0 : Int) ≤ (↑x4 : Int) ∧
 (↑x4 : Int) < (↑(List.length l) : Int) ∧
 (0 : Int) ≤ IntKind.wrap IntKind.u64 (IntKind.wrap IntKind.i64 (gmx l - List.getD l (Int.toNat (↑x4 : Int)) (0 : Int))) ∧
 ∃ (y5 : Nat),
 (y5 ≤ List.length l ∧ List.all l okLen = true) ∧
 Nat.sub (List.length l) y5 < Nat.sub (List.length l) x4 ∧
 l = l ∧
 gmx l = gmx l ∧
 IntKind.wrap IntKind.i64 (cntP (List.take x4 l) + (1 : Int)) = cntP (List.take y5 l) ∧
 IntKind.wrap IntKind.i64
 (sumM (gmx l) (List.take x4 l) +
 IntKind.wrap IntKind.i64
 ((1 : Int) *
 (2 : Int) ^
 min (Int.toNat (IntKind.wrap IntKind.u64 (IntKind.wrap IntKind.i64 (gmx l - List.getD l (Int.toNat (↑x4 : Int)) (0 : Int)))))
 (IntKind.bits IntKind.i64))) =
 sumM (gmx l) (List.take y5 l) ∧
 IntKind.wrap IntKind.i64 ((↑x4 : Int) + (1 : Int)) = (↑y5 : Int)) ∧
 (decide (List.getD l (Int.toNat (↑x4 : Int)) (0 : Int) > (0 : Int)) = false →
 ∃ (y6 : Nat),
 (y6 ≤ List.length l ∧ List.all l okLen = true) ∧
 Nat.sub (List.length l) y6 < Nat.sub (List.length l) x4 ∧
 l = l ∧
 gmx l = gmx l ∧
 cntP (List.take x4 l) = cntP (List.take y6 l) ∧
 sumM (gmx l) (List.take x4 l) = sumM (gmx l) (List.take y6 l) ∧ IntKind.wrap IntKind.i64 ((↑x4 : Int) + (1 : Int)) = (↑y6 : Int))) ∧
 (decide ((↑x4 : Int) < (↑(List.length l) : Int)) = false →
 (decide (cntP (List.take x4 l) < (2 : Int)) = true → (21 : Int) = chk l) ∧
 (decide (cntP (List.take x4 l) < (2 : Int)) = false →
 (0 : Int) ≤ IntKind.wrap IntKind.u64 (gmx l) ∧
 ((sumM (gmx l) (List.take x4 l) != IntKind.wrap IntKind.i64 ((1 : Int) * (2 : Int) ^ min (Int.toNat (IntKind.wrap IntKind.u64 (gmx l))) (IntKind.bits IntKind.i64))) =
 true →
 (21 : Int) = chk l) ∧
 ((sumM (gmx l) (List.take x4 l) != IntKind.wrap IntKind.i64 ((1 : Int) * (2 : Int) ^ min (Int.toNat (IntKind.wrap IntKind.u64 (gmx l))) (IntKind.bits IntKind.i64))) =
 false →
 (0 : Int) = chk l)))))
--end
theorem rcheck6_e (l : List Int) : rcheck6_t l = vcG Try.prog (Gof G6a) (two6 (oRchkA l) (oRchkB l)) Try.f24 [.dat (.ints .i64 l)] [] (.leaf ((.v (.int .i64 (chk l)))) ([])) := by kernel_rfl
def great6_t (l : List Int) : Prop :=
 (0 : Nat) < List.length l ∧ List.length l ≤ (4294967296 : Nat) ∧ maxL l = gmx l
--end
theorem great6_e (l : List Int) : great6_t l = vcG Try.prog (Gof G6a) (fun _ => none) Try.f61 [.dat (.ints .i64 l)] [] (.leaf ((.v (.int .i64 (gmx l)))) ([])) := by kernel_rfl
def idx6_t (l : List Int) : Prop :=
 (∃ (x0 : Nat), (x0 ≤ List.length l ∧ List.all (List.take x0 l) okCnt = true) ∧ l = l ∧ (↑(List.length l) : Int) = (↑(List.length l) : Int) ∧ (0 : Int) = (↑x0 : Int)) ∧
 ∀ (x1 : Nat),
 x1 ≤ List.length l ∧ List.all (List.take x1 l) okCnt = true →
 (decide ((↑x1 : Int) < (↑(List.length l) : Int)) = true →
 (0 : Int) ≤ (↑x1 : Int) ∧
 (↑x1 : Int) < (↑(List.length l) : Int) ∧
 ((!okCnt (List.getD l (Int.toNat (↑x1 : Int)) (0 : Int))) = true → (↑x1 : Int) = bif List.all l okCnt then (-1 : Int) else (↑(List.findIdx (fun (x : Int) => !okCnt x) l) : Int)) ∧
 ((!okCnt (List.getD l (Int.toNat (↑x1 : Int)) (0 : Int))) = false →
 ∃ (y2 : Nat),
 (y2 ≤ List.length l ∧ List.all (List.take y2 l) okCnt = true) ∧
 Nat.sub (List.length l) y2 < Nat.sub (List.length l) x1 ∧
 l = l ∧ (↑(List.length l) : Int) = (↑(List.length l) : Int) ∧ IntKind.wrap IntKind.i64 ((↑x1 : Int) + (1 : Int)) = (↑y2 : Int))) ∧
 (decide ((↑x1 : Int) < (↑(List.length l) : Int)) = false → (-1 : Int) = bif List.all l okCnt then (-1 : Int) else (↑(List.findIdx (fun (x : Int) => !okCnt x) l) : Int))
--end
theorem idx6_e (l : List Int) : idx6_t l = vcG Try.prog (Gof G6a) (one6 (oIdx l)) Try.f102 [.dat (.ints .i64 l), .fn (.func 96) [] []] [] (.leaf ((.v (.int .i64 (cond (l.all okCnt) (-1) ((l.findIdx fun x => !okCnt x : Nat) : Int))))) ([])) := by kernel_rfl
def most6_t (l : List Int) : Prop :=
 List.length l ≤ (4294967296 : Nat) ∧ ((chk l != (0 : Int)) = true → (0 : Int) = mostI l ∧ chk l = chk l) ∧ ((chk l != (0 : Int)) = false → chk l = (0 : Int) ∧ gmx l = mostI l ∧ (0 : Int) = chk l)
--end
theorem most6_e (l : List Int) : most6_t l = vcG Try.prog (Gof G6b) (fun _ => none) Try.f17 [.dat (.ints .i64 l)] [] (.leaf ((.tu [.v (.int .i64 (mostI l)), .v (.int .i64 (chk l))])) ([])) := by kernel_rfl
def rmost6_t (l : List Int) : Prop :=
 List.length l ≤ (4294967296 : Nat) ∧
 ((chk l != (0 : Int)) = true → (0 : Int) = mostI l ∧ chk l = chk l) ∧ ((chk l != (0 : Int)) = false → List.length l ≤ (4294967296 : Nat) ∧ gmx l = mostI l ∧ (0 : Int) = chk l)
--end
theorem rmost6_e (l : List Int) : rmost6_t l = vcG Try.prog (Gof G6b) (fun _ => none) Try.f22 [.dat (.ints .i64 l)] [] (.leaf ((.tu [.v (.int .i64 (mostI l)), .v (.int .i64 (chk l))])) ([])) := by kernel_rfl
def has6_t (l : List Int) : Prop :=
 List.length l ≤ (4294967296 : Nat) ∧ decide ((bif List.all l okCnt then (-1 : Int) else (↑(List.findIdx (fun (x : Int) => !okCnt x) l) : Int)) ≥ (0 : Int)) = !List.all l okCnt
--end
theorem has6_e (l : List Int) : has6_t l = vcG Try.prog (Gof G6b) (fun _ => none) Try.f73 [.dat (.ints .i64 l), .fn (.func 96) [] []] [] (.leaf ((.v (.bool (!l.all okCnt)))) ([])) := by kernel_rfl
def rcntd6_t (l c : List Int) : Prop :=
 List.length l ≤ (4294967296 : Nat) ∧
 ((chk l != (0 : Int)) = true → chk l = cntd l c) ∧
 ((chk l != (0 : Int)) = false →
 (decide ((↑(List.length c) : Int) > (256 : Int)) = true → (2 : Int) = cntd l c) ∧
 (decide ((↑(List.length c) : Int) > (256 : Int)) = false →
 (∃ (x0 : Nat), (x0 ≤ List.length c ∧ List.all (List.take x0 c) okCnt = true) ∧ c = c ∧ (0 : Int) = (↑x0 : Int)) ∧
 ∀ (x1 : Nat),
 x1 ≤ List.length c ∧ List.all (List.take x1 c) okCnt = true →
 (decide ((↑x1 : Int) < (↑(List.length c) : Int)) = true →
 (0 : Int) ≤ (↑x1 : Int) ∧
 (↑x1 : Int) < (↑(List.length c) : Int) ∧
 (decide (List.getD c (Int.toNat (↑x1 : Int)) (0 : Int) < (0 : Int)) = true → (2 : Int) = cntd l c) ∧
 (decide (List.getD c (Int.toNat (↑x1 : Int)) (0 : Int) < (0 : Int)) = false →
 (0 : Int) ≤ (↑x1 : Int) ∧
 (↑x1 : Int) < (↑(List.length c) : Int) ∧
 (decide (List.getD c (Int.toNat (↑x1 : Int)) (0 : Int) > (1099511627776 : Int)) = true → (2 : Int) = cntd l c) ∧
 (decide (List.getD c (Int.toNat (↑x1 : Int)) (0 : Int) > (1099511627776 : Int)) = false →
 ∃ (y2 : Nat),
 (y2 ≤ List.length c ∧ List.all (List.take y2 c) okCnt = true) ∧
 Nat.sub (List.length c) y2 < Nat.sub (List.length c) x1 ∧ c = c ∧ IntKind.wrap IntKind.i64 ((↑x1 : Int) + (1 : Int)) = (↑y2 : Int)))) ∧
 (decide ((↑x1 : Int) < (↑(List.length c) : Int)) = false → (0 : Int) = cntd l c)))
--end
theorem rcntd6_e (l c : List Int) : rcntd6_t l c = vcG Try.prog (Gof G6b) (one6 (oRcntd l c)) Try.f68 [.dat (.ints .i64 l), .dat (.ints .i64 c)] [] (.leaf ((.v (.int .i64 (cntd l c)))) ([])) := by kernel_rfl
def cntd6_t (l c : List Int) : Prop :=
 List.length l ≤ (4294967296 : Nat) ∧
 ((chk l != (0 : Int)) = true → chk l = cntd l c) ∧
 ((chk l != (0 : Int)) = false →
 (decide ((↑(List.length c) : Int) > (256 : Int)) = true → (2 : Int) = cntd l c) ∧
 (decide ((↑(List.length c) : Int) > (256 : Int)) = false →
 List.length c ≤ (4294967296 : Nat) ∧ ((!List.all c okCnt) = true → (2 : Int) = cntd l c) ∧ ((!List.all c okCnt) = false → (0 : Int) = cntd l c)))
--end
theorem cntd6_e (l c : List Int) : cntd6_t l c = vcG Try.prog (Gof G6c) (fun _ => none) Try.f67 [.dat (.ints .i64 l), .dat (.ints .i64 c)] [] (.leaf ((.v (.int .i64 (cntd l c)))) ([])) := by kernel_rfl
def rcov6_t (l c : List Int) : Prop :=
 List.length l ≤ (4294967296 : Nat) ∧
 List.length c ≤ (4294967296 : Nat) ∧
 ((cntd l c != (0 : Int)) = true → false = covV l c ∧ cntd l c = cntd l c) ∧
 ((cntd l c != (0 : Int)) = false →
 (∃ (x0 : Nat), (x0 ≤ List.length c ∧ (List.all (List.range x0) fun (s : Nat) => lenOk l (↑s : Int) (List.getD c s (0 : Int))) = true) ∧ l = l ∧ c = c ∧ (0 : Int) = (↑x0 : Int)) ∧
 ∀ (x1 : Nat),
 x1 ≤ List.length c ∧ (List.all (List.range x1) fun (s : Nat) => lenOk l (↑s : Int) (List.getD c s (0 : Int))) = true →
 (decide ((↑x1 : Int) < (↑(List.length c) : Int)) = true →
 (0 : Int) ≤ (↑x1 : Int) ∧
 (↑x1 : Int) < (↑(List.length c) : Int) ∧
 (decide (List.getD c (Int.toNat (↑x1 : Int)) (0 : Int) > (0 : Int)) = true →
 (decide ((↑x1 : Int) ≥ (↑(List.length l) : Int)) = true → false = covV l c ∧ (0 : Int) = cntd l c) ∧
 (decide ((↑x1 : Int) ≥ (↑(List.length l) : Int)) = false →
 (0 : Int) ≤ (↑x1 : Int) ∧
 (↑x1 : Int) < (↑(List.length l) : Int) ∧
 ((List.getD l (Int.toNat (↑x1 : Int)) (0 : Int) == (0 : Int)) = true → false = covV l c ∧ (0 : Int) = cntd l c) ∧
 ((List.getD l (Int.toNat (↑x1 : Int)) (0 : Int) == (0 : Int)) = false →
 ∃ (y2 : Nat),
 (y2 ≤ List.length c ∧ (List.all (List.range y2) fun (s : Nat) => lenOk l (↑s : Int) (List.getD c s (0 : Int))) = true) ∧
 Nat.sub (List.length c) y2 < Nat.sub (List.length c) x1 ∧ l = l ∧ c = c ∧ IntKind.wrap IntKind.i64 ((↑x1 : Int) + (1 : Int)) = (↑y2 : Int)))) ∧
 (decide (List.getD c (Int.toNat (↑x1 : Int)) (0 : Int) > (0 : Int)) = false →
 ∃ (y3 : Nat),
 (y3 ≤ List.length c ∧ (List.all (List.range y3) fun (s : Nat) => lenOk l (↑s : Int) (List.getD c s (0 : Int))) = true) ∧
 Nat.sub (List.length c) y3 < Nat.sub (List.length c) x1 ∧ l = l ∧ c = c ∧ IntKind.wrap IntKind.i64 ((↑x1 : Int) + (1 : Int)) = (↑y3 : Int))) ∧
 (decide ((↑x1 : Int) < (↑(List.length c) : Int)) = false → true = covV l c ∧ (0 : Int) = cntd l c))
--end
theorem rcov6_e (l c : List Int) : rcov6_t l c = vcG Try.prog (Gof G6c) (one6 (oRcov l c)) Try.f35 [.dat (.ints .i64 l), .dat (.ints .i64 c)] [] (.leaf ((.tu [.v (.bool (covV l c)), .v (.int .i64 (cntd l c))])) ([])) := by kernel_rfl
def cov6_t (l c : List Int) : Prop :=
 List.length l ≤ (4294967296 : Nat) ∧
 List.length c ≤ (4294967296 : Nat) ∧
 ((cntd l c != (0 : Int)) = true → false = covV l c ∧ cntd l c = cntd l c) ∧
 ((cntd l c != (0 : Int)) = false →
 (∃ (x0 : Nat),
 (x0 ≤ List.length c ∧ (List.all (List.range x0) fun (s : Nat) => lenOk l (↑s : Int) (List.getD c s (0 : Int))) = true) ∧
 l = l ∧ c = c ∧ (↑(List.length c) : Int) = (↑(List.length c) : Int) ∧ (0 : Int) = (↑x0 : Int)) ∧
 ∀ (x1 : Nat),
 x1 ≤ List.length c ∧ (List.all (List.range x1) fun (s : Nat) => lenOk l (↑s : Int) (List.getD c s (0 : Int))) = true →
 (decide ((↑x1 : Int) < (↑(List.length c) : Int)) = true →
 (0 : Int) ≤ (↑x1 : Int) ∧
 (↑x1 : Int) < (↑(List.length c) : Int) ∧
 (0 : Int) ≤ (↑x1 : Int) ∧
 ((!lenOk l (↑x1 : Int) (List.getD c (Int.toNat (↑x1 : Int)) (0 : Int))) = true → false = covV l c ∧ (0 : Int) = cntd l c) ∧
 ((!lenOk l (↑x1 : Int) (List.getD c (Int.toNat (↑x1 : Int)) (0 : Int))) = false →
 ∃ (y2 : Nat),
 (y2 ≤ List.length c ∧ (List.all (List.range y2) fun (s : Nat) => lenOk l (↑s : Int) (List.getD c s (0 : Int))) = true) ∧
 Nat.sub (List.length c) y2 < Nat.sub (List.length c) x1 ∧
 l = l ∧ c = c ∧ (↑(List.length c) : Int) = (↑(List.length c) : Int) ∧ IntKind.wrap IntKind.i64 ((↑x1 : Int) + (1 : Int)) = (↑y2 : Int))) ∧
 (decide ((↑x1 : Int) < (↑(List.length c) : Int)) = false → true = covV l c ∧ (0 : Int) = cntd l c))
--end
theorem cov6_e (l c : List Int) : cov6_t l c = vcG Try.prog (Gof G6d) (one6 (oCov l c)) Try.f34 [.dat (.ints .i64 l), .dat (.ints .i64 c)] [] (.leaf ((.tu [.v (.bool (covV l c)), .v (.int .i64 (cntd l c))])) ([])) := by kernel_rfl
def bit6_t (l c : List Int) : Prop :=
 List.length l ≤ (4294967296 : Nat) ∧
 List.length c ≤ (4294967296 : Nat) ∧
 ((cntd l c == (0 : Int)) = true →
 ((!covV l c) = true →
 (((7 : Int) != (0 : Int)) = true → (0 : Int) = bitV l c ∧ (7 : Int) = bitE l c) ∧
 (((7 : Int) != (0 : Int)) = false →
 (∃ (x0 : Nat), Nat.le x0 (List.length c) ∧ l = l ∧ (0 : Int) = bitS l c x0 ∧ c = c ∧ (↑(List.length c) : Int) = (↑(List.length c) : Int) ∧ (0 : Int) = (↑x0 : Int)) ∧
 ∀ (x1 : Nat),
 Nat.le x1 (List.length c) →
 (decide ((↑x1 : Int) < (↑(List.length c) : Int)) = true →
 (0 : Int) ≤ (↑x1 : Int) ∧
 (↑x1 : Int) < (↑(List.length c) : Int) ∧
 (0 : Int) ≤ (↑x1 : Int) ∧
 ∃ (y2 : Nat),
 Nat.le y2 (List.length c) ∧
 Nat.sub (List.length c) y2 < Nat.sub (List.length c) x1 ∧
 l = l ∧
 IntKind.wrap IntKind.i64
 (bitS l c x1 +
 IntKind.wrap IntKind.i64 (List.getD c (Int.toNat (↑x1 : Int)) (0 : Int) * lenN l (↑x1 : Int) (List.getD c (Int.toNat (↑x1 : Int)) (0 : Int)))) =
 bitS l c y2 ∧
 c = c ∧ (↑(List.length c) : Int) = (↑(List.length c) : Int) ∧ IntKind.wrap IntKind.i64 ((↑x1 : Int) + (1 : Int)) = (↑y2 : Int)) ∧
 (decide ((↑x1 : Int) < (↑(List.length c) : Int)) = false → bitS l c x1 = bitV l c ∧ (0 : Int) = bitE l c))) ∧
 ((!covV l c) = false →
 ((cntd l c != (0 : Int)) = true → (0 : Int) = bitV l c ∧ cntd l c = bitE l c) ∧
 ((cntd l c != (0 : Int)) = false →
 (∃ (x3 : Nat), Nat.le x3 (List.length c) ∧ l = l ∧ (0 : Int) = bitS l c x3 ∧ c = c ∧ (↑(List.length c) : Int) = (↑(List.length c) : Int) ∧ (0 : Int) = (↑x3 : Int)) ∧
 ∀ (x4 : Nat),
 Nat.le x4 (List.length c) →
 (decide ((↑x4 : Int) < (↑(List.length c) : Int)) = true →
 (0 : Int) ≤ (↑x4 : Int) ∧
 (↑x4 : Int) < (↑(List.length c) : Int) ∧
 (0 : Int) ≤ (↑x4 : Int) ∧
 ∃ (y5 : Nat),
 Nat.le y5 (List.length c) ∧
 Nat.sub (List.length c) y5 < Nat.sub (List.length c) x4 ∧
 l = l ∧
 IntKind.wrap IntKind.i64
 (bitS l c x4 +
 IntKind.wrap IntKind.i64 (List.getD c (Int.toNat (↑x4 : Int)) (0 : Int) * lenN l (↑x4 : Int) (List.getD c (Int.toNat (↑x4 : Int)) (0 : Int)))) =
 bitS l c y5 ∧
 c = c ∧ (↑(List.length c) : Int) = (↑(List.length c) : Int) ∧ IntKind.wrap IntKind.i64 ((↑x4 : Int) + (1 : Int)) = (↑y5 : Int)) ∧
 (decide ((↑x4 : Int) < (↑(List.length c) : Int)) = false → bitS l c x4 = bitV l c ∧ (0 : Int) = bitE l c)))) ∧
 ((cntd l c == (0 : Int)) = false →
 ((cntd l c != (0 : Int)) = true → (0 : Int) = bitV l c ∧ cntd l c = bitE l c) ∧
 ((cntd l c != (0 : Int)) = false →
 (∃ (x6 : Nat), Nat.le x6 (List.length c) ∧ l = l ∧ (0 : Int) = bitS l c x6 ∧ c = c ∧ (↑(List.length c) : Int) = (↑(List.length c) : Int) ∧ (0 : Int) = (↑x6 : Int)) ∧
 ∀ (x7 : Nat),
 Nat.le x7 (List.length c) →
 (decide ((↑x7 : Int) < (↑(List.length c) : Int)) = true →
 (0 : Int) ≤ (↑x7 : Int) ∧
 (↑x7 : Int) < (↑(List.length c) : Int) ∧
 (0 : Int) ≤ (↑x7 : Int) ∧
 ∃ (y8 : Nat),
 Nat.le y8 (List.length c) ∧
 Nat.sub (List.length c) y8 < Nat.sub (List.length c) x7 ∧
 l = l ∧
 IntKind.wrap IntKind.i64
 (bitS l c x7 +
 IntKind.wrap IntKind.i64 (List.getD c (Int.toNat (↑x7 : Int)) (0 : Int) * lenN l (↑x7 : Int) (List.getD c (Int.toNat (↑x7 : Int)) (0 : Int)))) =
 bitS l c y8 ∧
 c = c ∧ (↑(List.length c) : Int) = (↑(List.length c) : Int) ∧ IntKind.wrap IntKind.i64 ((↑x7 : Int) + (1 : Int)) = (↑y8 : Int)) ∧
 (decide ((↑x7 : Int) < (↑(List.length c) : Int)) = false → bitS l c x7 = bitV l c ∧ (0 : Int) = bitE l c)))
--end
theorem bit6_e (l c : List Int) : bit6_t l c = vcG Try.prog (Gof G6e) (one6 (oBit l c)) Try.f32 [.dat (.ints .i64 l), .dat (.ints .i64 c)] [] (.leaf ((.tu [.v (.int .i64 (bitV l c)), .v (.int .i64 (bitE l c))])) ([])) := by kernel_rfl
def rbit6_t (l c : List Int) : Prop :=
 List.length l ≤ (4294967296 : Nat) ∧
 List.length c ≤ (4294967296 : Nat) ∧
 ((cntd l c == (0 : Int)) = true →
 ((!covV l c) = true →
 (((7 : Int) != (0 : Int)) = true → (0 : Int) = bitV l c ∧ (7 : Int) = bitE l c) ∧
 (((7 : Int) != (0 : Int)) = false →
 (∃ (x0 : Nat), (x0 ≤ List.length c ∧ x0 ≤ List.length l) ∧ l = l ∧ c = c ∧ (0 : Int) = rbitS l c x0 ∧ (0 : Int) = (↑x0 : Int)) ∧
 ∀ (x1 : Nat),
 x1 ≤ List.length c ∧ x1 ≤ List.length l →
 (decide ((↑x1 : Int) < (↑(List.length c) : Int)) = true →
 (decide ((↑x1 : Int) < (↑(List.length l) : Int)) = true →
 (0 : Int) ≤ (↑x1 : Int) ∧
 (↑x1 : Int) < (↑(List.length c) : Int) ∧
 (0 : Int) ≤ (↑x1 : Int) ∧
 (↑x1 : Int) < (↑(List.length l) : Int) ∧
 ∃ (y2 : Nat),
 (y2 ≤ List.length c ∧ y2 ≤ List.length l) ∧
 Nat.sub (List.length c) y2 < Nat.sub (List.length c) x1 ∧
 l = l ∧
 c = c ∧
 IntKind.wrap IntKind.i64
 (rbitS l c x1 + IntKind.wrap IntKind.i64 (List.getD c (Int.toNat (↑x1 : Int)) (0 : Int) * List.getD l (Int.toNat (↑x1 : Int)) (0 : Int))) =
 rbitS l c y2 ∧
 IntKind.wrap IntKind.i64 ((↑x1 : Int) + (1 : Int)) = (↑y2 : Int)) ∧
 (decide ((↑x1 : Int) < (↑(List.length l) : Int)) = false → rbitS l c x1 = bitV l c ∧ (0 : Int) = bitE l c)) ∧
 (decide ((↑x1 : Int) < (↑(List.length c) : Int)) = false → rbitS l c x1 = bitV l c ∧ (0 : Int) = bitE l c))) ∧
 ((!covV l c) = false →
 ((cntd l c != (0 : Int)) = true → (0 : Int) = bitV l c ∧ cntd l c = bitE l c) ∧
 ((cntd l c != (0 : Int)) = false →
 (∃ (x3 : Nat), (x3 ≤ List.length c ∧ x3 ≤ List.length l) ∧ l = l ∧ c = c ∧ (0 : Int) = rbitS l c x3 ∧ (0 : Int) = (↑x3 : Int)) ∧
 ∀ (x4 : Nat),
 x4 ≤ List.length c ∧ x4 ≤ List.length l →
 (decide ((↑x4 : Int) < (↑(List.length c) : Int)) = true →
 (decide ((↑x4 : Int) < (↑(List.length l) : Int)) = true →
 (0 : Int) ≤ (↑x4 : Int) ∧
 (↑x4 : Int) < (↑(List.length c) : Int) ∧
 (0 : Int) ≤ (↑x4 : Int) ∧
 (↑x4 : Int) < (↑(List.length l) : Int) ∧
 ∃ (y5 : Nat),
 (y5 ≤ List.length c ∧ y5 ≤ List.length l) ∧
 Nat.sub (List.length c) y5 < Nat.sub (List.length c) x4 ∧
 l = l ∧
 c = c ∧
 IntKind.wrap IntKind.i64
 (rbitS l c x4 + IntKind.wrap IntKind.i64 (List.getD c (Int.toNat (↑x4 : Int)) (0 : Int) * List.getD l (Int.toNat (↑x4 : Int)) (0 : Int))) =
 rbitS l c y5 ∧
 IntKind.wrap IntKind.i64 ((↑x4 : Int) + (1 : Int)) = (↑y5 : Int)) ∧
 (decide ((↑x4 : Int) < (↑(List.length l) : Int)) = false → rbitS l c x4 = bitV l c ∧ (0 : Int) = bitE l c)) ∧
 (decide ((↑x4 : Int) < (↑(List.length c) : Int)) = false → rbitS l c x4 = bitV l c ∧ (0 : Int) = bitE l c)))) ∧
 ((cntd l c == (0 : Int)) = false →
 ((cntd l c != (0 : Int)) = true → (0 : Int) = bitV l c ∧ cntd l c = bitE l c) ∧
 ((cntd l c != (0 : Int)) = false →
 (∃ (x6 : Nat), (x6 ≤ List.length c ∧ x6 ≤ List.length l) ∧ l = l ∧ c = c ∧ (0 : Int) = rbitS l c x6 ∧ (0 : Int) = (↑x6 : Int)) ∧
 ∀ (x7 : Nat),
 x7 ≤ List.length c ∧ x7 ≤ List.length l →
 (decide ((↑x7 : Int) < (↑(List.length c) : Int)) = true →
 (decide ((↑x7 : Int) < (↑(List.length l) : Int)) = true →
 (0 : Int) ≤ (↑x7 : Int) ∧
 (↑x7 : Int) < (↑(List.length c) : Int) ∧
 (0 : Int) ≤ (↑x7 : Int) ∧
 (↑x7 : Int) < (↑(List.length l) : Int) ∧
 ∃ (y8 : Nat),
 (y8 ≤ List.length c ∧ y8 ≤ List.length l) ∧
 Nat.sub (List.length c) y8 < Nat.sub (List.length c) x7 ∧
 l = l ∧
 c = c ∧
 IntKind.wrap IntKind.i64
 (rbitS l c x7 + IntKind.wrap IntKind.i64 (List.getD c (Int.toNat (↑x7 : Int)) (0 : Int) * List.getD l (Int.toNat (↑x7 : Int)) (0 : Int))) =
 rbitS l c y8 ∧
 IntKind.wrap IntKind.i64 ((↑x7 : Int) + (1 : Int)) = (↑y8 : Int)) ∧
 (decide ((↑x7 : Int) < (↑(List.length l) : Int)) = false → rbitS l c x7 = bitV l c ∧ (0 : Int) = bitE l c)) ∧
 (decide ((↑x7 : Int) < (↑(List.length c) : Int)) = false → rbitS l c x7 = bitV l c ∧ (0 : Int) = bitE l c)))
--end
theorem rbit6_e (l c : List Int) : rbit6_t l c = vcG Try.prog (Gof G6d) (one6 (oRbit l c)) Try.f33 [.dat (.ints .i64 l), .dat (.ints .i64 c)] [] (.leaf ((.tu [.v (.int .i64 (bitV l c)), .v (.int .i64 (bitE l c))])) ([])) := by kernel_rfl
def eqr2_t (a b : List (List Int)) : Prop :=
 (((↑(List.length a) : Int) != (↑(List.length b) : Int)) = true → false = eqR (2 : Nat) a b) ∧
 (((↑(List.length a) : Int) != (↑(List.length b) : Int)) = false →
 (∃ (x0 : Nat), (x0 ≤ List.length a ∧ List.map (rowN (2 : Nat)) (List.take x0 a) = List.map (rowN (2 : Nat)) (List.take x0 b)) ∧ a = a ∧ b = b ∧ (0 : Int) = (↑x0 : Int)) ∧
 ∀ (x1 : Nat),
 x1 ≤ List.length a ∧ List.map (rowN (2 : Nat)) (List.take x1 a) = List.map (rowN (2 : Nat)) (List.take x1 b) →
 (decide ((↑x1 : Int) < (↑(List.length a) : Int)) = true →
 (0 : Int) ≤ (↑x1 : Int) ∧
 (↑x1 : Int) < (↑(List.length a) : Int) ∧
 (0 : Int) ≤ (↑x1 : Int) ∧
 (↑x1 : Int) < (↑(List.length b) : Int) ∧
 ((!(List.getD (List.getD a (Int.toNat (↑x1 : Int)) []) ((0 : Nat)) (0 : Int) == List.getD (List.getD b (Int.toNat (↑x1 : Int)) []) ((0 : Nat)) (0 : Int) &&
 (List.getD (List.getD a (Int.toNat (↑x1 : Int)) []) ((1 : Nat)) (0 : Int) == List.getD (List.getD b (Int.toNat (↑x1 : Int)) []) ((1 : Nat)) (0 : Int) && true))) =
 true →
 false = eqR (2 : Nat) a b) ∧
 ((!(List.getD (List.getD a (Int.toNat (↑x1 : Int)) []) ((0 : Nat)) (0 : Int) == List.getD (List.getD b (Int.toNat (↑x1 : Int)) []) ((0 : Nat)) (0 : Int) &&
 (List.getD (List.getD a (Int.toNat (↑x1 : Int)) []) ((1 : Nat)) (0 : Int) == List.getD (List.getD b (Int.toNat (↑x1 : Int)) []) ((1 : Nat)) (0 : Int) && true))) =
 false →
 ∃ (y2 : Nat),
 (y2 ≤ List.length a ∧ List.map (rowN (2 : Nat)) (List.take y2 a) = List.map (rowN (2 : Nat)) (List.take y2 b)) ∧
 Nat.sub (List.length a) y2 < Nat.sub (List.length a) x1 ∧ a = a ∧ b = b ∧ IntKind.wrap IntKind.i64 ((↑x1 : Int) + (1 : Int)) = (↑y2 : Int))) ∧
 (decide ((↑x1 : Int) < (↑(List.length a) : Int)) = false → true = eqR (2 : Nat) a b))
--end
theorem eqr2_e (a b : List (List Int)) : eqr2_t a b = vcG Try.prog (Gof []) (one6 (oEqR 2 a b)) Try.f26 [.dat (.recs 2 a), .dat (.recs 2 b)] [] (.leaf ((.v (.bool (eqR 2 a b)))) ([])) := by kernel_rfl
def eqr2n_t  : Prop :=
 (((0 : Int) != (0 : Int)) = true → false = true) ∧
 (((0 : Int) != (0 : Int)) = false →
 (∃ (x0 : Nat),
 x0 = (0 : Nat) ∧
 Value.slice none (0 : Nat) (0 : Nat) = Value.slice none (0 : Nat) (0 : Nat) ∧ Value.slice none (0 : Nat) (0 : Nat) = Value.slice none (0 : Nat) (0 : Nat) ∧ (0 : Int) = (0 : Int)) ∧
 ∀ (x1 : Nat), x1 = (0 : Nat) → (decide ((0 : Int) < (0 : Int)) = true → False ∧ False ∧ False ∧ False ∧ False ∧ False) ∧ (decide ((0 : Int) < (0 : Int)) = false → true = true))
--end
theorem eqr2n_e  : eqr2n_t  = vcG Try.prog (Gof []) (one6 oEqN) Try.f26 [.v (.slice none 0 0), .v (.slice none 0 0)] [] (.leaf ((.v (.bool true))) ([])) := by kernel_rfl
def eqr3_t (a b : List (List Int)) : Prop :=
 (((↑(List.length a) : Int) != (↑(List.length b) : Int)) = true → false = eqR (3 : Nat) a b) ∧
 (((↑(List.length a) : Int) != (↑(List.length b) : Int)) = false →
 (∃ (x0 : Nat), (x0 ≤ List.length a ∧ List.map (rowN (3 : Nat)) (List.take x0 a) = List.map (rowN (3 : Nat)) (List.take x0 b)) ∧ a = a ∧ b = b ∧ (0 : Int) = (↑x0 : Int)) ∧
 ∀ (x1 : Nat),
 x1 ≤ List.length a ∧ List.map (rowN (3 : Nat)) (List.take x1 a) = List.map (rowN (3 : Nat)) (List.take x1 b) →
 (decide ((↑x1 : Int) < (↑(List.length a) : Int)) = true →
 (0 : Int) ≤ (↑x1 : Int) ∧
 (↑x1 : Int) < (↑(List.length a) : Int) ∧
 (0 : Int) ≤ (↑x1 : Int) ∧
 (↑x1 : Int) < (↑(List.length b) : Int) ∧
 ((!(List.getD (List.getD a (Int.toNat (↑x1 : Int)) []) ((0 : Nat)) (0 : Int) == List.getD (List.getD b (Int.toNat (↑x1 : Int)) []) ((0 : Nat)) (0 : Int) &&
 (List.getD (List.getD a (Int.toNat (↑x1 : Int)) []) ((1 : Nat)) (0 : Int) == List.getD (List.getD b (Int.toNat (↑x1 : Int)) []) ((1 : Nat)) (0 : Int) &&
 (List.getD (List.getD a (Int.toNat (↑x1 : Int)) []) ((2 : Nat)) (0 : Int) == List.getD (List.getD b (Int.toNat (↑x1 : Int)) []) ((2 : Nat)) (0 : Int) && true)))) =
 true →
 false = eqR (3 : Nat) a b) ∧
 ((!(List.getD (List.getD a (Int.toNat (↑x1 : Int)) []) ((0 : Nat)) (0 : Int) == List.getD (List.getD b (Int.toNat (↑x1 : Int)) []) ((0 : Nat)) (0 : Int) &&
 (List.getD (List.getD a (Int.toNat (↑x1 : Int)) []) ((1 : Nat)) (0 : Int) == List.getD (List.getD b (Int.toNat (↑x1 : Int)) []) ((1 : Nat)) (0 : Int) &&
 (List.getD (List.getD a (Int.toNat (↑x1 : Int)) []) ((2 : Nat)) (0 : Int) == List.getD (List.getD b (Int.toNat (↑x1 : Int)) []) ((2 : Nat)) (0 : Int) && true)))) =
 false →
 ∃ (y2 : Nat),
 (y2 ≤ List.length a ∧ List.map (rowN (3 : Nat)) (List.take y2 a) = List.map (rowN (3 : Nat)) (List.take y2 b)) ∧
 Nat.sub (List.length a) y2 < Nat.sub (List.length a) x1 ∧ a = a ∧ b = b ∧ IntKind.wrap IntKind.i64 ((↑x1 : Int) + (1 : Int)) = (↑y2 : Int))) ∧
 (decide ((↑x1 : Int) < (↑(List.length a) : Int)) = false → true = eqR (3 : Nat) a b))
--end
theorem eqr3_e (a b : List (List Int)) : eqr3_t a b = vcG Try.prog (Gof []) (one6 (oEqR 3 a b)) Try.f28 [.dat (.recs 3 a), .dat (.recs 3 b)] [] (.leaf ((.v (.bool (eqR 3 a b)))) ([])) := by kernel_rfl
def eqr3n_t  : Prop :=
 (((0 : Int) != (0 : Int)) = true → false = true) ∧
 (((0 : Int) != (0 : Int)) = false →
 (∃ (x0 : Nat),
 x0 = (0 : Nat) ∧
 Value.slice none (0 : Nat) (0 : Nat) = Value.slice none (0 : Nat) (0 : Nat) ∧ Value.slice none (0 : Nat) (0 : Nat) = Value.slice none (0 : Nat) (0 : Nat) ∧ (0 : Int) = (0 : Int)) ∧
 ∀ (x1 : Nat), x1 = (0 : Nat) → (decide ((0 : Int) < (0 : Int)) = true → False ∧ False ∧ False ∧ False ∧ False ∧ False) ∧ (decide ((0 : Int) < (0 : Int)) = false → true = true))
--end
theorem eqr3n_e  : eqr3n_t  = vcG Try.prog (Gof []) (one6 oEqN) Try.f28 [.v (.slice none 0 0), .v (.slice none 0 0)] [] (.leaf ((.v (.bool true))) ([])) := by kernel_rfl
end Go.Proofs.Ytfbdocfhgjfboaa
/-
  Chapter 16: facts on lengths and counts. Conditions: each theorem's own.
-/
namespace Go.Proofs.Ytfbdocfhgjfboaa
open Go Go.RowKit
set_option linter.unusedVariables false
set_option linter.unusedSimpArgs false
set_option maxRecDepth 100000
theorem mixed : Try.prog.follows .mixedOrders = true := by kernel_rfl
theorem all_snoc {f : Int → Bool} {l : List Int} {i : Nat} (h : i < l.length) : (l.take (i + 1)).all f = ((l.take i).all f && f (l.getD i 0)) := by
  rw [take_succ l 0 h, List.all_append]
  simp
theorem all_of_bad {f : Int → Bool} {l : List Int} {i : Nat} (h : i < l.length) (hf : f (l.getD i 0) = false) : l.all f = false := by
  rw [Bool.eq_false_iff]
  intro ha
  have := List.all_eq_true.1 ha _ (getD_mem' h)
  rw [hf] at this
  cases this
theorem snoc_ind' {P : List Int → Prop} (h0 : P []) (h1 : ∀ l z, P l → P (l ++ [z])) (l : List Int) : P l := by
  have : P l.reverse.reverse := by
    induction l.reverse with
    | nil => exact h0
    | cons x r ih => rw [List.reverse_cons]; exact h1 _ _ ih
  rwa [List.reverse_reverse] at this
theorem okLen_iff {x : Int} : okLen x = true ↔ 0 ≤ x ∧ x ≤ 11 := by simp [okLen]
theorem okLen_false {x : Int} : okLen x = false ↔ x < 0 ∨ 11 < x := by
  rw [← Bool.not_eq_true, okLen_iff]; omega
theorem okCnt_iff {x : Int} : okCnt x = true ↔ 0 ≤ x ∧ x ≤ 1099511627776 := by simp [okCnt]
theorem okCnt_false {x : Int} : okCnt x = false ↔ x < 0 ∨ 1099511627776 < x := by
  rw [← Bool.not_eq_true, okCnt_iff]; omega
/-! ### counts of lengths -/
theorem bumps_snoc (l : List Int) (x : Int) : bumps (l ++ [x]) = bump (bumps l) x := by simp [bumps, List.foldl_append]
theorem bumps_len (l : List Int) : (bumps l).length = 12 := by
  induction l using snoc_ind' with
  | h0 => rfl
  | h1 l z ih => rw [bumps_snoc, bump, List.length_set, ih]
theorem getD_set_i (l : List Int) (i j : Nat) (v : Int) : (l.set i v).getD j 0 = if i = j ∧ j < l.length then v else l.getD j 0 := by
  simp only [List.getD_eq_getElem?_getD, List.getElem?_set]
  by_cases h : i = j
  · subst h
    by_cases h2 : i < l.length
    · simp [h2]
    · simp [h2]
  · simp [h]
theorem bumps_bd (l : List Int) (j : Nat) : 0 ≤ (bumps l).getD j 0 ∧ (bumps l).getD j 0 ≤ l.length := by
  induction l using snoc_ind' generalizing j with
  | h0 =>
    have : (bumps []).getD j 0 = 0 := by
      rcases j with _ | _ | _ | _ | _ | _ | _ | _ | _ | _ | _ | _ | j <;> simp [bumps, zeros12]
    rw [this]; simp
  | h1 l z ih =>
    rw [bumps_snoc, bump, getD_set_i, List.length_append]
    have h1 := ih j
    have h2 := ih z.toNat
    split
    · rename_i h; have := h.1; subst this; simp only [List.length_singleton]; omega
    · simp only [List.length_singleton]; omega
theorem manyG_app (a r : List Int) : ∀ out, a.all okLen = true → manyG out (a ++ r) = manyG (a.foldl bump out) r := by
  induction a with
  | nil => intro out _; rfl
  | cons x a ih =>
    intro out h
    simp only [List.all_cons, Bool.and_eq_true] at h
    simp only [List.cons_append, manyG, h.1, cond_true, List.foldl_cons]
    exact ih _ h.2
theorem many_good {l : List Int} (h0 : l.length ≤ 256) (h : l.all okLen = true) : manyT l = (bumps l, 0) := by
  have := manyG_app l [] zeros12 h
  rw [List.append_nil] at this
  unfold manyT
  rw [decide_eq_false (by omega), cond_false, this]
  rfl
theorem many_bad {l : List Int} (h0 : l.length ≤ 256) {i : Nat} (hi : i < l.length) (h : (l.take i).all okLen = true) (hx : okLen (l.getD i 0) = false) : manyT l = (bumps (l.take i), 2) := by
  have := manyG_app (l.take i) (l.drop i) zeros12 h
  rw [List.take_append_drop] at this
  unfold manyT
  rw [decide_eq_false (by omega), cond_false, this, List.drop_eq_getElem_cons hi]
  have e : l[i] = l.getD i 0 := by rw [List.getD_eq_getElem?_getD, List.getElem?_eq_getElem hi]; rfl
  rw [e]
  simp only [manyG, hx, cond_false]
  rfl
theorem many_long {l : List Int} (h0 : 256 < l.length) : manyT l = (zeros12, 2) := by
  unfold manyT
  rw [decide_eq_true (by omega), cond_true]
theorem first_bad {f : Int → Bool} : ∀ (l : List Int), l.all f = false → ∃ i, i < l.length ∧ (l.take i).all f = true ∧ f (l.getD i 0) = false
  | [], h => by simp at h
  | x :: r, h => by
    cases hx : f x
    · exact ⟨0, by simp, by simp, by simpa using hx⟩
    · simp only [List.all_cons, hx, Bool.true_and] at h
      obtain ⟨i, h1, h2, h3⟩ := first_bad r h
      exact ⟨i + 1, by simpa using h1, by simp [hx, h2], by simpa using h3⟩
theorem many_snd (l : List Int) : (l.length ≤ 256 ∧ l.all okLen = true ∧ manyT l = (bumps l, 0)) ∨ ((manyT l).2 = 2 ∧ chk l = 2) := by
  by_cases h0 : l.length ≤ 256
  · cases h : l.all okLen
    · obtain ⟨i, h1, h2, h3⟩ := first_bad l h
      right
      rw [many_bad h0 h1 h2 h3]
      refine ⟨rfl, ?_⟩
      unfold chk
      rw [decide_eq_false (by omega), h]
      rfl
    · exact .inl ⟨h0, rfl, many_good h0 h⟩
  · right
    rw [many_long (by omega)]
    refine ⟨rfl, ?_⟩
    unfold chk
    rw [decide_eq_true (by omega)]
    rfl
theorem many_len (l : List Int) : (manyT l).1.length = 12 := by
  by_cases h0 : l.length ≤ 256
  · cases h : l.all okLen
    · obtain ⟨i, h1, h2, h3⟩ := first_bad l h
      rw [many_bad h0 h1 h2 h3]
      exact bumps_len _
    · rw [many_good h0 h]; exact bumps_len _
  · rw [many_long (by omega)]; rfl
theorem rmC_succ (c : List Int) (i : Nat) : rmC c (i + 1) = rmC c i + c.getD (i + 1) 0 * 2 ^ (10 - i) := by simp [rmC, List.range_succ, List.foldl_append]
theorem cdC_succ (c : List Int) (i : Nat) : cdC c (i + 1) = cdC c i + c.getD (i + 1) 0 := by simp [cdC, List.range_succ, List.foldl_append]
theorem cntP_snoc (l : List Int) (x : Int) : cntP (l ++ [x]) = cond (decide (0 < x)) (cntP l + 1) (cntP l) := by simp [cntP, List.foldl_append]
theorem sumM_snoc (m : Int) (l : List Int) (x : Int) : sumM m (l ++ [x]) = cond (decide (0 < x)) (sumM m l + 2 ^ (m - x).toNat) (sumM m l) := by simp [sumM, List.foldl_append]
theorem rmC_bd {c : List Int} {n : Int} (hn : 0 ≤ n) (h : ∀ j, 0 ≤ c.getD j 0 ∧ c.getD j 0 ≤ n) : ∀ i, 0 ≤ rmC c i ∧ rmC c i ≤ i * (n * 1024)
  | 0 => by simp [rmC]
  | i + 1 => by
    have ih := rmC_bd hn h i
    rw [rmC_succ]
    have h1 := h (i + 1)
    have h2 := pow_pos' (10 - i)
    have h3 := pow_mono (show 10 - i ≤ 10 by omega)
    have h4 : 0 ≤ c.getD (i + 1) 0 * 2 ^ (10 - i) := Int.mul_nonneg h1.1 (by omega)
    have h5 : c.getD (i + 1) 0 * 2 ^ (10 - i) ≤ n * 1024 := Int.mul_le_mul h1.2 (by simpa using h3) (by omega) hn
    constructor
    · omega
    · push_cast
      rw [Int.add_mul]
      omega
theorem cdC_bd {c : List Int} {n : Int} (hn : 0 ≤ n) (h : ∀ j, 0 ≤ c.getD j 0 ∧ c.getD j 0 ≤ n) : ∀ i, 0 ≤ cdC c i ∧ cdC c i ≤ i * n
  | 0 => by simp [cdC]
  | i + 1 => by
    have ih := cdC_bd hn h i
    rw [cdC_succ]
    have h1 := h (i + 1)
    constructor
    · omega
    · push_cast
      rw [Int.add_mul]
      omega
theorem rm_bump {c : List Int} (hc : c.length = 12) {x : Int} (hx : okLen x = true) : rmC (bump c x) 11 = rmC c 11 + cond (decide (0 < x)) (2 ^ (11 - x).toNat) 0 ∧ cdC (bump c x) 11 = cdC c 11 + cond (decide (0 < x)) 1 0 := by
  rw [okLen_iff] at hx
  obtain ⟨n, rfl⟩ := Int.eq_ofNat_of_zero_le hx.1
  have hn : n ≤ 11 := by omega
  match c, hc with
  | [a0, a1, a2, a3, a4, a5, a6, a7, a8, a9, a10, a11], _ =>
    rcases n with _ | _ | _ | _ | _ | _ | _ | _ | _ | _ | _ | _ | n
    all_goals first | (exfalso; omega) | skip
    all_goals
      simp [rmC, cdC, bump, List.range, List.range.loop, List.set]
      try omega
theorem rm_bumps (l : List Int) : l.all okLen = true → rmC (bumps l) 11 = roomL l ∧ cdC (bumps l) 11 = cntP l := by
  induction l using snoc_ind' with
  | h0 => intro _; decide
  | h1 l z ih =>
    intro h
    simp only [List.all_append, List.all_cons, List.all_nil, Bool.and_true, Bool.and_eq_true] at h
    obtain ⟨k1, k2⟩ := ih h.1
    obtain ⟨j1, j2⟩ := rm_bump (bumps_len l) h.2
    rw [bumps_snoc, j1, j2, k1, k2, cntP_snoc]
    unfold roomL
    rw [sumM_snoc]
    cases decide (0 < z)
    · simp
    · simp
/-! ### the greatest -/
theorem gmx_snoc (l : List Int) (x : Int) : gmx (l ++ [x]) = max (gmx l) x := by simp [gmx, List.foldl_append]
theorem gmx_ge (l : List Int) : 0 ≤ gmx l ∧ ∀ x ∈ l, x ≤ gmx l := by
  induction l using snoc_ind' with
  | h0 => simp [gmx]
  | h1 l z ih =>
    rw [gmx_snoc]
    refine ⟨by have := ih.1; omega, fun x hx => ?_⟩
    simp only [List.mem_append, List.mem_singleton] at hx
    rcases hx with hx | rfl
    · have := ih.2 x hx; omega
    · omega
theorem gmx_le {l : List Int} {m : Int} (hm : 0 ≤ m) (h : ∀ x ∈ l, x ≤ m) : gmx l ≤ m := by
  induction l using snoc_ind' with
  | h0 => simpa [gmx] using hm
  | h1 l z ih =>
    rw [gmx_snoc]
    have h1 := ih fun x hx => h x (by simp [hx])
    have h2 := h z (by simp)
    omega
theorem maxL_snoc' (l : List Int) (z : Int) (h : l ≠ []) : maxL (l ++ [z]) = max (maxL l) z := by
  cases l with
  | nil => exact absurd rfl h
  | cons x r => simp [maxL, List.foldl_append]
theorem maxL_gmx {l : List Int} (h0 : 0 < l.length) (h : ∀ x ∈ l, 0 ≤ x) : maxL l = gmx l := by
  cases l with
  | nil => simp at h0
  | cons x r =>
    have := h x (by simp)
    simp [maxL, gmx, Int.max_eq_right this]
theorem all_ok {l : List Int} (h : l.all okLen = true) : ∀ x ∈ l, 0 ≤ x ∧ x ≤ 11 := fun x hx => okLen_iff.1 (List.all_eq_true.1 h x hx)
theorem sumM_bd (m : Int) (h0 : 0 ≤ m) (hm : m ≤ 11) (l : List Int) : 0 ≤ sumM m l ∧ sumM m l ≤ l.length * 2048 := by
  induction l using snoc_ind' with
  | h0 => simp [sumM]
  | h1 l z ih =>
    rw [sumM_snoc, List.length_append]
    by_cases hz : 0 < z
    · rw [decide_eq_true hz, cond_true]
      have h1 := pow_pos' (m - z).toNat
      have h2 := pow_mono (show (m - z).toNat ≤ 11 by omega)
      have h3 : (2 : Int) ^ 11 = 2048 := by decide
      rw [h3] at h2
      push_cast
      simp only [List.length_singleton]
      omega
    · rw [decide_eq_false hz, cond_false]
      push_cast
      simp only [List.length_singleton]
      omega
theorem cntP_bd (l : List Int) : 0 ≤ cntP l ∧ cntP l ≤ l.length := by
  induction l using snoc_ind' with
  | h0 => simp [cntP]
  | h1 l z ih =>
    rw [cntP_snoc, List.length_append]
    cases decide (0 < z)
    · simp only [cond_false, List.length_singleton]; omega
    · simp only [cond_true, List.length_singleton]; omega
theorem sumM_scale {m : Int} (h0 : 0 ≤ m) (hm : m ≤ 11) (l : List Int) : (∀ x ∈ l, x ≤ m) → roomL l = sumM m l * 2 ^ (11 - m).toNat := by
  induction l using snoc_ind' with
  | h0 => intro _; simp [roomL, sumM]
  | h1 l z ih =>
    intro h
    have k := ih fun x hx => h x (by simp [hx])
    have hz := h z (by simp)
    unfold roomL at k ⊢
    rw [sumM_snoc, sumM_snoc]
    by_cases hp : 0 < z
    · rw [decide_eq_true hp, cond_true, cond_true, k, Int.add_mul, ← Int.pow_add]
      have : (m - z).toNat + (11 - m).toNat = (11 - z).toNat := by omega
      rw [this]
    · rw [decide_eq_false hp, cond_false, cond_false, k]
theorem room_iff {l : List Int} (h : l.all okLen = true) : (sumM (gmx l) l = 2 ^ (gmx l).toNat) ↔ roomL l = 2048 := by
  have hg := gmx_ge l
  have hl := gmx_le (m := 11) (by omega) fun x hx => (all_ok h x hx).2
  have hs := sumM_scale hg.1 hl l hg.2
  have hp := pow_pos' (11 - gmx l).toNat
  have e : (2048 : Int) = 2 ^ (gmx l).toNat * 2 ^ (11 - gmx l).toNat := by
    rw [← Int.pow_add]
    have : (gmx l).toNat + (11 - gmx l).toNat = 11 := by omega
    rw [this]; decide
  rw [hs, e]
  constructor
  · intro h; rw [h]
  · intro h; exact Int.eq_of_mul_eq_mul_right (by omega) h
theorem chk_zero {l : List Int} (h : chk l = 0) : l.length ≤ 256 ∧ l.all okLen = true ∧ 2 ≤ cntP l ∧ roomL l = 2048 := by
  unfold chk at h
  by_cases h0 : 256 < l.length
  · rw [decide_eq_true h0] at h; simp at h
  · rw [decide_eq_false h0, cond_false] at h
    cases ha : l.all okLen
    · rw [ha] at h; simp at h
    · rw [ha, cond_true] at h
      cases hc : (decide (cntP l < 2) || !(roomL l == 2048))
      · simp only [Bool.or_eq_false_iff, decide_eq_false_iff_not, Bool.not_eq_false', beq_iff_eq] at hc
        exact ⟨by omega, rfl, by omega, hc.2⟩
      · rw [hc] at h; simp at h
theorem chk_ok {l : List Int} (h0 : l.length ≤ 256) (h1 : l.all okLen = true) : chk l = cond (decide (cntP l < 2) || !(roomL l == 2048)) 21 0 := by
  unfold chk
  rw [decide_eq_false (by omega), cond_false, h1, cond_true]
theorem chk_zero_pos {l : List Int} (h : chk l = 0) : 0 < l.length ∧ (∀ x ∈ l, 0 ≤ x ∧ x ≤ 11) ∧ maxL l = gmx l := by
  obtain ⟨h1, h2, h3, h4⟩ := chk_zero h
  have hp : 0 < l.length := by have := cntP_bd l; omega
  exact ⟨hp, all_ok h2, maxL_gmx hp fun x hx => (all_ok h2 x hx).1⟩
end Go.Proofs.Ytfbdocfhgjfboaa
/-
  Chapter 16: the functions without an order of symbols answer as they are said to. Conditions: each theorem's own.
-/
namespace Go.Proofs.Ytfbdocfhgjfboaa
open Go Go.RowKit
set_option linter.unusedVariables false
set_option linter.unusedSimpArgs false
set_option maxRecDepth 100000
theorem many6_v (l : List Int) (h0 : l.length ≤ 4294967296) : many6_t l := by
  unfold many6_t
  refine ⟨fun h => ?_, fun h => ⟨⟨0, ⟨by omega, rfl⟩, rfl, rfl, rfl, rfl⟩, fun i ⟨hi, hal⟩ => ⟨fun hlt => ?_, fun hge => ?_⟩⟩⟩
  · simp only [gt_iff_lt, decide_eq_true_eq] at h
    rw [many_long (by omega)]
    exact ⟨rfl, rfl, rfl, rfl, rfl, rfl⟩
  · simp only [gt_iff_lt, decide_eq_false_iff_not, decide_eq_true_eq] at h hlt
    have hi' : i < l.length := by omega
    have hL : l.length ≤ 256 := by omega
    have hb := bumps_len (l.take i)
    simp only [toNat_cast, gt_iff_lt, decide_eq_true_eq, decide_eq_false_iff_not]
    refine ⟨by omega, by omega, fun h1 => ?_, fun h1 => ⟨fun h2 => ?_, fun h2 => ?_⟩⟩
    · rw [many_bad hL hi' hal (okLen_false.2 (.inl h1))]
      exact ⟨hb.symm, hb, by trivial, hb.symm, by trivial, by trivial⟩
    · rw [many_bad hL hi' hal (okLen_false.2 (.inr h2))]
      exact ⟨hb.symm, hb, by trivial, hb.symm, by trivial, by trivial⟩
    · have hok : okLen (l.getD i 0) = true := okLen_iff.2 ⟨by omega, by omega⟩
      have hbd := bumps_bd (l.take i) (l.getD i 0).toNat
      rw [List.length_take] at hbd
      refine ⟨by omega, by omega, by omega, by omega, by omega, by omega, i + 1, ⟨by omega, by rw [all_snoc hi', hal, hok]; rfl⟩, by show l.length - (i + 1) < l.length - i; omega, by trivial, by trivial, by rw [wr (by omega) (by omega)]; simp, ?_⟩
      rw [take_succ l 0 hi', bumps_snoc, bump, wr (by omega) (by omega)]
  · simp only [gt_iff_lt, decide_eq_false_iff_not] at h hge
    have hb := bumps_len (l.take i)
    rw [List.take_of_length_le (by omega)] at hb hal ⊢
    rw [many_good (by omega) hal]
    exact ⟨hb.symm, hb, rfl, hb.symm, rfl, rfl⟩
theorem max6_v (l : List Int) (h0 : 0 < l.length) (h1 : l.length ≤ 4294967296) : max6_t l := by
  unfold max6_t
  refine ⟨fun h => by simp only [decide_eq_true_eq] at h; omega, fun h => ⟨by omega, by omega, ⟨1, ⟨by omega, by omega⟩, rfl, ?_, rfl⟩, fun i hi => ⟨fun hlt => ?_, fun hge => ?_⟩⟩⟩
  · cases l with
    | nil => simp at h0
    | cons x r => simp [maxL]
  · simp only [decide_eq_true_eq] at hlt
    have hlt' : i < l.length := by omega
    refine ⟨by omega, by omega, i + 1, ⟨by omega, by omega⟩, by show l.length - (i+1) < l.length - i; omega, by trivial, ?_, by rw [wr (by omega) (by omega)]; simp⟩
    rw [take_succ l 0 hlt', toNat_cast, maxL_snoc']
    intro hn
    have := congrArg List.length hn
    simp only [List.length_take, List.length_nil] at this
    omega
  · simp only [decide_eq_false_iff_not] at hge
    rw [List.take_of_length_le (by omega)]
theorem rgmx6_v (l : List Int) (h1 : l.length ≤ 4294967296) : rgmx6_t l := by
  unfold rgmx6_t
  refine ⟨⟨0, by rw [nle]; omega, rfl, rfl, rfl⟩, fun i hi => ⟨fun hlt => ?_, fun hge => ?_⟩⟩
  · simp only [decide_eq_true_eq] at hlt
    have hlt' : i < l.length := by omega
    refine ⟨by omega, by omega, i + 1, by rw [nle]; omega, by show l.length - (i+1) < l.length - i; omega, by trivial, ?_, by rw [wr (by omega) (by omega)]; simp⟩
    rw [take_succ l 0 hlt', toNat_cast, gmx_snoc]
  · simp only [decide_eq_false_iff_not] at hge
    rw [List.take_of_length_le (by omega)]
theorem wrong6_v (n : Int) : wrong6_t n := by
  unfold wrong6_t okCnt
  refine ⟨fun h => ?_, fun h => ?_⟩
  · simp only [decide_eq_true_eq] at h
    rw [decide_eq_false (by omega)]; rfl
  · simp only [decide_eq_false_iff_not] at h
    rw [decide_eq_true (show 0 ≤ n by omega), Bool.true_and]
    by_cases h2 : n ≤ 1099511627776
    · rw [decide_eq_true h2, decide_eq_false (show ¬ n > 1099511627776 by omega)]; rfl
    · rw [decide_eq_false h2, decide_eq_true (show n > 1099511627776 by omega)]; rfl
theorem own6_v (l : List Int) (h : l.length ≤ 4294967296) : own6_t l := ⟨by omega, rfl⟩
theorem eqL_false {a b : List Int} {i : Nat} (hne : a.getD i 0 ≠ b.getD i 0) : eqL a b = false := by
  unfold eqL
  rw [beq_eq_false_iff_ne]
  rintro rfl
  exact hne rfl
theorem eqL_len {a b : List Int} (h : ((a.length : Int) != (b.length : Int)) = true) : eqL a b = false := by
  unfold eqL
  rw [beq_eq_false_iff_ne]
  rintro rfl
  simp at h
theorem eq6_v (a b : List Int) (h0 : a.length ≤ 4294967296) : eq6_t a b := by
  unfold eq6_t
  refine ⟨fun h => (eqL_len h).symm, fun h => ?_⟩
  have hl : a.length = b.length := by have h' := h; simp at h'; omega
  refine ⟨⟨0, ⟨by omega, rfl⟩, rfl, rfl, rfl⟩, fun i hi => ⟨fun hlt => ?_, fun hge => ?_⟩⟩
  · simp only [decide_eq_true_eq] at hlt
    simp only [toNat_cast]
    refine ⟨by omega, by omega, by omega, by omega, fun hne => ?_, fun he => ?_⟩
    · exact (eqL_false (i := i) (by simpa using hne)).symm
    · refine ⟨i + 1, ⟨by omega, ?_⟩, by show a.length - (i+1) < a.length - i; omega, by trivial, by trivial, by rw [wr (by omega) (by omega)]; simp⟩
      rw [take_succ a 0 (by omega), take_succ b 0 (by omega), hi.2, show a.getD i 0 = b.getD i 0 by simpa using he]
  · simp only [decide_eq_false_iff_not] at hge
    have ht := hi.2
    rw [List.take_of_length_le (by omega), List.take_of_length_le (by omega)] at ht
    unfold eqL
    rw [ht]
    simp
theorem len6_v (l : List Int) (s n : Int) (h0 : 0 ≤ s) : len6_t l s n := by
  unfold len6_t lenN lenOk
  simp only [gt_iff_lt, decide_eq_true_eq, decide_eq_false_iff_not]
  refine ⟨fun h => ⟨h0, h, fun h2 => ⟨h0, h, ?_, ?_⟩, fun h2 => ⟨fun h3 => ?_, fun h3 => ?_⟩⟩, fun h => ⟨fun h3 => ?_, fun h3 => ?_⟩⟩
  · rw [decide_eq_true h, decide_eq_true h2]; rfl
  · rw [decide_eq_true h, decide_eq_true h2]; rfl
  · rw [decide_eq_true h, decide_eq_false h2, h3]; exact ⟨rfl, rfl⟩
  · rw [decide_eq_true h, decide_eq_false h2, h3]; exact ⟨rfl, rfl⟩
  · rw [decide_eq_false h, h3]; exact ⟨rfl, rfl⟩
  · rw [decide_eq_false h, h3]; exact ⟨rfl, rfl⟩
theorem nan6_v (a : Int) : nan6_t a := by simp [nan6_t]
theorem or6_v (a b : Int) : or6_t a b := by
  unfold or6_t
  refine ⟨⟨0, ⟨by omega, rfl⟩, rfl, rfl, rfl, rfl⟩, fun i ⟨hi, hal⟩ => ⟨fun hlt => ?_, fun hge => ?_⟩⟩
  · simp only [decide_eq_true_eq] at hlt
    simp only [toNat_cast]
    have hi' : i < [a, b].length := by simp only [List.length_cons, List.length_nil]; omega
    refine ⟨by omega, by show (i : Int) < 2; omega, fun hne => ?_, fun he => ⟨i + 1, ⟨by omega, ?_⟩, by show 2 - (i+1) < 2 - i; omega, by trivial, by trivial, by trivial, by rw [wr (by omega) (by omega)]; simp⟩⟩
    · rcases i with _ | _ | i
      · have : (a == 0) = false := by simpa using hne
        rw [this]; rfl
      · have h1 : (a == 0) = true := by simpa using hal
        rw [h1]; rfl
      · omega
    · rw [all_snoc (f := fun x => x == 0) hi', hal]
      simpa using he
  · simp only [decide_eq_false_iff_not] at hge
    have : i = 2 := by omega
    subst this
    have h : (a == 0) = true ∧ (b == 0) = true := by simpa using hal
    rw [h.1]
    have := h.2
    simp only [beq_iff_eq] at this
    rw [this]; rfl
theorem cmp6_v (a b : Int) : cmp6_t a b := by
  unfold cmp6_t
  refine ⟨fun h => (by cases h), fun _ => ⟨fun h => (by cases h), fun _ => ⟨fun h => ?_, fun h => ⟨fun h2 => ?_, fun h2 => ?_⟩⟩⟩⟩
  · rw [h]; rfl
  · simp only [gt_iff_lt] at h2; rw [h, h2]; rfl
  · simp only [gt_iff_lt] at h2; rw [h, h2]; rfl
theorem check6_v (l : List Int) (h0 : l.length ≤ 4294967296) : check6_t l := by
  unfold check6_t
  rcases many_snd l with ⟨hL, hal, hm⟩ | ⟨hm, hc⟩
  · refine ⟨h0, many_len l, by rw [many_len]; rfl, fun h => by rw [hm] at h; simp at h, fun _ => ⟨⟨0, ⟨by omega, by rw [hm]⟩, rfl, rfl, rfl, rfl⟩, fun i ⟨hi, _⟩ => ⟨fun hlt => ?_, fun hge => ?_⟩⟩⟩
    · rw [many_len, hm]
      simp only
      simp only [decide_eq_true_eq] at hlt
      have e1 : ((i : Int) + 1).toNat = i + 1 := by omega
      have e2 : (11 : Int) - ((i : Int) + 1) = ((10 - i : Nat) : Int) := by omega
      have hb := fun j => bumps_bd l j
      have r1 := rmC_bd (c := bumps l) (n := 256) (by omega) (fun j => by have := hb j; omega) i
      have r2 := rmC_bd (c := bumps l) (n := 256) (by omega) (fun j => by have := hb j; omega) (i + 1)
      have d1 := cdC_bd (c := bumps l) (n := 256) (by omega) (fun j => by have := hb j; omega) i
      have d2 := cdC_bd (c := bumps l) (n := 256) (by omega) (fun j => by have := hb j; omega) (i + 1)
      have r3 := rmC_succ (bumps l) i
      have d3 := cdC_succ (bumps l) i
      have e4 : (11 : Int) - (i : Int) - 1 = ((10 - i : Nat) : Int) := by omega
      rw [e1, e2, wr (n := ((10 - i : Nat) : Int)) (by omega) (by omega), toNat_cast, b64, Nat.min_eq_left (by omega)]
      push_cast at r2 d2
      have hterm : 0 ≤ (bumps l).getD (i + 1) 0 * 2 ^ (10 - i) ∧ (bumps l).getD (i + 1) 0 * 2 ^ (10 - i) ≤ 256 * 1024 := by
        have h1 := hb (i + 1)
        have h2 := pow_pos' (10 - i)
        have h3 := pow_mono (show 10 - i ≤ 10 by omega)
        exact ⟨Int.mul_nonneg h1.1 (by omega), Int.mul_le_mul (by omega) (by simpa using h3) (by omega) (by omega)⟩
      refine ⟨by omega, by omega, by omega, by omega, by omega, by omega, by omega, i + 1, ⟨by omega, by trivial⟩, by show 11 - (i + 1) < 11 - i; omega, ?_, ?_, by rw [wr (by omega) (by omega)]; push_cast; rfl, by trivial⟩
      · rw [wr (n := (bumps l).getD (i + 1) 0 * 2 ^ (10 - i)) (by omega) (by omega), ← r3, wr (by omega) (by omega)]
      · rw [← d3, wr (by omega) (by omega)]
    · simp only [decide_eq_false_iff_not] at hge
      have : i = 11 := by omega
      subst this
      rw [hm]
      simp only
      obtain ⟨k1, k2⟩ := rm_bumps l hal
      rw [k1, k2, chk_ok hL hal]
      refine ⟨fun h => by rw [h]; rfl, fun h => ⟨fun h2 => ?_, fun h2 => ?_⟩⟩
      · rw [h, Bool.false_or]
        have : (roomL l == 2048) = false := by simpa using h2
        rw [this]; rfl
      · rw [h, Bool.false_or]
        have : (roomL l == 2048) = true := by simpa using h2
        rw [this]; rfl
  · refine ⟨h0, many_len l, by rw [many_len]; rfl, fun h => by rw [hm, hc], fun h => by rw [hm] at h; simp at h⟩
theorem rcheck6_v (l : List Int) (h0 : l.length ≤ 4294967296) : rcheck6_t l := by
  unfold rcheck6_t
  refine ⟨fun h => ?_, fun h => ⟨⟨0, ⟨by omega, rfl⟩, rfl, rfl⟩, fun i ⟨hi, hal⟩ => ⟨fun hlt => ?_, fun hge => ?_⟩⟩⟩
  · simp only [gt_iff_lt, decide_eq_true_eq] at h
    unfold chk
    rw [decide_eq_true (by omega)]; rfl
  · simp only [gt_iff_lt, decide_eq_false_iff_not, decide_eq_true_eq] at h hlt
    have hi' : i < l.length := by omega
    have bad : okLen (l.getD i 0) = false → chk l = 2 := fun hb => by
      unfold chk
      rw [decide_eq_false (by omega), all_of_bad hi' hb]; rfl
    simp only [toNat_cast, gt_iff_lt, decide_eq_true_eq, decide_eq_false_iff_not]
    refine ⟨by omega, by omega, fun h1 => (bad (okLen_false.2 (.inl h1))).symm, fun h1 => ⟨by omega, by omega, fun h2 => (bad (okLen_false.2 (.inr h2))).symm, fun h2 => ⟨i + 1, ⟨by omega, ?_⟩, by show l.length - (i + 1) < l.length - i; omega, by trivial, by rw [wr (by omega) (by omega)]; simp⟩⟩⟩
    rw [all_snoc hi', hal, okLen_iff.2 ⟨by omega, by omega⟩]; rfl
  · simp only [gt_iff_lt, decide_eq_false_iff_not] at h hge
    rw [List.take_of_length_le (by omega)] at hal
    have hg := gmx_ge l
    have hgl := gmx_le (m := 11) (by omega) fun x hx => (all_ok hal x hx).2
    refine ⟨h0, ⟨0, ⟨by omega, hal⟩, rfl, rfl, rfl, rfl, rfl⟩, fun j ⟨hj, _⟩ => ⟨fun hlt => ?_, fun hge2 => ?_⟩⟩
    · simp only [decide_eq_true_eq] at hlt
      have hj' : j < l.length := by omega
      have hx := getD_mem' hj'
      have hx1 := all_ok hal _ hx
      have hx2 := hg.2 _ hx
      simp only [toNat_cast, gt_iff_lt, decide_eq_true_eq, decide_eq_false_iff_not]
      have s1 := sumM_bd (gmx l) hg.1 hgl (l.take j)
      have s2 := sumM_bd (gmx l) hg.1 hgl (l.take (j + 1))
      have c1 := cntP_bd (l.take j)
      rw [List.length_take] at s1 s2 c1
      refine ⟨by omega, by omega, fun hp => ?_, fun hp => ⟨j + 1, ⟨by omega, hal⟩, by show l.length - (j + 1) < l.length - j; omega, by trivial, by trivial, ?_, ?_, by rw [wr (by omega) (by omega)]; simp⟩⟩
      · rw [wr (n := gmx l - l.getD j 0) (by omega) (by omega), wru (by omega) (by omega), shl1 (by omega) (by omega)]
        refine ⟨by omega, by omega, by omega, j + 1, ⟨by omega, hal⟩, by show l.length - (j + 1) < l.length - j; omega, by trivial, by trivial, ?_, ?_, by rw [wr (by omega) (by omega)]; simp⟩
        · rw [take_succ l 0 hj', cntP_snoc, decide_eq_true hp, cond_true, wr (by omega) (by omega)]
        · rw [take_succ l 0 hj', sumM_snoc, decide_eq_true hp, cond_true] at s2 ⊢
          rw [wr (by omega) (by omega)]
      · rw [take_succ l 0 hj', cntP_snoc, decide_eq_false hp, cond_false]
      · rw [take_succ l 0 hj', sumM_snoc, decide_eq_false hp, cond_false]
    · simp only [decide_eq_false_iff_not] at hge2
      rw [List.take_of_length_le (by omega), chk_ok (by omega) hal, wru (by omega) (by omega), shl1 (by omega) (by omega)]
      refine ⟨fun h => by rw [h]; rfl, fun h => ⟨by omega, fun h2 => ?_, fun h2 => ?_⟩⟩
      · rw [h, Bool.false_or]
        have : (roomL l == 2048) = false := by
          rw [beq_eq_false_iff_ne, Ne, ← room_iff hal]
          simpa using h2
        rw [this]; rfl
      · rw [h, Bool.false_or]
        have : (roomL l == 2048) = true := by
          rw [beq_iff_eq, ← room_iff hal]
          simpa using h2
        rw [this]; rfl
theorem great6_v (l : List Int) (h : chk l = 0) : great6_t l := by
  obtain ⟨h1, h2, h3⟩ := chk_zero_pos h
  have := (chk_zero h).1
  exact ⟨h1, by omega, h3⟩
theorem findIdx_first : ∀ (l : List Int) (i : Nat), i < l.length → (l.take i).all okCnt = true → okCnt (l.getD i 0) = false → l.findIdx (fun x => !okCnt x) = i
  | [], i, hi, _, _ => by simp at hi
  | x :: r, 0, _, _, hx => by
    have : okCnt x = false := by simpa using hx
    simp [List.findIdx_cons, this]
  | x :: r, i + 1, hi, ha, hx => by
    simp only [List.take_succ_cons, List.all_cons, Bool.and_eq_true] at ha
    rw [List.findIdx_cons, ha.1, findIdx_first r i (by simpa using hi) ha.2 (by simpa using hx)]
    rfl
theorem idx6_v (l : List Int) (h0 : l.length ≤ 4294967296) : idx6_t l := by
  unfold idx6_t
  refine ⟨⟨0, ⟨by omega, rfl⟩, rfl, rfl, rfl⟩, fun i ⟨hi, hal⟩ => ⟨fun hlt => ?_, fun hge => ?_⟩⟩
  · simp only [decide_eq_true_eq] at hlt
    have hi' : i < l.length := by omega
    simp only [toNat_cast]
    refine ⟨by omega, by omega, fun h1 => ?_, fun h1 => ⟨i + 1, ⟨by omega, ?_⟩, by show l.length - (i + 1) < l.length - i; omega, by trivial, by trivial, by rw [wr (by omega) (by omega)]; simp⟩⟩
    · have hb : okCnt (l.getD i 0) = false := by simpa using h1
      rw [all_of_bad hi' hb, cond_false, findIdx_first l i hi' hal hb]
    · have hb : okCnt (l.getD i 0) = true := by simpa using h1
      rw [all_snoc hi', hal, hb]; rfl
  · simp only [decide_eq_false_iff_not] at hge
    rw [List.take_of_length_le (by omega)] at hal
    rw [hal]; rfl
theorem ne0 {x : Int} : (x != 0) = true ↔ (x == 0) = false := by simp
theorem most6_v (l : List Int) (h0 : l.length ≤ 4294967296) : most6_t l := by
  unfold most6_t mostI
  refine ⟨h0, fun h => ?_, fun h => ?_⟩
  · rw [ne0.1 h]; exact ⟨rfl, rfl⟩
  · have : chk l = 0 := by simpa using h
    rw [this]; exact ⟨rfl, rfl, rfl⟩
theorem rmost6_v (l : List Int) (h0 : l.length ≤ 4294967296) : rmost6_t l := by
  unfold rmost6_t mostI
  refine ⟨h0, fun h => ?_, fun h => ?_⟩
  · rw [ne0.1 h]; exact ⟨rfl, rfl⟩
  · have : chk l = 0 := by simpa using h
    rw [this]; exact ⟨h0, rfl, rfl⟩
theorem has6_v (l : List Int) (h0 : l.length ≤ 4294967296) : has6_t l := by
  refine ⟨h0, ?_⟩
  cases l.all okCnt
  · simp only [cond_false, ge_iff_le, Bool.not_false, decide_eq_true_eq]; omega
  · rfl
theorem cntd_bad {l c : List Int} (h : chk l = 0) (hb : c.all okCnt = false) : cntd l c = 2 := by
  unfold cntd
  rw [h, hb]
  cases decide (256 < c.length) <;> rfl
theorem rcntd6_v (l c : List Int) (h0 : l.length ≤ 4294967296) (h1 : c.length ≤ 4294967296) : rcntd6_t l c := by
  unfold rcntd6_t
  refine ⟨h0, fun h => ?_, fun h => ⟨fun h2 => ?_, fun h2 => ⟨⟨0, ⟨by omega, rfl⟩, rfl, rfl⟩, fun i ⟨hi, hal⟩ => ⟨fun hlt => ?_, fun hge => ?_⟩⟩⟩⟩
  · unfold cntd; rw [ne0.1 h]; rfl
  · have hc : chk l = 0 := by simpa using h
    simp only [gt_iff_lt, decide_eq_true_eq] at h2
    unfold cntd; rw [hc, decide_eq_true (by omega)]; rfl
  · have hc : chk l = 0 := by simpa using h
    simp only [gt_iff_lt, decide_eq_false_iff_not, decide_eq_true_eq] at h2 hlt
    have hi' : i < c.length := by omega
    simp only [toNat_cast, gt_iff_lt, decide_eq_true_eq, decide_eq_false_iff_not]
    refine ⟨by omega, by omega, fun h3 => (cntd_bad hc (all_of_bad hi' (okCnt_false.2 (.inl h3)))).symm, fun h3 => ⟨by omega, by omega, fun h4 => (cntd_bad hc (all_of_bad hi' (okCnt_false.2 (.inr h4)))).symm, fun h4 => ⟨i + 1, ⟨by omega, ?_⟩, by show c.length - (i + 1) < c.length - i; omega, by trivial, by rw [wr (by omega) (by omega)]; simp⟩⟩⟩
    rw [all_snoc hi', hal, okCnt_iff.2 ⟨by omega, by omega⟩]; rfl
  · have hc : chk l = 0 := by simpa using h
    simp only [gt_iff_lt, decide_eq_false_iff_not] at h2 hge
    rw [List.take_of_length_le (by omega)] at hal
    unfold cntd; rw [hc, decide_eq_false (by omega), hal]; rfl
theorem cntd6_v (l c : List Int) (h0 : l.length ≤ 4294967296) (h1 : c.length ≤ 4294967296) : cntd6_t l c := by
  unfold cntd6_t
  refine ⟨h0, fun h => ?_, fun h => ⟨fun h2 => ?_, fun h2 => ⟨h1, fun h3 => ?_, fun h3 => ?_⟩⟩⟩
  · unfold cntd; rw [ne0.1 h]; rfl
  · have hc : chk l = 0 := by simpa using h
    simp only [gt_iff_lt, decide_eq_true_eq] at h2
    unfold cntd; rw [hc, decide_eq_true (by omega)]; rfl
  · have hc : chk l = 0 := by simpa using h
    exact (cntd_bad hc (by simpa using h3)).symm
  · have hc : chk l = 0 := by simpa using h
    simp only [gt_iff_lt, decide_eq_false_iff_not] at h2
    have h4 : c.all okCnt = true := by simpa using h3
    unfold cntd; rw [hc, decide_eq_false (by omega), h4]; rfl
theorem cntd_zero {l c : List Int} (h : cntd l c = 0) : chk l = 0 ∧ c.length ≤ 256 ∧ c.all okCnt = true := by
  unfold cntd at h
  cases h1 : (chk l == 0)
  · rw [h1] at h
    simp only [cond_false] at h
    rw [h] at h1; cases h1
  · rw [h1] at h
    simp only [cond_true] at h
    by_cases h2 : 256 < c.length
    · rw [decide_eq_true h2] at h; simp at h
    · rw [decide_eq_false h2] at h
      simp only [cond_false] at h
      cases h3 : c.all okCnt
      · rw [h3] at h; simp at h
      · exact ⟨by simpa using h1, by omega, rfl⟩
theorem cov_bad {l c : List Int} (h : cntd l c = 0) {i : Nat} (hi : i < c.length) (hb : lenOk l i (c.getD i 0) = false) : covV l c = false := by
  unfold covV covI
  rw [h]
  have : ((List.range c.length).all fun s => lenOk l s (c.getD s 0)) = false := by
    rw [Bool.eq_false_iff]
    intro ha
    have := List.all_eq_true.1 ha i (List.mem_range.2 hi)
    rw [hb] at this; cases this
  rw [this]; rfl
theorem range_all_succ {f : Nat → Bool} {i : Nat} (h : (List.range i).all f = true) (hf : f i = true) : (List.range (i + 1)).all f = true := by
  rw [List.range_succ, List.all_append, h]
  simp [hf]
theorem cov6_v (l c : List Int) (h0 : l.length ≤ 4294967296) (h1 : c.length ≤ 4294967296) : cov6_t l c := by
  unfold cov6_t
  refine ⟨h0, h1, fun h => ?_, fun h => ⟨⟨0, ⟨by omega, rfl⟩, rfl, rfl, rfl, rfl⟩, fun i ⟨hi, hal⟩ => ⟨fun hlt => ?_, fun hge => ?_⟩⟩⟩
  · unfold covV; rw [ne0.1 h]; exact ⟨rfl, rfl⟩
  · have hc : cntd l c = 0 := by simpa using h
    simp only [decide_eq_true_eq] at hlt
    simp only [toNat_cast]
    refine ⟨by omega, by omega, by omega, fun h3 => ⟨(cov_bad hc (i := i) (by omega) (by simpa using h3)).symm, hc.symm⟩, fun h3 => ⟨i + 1, ⟨by omega, range_all_succ hal (by simpa using h3)⟩, by show c.length - (i + 1) < c.length - i; omega, by trivial, by trivial, by trivial, by rw [wr (by omega) (by omega)]; simp⟩⟩
  · have hc : cntd l c = 0 := by simpa using h
    simp only [decide_eq_false_iff_not] at hge
    have : i = c.length := by omega
    subst this
    unfold covV covI; rw [hc, hal]; exact ⟨rfl, rfl⟩
theorem rcov6_v (l c : List Int) (h0 : l.length ≤ 4294967296) (h1 : c.length ≤ 4294967296) : rcov6_t l c := by
  unfold rcov6_t
  refine ⟨h0, h1, fun h => ?_, fun h => ⟨⟨0, ⟨by omega, rfl⟩, rfl, rfl, rfl⟩, fun i ⟨hi, hal⟩ => ⟨fun hlt => ?_, fun hge => ?_⟩⟩⟩
  · unfold covV; rw [ne0.1 h]; exact ⟨rfl, rfl⟩
  · have hc : cntd l c = 0 := by simpa using h
    obtain ⟨hk, _, hcc⟩ := cntd_zero hc
    have hlen := (chk_zero_pos hk).2.1
    simp only [decide_eq_true_eq] at hlt
    have hi' : i < c.length := by omega
    have hci := okCnt_iff.1 (List.all_eq_true.1 hcc _ (getD_mem' hi'))
    simp only [toNat_cast, gt_iff_lt, ge_iff_le, decide_eq_true_eq, decide_eq_false_iff_not]
    refine ⟨by omega, by omega, fun hp => ⟨fun h3 => ⟨(cov_bad hc (i := i) hi' ?_).symm, hc.symm⟩, fun h3 => ⟨by omega, by omega, fun h4 => ⟨(cov_bad hc (i := i) hi' ?_).symm, hc.symm⟩, fun h4 => ⟨i + 1, ⟨by omega, range_all_succ hal ?_⟩, by show c.length - (i + 1) < c.length - i; omega, by trivial, by trivial, by rw [wr (by omega) (by omega)]; simp⟩⟩⟩, fun hp => ⟨i + 1, ⟨by omega, range_all_succ hal ?_⟩, by show c.length - (i + 1) < c.length - i; omega, by trivial, by trivial, by rw [wr (by omega) (by omega)]; simp⟩⟩
    · unfold lenOk
      have : (c.getD i 0 == 0) = false := by rw [beq_eq_false_iff_ne]; omega
      rw [this, decide_eq_false (by omega)]; rfl
    · unfold lenOk
      have : (c.getD i 0 == 0) = false := by rw [beq_eq_false_iff_ne]; omega
      have h5 : l.getD i 0 = 0 := by simpa using h4
      rw [this, toNat_cast, h5]; simp
    · unfold lenOk
      have h5 : l.getD i 0 ≠ 0 := by simpa using h4
      have h6 := (hlen _ (getD_mem' (l := l) (i := i) (by omega))).1
      rw [toNat_cast, decide_eq_true (show (i : Int) < l.length by omega), decide_eq_true (show 0 < l.getD i 0 by omega)]; rfl
    · unfold lenOk
      have : (c.getD i 0 == 0) = true := by rw [beq_iff_eq]; omega
      rw [this, Bool.or_true]
  · have hc : cntd l c = 0 := by simpa using h
    simp only [decide_eq_false_iff_not] at hge
    have : i = c.length := by omega
    subst this
    unfold covV covI; rw [hc, hal]; exact ⟨rfl, rfl⟩
/-! ### bits of counts -/
theorem bitS_succ (l c : List Int) (i : Nat) : bitS l c (i + 1) = bitS l c i + c.getD i 0 * lenN l i (c.getD i 0) := by simp [bitS, List.range_succ, List.foldl_append]
theorem rbitS_succ (l c : List Int) (i : Nat) : rbitS l c (i + 1) = rbitS l c i + c.getD i 0 * l.getD i 0 := by simp [rbitS, List.range_succ, List.foldl_append]
theorem lenN_bd {l : List Int} (h : ∀ x ∈ l, 0 ≤ x ∧ x ≤ 11) (i : Nat) (n : Int) : lenN l i n = l.getD i 0 ∧ 0 ≤ l.getD i 0 ∧ l.getD i 0 ≤ 11 := by
  unfold lenN
  rw [toNat_cast]
  by_cases hi : i < l.length
  · have := h _ (getD_mem' hi)
    refine ⟨?_, this⟩
    rw [decide_eq_true (show (i : Int) < l.length by omega), Bool.true_and]
    by_cases hp : 0 < l.getD i 0
    · rw [decide_eq_true hp]; rfl
    · rw [decide_eq_false hp]
      show (0 : Int) = _
      omega
  · have e : l.getD i 0 = 0 := by rw [List.getD_eq_getElem?_getD, List.getElem?_eq_none (by omega)]; rfl
    rw [e, decide_eq_false (show ¬ (i : Int) < l.length by omega)]
    simp
theorem term_bd {a b : Int} (ha : 0 ≤ a ∧ a ≤ 1099511627776) (hb : 0 ≤ b ∧ b ≤ 11) : 0 ≤ a * b ∧ a * b ≤ 12094627905536 := by
  refine ⟨Int.mul_nonneg ha.1 hb.1, ?_⟩
  have := Int.mul_le_mul ha.2 hb.2 hb.1 (by omega)
  omega
theorem cnt_bd {c : List Int} (h : c.all okCnt = true) (i : Nat) : 0 ≤ c.getD i 0 ∧ c.getD i 0 ≤ 1099511627776 := by
  by_cases hi : i < c.length
  · exact okCnt_iff.1 (List.all_eq_true.1 h _ (getD_mem' hi))
  · rw [List.getD_eq_getElem?_getD, List.getElem?_eq_none (by omega)]; simp
theorem bitS_bd {l c : List Int} (h : ∀ x ∈ l, 0 ≤ x ∧ x ≤ 11) (hc : c.all okCnt = true) : ∀ i, 0 ≤ bitS l c i ∧ bitS l c i ≤ i * 12094627905536
  | 0 => by simp [bitS]
  | i + 1 => by
    have ih := bitS_bd h hc i
    rw [bitS_succ]
    obtain ⟨e, hb⟩ := lenN_bd h i (c.getD i 0)
    rw [e]
    have := term_bd (cnt_bd hc i) hb
    push_cast
    omega
theorem rbitS_eq {l c : List Int} (h : ∀ x ∈ l, 0 ≤ x ∧ x ≤ 11) : ∀ i, rbitS l c i = bitS l c i
  | 0 => rfl
  | i + 1 => by rw [rbitS_succ, bitS_succ, rbitS_eq h i, (lenN_bd h i (c.getD i 0)).1]
theorem bitS_stop {l c : List Int} (h : ∀ x ∈ l, 0 ≤ x ∧ x ≤ 11) (n : Nat) : ∀ k, (l.length ≤ n ∨ c.length ≤ n) → bitS l c (n + k) = bitS l c n
  | 0, _ => rfl
  | k + 1, hn => by
    rw [← Nat.add_assoc, bitS_succ, bitS_stop h n k hn]
    have : c.getD (n + k) 0 * lenN l (n + k : Nat) (c.getD (n + k) 0) = 0 := by
      rcases hn with hn | hn
      · rw [(lenN_bd h (n + k) _).1, List.getD_eq_getElem?_getD (l := l), List.getElem?_eq_none (l := l) (by omega)]; simp
      · rw [List.getD_eq_getElem?_getD (l := c), List.getElem?_eq_none (l := c) (by omega)]; simp
    rw [this]; omega
theorem bitE_cases (l c : List Int) : (cntd l c = 0 ∧ covV l c = true ∧ bitE l c = 0 ∧ bitV l c = bitS l c c.length) ∨ (cntd l c = 0 ∧ covV l c = false ∧ bitE l c = 7 ∧ bitV l c = 0) ∨ (cntd l c ≠ 0 ∧ bitE l c = cntd l c ∧ bitV l c = 0) := by
  unfold bitV bitE covV
  by_cases h : cntd l c = 0
  · rw [h]
    cases covI l c
    · exact .inr (.inl ⟨rfl, rfl, rfl, rfl⟩)
    · exact .inl ⟨rfl, rfl, rfl, rfl⟩
  · have : (cntd l c == 0) = false := by simpa using h
    rw [this]
    simp only [cond_false, this]
    exact .inr (.inr ⟨h, by trivial, by trivial⟩)
theorem bit6_v (l c : List Int) (h0 : l.length ≤ 4294967296) (h1 : c.length ≤ 4294967296) : bit6_t l c := by
  unfold bit6_t
  have loop : cntd l c = 0 → covV l c = true → (∃ (x0 : Nat), Nat.le x0 c.length ∧ l = l ∧ (0 : Int) = bitS l c x0 ∧ c = c ∧ (c.length : Int) = c.length ∧ (0 : Int) = (x0 : Int)) ∧
      ∀ (i : Nat), Nat.le i c.length → (decide ((i : Int) < c.length) = true → (0 : Int) ≤ i ∧ (i : Int) < c.length ∧ (0 : Int) ≤ i ∧ ∃ (y : Nat), Nat.le y c.length ∧ Nat.sub c.length y < Nat.sub c.length i ∧ l = l ∧
        IntKind.wrap IntKind.i64 (bitS l c i + IntKind.wrap IntKind.i64 (c.getD (Int.toNat (i : Int)) 0 * lenN l i (c.getD (Int.toNat (i : Int)) 0))) = bitS l c y ∧ c = c ∧ (c.length : Int) = c.length ∧ IntKind.wrap IntKind.i64 ((i : Int) + 1) = (y : Int)) ∧
        (decide ((i : Int) < c.length) = false → bitS l c i = bitV l c ∧ (0 : Int) = bitE l c) := by
    intro hc hv
    obtain ⟨hk, hcl, hcc⟩ := cntd_zero hc
    have hlen := (chk_zero_pos hk).2.1
    rcases bitE_cases l c with ⟨_, _, e1, e2⟩ | ⟨_, e, _⟩ | ⟨e, _⟩
    · refine ⟨⟨0, by rw [nle]; omega, rfl, rfl, rfl, rfl, rfl⟩, fun i hi => ⟨fun hlt => ?_, fun hge => ?_⟩⟩
      · simp only [decide_eq_true_eq] at hlt
        rw [toNat_cast]
        have t := term_bd (cnt_bd hcc i) (lenN_bd hlen i (c.getD i 0)).2
        rw [← (lenN_bd hlen i (c.getD i 0)).1] at t
        have s1 := bitS_bd hlen hcc i
        have hi2 : (i : Int) ≤ 256 := by omega
        refine ⟨by omega, by omega, by omega, i + 1, by rw [nle]; omega, by show c.length - (i+1) < c.length - i; omega, by trivial, ?_, by trivial, by trivial, by rw [wr (by omega) (by omega)]; simp⟩
        rw [bitS_succ, wr (n := c.getD i 0 * lenN l i (c.getD i 0)) (by omega) (by omega), wr (by omega) (by omega)]
      · simp only [decide_eq_false_iff_not] at hge
        rw [nle] at hi
        have : i = c.length := by omega
        subst this
        exact ⟨e2.symm, e1.symm⟩
    · rw [hv] at e; cases e
    · exact absurd hc e
  refine ⟨h0, h1, fun h => ?_, fun h => ?_⟩
  · have hc : cntd l c = 0 := by simpa using h
    refine ⟨fun h2 => ⟨fun _ => ?_, fun h3 => by cases h3⟩, fun h2 => ⟨fun h3 => ?_, fun _ => loop hc (by simpa using h2)⟩⟩
    · have hv : covV l c = false := by simpa using h2
      rcases bitE_cases l c with ⟨_, e, _⟩ | ⟨_, _, e1, e2⟩ | ⟨e, _⟩
      · rw [hv] at e; cases e
      · exact ⟨e2.symm, e1.symm⟩
      · exact absurd hc e
    · rw [hc] at h3; simp at h3
  · have hc : cntd l c ≠ 0 := by simpa using h
    refine ⟨fun _ => ?_, fun h3 => absurd (by simpa using h3) hc⟩
    rcases bitE_cases l c with ⟨e, _⟩ | ⟨e, _⟩ | ⟨_, e1, e2⟩
    · exact absurd e hc
    · exact absurd e hc
    · exact ⟨e2.symm, e1.symm⟩
theorem rbit6_v (l c : List Int) (h0 : l.length ≤ 4294967296) (h1 : c.length ≤ 4294967296) : rbit6_t l c := by
  unfold rbit6_t
  have loop : cntd l c = 0 → covV l c = true → (∃ (x0 : Nat), (x0 ≤ c.length ∧ x0 ≤ l.length) ∧ l = l ∧ c = c ∧ (0 : Int) = rbitS l c x0 ∧ (0 : Int) = (x0 : Int)) ∧
      ∀ (i : Nat), i ≤ c.length ∧ i ≤ l.length → (decide ((i : Int) < c.length) = true → (decide ((i : Int) < l.length) = true → (0 : Int) ≤ i ∧ (i : Int) < c.length ∧ (0 : Int) ≤ i ∧ (i : Int) < l.length ∧ ∃ (y : Nat), (y ≤ c.length ∧ y ≤ l.length) ∧ Nat.sub c.length y < Nat.sub c.length i ∧ l = l ∧ c = c ∧
        IntKind.wrap IntKind.i64 (rbitS l c i + IntKind.wrap IntKind.i64 (c.getD (Int.toNat (i : Int)) 0 * l.getD (Int.toNat (i : Int)) 0)) = rbitS l c y ∧ IntKind.wrap IntKind.i64 ((i : Int) + 1) = (y : Int)) ∧
        (decide ((i : Int) < l.length) = false → rbitS l c i = bitV l c ∧ (0 : Int) = bitE l c)) ∧
        (decide ((i : Int) < c.length) = false → rbitS l c i = bitV l c ∧ (0 : Int) = bitE l c) := by
    intro hc hv
    obtain ⟨hk, hcl, hcc⟩ := cntd_zero hc
    have hlen := (chk_zero_pos hk).2.1
    rcases bitE_cases l c with ⟨_, _, e1, e2⟩ | ⟨_, e, _⟩ | ⟨e, _⟩
    · refine ⟨⟨0, ⟨by omega, by omega⟩, rfl, rfl, rfl, rfl⟩, fun i ⟨hi, hi2⟩ => ⟨fun hlt => ⟨fun hlt2 => ?_, fun hge => ?_⟩, fun hge => ?_⟩⟩
      · simp only [decide_eq_true_eq] at hlt hlt2
        rw [toNat_cast]
        have t := term_bd (cnt_bd hcc i) (lenN_bd hlen i (c.getD i 0)).2
        have s1 := bitS_bd hlen hcc i
        have hi3 : (i : Int) ≤ 256 := by omega
        refine ⟨by omega, by omega, by omega, by omega, i + 1, ⟨by omega, by omega⟩, by show c.length - (i+1) < c.length - i; omega, by trivial, by trivial, ?_, by rw [wr (by omega) (by omega)]; simp⟩
        rw [rbitS_succ, rbitS_eq hlen, wr (n := c.getD i 0 * l.getD i 0) (by omega) (by omega), wr (by omega) (by omega)]
      · simp only [decide_eq_false_iff_not] at hge
        have e : i = l.length := by omega
        have := bitS_stop (l := l) (c := c) hlen i (c.length - i) (.inl (by omega))
        rw [show i + (c.length - i) = c.length by omega] at this
        rw [rbitS_eq hlen, e2, this]
        exact ⟨by trivial, e1.symm⟩
      · simp only [decide_eq_false_iff_not] at hge
        have e : i = c.length := by omega
        subst e
        rw [rbitS_eq hlen]
        exact ⟨e2.symm, e1.symm⟩
    · rw [hv] at e; cases e
    · exact absurd hc e
  refine ⟨h0, h1, fun h => ?_, fun h => ?_⟩
  · have hc : cntd l c = 0 := by simpa using h
    refine ⟨fun h2 => ⟨fun _ => ?_, fun h3 => by cases h3⟩, fun h2 => ⟨fun h3 => ?_, fun _ => loop hc (by simpa using h2)⟩⟩
    · have hv : covV l c = false := by simpa using h2
      rcases bitE_cases l c with ⟨_, e, _⟩ | ⟨_, _, e1, e2⟩ | ⟨e, _⟩
      · rw [hv] at e; cases e
      · exact ⟨e2.symm, e1.symm⟩
      · exact absurd hc e
    · rw [hc] at h3; simp at h3
  · have hc : cntd l c ≠ 0 := by simpa using h
    refine ⟨fun _ => ?_, fun h3 => absurd (by simpa using h3) hc⟩
    rcases bitE_cases l c with ⟨e, _⟩ | ⟨e, _⟩ | ⟨_, e1, e2⟩
    · exact absurd e hc
    · exact absurd e hc
    · exact ⟨e2.symm, e1.symm⟩
theorem getR_mem {l : List (List Int)} {i : Nat} (h : i < l.length) : l.getD i [] ∈ l := by
  rw [List.getD_eq_getElem?_getD, List.getElem?_eq_getElem h]
  exact List.getElem_mem h
theorem eqR_len {w : Nat} {a b : List (List Int)} (h : ((a.length : Int) != (b.length : Int)) = true) : eqR w a b = false := by
  unfold eqR
  rw [beq_eq_false_iff_ne]
  intro e
  have := congrArg List.length e
  simp only [List.length_map] at this
  rw [this] at h
  simp at h
theorem eqR_bad {w : Nat} {a b : List (List Int)} {i : Nat} (ha : i < a.length) (hb : i < b.length) (h : rowN w (a.getD i []) ≠ rowN w (b.getD i [])) : eqR w a b = false := by
  unfold eqR
  rw [beq_eq_false_iff_ne]
  intro e
  have := congrArg (fun l => l.getD i []) e
  simp only [List.getD_eq_getElem?_getD, List.getElem?_map, List.getElem?_eq_getElem ha, List.getElem?_eq_getElem hb, Option.map_some, Option.getD_some] at this
  apply h
  simpa only [List.getD_eq_getElem?_getD, List.getElem?_eq_getElem ha, List.getElem?_eq_getElem hb, Option.getD_some] using this
theorem eqR_step {w : Nat} {a b : List (List Int)} {i : Nat} (ha : i < a.length) (hb : i < b.length) (h : rowN w (a.getD i []) = rowN w (b.getD i [])) (ht : (a.take i).map (rowN w) = (b.take i).map (rowN w)) : (a.take (i + 1)).map (rowN w) = (b.take (i + 1)).map (rowN w) := by
  rw [take_succ a [] ha, take_succ b [] hb, List.map_append, List.map_append, ht]
  simp only [List.map_cons, List.map_nil, h]
theorem eqR_end {w : Nat} {a b : List (List Int)} (hl : a.length = b.length) {i : Nat} (hi : a.length ≤ i) (ht : (a.take i).map (rowN w) = (b.take i).map (rowN w)) : eqR w a b = true := by
  rw [List.take_of_length_le hi, List.take_of_length_le (by omega)] at ht
  unfold eqR
  rw [ht]
  simp
theorem row2 (a b : List Int) : (a.getD 0 0 == b.getD 0 0 && (a.getD 1 0 == b.getD 1 0 && true)) = true ↔ rowN 2 a = rowN 2 b := by
  simp [rowN, List.range, List.range.loop]
theorem row3 (a b : List Int) : (a.getD 0 0 == b.getD 0 0 && (a.getD 1 0 == b.getD 1 0 && (a.getD 2 0 == b.getD 2 0 && true))) = true ↔ rowN 3 a = rowN 3 b := by
  simp [rowN, List.range, List.range.loop]
theorem eqr2_v (a b : List (List Int)) (h0 : a.length ≤ 4294967296) : eqr2_t a b := by
  unfold eqr2_t
  refine ⟨fun h => (eqR_len h).symm, fun h => ?_⟩
  have hl : a.length = b.length := by have h' := h; simp at h'; omega
  refine ⟨⟨0, ⟨by omega, rfl⟩, rfl, rfl, rfl⟩, fun i hi => ⟨fun hlt => ?_, fun hge => ?_⟩⟩
  · simp only [decide_eq_true_eq] at hlt
    simp only [toNat_cast]
    refine ⟨by omega, by omega, by omega, by omega, fun hne => ?_, fun he => ?_⟩
    · rw [Bool.not_eq_true', ← Bool.not_eq_true, row2] at hne
      exact (eqR_bad (i := i) (by omega) (by omega) hne).symm
    · rw [Bool.not_eq_false', row2] at he
      exact ⟨i + 1, ⟨by omega, eqR_step (by omega) (by omega) he hi.2⟩, by show a.length - (i+1) < a.length - i; omega, by trivial, by trivial, by rw [wr (by omega) (by omega)]; simp⟩
  · simp only [decide_eq_false_iff_not] at hge
    exact (eqR_end hl (by omega) hi.2).symm
theorem eqr3_v (a b : List (List Int)) (h0 : a.length ≤ 4294967296) : eqr3_t a b := by
  unfold eqr3_t
  refine ⟨fun h => (eqR_len h).symm, fun h => ?_⟩
  have hl : a.length = b.length := by have h' := h; simp at h'; omega
  refine ⟨⟨0, ⟨by omega, rfl⟩, rfl, rfl, rfl⟩, fun i hi => ⟨fun hlt => ?_, fun hge => ?_⟩⟩
  · simp only [decide_eq_true_eq] at hlt
    simp only [toNat_cast]
    refine ⟨by omega, by omega, by omega, by omega, fun hne => ?_, fun he => ?_⟩
    · rw [Bool.not_eq_true', ← Bool.not_eq_true, row3] at hne
      exact (eqR_bad (i := i) (by omega) (by omega) hne).symm
    · rw [Bool.not_eq_false', row3] at he
      exact ⟨i + 1, ⟨by omega, eqR_step (by omega) (by omega) he hi.2⟩, by show a.length - (i+1) < a.length - i; omega, by trivial, by trivial, by rw [wr (by omega) (by omega)]; simp⟩
  · simp only [decide_eq_false_iff_not] at hge
    exact (eqR_end hl (by omega) hi.2).symm
theorem eqr2n_v : eqr2n_t := by
  unfold eqr2n_t
  refine ⟨fun h => (by cases h), fun _ => ⟨⟨0, by simp⟩, fun x _ => ⟨fun h => (by cases h), fun _ => by trivial⟩⟩⟩
theorem eqr3n_v : eqr3n_t := by
  unfold eqr3n_t
  refine ⟨fun h => (by cases h), fun _ => ⟨⟨0, by simp⟩, fun x _ => ⟨fun h => (by cases h), fun _ => by trivial⟩⟩⟩
/-! ### tables -/
theorem G6z_ok : AllOk Try.prog [] := AllOk.nil
theorem many6_sound : Sound Try.prog 65 sMany.ctr := sMany.sound (by kernel_rfl) sMany_enc fun l hc => by
  have h0 := hc _ (.head _)
  exact satG G6z_ok mixed Try.func65 (many6_e l) (many6_v l h0)
theorem max6_sound : Sound Try.prog 90 sMaxL.ctr := sMaxL.sound (by kernel_rfl) sMaxL_enc fun l hc => by
  have h0 := hc _ (.head _)
  have h1 := hc _ (.tail _ (.head _))
  exact satG G6z_ok mixed Try.func90 (max6_e l) (max6_v l h0 h1)
theorem rgmx6_sound : Sound Try.prog 64 sRgmx.ctr := sRgmx.sound (by kernel_rfl) sRgmx_enc fun l hc => by
  have h0 := hc _ (.head _)
  exact satG G6z_ok mixed Try.func64 (rgmx6_e l) (rgmx6_v l h0)
theorem wrong6_sound : Sound Try.prog 96 sWrong.ctr := sWrong.sound (by kernel_rfl) sWrong_enc fun n hc => by
  exact satG G6z_ok mixed Try.func96 (wrong6_e n) (wrong6_v n)
theorem own6_sound : Sound Try.prog 21 sOwnL.ctr := sOwnL.sound (by kernel_rfl) sOwnL_enc fun l hc => by
  have h0 := hc _ (.head _)
  exact satG G6z_ok mixed Try.func21 (own6_e l) (own6_v l h0)
theorem eq6_sound : Sound Try.prog 31 sEqL.ctr := sEqL.sound (by kernel_rfl) sEqL_enc fun ⟨a, b⟩ hc => by
  have h0 := hc _ (.head _)
  exact satG G6z_ok mixed Try.func31 (eq6_e a b) (eq6_v a b h0)
theorem len6_sound : Sound Try.prog 66 sLen.ctr := sLen.sound (by kernel_rfl) sLen_enc fun ⟨l, s, n⟩ hc => by
  have h0 := hc _ (.head _)
  exact satG G6z_ok mixed Try.func66 (len6_e l s n) (len6_v l s n h0)
theorem nan6_sound : Sound Try.prog 117 sNaN.ctr := sNaN.sound (by kernel_rfl) sNaN_enc fun a hc => by
  exact satG G6z_ok mixed Try.func117 (nan6_e a) (nan6_v a)
theorem or6_sound : Sound Try.prog 93 sOr.ctr := sOr.sound (by kernel_rfl) sOr_enc fun ⟨a, b⟩ hc => by
  exact satG G6z_ok mixed Try.func93 (or6_e a b) (or6_v a b)
theorem G6a_ok : AllOk Try.prog G6a := .cons many6_sound <| .cons max6_sound <| .cons rgmx6_sound <| .cons wrong6_sound <| .cons own6_sound <| .cons eq6_sound <| .cons len6_sound <| .cons nan6_sound <| .cons or6_sound G6z_ok
theorem check6_sound : Sound Try.prog 23 sChk.ctr := sChk.sound (by kernel_rfl) sChk_enc fun l hc => by
  have h0 := hc _ (.head _)
  exact satG G6a_ok mixed Try.func23 (check6_e l) (check6_v l h0)
theorem rcheck6_sound : Sound Try.prog 24 sChk.ctr := sChk.sound (by kernel_rfl) sChk_enc fun l hc => by
  have h0 := hc _ (.head _)
  exact satG G6a_ok mixed Try.func24 (rcheck6_e l) (rcheck6_v l h0)
theorem great6_sound : Sound Try.prog 61 sGmx.ctr := sGmx.sound (by kernel_rfl) sGmx_enc fun l hc => by
  have h0 := hc _ (.head _)
  exact satG G6a_ok mixed Try.func61 (great6_e l) (great6_v l h0)
theorem idx6_sound : Sound Try.prog 102 sIdx.ctr := sIdx.sound (by kernel_rfl) sIdx_enc fun l hc => by
  have h0 := hc _ (.head _)
  exact satG G6a_ok mixed Try.func102 (idx6_e l) (idx6_v l h0)
theorem cmp6_sound : Sound Try.prog 94 sCmp.ctr := sCmp.sound (by kernel_rfl) sCmp_enc fun ⟨a, b⟩ hc => by
  exact satG G6a_ok mixed Try.func94 (cmp6_e a b) (cmp6_v a b)
theorem G6b_ok : AllOk Try.prog G6b := .cons check6_sound <| .cons rcheck6_sound <| .cons great6_sound <| .cons idx6_sound <| .cons cmp6_sound G6a_ok
theorem most6_sound : Sound Try.prog 17 sMost.ctr := sMost.sound (by kernel_rfl) sMost_enc fun l hc => by
  have h0 := hc _ (.head _)
  exact satG G6b_ok mixed Try.func17 (most6_e l) (most6_v l h0)
theorem rmost6_sound : Sound Try.prog 22 sMost.ctr := sMost.sound (by kernel_rfl) sMost_enc fun l hc => by
  have h0 := hc _ (.head _)
  exact satG G6b_ok mixed Try.func22 (rmost6_e l) (rmost6_v l h0)
theorem has6_sound : Sound Try.prog 73 sHas.ctr := sHas.sound (by kernel_rfl) sHas_enc fun l hc => by
  have h0 := hc _ (.head _)
  exact satG G6b_ok mixed Try.func73 (has6_e l) (has6_v l h0)
theorem rcntd6_sound : Sound Try.prog 68 sCntd.ctr := sCntd.sound (by kernel_rfl) sCntd_enc fun ⟨l, c⟩ hc => by
  have h0 := hc _ (.head _)
  have h1 := hc _ (.tail _ (.head _))
  exact satG G6b_ok mixed Try.func68 (rcntd6_e l c) (rcntd6_v l c h0 h1)
theorem G6c_ok : AllOk Try.prog G6c := .cons most6_sound <| .cons rmost6_sound <| .cons has6_sound <| .cons rcntd6_sound G6b_ok
theorem cntd6_sound : Sound Try.prog 67 sCntd.ctr := sCntd.sound (by kernel_rfl) sCntd_enc fun ⟨l, c⟩ hc => by
  have h0 := hc _ (.head _)
  have h1 := hc _ (.tail _ (.head _))
  exact satG G6c_ok mixed Try.func67 (cntd6_e l c) (cntd6_v l c h0 h1)
theorem rcov6_sound : Sound Try.prog 35 sCov.ctr := sCov.sound (by kernel_rfl) sCov_enc fun ⟨l, c⟩ hc => by
  have h0 := hc _ (.head _)
  have h1 := hc _ (.tail _ (.head _))
  exact satG G6c_ok mixed Try.func35 (rcov6_e l c) (rcov6_v l c h0 h1)
theorem G6d_ok : AllOk Try.prog G6d := .cons cntd6_sound <| .cons rcov6_sound G6c_ok
theorem cov6_sound : Sound Try.prog 34 sCov.ctr := sCov.sound (by kernel_rfl) sCov_enc fun ⟨l, c⟩ hc => by
  have h0 := hc _ (.head _)
  have h1 := hc _ (.tail _ (.head _))
  exact satG G6d_ok mixed Try.func34 (cov6_e l c) (cov6_v l c h0 h1)
theorem rbit6_sound : Sound Try.prog 33 sBit.ctr := sBit.sound (by kernel_rfl) sBit_enc fun ⟨l, c⟩ hc => by
  have h0 := hc _ (.head _)
  have h1 := hc _ (.tail _ (.head _))
  exact satG G6d_ok mixed Try.func33 (rbit6_e l c) (rbit6_v l c h0 h1)
theorem G6e_ok : AllOk Try.prog G6e := .cons cov6_sound <| .cons rbit6_sound G6d_ok
theorem bit6_sound : Sound Try.prog 32 sBit.ctr := sBit.sound (by kernel_rfl) sBit_enc fun ⟨l, c⟩ hc => by
  have h0 := hc _ (.head _)
  have h1 := hc _ (.tail _ (.head _))
  exact satG G6e_ok mixed Try.func32 (bit6_e l c) (bit6_v l c h0 h1)
theorem G6f_ok : AllOk Try.prog G6f := .cons bit6_sound G6e_ok
theorem eqr2_sound : Sound Try.prog 26 sEqR2.ctr := sEqR2.sound (by kernel_rfl) sEqR2_enc fun i hc => by
  cases i with
  | none => exact satG G6z_ok mixed Try.func26 eqr2n_e eqr2n_v
  | some x => exact satG G6z_ok mixed Try.func26 (eqr2_e x.1 x.2) (eqr2_v x.1 x.2 (hc _ (.head _)))
theorem eqr3_sound : Sound Try.prog 28 sEqR3.ctr := sEqR3.sound (by kernel_rfl) sEqR3_enc fun i hc => by
  cases i with
  | none => exact satG G6z_ok mixed Try.func28 eqr3n_e eqr3n_v
  | some x => exact satG G6z_ok mixed Try.func28 (eqr3_e x.1 x.2) (eqr3_v x.1 x.2 (hc _ (.head _)))
end Go.Proofs.Ytfbdocfhgjfboaa
/-
  Chapter 16: the symbols in order: contracts and loops. Conditions: none (definitions).
-/
namespace Go.Proofs.Ytfbdocfhgjfboaa
open Go Go.RowKit
set_option linter.unusedVariables false
set_option linter.unusedSimpArgs false
set_option maxRecDepth 100000
/-! ### contracts -/
def sRanges : Spec where
  ι := List Int
  dec l H := match l with
    | [.dat (.ints .i64 l)] => some (l, [])
    | _ => none
  args := fun l => [.dat (.ints .i64 l)]
  pre := fun l => [⟨chk l = 0, inferInstance⟩]
  out := fun l => .leaf (.fn (.func 95) [] [.p 2000 0 0, .p 2001 0 0]) [(2000, .cells 22 [.dat (.ints .i64 l)]), (2001, .cells 116 [.o 2002]), (2002, .row 87 (.recs 2 (ordS l)))]
theorem sRanges_enc : ∀ l H n i ls, sRanges.dec l H = some (i, ls) → l = renL (rho ls n) (sRanges.args i) ∧ givenHp H ls = renH (rho ls n) (sRanges.hp i) := by
  intro l H n i ls h
  simp only [sRanges] at h
  repeat' split at h
  all_goals first
    | (cases h; done)
    | (cases h; exact ⟨rfl, rfl⟩)
def sCodes : Spec where
  ι := List Int
  dec l H := match l with
    | [.dat (.ints .i64 l)] => some (l, [])
    | _ => none
  args := fun l => [.dat (.ints .i64 l)]
  pre := fun l => [⟨l.length ≤ 4294967296, inferInstance⟩]
  out := fun l => .ite ⟨chk l = 0, inferInstance⟩ (.leaf (.tu [.o 2000, .v (.int .i64 0)]) [(2000, .row 38 (.recs 2 (codL l)))]) (.leaf (.tu [.v (.slice none 0 0), .v (.int .i64 (chk l))]) [])
theorem sCodes_enc : ∀ l H n i ls, sCodes.dec l H = some (i, ls) → l = renL (rho ls n) (sCodes.args i) ∧ givenHp H ls = renH (rho ls n) (sCodes.hp i) := by
  intro l H n i ls h
  simp only [sCodes] at h
  repeat' split at h
  all_goals first
    | (cases h; done)
    | (cases h; exact ⟨rfl, rfl⟩)
def sTbl : Spec where
  ι := List Int
  dec l H := match l with
    | [.dat (.ints .i64 l)] => some (l, [])
    | _ => none
  args := fun l => [.dat (.ints .i64 l)]
  pre := fun l => [⟨chk l = 0, inferInstance⟩]
  out := fun l => .leaf (.o 2000) [(2000, .row 36 (.recs 3 (tblL l)))]
theorem sTbl_enc : ∀ l H n i ls, sTbl.dec l H = some (i, ls) → l = renL (rho ls n) (sTbl.args i) ∧ givenHp H ls = renH (rho ls n) (sTbl.hp i) := by
  intro l H n i ls h
  simp only [sTbl] at h
  repeat' split at h
  all_goals first
    | (cases h; done)
    | (cases h; exact ⟨rfl, rfl⟩)
def sTable : Spec where
  ι := List Int
  dec l H := match l with
    | [.dat (.ints .i64 l)] => some (l, [])
    | _ => none
  args := fun l => [.dat (.ints .i64 l)]
  pre := fun l => [⟨l.length ≤ 4294967296, inferInstance⟩]
  out := fun l => .ite ⟨chk l = 0, inferInstance⟩ (.leaf (.tu [.o 2000, .v (.int .i64 0)]) [(2000, .row 36 (.recs 3 (tblL l)))]) (.leaf (.tu [.v (.slice none 0 0), .v (.int .i64 (chk l))]) [])
theorem sTable_enc : ∀ l H n i ls, sTable.dec l H = some (i, ls) → l = renL (rho ls n) (sTable.args i) ∧ givenHp H ls = renH (rho ls n) (sTable.hp i) := by
  intro l H n i ls h
  simp only [sTable] at h
  repeat' split at h
  all_goals first
    | (cases h; done)
    | (cases h; exact ⟨rfl, rfl⟩)
def sDec : Spec where
  ι := List Int × Int
  dec l H := match l with
    | [.dat (.ints .i64 l), .v (.int .i64 v)] => some ((l, v), [])
    | _ => none
  args := fun (l, v) => [.dat (.ints .i64 l), .v (.int .i64 v)]
  pre := fun (l, v) => [⟨l.length ≤ 4294967296, inferInstance⟩]
  out := fun (l, v) => .leaf (.tu [.v (.int .i64 (decC l v 0)), .v (.int .i64 (decC l v 1)), .v (.int .i64 (decE l v))]) []
theorem sDec_enc : ∀ l H n i ls, sDec.dec l H = some (i, ls) → l = renL (rho ls n) (sDec.args i) ∧ givenHp H ls = renH (rho ls n) (sDec.hp i) := by
  intro l H n i ls h
  simp only [sDec] at h
  repeat' split at h
  all_goals first
    | (cases h; done)
    | (cases h; exact ⟨rfl, rfl⟩)
/-! ### loops -/
def oRanges (l : List Int) : LoopInv := { ι := Nat, p := fun i => i ≤ l.length, tm := fun i => [(1, .p 1000 0 0), (3, .p 1001 0 0), (6, .dat (.ints .i64 l)), (7, .v (.int .i64 l.length)), (8, .v (.int .i64 (i : Nat)))], hp := fun i => [(1000, .cells 22 [.dat (.ints .i64 l)]), (1001, .cells 116 [.o 1002]), (1002, .row 87 (.recs 2 (syms (l.take i))))], μ := fun i => l.length - i }
def hpIt (k : Nat) (l : List Int) : List (Nat × SBlk) := [(k, .cells 22 [.dat (.ints .i64 l)]), (k + 1, .cells 116 [.o (k + 2)]), (k + 2, .row 87 (.recs 2 (ordS l)))]
def oItems (l0 : Nat) (l : List Int) : LoopInvI := { ι := Nat, p := fun i => i ≤ (ordS l).length, tm := fun i => [(0, .v (.func (.yield l0) #[] #[])), (1, .p 0 0 0), (2, .p 1 0 0), (4, .v (.int .i64 (gmx l))), (5, .v (.int .i64 (atF (gmx l) (ordS l) i))), (10, .o 2), (11, .v (.int .i64 (ordS l).length)), (12, .v (.int .i64 (i : Nat)))], hp := fun i => [(0, .cells 22 [.dat (.ints .i64 l)]), (1, .cells 116 [.o 2]), (2, .row 87 (.recs 2 (ordS l)))], μ := fun i => (ordS l).length - i, y := fun i => i }
def oneI (x : LoopInvI) : Nat → Option LoopInvI := fun k => cond (Nat.beq k 0) (some x) none
def rCodes (l : List Int) : RngInv := { f := 95, cap := [.p 700008 0 0, .p 700009 0 0], hpI := [(700008, .cells 22 [.dat (.ints .i64 l)]), (700009, .cells 116 [.o 700010]), (700010, .row 87 (.recs 2 (ordS l)))], xs := items l, it := fun i => [.agg #[.int .i64 ((symI l i).getD 0 0), .int .i64 ((symI l i).getD 1 0)], .int .i64 (atF (gmx l) (ordS l) i)], tm := [(5, .p 1000 0 0), (6, .p 1001 0 0)], hp := fun i => [(1000, .cells 3 [.v (.int .i64 (gmx l))]), (1001, .cells 24 [.o 1002]), (1002, .row 38 (.recs 2 (codP l i)))] }
def rTable (l : List Int) : RngInv := { f := 95, cap := [.p 400008 0 0, .p 400009 0 0], hpI := [(400008, .cells 22 [.dat (.ints .i64 l)]), (400009, .cells 116 [.o 400010]), (400010, .row 87 (.recs 2 (ordS l)))], xs := items l, it := fun i => [.agg #[.int .i64 ((symI l i).getD 0 0), .int .i64 ((symI l i).getD 1 0)], .int .i64 (atF (gmx l) (ordS l) i)], tm := [(3, .p 1000 0 0), (4, .p 1001 0 0)], hp := fun i => [(1000, .cells 3 [.v (.int .i64 (gmx l))]), (1001, .cells 30 [.o 1002]), (1002, .row 36 (.recs 3 (tblP l i)))] }
def oTblI (l : List Int) (i : Nat) : LoopInv := { ι := Nat, p := fun j => i < (ordS l).length ∧ j ≤ wid (gmx l) (symI l i), tm := fun j => [(3, .p 1000 0 0), (4, .p 1001 0 0), (5, .p 5000 0 0), (6, .v (.int .i64 (atF (gmx l) (ordS l) i))), (21, .v (.int .i64 (wid (gmx l) (symI l i) : Nat))), (22, .v (.int .i64 (j : Nat)))], hp := fun j => [(1000, .cells 3 [.v (.int .i64 (gmx l))]), (1001, .cells 30 [.o 1002]), (1002, .row 36 (.recs 3 (tblQ l i j))), (5000, .cells 87 [.v (.int .i64 ((symI l i).getD 0 0)), .v (.int .i64 ((symI l i).getD 1 0))])], μ := fun j => wid (gmx l) (symI l i) - j }
def oCodes (l : List Int) : Nat → Option LoopFam := fun k => cond (Nat.beq k 0) (some (.rng Nat fun _ => rCodes l)) none
def oTbl (l : List Int) : Nat → Option LoopFam := fun k => cond (Nat.beq k 0) (some (.rng Nat fun _ => rTable l)) (cond (Nat.beq k 1) (some (.fam Nat fun i => oTblI l i)) none)
/-- the reference's table: lengths from the greatest down -/
def oRtA (l : List Int) : LoopInv := { ι := Nat, p := fun j => (j : Int) ≤ gmx l ∧ chk l = 0, tm := fun j => [(0, .dat (.ints .i64 l)), (5, .v (.int .i64 (gmx l))), (6, .o 5000), (7, .v (.int .i64 (gmx l - j)))], hp := fun j => [(5000, .row 36 (.recs 3 (refT l j)))], μ := fun j => (gmx l).toNat - j }
def oRtB (l : List Int) (j : Nat) : LoopInv := { ι := Nat, p := fun s => (j : Int) < gmx l ∧ s ≤ l.length ∧ chk l = 0, tm := fun s => [(0, .dat (.ints .i64 l)), (5, .v (.int .i64 (gmx l))), (6, .o 5000), (7, .v (.int .i64 (gmx l - j))), (8, .v (.int .i64 (s : Nat)))], hp := fun s => [(5000, .row 36 (.recs 3 (refS l j s)))], μ := fun s => l.length - s }
def oRtC (l : List Int) (j s : Nat) : LoopInv := { ι := Nat, p := fun k => (j : Int) < gmx l ∧ s < l.length ∧ l.getD s 0 = gmx l - j ∧ k ≤ 2 ^ j ∧ chk l = 0, tm := fun k => [(0, .dat (.ints .i64 l)), (5, .v (.int .i64 (gmx l))), (6, .o 5000), (7, .v (.int .i64 (gmx l - j))), (8, .v (.int .i64 (s : Nat))), (9, .v (.int .i64 (k : Nat)))], hp := fun k => [(5000, .row 36 (.recs 3 (refK l j s k)))], μ := fun k => 2 ^ j - k }
def oRt (l : List Int) : Nat → Option LoopFam := fun k => cond (Nat.beq k 0) (some (.one (oRtA l))) (cond (Nat.beq k 1) (some (.fam Nat fun j => oRtB l j)) (cond (Nat.beq k 2) (some (.fam (Nat × Nat) fun x => oRtC l x.1 x.2)) none))
def oRc (l : List Int) : LoopInv := { ι := Nat, p := fun c => c ≤ (tblL l).length ∧ chk l = 0, tm := fun c => [(4, .o 5000), (6, .v (.int .i64 (gmx l))), (7, .o 5001), (8, .v (.int .i64 ((tblL l).length - 1 - c)))], hp := fun c => [(5000, .row 36 (.recs 3 (tblL l))), (5001, .row 38 (.recs 2 (refCL l c)))], μ := fun c => (tblL l).length - c }
/-! ### tables -/
def G6g : List (Nat × Ctr) := (91, sSort.ctr) :: (26, sEqR2.ctr) :: (28, sEqR3.ctr) :: G6f
def G6h : List (Nat × Ctr) := (62, sRanges.ctr) :: (27, sTable.ctr) :: G6g
def G6i : List (Nat × Ctr) := (16, sCodes.ctr) :: (63, sTbl.ctr) :: (25, sCodes.ctr) :: (30, sDec.ctr) :: G6h
def G6j : List (Nat × Ctr) := (18, sTable.ctr) :: G6i
def G6k : List (Nat × Ctr) := (29, sDec.ctr) :: G6j
/-! ### conditions
--%VC ranges6 ;; (l : List Int) ;; G6g ;; one6 (oRanges l) ;; code.ranges ;; [.dat (.ints .i64 l)] ;; [] ;; (.fn (.func 95) [] [.p 2000 0 0, .p 2001 0 0]) ;; [(2000, .cells 22 [.dat (.ints .i64 l)]), (2001, .cells 116 [.o 2002]), (2002, .row 87 (.recs 2 (ordS l)))]
--%VCI items6 ;; (l : List Int) ;; G6g ;; oneI (oItems l0 l) ;; code.ranges$2 ;; [.p 0 0 0, .p 1 0 0] ;; [(0, .cells 22 [.dat (.ints .i64 l)]), (1, .cells 116 [.o 2]), (2, .row 87 (.recs 2 (ordS l)))] ;; items l
--%VC codes6 ;; (l : List Int) ;; G6h ;; oCodes l ;; code.Codes ;; [.dat (.ints .i64 l)] ;; [] ;; .tu [.o 2000, .v (.int .i64 0)] :: [(2000, .row 38 (.recs 2 (codL l)))] ?? chk l = 0 ?? .tu [.v (.slice none 0 0), .v (.int .i64 (chk l))] :: [] ;; []
--%VC tbl6 ;; (l : List Int) ;; G6h ;; oTbl l ;; code.table ;; [.dat (.ints .i64 l)] ;; [] ;; (.o 2000) ;; [(2000, .row 36 (.recs 3 (tblL l)))]
--%VC rtable6 ;; (l : List Int) ;; G6g ;; oRt l ;; ref16.Table ;; [.dat (.ints .i64 l)] ;; [] ;; .tu [.o 2000, .v (.int .i64 0)] :: [(2000, .row 36 (.recs 3 (tblL l)))] ?? chk l = 0 ?? .tu [.v (.slice none 0 0), .v (.int .i64 (chk l))] :: [] ;; []
--%VC rcodes6 ;; (l : List Int) ;; G6h ;; one6 (oRc l) ;; ref16.Codes ;; [.dat (.ints .i64 l)] ;; [] ;; .tu [.o 2000, .v (.int .i64 0)] :: [(2000, .row 38 (.recs 2 (codL l)))] ?? chk l = 0 ?? .tu [.v (.slice none 0 0), .v (.int .i64 (chk l))] :: [] ;; []
--%VC rdec6 ;; (l : List Int) (v : Int) ;; G6h ;; fun _ => none ;; ref16.Decode ;; [.dat (.ints .i64 l), .v (.int .i64 v)] ;; [] ;; (.tu [.v (.int .i64 (decC l v 0)), .v (.int .i64 (decC l v 1)), .v (.int .i64 (decE l v))]) ;; []
--%VC table6 ;; (l : List Int) ;; G6i ;; fun _ => none ;; code.Table ;; [.dat (.ints .i64 l)] ;; [] ;; .tu [.o 2000, .v (.int .i64 0)] :: [(2000, .row 36 (.recs 3 (tblL l)))] ?? chk l = 0 ?? .tu [.v (.slice none 0 0), .v (.int .i64 (chk l))] :: [] ;; []
--%VC dec6 ;; (l : List Int) (v : Int) ;; G6j ;; fun _ => none ;; code.Decode ;; [.dat (.ints .i64 l), .v (.int .i64 v)] ;; [] ;; (.tu [.v (.int .i64 (decC l v 0)), .v (.int .i64 (decC l v 1)), .v (.int .i64 (decE l v))]) ;; []
-/
end Go.Proofs.Ytfbdocfhgjfboaa
/-
  The conditions of the functions told in the text before, and that they are the executor's. Conditions: none.
-/
namespace Go.Proofs.Ytfbdocfhgjfboaa
open Go Go.RowKit
set_option linter.unusedVariables false
set_option maxRecDepth 100000
def ranges6_t (l : List Int) : Prop :=
 (∃ (x0 : Nat), Nat.le x0 (List.length l) ∧ l = l ∧ (↑(List.length l) : Int) = (↑(List.length l) : Int) ∧ (0 : Int) = (↑x0 : Int) ∧ l = l ∧ List.length (syms (List.take x0 l)) = (0 : Nat)) ∧
 ∀ (x1 : Nat),
 Nat.le x1 (List.length l) →
 (decide ((↑x1 : Int) < (↑(List.length l) : Int)) = true →
 (0 : Int) ≤ (↑x1 : Int) ∧
 (↑x1 : Int) < (↑(List.length l) : Int) ∧
 (decide (List.getD l (Int.toNat (↑x1 : Int)) (0 : Int) > (0 : Int)) = true →
 (List.length (syms (List.take x1 l)) +
 Nat.succ
 (Nat.add (List.length (List.map (fun (i : Nat) => List.take ((2 : Nat)) (List.drop (i * (2 : Nat)) [(↑x1 : Int), List.getD l (Int.toNat (↑x1 : Int)) (0 : Int)])) []))
 ((0 : Nat)))) *
 (16 : Nat) ≤
 (140737488355328 : Nat) ∧
 ∃ (y2 : Nat),
 Nat.le y2 (List.length l) ∧
 Nat.sub (List.length l) y2 < Nat.sub (List.length l) x1 ∧
 l = l ∧
 (↑(List.length l) : Int) = (↑(List.length l) : Int) ∧
 IntKind.wrap IntKind.i64 ((↑x1 : Int) + (1 : Int)) = (↑y2 : Int) ∧
 l = l ∧
 syms (List.take x1 l) ++
 List.map (fun (i : Nat) => List.take ((2 : Nat)) (List.drop (i * (2 : Nat)) [(↑x1 : Int), List.getD l (Int.toNat (↑x1 : Int)) (0 : Int)]))
 (List.range (1 : Nat)) =
 syms (List.take y2 l)) ∧
 (decide (List.getD l (Int.toNat (↑x1 : Int)) (0 : Int) > (0 : Int)) = false →
 ∃ (y3 : Nat),
 Nat.le y3 (List.length l) ∧
 Nat.sub (List.length l) y3 < Nat.sub (List.length l) x1 ∧
 l = l ∧
 (↑(List.length l) : Int) = (↑(List.length l) : Int) ∧
 IntKind.wrap IntKind.i64 ((↑x1 : Int) + (1 : Int)) = (↑y3 : Int) ∧ l = l ∧ syms (List.take x1 l) = syms (List.take y3 l))) ∧
 (decide ((↑x1 : Int) < (↑(List.length l) : Int)) = false →
 (1 : Nat) ≤ List.length (syms (List.take x1 l)) ∧
 List.length (syms (List.take x1 l)) ≤ (4294967296 : Nat) ∧
 (List.all (syms (List.take x1 l)) fun (r : List Int) => decide (List.length r = (2 : Nat))) = true ∧ l = l ∧ srt (syms (List.take x1 l)) = ordS l)
--end
theorem ranges6_e (l : List Int) : ranges6_t l = vcG Try.prog (Gof G6g) (one6 (oRanges l)) Try.f62 [.dat (.ints .i64 l)] [] (.leaf ((.fn (.func 95) [] [.p 2000 0 0, .p 2001 0 0])) ([(2000, .cells 22 [.dat (.ints .i64 l)]), (2001, .cells 116 [.o 2002]), (2002, .row 87 (.recs 2 (ordS l)))])) := by kernel_rfl
def codes6_t (l : List Int) : Prop :=
 List.length l ≤ (4294967296 : Nat) ∧
 ((chk l != (0 : Int)) = true →
 (chk l = (0 : Int) → chk l = (0 : Int) ∧ List.length (codL l) = (0 : Nat)) ∧ (¬chk l = (0 : Int) → Value.slice none (0 : Nat) (0 : Nat) = Value.slice none (0 : Nat) (0 : Nat) ∧ chk l = chk l)) ∧
 ((chk l != (0 : Int)) = false →
 chk l = (0 : Int) ∧
 (0 : Int) ≤ (↑(List.length l) : Int) ∧
 (↑(List.length l) : Int) ≤ (↑(List.length l) : Int) ∧
 (↑((16 : Nat)) : Int) * (↑(List.length l) : Int) ≤ (281474976710656 : Int) ∧
 (↑(List.length l) : Int) ≤ (9223372036854775807 : Int) ∧
 chk l = (0 : Int) ∧
 ∃ (y0 : Nat),
 ISat Try.prog ((95 : Nat)) [SV.p (700008 : Nat) (0 : Nat) (0 : Nat), SV.p (700009 : Nat) (0 : Nat) (0 : Nat)]
 [((700008 : Nat), SBlk.cells (22 : TypeId) [SV.dat (Dat.ints IntKind.i64 l)]), ((700009 : Nat), SBlk.cells (116 : TypeId) [SV.o (700010 : Nat)]),
 ((700010 : Nat), SBlk.row (87 : TypeId) (Dat.recs (2 : Nat) (ordS l)))]
 (itemF (gmx l) (0 : Int) (ordS l)) ∧
 (l = l ∧ ordS l = ordS l) ∧
 True ∧
 (gmx l = gmx l ∧ List.replicate (Int.toNat (↑(List.length l) : Int)) (List.replicate ((2 : Nat)) (0 : Int)) = codP l (0 : Nat)) ∧
 (∀ (i1 : Nat),
 i1 < List.length (itemF (gmx l) (0 : Int) (ordS l)) →
 True →
 (itemF (gmx l) (0 : Int) (ordS l))[i1]? =
 some
 [Value.agg #[Value.int IntKind.i64 (List.getD (symI l i1) (0 : Nat) (0 : Int)), Value.int IntKind.i64 (List.getD (symI l i1) (1 : Nat) (0 : Int))],
 Value.int IntKind.i64 (atF (gmx l) (ordS l) i1)] ∧
 List.length
 [Value.agg #[Value.int IntKind.i64 (List.getD (symI l i1) (0 : Nat) (0 : Int)), Value.int IntKind.i64 (List.getD (symI l i1) (1 : Nat) (0 : Int))],
 Value.int IntKind.i64 (atF (gmx l) (ordS l) i1)] =
 List.length #[(21 : Nat), (22 : Nat)].toList ∧
 (0 : Int) ≤ IntKind.wrap IntKind.i64 (gmx l - List.getD (symI l i1) (1 : Nat) (0 : Int)) ∧
 (0 : Int) ≤ List.getD (symI l i1) (0 : Nat) (0 : Int) ∧
 List.getD (symI l i1) (0 : Nat) (0 : Int) < (↑(List.length (codP l i1)) : Int) ∧
 Int.toNat (List.getD (symI l i1) (0 : Nat) (0 : Int)) < List.length (codP l i1) ∧
 True ∧
 gmx l = gmx l ∧
 List.set (codP l i1) (Int.toNat (List.getD (symI l i1) (0 : Nat) (0 : Int)))
 [List.getD (symI l i1) (1 : Nat) (0 : Int),
 Int.fdiv (atF (gmx l) (ordS l) i1)
 ((2 : Int) ^ min (Int.toNat (IntKind.wrap IntKind.i64 (gmx l - List.getD (symI l i1) (1 : Nat) (0 : Int)))) (IntKind.bits IntKind.i64))] =
 codP l (i1 + (1 : Nat))) ∧
 (True →
 (chk l = (0 : Int) → (0 : Int) = (0 : Int) ∧ codP l (List.length (itemF (gmx l) (0 : Int) (ordS l))) = codL l) ∧ (¬chk l = (0 : Int) → False ∧ (0 : Int) = chk l)))
--end
theorem codes6_e (l : List Int) : codes6_t l = vcG Try.prog (Gof G6h) (oCodes l) Try.f16 [.dat (.ints .i64 l)] [] (.ite ⟨chk l = 0, inferInstance⟩ (.leaf (.tu [.o 2000, .v (.int .i64 0)]) ([(2000, .row 38 (.recs 2 (codL l)))])) (.leaf (.tu [.v (.slice none 0 0), .v (.int .i64 (chk l))]) ([]))) := by kernel_rfl
def tbl6_t (l : List Int) : Prop :=
 chk l = (0 : Int) ∧
 (0 : Int) ≤ gmx l ∧
 (0 : Int) ≤ IntKind.wrap IntKind.i64 ((1 : Int) * (2 : Int) ^ min (Int.toNat (gmx l)) (IntKind.bits IntKind.i64)) ∧
 IntKind.wrap IntKind.i64 ((1 : Int) * (2 : Int) ^ min (Int.toNat (gmx l)) (IntKind.bits IntKind.i64)) ≤
 IntKind.wrap IntKind.i64 ((1 : Int) * (2 : Int) ^ min (Int.toNat (gmx l)) (IntKind.bits IntKind.i64)) ∧
 (↑((24 : Nat)) : Int) * IntKind.wrap IntKind.i64 ((1 : Int) * (2 : Int) ^ min (Int.toNat (gmx l)) (IntKind.bits IntKind.i64)) ≤ (281474976710656 : Int) ∧
 IntKind.wrap IntKind.i64 ((1 : Int) * (2 : Int) ^ min (Int.toNat (gmx l)) (IntKind.bits IntKind.i64)) ≤ (9223372036854775807 : Int) ∧
 chk l = (0 : Int) ∧
 ∃ (y0 : Nat),
 ISat Try.prog ((95 : Nat)) [SV.p (400008 : Nat) (0 : Nat) (0 : Nat), SV.p (400009 : Nat) (0 : Nat) (0 : Nat)]
 [((400008 : Nat), SBlk.cells (22 : TypeId) [SV.dat (Dat.ints IntKind.i64 l)]), ((400009 : Nat), SBlk.cells (116 : TypeId) [SV.o (400010 : Nat)]),
 ((400010 : Nat), SBlk.row (87 : TypeId) (Dat.recs (2 : Nat) (ordS l)))]
 (itemF (gmx l) (0 : Int) (ordS l)) ∧
 (l = l ∧ ordS l = ordS l) ∧
 True ∧
 (gmx l = gmx l ∧
 List.replicate (Int.toNat (IntKind.wrap IntKind.i64 ((1 : Int) * (2 : Int) ^ min (Int.toNat (gmx l)) (IntKind.bits IntKind.i64)))) (List.replicate ((3 : Nat)) (0 : Int)) =
 tblP l (0 : Nat)) ∧
 (∀ (i1 : Nat),
 i1 < List.length (itemF (gmx l) (0 : Int) (ordS l)) →
 True →
 (itemF (gmx l) (0 : Int) (ordS l))[i1]? =
 some
 [Value.agg #[Value.int IntKind.i64 (List.getD (symI l i1) (0 : Nat) (0 : Int)), Value.int IntKind.i64 (List.getD (symI l i1) (1 : Nat) (0 : Int))],
 Value.int IntKind.i64 (atF (gmx l) (ordS l) i1)] ∧
 List.length
 [Value.agg #[Value.int IntKind.i64 (List.getD (symI l i1) (0 : Nat) (0 : Int)), Value.int IntKind.i64 (List.getD (symI l i1) (1 : Nat) (0 : Int))],
 Value.int IntKind.i64 (atF (gmx l) (ordS l) i1)] =
 List.length #[(15 : Nat), (16 : Nat)].toList ∧
 (0 : Int) ≤ IntKind.wrap IntKind.i64 (gmx l - List.getD (symI l i1) (1 : Nat) (0 : Int)) ∧
 ∃ (g2 : Nat),
 (∃ (x3 : Nat),
 (g2 < List.length (ordS l) ∧ x3 ≤ wid (gmx l) (symI l g2)) ∧
 atF (gmx l) (ordS l) i1 = atF (gmx l) (ordS l) g2 ∧
 IntKind.wrap IntKind.i64
 ((1 : Int) *
 (2 : Int) ^ min (Int.toNat (IntKind.wrap IntKind.i64 (gmx l - List.getD (symI l i1) (1 : Nat) (0 : Int)))) (IntKind.bits IntKind.i64)) =
 (↑(wid (gmx l) (symI l g2)) : Int) ∧
 (0 : Int) = (↑x3 : Int) ∧
 gmx l = gmx l ∧
 tblP l i1 = tblQ l g2 x3 ∧
 List.getD (symI l i1) (0 : Nat) (0 : Int) = List.getD (symI l g2) (0 : Nat) (0 : Int) ∧
 List.getD (symI l i1) (1 : Nat) (0 : Int) = List.getD (symI l g2) (1 : Nat) (0 : Int)) ∧
 ∀ (x4 : Nat),
 g2 < List.length (ordS l) ∧ x4 ≤ wid (gmx l) (symI l g2) →
 (decide ((↑x4 : Int) < (↑(wid (gmx l) (symI l g2)) : Int)) = true →
 (decide (IntKind.wrap IntKind.i64 (atF (gmx l) (ordS l) g2 + (↑x4 : Int)) ≥ (↑(List.length (tblQ l g2 x4)) : Int)) = true → tblQ l g2 x4 = tblL l) ∧
 (decide (IntKind.wrap IntKind.i64 (atF (gmx l) (ordS l) g2 + (↑x4 : Int)) ≥ (↑(List.length (tblQ l g2 x4)) : Int)) = false →
 (0 : Int) ≤ IntKind.wrap IntKind.i64 (atF (gmx l) (ordS l) g2 + (↑x4 : Int)) ∧
 IntKind.wrap IntKind.i64 (atF (gmx l) (ordS l) g2 + (↑x4 : Int)) < (↑(List.length (tblQ l g2 x4)) : Int) ∧
 Int.toNat (IntKind.wrap IntKind.i64 (atF (gmx l) (ordS l) g2 + (↑x4 : Int))) < List.length (tblQ l g2 x4) ∧
 ∃ (y5 : Nat),
 (g2 < List.length (ordS l) ∧ y5 ≤ wid (gmx l) (symI l g2)) ∧
 Nat.sub (wid (gmx l) (symI l g2)) y5 < Nat.sub (wid (gmx l) (symI l g2)) x4 ∧
 atF (gmx l) (ordS l) g2 = atF (gmx l) (ordS l) g2 ∧
 (↑(wid (gmx l) (symI l g2)) : Int) = (↑(wid (gmx l) (symI l g2)) : Int) ∧
 IntKind.wrap IntKind.i64 ((↑x4 : Int) + (1 : Int)) = (↑y5 : Int) ∧
 gmx l = gmx l ∧
 List.set (tblQ l g2 x4) (Int.toNat (IntKind.wrap IntKind.i64 (atF (gmx l) (ordS l) g2 + (↑x4 : Int))))
 [List.getD (symI l g2) (0 : Nat) (0 : Int), List.getD (symI l g2) (1 : Nat) (0 : Int), (0 : Int)] =
 tblQ l g2 y5 ∧
 List.getD (symI l g2) (0 : Nat) (0 : Int) = List.getD (symI l g2) (0 : Nat) (0 : Int) ∧
 List.getD (symI l g2) (1 : Nat) (0 : Int) = List.getD (symI l g2) (1 : Nat) (0 : Int))) ∧
 (decide ((↑x4 : Int) < (↑(wid (gmx l) (symI l g2)) : Int)) = false → True ∧ gmx l = gmx l ∧ tblQ l g2 x4 = tblP l (i1 + (1 : Nat)))) ∧
 (True → tblP l (List.length (itemF (gmx l) (0 : Int) (ordS l))) = tblL l)
--end
theorem tbl6_e (l : List Int) : tbl6_t l = vcG Try.prog (Gof G6h) (oTbl l) Try.f63 [.dat (.ints .i64 l)] [] (.leaf ((.o 2000)) ([(2000, .row 36 (.recs 3 (tblL l)))])) := by kernel_rfl
def rtable6_t (l : List Int) : Prop :=
 List.length l ≤ (4294967296 : Nat) ∧
 ((chk l != (0 : Int)) = true →
 (chk l = (0 : Int) → chk l = (0 : Int) ∧ List.length (tblL l) = (0 : Nat)) ∧ (¬chk l = (0 : Int) → Value.slice none (0 : Nat) (0 : Nat) = Value.slice none (0 : Nat) (0 : Nat) ∧ chk l = chk l)) ∧
 ((chk l != (0 : Int)) = false →
 List.length l ≤ (4294967296 : Nat) ∧
 (∃ (x0 : Nat), ((↑x0 : Int) ≤ gmx l ∧ chk l = (0 : Int)) ∧ l = l ∧ gmx l = gmx l ∧ gmx l = gmx l - (↑x0 : Int) ∧ List.length (refT l x0) = (0 : Nat)) ∧
 ∀ (x1 : Nat),
 (↑x1 : Int) ≤ gmx l ∧ chk l = (0 : Int) →
 (decide (gmx l - (↑x1 : Int) > (0 : Int)) = true →
 ∃ (g2 : Nat),
 (∃ (x3 : Nat),
 ((↑g2 : Int) < gmx l ∧ x3 ≤ List.length l ∧ chk l = (0 : Int)) ∧
 l = l ∧ gmx l = gmx l ∧ gmx l - (↑x1 : Int) = gmx l - (↑g2 : Int) ∧ (0 : Int) = (↑x3 : Int) ∧ refT l x1 = refS l g2 x3) ∧
 ∀ (x4 : Nat),
 (↑g2 : Int) < gmx l ∧ x4 ≤ List.length l ∧ chk l = (0 : Int) →
 (decide ((↑x4 : Int) < (↑(List.length l) : Int)) = true →
 (0 : Int) ≤ (↑x4 : Int) ∧
 (↑x4 : Int) < (↑(List.length l) : Int) ∧
 ((List.getD l (Int.toNat (↑x4 : Int)) (0 : Int) != gmx l - (↑g2 : Int)) = true →
 ∃ (y5 : Nat),
 ((↑g2 : Int) < gmx l ∧ y5 ≤ List.length l ∧ chk l = (0 : Int)) ∧
 Nat.sub (List.length l) y5 < Nat.sub (List.length l) x4 ∧
 l = l ∧
 gmx l = gmx l ∧
 gmx l - (↑g2 : Int) = gmx l - (↑g2 : Int) ∧ IntKind.wrap IntKind.i64 ((↑x4 : Int) + (1 : Int)) = (↑y5 : Int) ∧ refS l g2 x4 = refS l g2 y5) ∧
 ((List.getD l (Int.toNat (↑x4 : Int)) (0 : Int) != gmx l - (↑g2 : Int)) = false →
 ∃ (g6 : Nat × Nat),
 (∃ (x7 : Nat),
 ((↑g6.fst : Int) < gmx l ∧ g6.snd < List.length l ∧ List.getD l g6.snd (0 : Int) = gmx l - (↑g6.fst : Int) ∧ x7 ≤ (2 : Nat) ^ g6.fst ∧ chk l = (0 : Int)) ∧
 l = l ∧
 gmx l = gmx l ∧
 gmx l - (↑g2 : Int) = gmx l - (↑g6.fst : Int) ∧ (↑x4 : Int) = (↑g6.snd : Int) ∧ (0 : Int) = (↑x7 : Int) ∧ refS l g2 x4 = refK l g6.fst g6.snd x7) ∧
 ∀ (x8 : Nat),
 (↑g6.fst : Int) < gmx l ∧ g6.snd < List.length l ∧ List.getD l g6.snd (0 : Int) = gmx l - (↑g6.fst : Int) ∧ x8 ≤ (2 : Nat) ^ g6.fst ∧ chk l = (0 : Int) →
 (0 : Int) ≤ IntKind.wrap IntKind.u64 (IntKind.wrap IntKind.i64 (gmx l - (gmx l - (↑g6.fst : Int)))) ∧
 (decide
 ((↑x8 : Int) <
 IntKind.wrap IntKind.i64
 ((1 : Int) *
 (2 : Int) ^
 min (Int.toNat (IntKind.wrap IntKind.u64 (IntKind.wrap IntKind.i64 (gmx l - (gmx l - (↑g6.fst : Int)))))) (IntKind.bits IntKind.i64))) =
 true →
 (List.length (refK l g6.fst g6.snd x8) +
 Nat.succ
 (Nat.add
 (List.length
 (List.map (fun (i : Nat) => List.take ((3 : Nat)) (List.drop (i * (3 : Nat)) [(↑g6.snd : Int), gmx l - (↑g6.fst : Int), (0 : Int)]))
 []))
 ((0 : Nat)))) *
 (24 : Nat) ≤
 (140737488355328 : Nat) ∧
 ∃ (y9 : Nat),
 ((↑g6.fst : Int) < gmx l ∧
 g6.snd < List.length l ∧ List.getD l g6.snd (0 : Int) = gmx l - (↑g6.fst : Int) ∧ y9 ≤ (2 : Nat) ^ g6.fst ∧ chk l = (0 : Int)) ∧
 Nat.sub ((2 : Nat) ^ g6.fst) y9 < Nat.sub ((2 : Nat) ^ g6.fst) x8 ∧
 l = l ∧
 gmx l = gmx l ∧
 gmx l - (↑g6.fst : Int) = gmx l - (↑g6.fst : Int) ∧
 (↑g6.snd : Int) = (↑g6.snd : Int) ∧
 IntKind.wrap IntKind.i64 ((↑x8 : Int) + (1 : Int)) = (↑y9 : Int) ∧
 refK l g6.fst g6.snd x8 ++
 List.map
 (fun (i : Nat) => List.take ((3 : Nat)) (List.drop (i * (3 : Nat)) [(↑g6.snd : Int), gmx l - (↑g6.fst : Int), (0 : Int)]))
 (List.range (1 : Nat)) =
 refK l g6.fst g6.snd y9) ∧
 (decide
 ((↑x8 : Int) <
 IntKind.wrap IntKind.i64
 ((1 : Int) *
 (2 : Int) ^
 min (Int.toNat (IntKind.wrap IntKind.u64 (IntKind.wrap IntKind.i64 (gmx l - (gmx l - (↑g6.fst : Int)))))) (IntKind.bits IntKind.i64))) =
 false →
 ∃ (y10 : Nat),
 ((↑g2 : Int) < gmx l ∧ y10 ≤ List.length l ∧ chk l = (0 : Int)) ∧
 Nat.sub (List.length l) y10 < Nat.sub (List.length l) x4 ∧
 l = l ∧
 gmx l = gmx l ∧
 gmx l - (↑g6.fst : Int) = gmx l - (↑g2 : Int) ∧
 IntKind.wrap IntKind.i64 ((↑g6.snd : Int) + (1 : Int)) = (↑y10 : Int) ∧ refK l g6.fst g6.snd x8 = refS l g2 y10))) ∧
 (decide ((↑x4 : Int) < (↑(List.length l) : Int)) = false →
 ∃ (y11 : Nat),
 ((↑y11 : Int) ≤ gmx l ∧ chk l = (0 : Int)) ∧
 Nat.sub (Int.toNat (gmx l)) y11 < Nat.sub (Int.toNat (gmx l)) x1 ∧
 l = l ∧ gmx l = gmx l ∧ IntKind.wrap IntKind.i64 (gmx l - (↑g2 : Int) - (1 : Int)) = gmx l - (↑y11 : Int) ∧ refS l g2 x4 = refT l y11)) ∧
 (decide (gmx l - (↑x1 : Int) > (0 : Int)) = false → (chk l = (0 : Int) → (0 : Int) = (0 : Int) ∧ refT l x1 = tblL l) ∧ (¬chk l = (0 : Int) → False ∧ (0 : Int) = chk l)))
--end
theorem rtable6_e (l : List Int) : rtable6_t l = vcG Try.prog (Gof G6g) (oRt l) Try.f27 [.dat (.ints .i64 l)] [] (.ite ⟨chk l = 0, inferInstance⟩ (.leaf (.tu [.o 2000, .v (.int .i64 0)]) ([(2000, .row 36 (.recs 3 (tblL l)))])) (.leaf (.tu [.v (.slice none 0 0), .v (.int .i64 (chk l))]) ([]))) := by kernel_rfl
def rcodes6_t (l : List Int) : Prop :=
 (chk l = (0 : Int) →
 List.length l ≤ (4294967296 : Nat) ∧
 (((0 : Int) != (0 : Int)) = true →
 (chk l = (0 : Int) → (0 : Int) = (0 : Int) ∧ List.length (codL l) = (0 : Nat)) ∧
 (¬chk l = (0 : Int) → Value.slice none (0 : Nat) (0 : Nat) = Value.slice none (0 : Nat) (0 : Nat) ∧ (0 : Int) = chk l)) ∧
 (((0 : Int) != (0 : Int)) = false →
 List.length l ≤ (4294967296 : Nat) ∧
 (0 : Int) ≤ (↑(List.length l) : Int) ∧
 (↑(List.length l) : Int) ≤ (↑(List.length l) : Int) ∧
 (↑((16 : Nat)) : Int) * (↑(List.length l) : Int) ≤ (281474976710656 : Int) ∧
 (↑(List.length l) : Int) ≤ (9223372036854775807 : Int) ∧
 (∃ (x0 : Nat),
 (x0 ≤ List.length (tblL l) ∧ chk l = (0 : Int)) ∧
 gmx l = gmx l ∧
 IntKind.wrap IntKind.i64 ((↑(List.length (tblL l)) : Int) - (1 : Int)) = (↑(List.length (tblL l)) : Int) - (1 : Int) - (↑x0 : Int) ∧
 tblL l = tblL l ∧ List.replicate (Int.toNat (↑(List.length l) : Int)) (List.replicate ((2 : Nat)) (0 : Int)) = refCL l x0) ∧
 ∀ (x1 : Nat),
 x1 ≤ List.length (tblL l) ∧ chk l = (0 : Int) →
 (decide ((↑(List.length (tblL l)) : Int) - (1 : Int) - (↑x1 : Int) ≥ (0 : Int)) = true →
 (0 : Int) ≤ (↑(List.length (tblL l)) : Int) - (1 : Int) - (↑x1 : Int) ∧
 (↑(List.length (tblL l)) : Int) - (1 : Int) - (↑x1 : Int) < (↑(List.length (tblL l)) : Int) ∧
 Int.toNat ((↑(List.length (tblL l)) : Int) - (1 : Int) - (↑x1 : Int)) < List.length (tblL l) ∧
 (0 : Int) ≤ (↑(List.length (tblL l)) : Int) - (1 : Int) - (↑x1 : Int) ∧
 (↑(List.length (tblL l)) : Int) - (1 : Int) - (↑x1 : Int) < (↑(List.length (tblL l)) : Int) ∧
 Int.toNat ((↑(List.length (tblL l)) : Int) - (1 : Int) - (↑x1 : Int)) < List.length (tblL l) ∧
 (0 : Int) ≤ (↑(List.length (tblL l)) : Int) - (1 : Int) - (↑x1 : Int) ∧
 (↑(List.length (tblL l)) : Int) - (1 : Int) - (↑x1 : Int) < (↑(List.length (tblL l)) : Int) ∧
 Int.toNat ((↑(List.length (tblL l)) : Int) - (1 : Int) - (↑x1 : Int)) < List.length (tblL l) ∧
 (0 : Int) ≤
 IntKind.wrap IntKind.u64
 (IntKind.wrap IntKind.i64
 (gmx l - List.getD (List.getD (tblL l) (Int.toNat ((↑(List.length (tblL l)) : Int) - (1 : Int) - (↑x1 : Int))) []) (1 : Nat) (0 : Int))) ∧
 (0 : Int) ≤ List.getD (List.getD (tblL l) (Int.toNat ((↑(List.length (tblL l)) : Int) - (1 : Int) - (↑x1 : Int))) []) (0 : Nat) (0 : Int) ∧
 List.getD (List.getD (tblL l) (Int.toNat ((↑(List.length (tblL l)) : Int) - (1 : Int) - (↑x1 : Int))) []) (0 : Nat) (0 : Int) <
 (↑(List.length (refCL l x1)) : Int) ∧
 Int.toNat (List.getD (List.getD (tblL l) (Int.toNat ((↑(List.length (tblL l)) : Int) - (1 : Int) - (↑x1 : Int))) []) (0 : Nat) (0 : Int)) <
 List.length (refCL l x1) ∧
 ∃ (y2 : Nat),
 (y2 ≤ List.length (tblL l) ∧ chk l = (0 : Int)) ∧
 Nat.sub (List.length (tblL l)) y2 < Nat.sub (List.length (tblL l)) x1 ∧
 gmx l = gmx l ∧
 IntKind.wrap IntKind.i64 ((↑(List.length (tblL l)) : Int) - (1 : Int) - (↑x1 : Int) - (1 : Int)) =
 (↑(List.length (tblL l)) : Int) - (1 : Int) - (↑y2 : Int) ∧
 tblL l = tblL l ∧
 List.set (refCL l x1)
 (Int.toNat
 (List.getD (List.getD (tblL l) (Int.toNat ((↑(List.length (tblL l)) : Int) - (1 : Int) - (↑x1 : Int))) []) (0 : Nat)
 (0 : Int)))
 [List.getD (List.getD (tblL l) (Int.toNat ((↑(List.length (tblL l)) : Int) - (1 : Int) - (↑x1 : Int))) []) (1 : Nat) (0 : Int),
 Int.fdiv ((↑(List.length (tblL l)) : Int) - (1 : Int) - (↑x1 : Int))
 ((2 : Int) ^
 min
 (Int.toNat
 (IntKind.wrap IntKind.u64
 (IntKind.wrap IntKind.i64
 (gmx l -
 List.getD (List.getD (tblL l) (Int.toNat ((↑(List.length (tblL l)) : Int) - (1 : Int) - (↑x1 : Int))) [])
 (1 : Nat) (0 : Int)))))
 (IntKind.bits IntKind.i64))] =
 refCL l y2) ∧
 (decide ((↑(List.length (tblL l)) : Int) - (1 : Int) - (↑x1 : Int) ≥ (0 : Int)) = false →
 (chk l = (0 : Int) → (0 : Int) = (0 : Int) ∧ refCL l x1 = codL l) ∧ (¬chk l = (0 : Int) → False ∧ (0 : Int) = chk l)))) ∧
 (¬chk l = (0 : Int) →
 List.length l ≤ (4294967296 : Nat) ∧
 ((chk l != (0 : Int)) = true →
 (chk l = (0 : Int) → chk l = (0 : Int) ∧ List.length (codL l) = (0 : Nat)) ∧
 (¬chk l = (0 : Int) → Value.slice none (0 : Nat) (0 : Nat) = Value.slice none (0 : Nat) (0 : Nat) ∧ chk l = chk l)) ∧
 ((chk l != (0 : Int)) = false →
 List.length l ≤ (4294967296 : Nat) ∧
 (0 : Int) ≤ (↑(List.length l) : Int) ∧
 (↑(List.length l) : Int) ≤ (↑(List.length l) : Int) ∧
 (↑((16 : Nat)) : Int) * (↑(List.length l) : Int) ≤ (281474976710656 : Int) ∧
 (↑(List.length l) : Int) ≤ (9223372036854775807 : Int) ∧
 (∃ (x3 : Nat),
 (x3 ≤ List.length (tblL l) ∧ chk l = (0 : Int)) ∧
 gmx l = gmx l ∧
 IntKind.wrap IntKind.i64 ((0 : Int) - (1 : Int)) = (↑(List.length (tblL l)) : Int) - (1 : Int) - (↑x3 : Int) ∧
 List.length (tblL l) = (0 : Nat) ∧ List.replicate (Int.toNat (↑(List.length l) : Int)) (List.replicate ((2 : Nat)) (0 : Int)) = refCL l x3) ∧
 ∀ (x4 : Nat),
 x4 ≤ List.length (tblL l) ∧ chk l = (0 : Int) →
 (decide ((↑(List.length (tblL l)) : Int) - (1 : Int) - (↑x4 : Int) ≥ (0 : Int)) = true →
 (0 : Int) ≤ (↑(List.length (tblL l)) : Int) - (1 : Int) - (↑x4 : Int) ∧
 (↑(List.length (tblL l)) : Int) - (1 : Int) - (↑x4 : Int) < (↑(List.length (tblL l)) : Int) ∧
 Int.toNat ((↑(List.length (tblL l)) : Int) - (1 : Int) - (↑x4 : Int)) < List.length (tblL l) ∧
 (0 : Int) ≤ (↑(List.length (tblL l)) : Int) - (1 : Int) - (↑x4 : Int) ∧
 (↑(List.length (tblL l)) : Int) - (1 : Int) - (↑x4 : Int) < (↑(List.length (tblL l)) : Int) ∧
 Int.toNat ((↑(List.length (tblL l)) : Int) - (1 : Int) - (↑x4 : Int)) < List.length (tblL l) ∧
 (0 : Int) ≤ (↑(List.length (tblL l)) : Int) - (1 : Int) - (↑x4 : Int) ∧
 (↑(List.length (tblL l)) : Int) - (1 : Int) - (↑x4 : Int) < (↑(List.length (tblL l)) : Int) ∧
 Int.toNat ((↑(List.length (tblL l)) : Int) - (1 : Int) - (↑x4 : Int)) < List.length (tblL l) ∧
 (0 : Int) ≤
 IntKind.wrap IntKind.u64
 (IntKind.wrap IntKind.i64
 (gmx l - List.getD (List.getD (tblL l) (Int.toNat ((↑(List.length (tblL l)) : Int) - (1 : Int) - (↑x4 : Int))) []) (1 : Nat) (0 : Int))) ∧
 (0 : Int) ≤ List.getD (List.getD (tblL l) (Int.toNat ((↑(List.length (tblL l)) : Int) - (1 : Int) - (↑x4 : Int))) []) (0 : Nat) (0 : Int) ∧
 List.getD (List.getD (tblL l) (Int.toNat ((↑(List.length (tblL l)) : Int) - (1 : Int) - (↑x4 : Int))) []) (0 : Nat) (0 : Int) <
 (↑(List.length (refCL l x4)) : Int) ∧
 Int.toNat (List.getD (List.getD (tblL l) (Int.toNat ((↑(List.length (tblL l)) : Int) - (1 : Int) - (↑x4 : Int))) []) (0 : Nat) (0 : Int)) <
 List.length (refCL l x4) ∧
 ∃ (y5 : Nat),
 (y5 ≤ List.length (tblL l) ∧ chk l = (0 : Int)) ∧
 Nat.sub (List.length (tblL l)) y5 < Nat.sub (List.length (tblL l)) x4 ∧
 gmx l = gmx l ∧
 IntKind.wrap IntKind.i64 ((↑(List.length (tblL l)) : Int) - (1 : Int) - (↑x4 : Int) - (1 : Int)) =
 (↑(List.length (tblL l)) : Int) - (1 : Int) - (↑y5 : Int) ∧
 tblL l = tblL l ∧
 List.set (refCL l x4)
 (Int.toNat
 (List.getD (List.getD (tblL l) (Int.toNat ((↑(List.length (tblL l)) : Int) - (1 : Int) - (↑x4 : Int))) []) (0 : Nat)
 (0 : Int)))
 [List.getD (List.getD (tblL l) (Int.toNat ((↑(List.length (tblL l)) : Int) - (1 : Int) - (↑x4 : Int))) []) (1 : Nat) (0 : Int),
 Int.fdiv ((↑(List.length (tblL l)) : Int) - (1 : Int) - (↑x4 : Int))
 ((2 : Int) ^
 min
 (Int.toNat
 (IntKind.wrap IntKind.u64
 (IntKind.wrap IntKind.i64
 (gmx l -
 List.getD (List.getD (tblL l) (Int.toNat ((↑(List.length (tblL l)) : Int) - (1 : Int) - (↑x4 : Int))) [])
 (1 : Nat) (0 : Int)))))
 (IntKind.bits IntKind.i64))] =
 refCL l y5) ∧
 (decide ((↑(List.length (tblL l)) : Int) - (1 : Int) - (↑x4 : Int) ≥ (0 : Int)) = false →
 (chk l = (0 : Int) → (0 : Int) = (0 : Int) ∧ refCL l x4 = codL l) ∧ (¬chk l = (0 : Int) → False ∧ (0 : Int) = chk l))))
--end
theorem rcodes6_e (l : List Int) : rcodes6_t l = vcG Try.prog (Gof G6h) (one6 (oRc l)) Try.f25 [.dat (.ints .i64 l)] [] (.ite ⟨chk l = 0, inferInstance⟩ (.leaf (.tu [.o 2000, .v (.int .i64 0)]) ([(2000, .row 38 (.recs 2 (codL l)))])) (.leaf (.tu [.v (.slice none 0 0), .v (.int .i64 (chk l))]) ([]))) := by kernel_rfl
def rdec6_t (l : List Int) (v : Int) : Prop :=
 (chk l = (0 : Int) →
 List.length l ≤ (4294967296 : Nat) ∧
 (((0 : Int) == (0 : Int)) = true →
 (decide (v < (0 : Int)) = true →
 (((2 : Int) != (0 : Int)) = true → (0 : Int) = decC l v (0 : Nat) ∧ (0 : Int) = decC l v (1 : Nat) ∧ (2 : Int) = decE l v) ∧
 (((2 : Int) != (0 : Int)) = false →
 (0 : Int) ≤ v ∧
 v < (↑(List.length (tblL l)) : Int) ∧
 Int.toNat v < List.length (tblL l) ∧
 (0 : Int) ≤ v ∧
 v < (↑(List.length (tblL l)) : Int) ∧
 Int.toNat v < List.length (tblL l) ∧
 List.getD (List.getD (tblL l) (Int.toNat v) []) (0 : Nat) (0 : Int) = decC l v (0 : Nat) ∧
 List.getD (List.getD (tblL l) (Int.toNat v) []) (1 : Nat) (0 : Int) = decC l v (1 : Nat) ∧ (0 : Int) = decE l v)) ∧
 (decide (v < (0 : Int)) = false →
 (decide (v ≥ (↑(List.length (tblL l)) : Int)) = true →
 (((2 : Int) != (0 : Int)) = true → (0 : Int) = decC l v (0 : Nat) ∧ (0 : Int) = decC l v (1 : Nat) ∧ (2 : Int) = decE l v) ∧
 (((2 : Int) != (0 : Int)) = false →
 (0 : Int) ≤ v ∧
 v < (↑(List.length (tblL l)) : Int) ∧
 Int.toNat v < List.length (tblL l) ∧
 (0 : Int) ≤ v ∧
 v < (↑(List.length (tblL l)) : Int) ∧
 Int.toNat v < List.length (tblL l) ∧
 List.getD (List.getD (tblL l) (Int.toNat v) []) (0 : Nat) (0 : Int) = decC l v (0 : Nat) ∧
 List.getD (List.getD (tblL l) (Int.toNat v) []) (1 : Nat) (0 : Int) = decC l v (1 : Nat) ∧ (0 : Int) = decE l v)) ∧
 (decide (v ≥ (↑(List.length (tblL l)) : Int)) = false →
 (((0 : Int) != (0 : Int)) = true → (0 : Int) = decC l v (0 : Nat) ∧ (0 : Int) = decC l v (1 : Nat) ∧ (0 : Int) = decE l v) ∧
 (((0 : Int) != (0 : Int)) = false →
 (0 : Int) ≤ v ∧
 v < (↑(List.length (tblL l)) : Int) ∧
 Int.toNat v < List.length (tblL l) ∧
 (0 : Int) ≤ v ∧
 v < (↑(List.length (tblL l)) : Int) ∧
 Int.toNat v < List.length (tblL l) ∧
 List.getD (List.getD (tblL l) (Int.toNat v) []) (0 : Nat) (0 : Int) = decC l v (0 : Nat) ∧
 List.getD (List.getD (tblL l) (Int.toNat v) []) (1 : Nat) (0 : Int) = decC l v (1 : Nat) ∧ (0 : Int) = decE l v)))) ∧
 (((0 : Int) == (0 : Int)) = false →
 (((0 : Int) != (0 : Int)) = true → (0 : Int) = decC l v (0 : Nat) ∧ (0 : Int) = decC l v (1 : Nat) ∧ (0 : Int) = decE l v) ∧
 (((0 : Int) != (0 : Int)) = false →
 (0 : Int) ≤ v ∧
 v < (↑(List.length (tblL l)) : Int) ∧
 Int.toNat v < List.length (tblL l) ∧
 (0 : Int) ≤ v ∧
 v < (↑(List.length (tblL l)) : Int) ∧
 Int.toNat v < List.length (tblL l) ∧
 List.getD (List.getD (tblL l) (Int.toNat v) []) (0 : Nat) (0 : Int) = decC l v (0 : Nat) ∧
 List.getD (List.getD (tblL l) (Int.toNat v) []) (1 : Nat) (0 : Int) = decC l v (1 : Nat) ∧ (0 : Int) = decE l v))) ∧
 (¬chk l = (0 : Int) →
 List.length l ≤ (4294967296 : Nat) ∧
 ((chk l == (0 : Int)) = true →
 (decide (v < (0 : Int)) = true →
 (((2 : Int) != (0 : Int)) = true → (0 : Int) = decC l v (0 : Nat) ∧ (0 : Int) = decC l v (1 : Nat) ∧ (2 : Int) = decE l v) ∧
 (((2 : Int) != (0 : Int)) = false → False ∧ False ∧ False ∧ False ∧ False ∧ False ∧ False ∧ False ∧ (0 : Int) = decE l v)) ∧
 (decide (v < (0 : Int)) = false →
 (decide (v ≥ (0 : Int)) = true →
 (((2 : Int) != (0 : Int)) = true → (0 : Int) = decC l v (0 : Nat) ∧ (0 : Int) = decC l v (1 : Nat) ∧ (2 : Int) = decE l v) ∧
 (((2 : Int) != (0 : Int)) = false → False ∧ False ∧ False ∧ False ∧ False ∧ False ∧ False ∧ False ∧ (0 : Int) = decE l v)) ∧
 (decide (v ≥ (0 : Int)) = false →
 ((chk l != (0 : Int)) = true → (0 : Int) = decC l v (0 : Nat) ∧ (0 : Int) = decC l v (1 : Nat) ∧ chk l = decE l v) ∧
 ((chk l != (0 : Int)) = false → False ∧ False ∧ False ∧ False ∧ False ∧ False ∧ False ∧ False ∧ (0 : Int) = decE l v)))) ∧
 ((chk l == (0 : Int)) = false →
 ((chk l != (0 : Int)) = true → (0 : Int) = decC l v (0 : Nat) ∧ (0 : Int) = decC l v (1 : Nat) ∧ chk l = decE l v) ∧
 ((chk l != (0 : Int)) = false → False ∧ False ∧ False ∧ False ∧ False ∧ False ∧ False ∧ False ∧ (0 : Int) = decE l v)))
--end
theorem rdec6_e (l : List Int) (v : Int) : rdec6_t l v = vcG Try.prog (Gof G6h) (fun _ => none) Try.f30 [.dat (.ints .i64 l), .v (.int .i64 v)] [] (.leaf ((.tu [.v (.int .i64 (decC l v 0)), .v (.int .i64 (decC l v 1)), .v (.int .i64 (decE l v))])) ([])) := by kernel_rfl
def table6_t (l : List Int) : Prop :=
 List.length l ≤ (4294967296 : Nat) ∧
 ((chk l != (0 : Int)) = true →
 (chk l = (0 : Int) → chk l = (0 : Int) ∧ List.length (tblL l) = (0 : Nat)) ∧ (¬chk l = (0 : Int) → Value.slice none (0 : Nat) (0 : Nat) = Value.slice none (0 : Nat) (0 : Nat) ∧ chk l = chk l)) ∧
 ((chk l != (0 : Int)) = false → chk l = (0 : Int) ∧ (chk l = (0 : Int) → (0 : Int) = (0 : Int) ∧ tblL l = tblL l) ∧ (¬chk l = (0 : Int) → False ∧ (0 : Int) = chk l))
--end
theorem table6_e (l : List Int) : table6_t l = vcG Try.prog (Gof G6i) (fun _ => none) Try.f18 [.dat (.ints .i64 l)] [] (.ite ⟨chk l = 0, inferInstance⟩ (.leaf (.tu [.o 2000, .v (.int .i64 0)]) ([(2000, .row 36 (.recs 3 (tblL l)))])) (.leaf (.tu [.v (.slice none 0 0), .v (.int .i64 (chk l))]) ([]))) := by kernel_rfl
def dec6_t (l : List Int) (v : Int) : Prop :=
 (chk l = (0 : Int) →
 List.length l ≤ (4294967296 : Nat) ∧
 (((0 : Int) != (0 : Int)) = true → (0 : Int) = decC l v (0 : Nat) ∧ (0 : Int) = decC l v (1 : Nat) ∧ (0 : Int) = decE l v) ∧
 (((0 : Int) != (0 : Int)) = false →
 (decide (v < (0 : Int)) = true → (0 : Int) = decC l v (0 : Nat) ∧ (0 : Int) = decC l v (1 : Nat) ∧ (2 : Int) = decE l v) ∧
 (decide (v < (0 : Int)) = false →
 (decide (v ≥ (↑(List.length (tblL l)) : Int)) = true → (0 : Int) = decC l v (0 : Nat) ∧ (0 : Int) = decC l v (1 : Nat) ∧ (2 : Int) = decE l v) ∧
 (decide (v ≥ (↑(List.length (tblL l)) : Int)) = false →
 (0 : Int) ≤ v ∧
 v < (↑(List.length (tblL l)) : Int) ∧
 Int.toNat v < List.length (tblL l) ∧
 (0 : Int) ≤ v ∧
 v < (↑(List.length (tblL l)) : Int) ∧
 Int.toNat v < List.length (tblL l) ∧
 List.getD (List.getD (tblL l) (Int.toNat v) []) (0 : Nat) (0 : Int) = decC l v (0 : Nat) ∧
 List.getD (List.getD (tblL l) (Int.toNat v) []) (1 : Nat) (0 : Int) = decC l v (1 : Nat) ∧ (0 : Int) = decE l v)))) ∧
 (¬chk l = (0 : Int) →
 List.length l ≤ (4294967296 : Nat) ∧
 ((chk l != (0 : Int)) = true → (0 : Int) = decC l v (0 : Nat) ∧ (0 : Int) = decC l v (1 : Nat) ∧ chk l = decE l v) ∧
 ((chk l != (0 : Int)) = false →
 (decide (v < (0 : Int)) = true → (0 : Int) = decC l v (0 : Nat) ∧ (0 : Int) = decC l v (1 : Nat) ∧ (2 : Int) = decE l v) ∧
 (decide (v < (0 : Int)) = false →
 (decide (v ≥ (0 : Int)) = true → (0 : Int) = decC l v (0 : Nat) ∧ (0 : Int) = decC l v (1 : Nat) ∧ (2 : Int) = decE l v) ∧
 (decide (v ≥ (0 : Int)) = false → False ∧ False ∧ False ∧ False ∧ False ∧ False ∧ False ∧ False ∧ (0 : Int) = decE l v))))
--end
theorem dec6_e (l : List Int) (v : Int) : dec6_t l v = vcG Try.prog (Gof G6j) (fun _ => none) Try.f29 [.dat (.ints .i64 l), .v (.int .i64 v)] [] (.leaf ((.tu [.v (.int .i64 (decC l v 0)), .v (.int .i64 (decC l v 1)), .v (.int .i64 (decE l v))])) ([])) := by kernel_rfl
def items6_t (l : List Int) (l0 : Nat) : Prop :=
 chk l = (0 : Int) ∧
 ∃ (x0 : Nat),
 Nat.le x0 (List.length (ordS l)) ∧
 some (0 : Nat) = some x0 ∧
 (Value.func (Fn.yield l0) #[] #[] = Value.func (Fn.yield l0) #[] #[] ∧
 gmx l = gmx l ∧ (0 : Int) = atF (gmx l) (ordS l) x0 ∧ (↑(List.length (ordS l)) : Int) = (↑(List.length (ordS l)) : Int) ∧ (0 : Int) = (↑x0 : Int) ∧ l = l ∧ ordS l = ordS l) ∧
 ∀ (x1 : Nat),
 Nat.le x1 (List.length (ordS l)) →
 (decide ((↑x1 : Int) < (↑(List.length (ordS l)) : Int)) = true →
 (0 : Int) ≤ (↑x1 : Int) ∧
 (↑x1 : Int) < (↑(List.length (ordS l)) : Int) ∧
 Int.toNat (↑x1 : Int) < List.length (ordS l) ∧
 l0 = l0 ∧
 (items l)[x1]? =
 some
 [Value.agg
 #[Value.int IntKind.i64 (List.getD (List.getD (ordS l) (Int.toNat (↑x1 : Int)) []) ((0 : Nat)) (0 : Int)),
 Value.int IntKind.i64 (List.getD (List.getD (ordS l) (Int.toNat (↑x1 : Int)) []) ((1 : Nat)) (0 : Int))],
 Value.int IntKind.i64 (atF (gmx l) (ordS l) x1)] ∧
 ((0 : Int) ≤ IntKind.wrap IntKind.i64 (gmx l - List.getD (List.getD (ordS l) (Int.toNat (↑x1 : Int)) []) ((1 : Nat)) (0 : Int)) ∧
 ∃ (y2 : Nat),
 Nat.le y2 (List.length (ordS l)) ∧
 some (x1 + (1 : Nat)) = some y2 ∧
 Nat.sub (List.length (ordS l)) y2 < Nat.sub (List.length (ordS l)) x1 ∧
 Value.func (Fn.yield l0) #[] #[] = Value.func (Fn.yield l0) #[] #[] ∧
 gmx l = gmx l ∧
 IntKind.wrap IntKind.i64
 (atF (gmx l) (ordS l) x1 +
 IntKind.wrap IntKind.i64
 ((1 : Int) *
 (2 : Int) ^
 min (Int.toNat (IntKind.wrap IntKind.i64 (gmx l - List.getD (List.getD (ordS l) (Int.toNat (↑x1 : Int)) []) ((1 : Nat)) (0 : Int))))
 (IntKind.bits IntKind.i64))) =
 atF (gmx l) (ordS l) y2 ∧
 (↑(List.length (ordS l)) : Int) = (↑(List.length (ordS l)) : Int) ∧
 IntKind.wrap IntKind.i64 ((↑x1 : Int) + (1 : Int)) = (↑y2 : Int) ∧ l = l ∧ ordS l = ordS l) ∧
 True) ∧
 (decide ((↑x1 : Int) < (↑(List.length (ordS l)) : Int)) = false → x1 = List.length (items l))
--end
theorem items6_e (l : List Int) (l0 : Nat) : items6_t l l0 = vcFI Try.prog (Gof G6g) l0 (items l) (oneI (oItems l0 l)) Try.f95 [.p 0 0 0, .p 1 0 0] [(0, .cells 22 [.dat (.ints .i64 l)]), (1, .cells 116 [.o 2]), (2, .row 87 (.recs 2 (ordS l)))] := by kernel_rfl
end Go.Proofs.Ytfbdocfhgjfboaa
/-
  Chapter 16: facts on the symbols in order, tables and codes. Conditions: each theorem's own.
-/
namespace Go.Proofs.Ytfbdocfhgjfboaa
open Go Go.RowKit
set_option linter.unusedVariables false
set_option linter.unusedSimpArgs false
set_option maxRecDepth 100000
/-! ### symbols -/
theorem symsF_app (a b : List Int) : ∀ i, symsF i (a ++ b) = symsF i a ++ symsF (i + a.length) b := by
  induction a with
  | nil => intro i; simp [symsF]
  | cons x r ih =>
    intro i
    simp only [List.cons_append, symsF, ih (i + 1), List.length_cons]
    have : i + 1 + (r.length : Int) = i + ((r.length + 1 : Nat) : Int) := by push_cast; omega
    rw [this]
    cases decide (0 < x) <;> simp
theorem symsF_mem (l : List Int) : ∀ i r, r ∈ symsF i l → ∃ k : Nat, k < l.length ∧ r = [i + k, l.getD k 0] ∧ 0 < l.getD k 0 := by
  induction l with
  | nil => intro i r h; simp [symsF] at h
  | cons x t ih =>
    intro i r h
    have tail : r ∈ symsF (i + 1) t → ∃ k : Nat, k < (x :: t).length ∧ r = [i + k, (x :: t).getD k 0] ∧ 0 < (x :: t).getD k 0 := fun h => by
      obtain ⟨k, h1, h2, h3⟩ := ih (i + 1) r h
      refine ⟨k + 1, by simpa using h1, ?_, by simpa using h3⟩
      rw [h2]
      simp only [List.getD_cons_succ, List.cons.injEq, and_true]
      push_cast; omega
    unfold symsF at h
    by_cases hx : 0 < x
    · rw [decide_eq_true hx, cond_true, List.mem_cons] at h
      rcases h with rfl | h
      · exact ⟨0, by simp, by simp, by simpa using hx⟩
      · exact tail h
    · rw [decide_eq_false hx, cond_false] at h
      exact tail h
theorem syms_mem {l : List Int} {r : List Int} (h : r ∈ syms l) : ∃ k : Nat, k < l.length ∧ r = [(k : Int), l.getD k 0] ∧ 0 < l.getD k 0 := by
  obtain ⟨k, h1, h2, h3⟩ := symsF_mem l 0 r h
  exact ⟨k, h1, by rw [h2]; simp, h3⟩
theorem syms_two {l : List Int} : ∀ r ∈ syms l, r.length = 2 := fun r h => by
  obtain ⟨k, _, rfl, _⟩ := syms_mem h
  rfl
theorem symsF_sorted (l : List Int) : ∀ i, (symsF i l).Pairwise (fun a b => a.getD 0 0 < b.getD 0 0) := by
  induction l with
  | nil => intro i; simp [symsF]
  | cons x t ih =>
    intro i
    unfold symsF
    cases decide (0 < x)
    · exact ih (i + 1)
    · refine List.pairwise_cons.2 ⟨fun b hb => ?_, ih (i + 1)⟩
      obtain ⟨k, _, rfl, _⟩ := symsF_mem t (i + 1) b hb
      simp only [List.getD_cons_zero]
      omega
theorem syms_len_le (l : List Int) : (syms l).length ≤ l.length := by
  unfold syms
  have : ∀ (l : List Int) i, (symsF i l).length ≤ l.length := by
    intro l
    induction l with
    | nil => intro i; simp [symsF]
    | cons x t ih =>
      intro i
      unfold symsF
      have := ih (i + 1)
      cases decide (0 < x)
      · simp only [cond_false, List.length_cons]; omega
      · simp only [cond_true, List.length_cons]; omega
  exact this l 0
theorem syms_snoc (l : List Int) (x : Int) : syms (l ++ [x]) = syms l ++ cond (decide (0 < x)) [[(l.length : Int), x]] [] := by
  unfold syms
  rw [symsF_app]
  simp only [symsF, Int.zero_add]
theorem syms_take {l : List Int} {i : Nat} (h : i < l.length) : syms (l.take (i + 1)) = syms (l.take i) ++ cond (decide (0 < l.getD i 0)) [[(i : Int), l.getD i 0]] [] := by
  rw [take_succ l 0 h, syms_snoc, List.length_take, Nat.min_eq_left (by omega)]
theorem ordS_perm (l : List Int) : (ordS l).Perm (syms l) := srt_perm _
theorem ordS_mem {l : List Int} {r : List Int} (h : r ∈ ordS l) : ∃ k : Nat, k < l.length ∧ r = [(k : Int), l.getD k 0] ∧ 0 < l.getD k 0 := syms_mem ((ordS_perm l).mem_iff.1 h)
/-! ### widths -/
def tot (m : Int) (ss : List (List Int)) : Nat := (ss.map (wid m)).sum
theorem tot_app (m : Int) (a b : List (List Int)) : tot m (a ++ b) = tot m a + tot m b := by simp [tot]
theorem tot_perm {m : Int} {a b : List (List Int)} (h : a.Perm b) : tot m a = tot m b := (h.map (wid m)).sum_nat
theorem wid_pos (m : Int) (s : List Int) : 0 < wid m s := Nat.pow_pos (by omega)
theorem tblF_len (m : Int) : ∀ ss, (tblF m ss).length = tot m ss
  | [] => rfl
  | s :: r => by simp [tblF, blkS, tot, tblF_len m r]
theorem tblF_app (m : Int) (a b : List (List Int)) : tblF m (a ++ b) = tblF m a ++ tblF m b := by
  induction a with
  | nil => rfl
  | cons x r ih => simp [tblF, ih]
theorem tot_syms (m : Int) (l : List Int) : (tot m (syms l) : Int) = sumM m l := by
  induction l using snoc_ind' with
  | h0 => rfl
  | h1 l z ih =>
    rw [syms_snoc, tot_app, sumM_snoc, ← ih]
    cases decide (0 < z)
    · simp [tot]
    · simp [tot, wid]
theorem tot_ord {l : List Int} (h : chk l = 0) : tot (gmx l) (ordS l) = 2 ^ (gmx l).toNat := by
  obtain ⟨h1, h2, h3, h4⟩ := chk_zero h
  have := (room_iff h2).2 h4
  rw [← tot_syms] at this
  rw [tot_perm (ordS_perm l)]
  exact_mod_cast this
theorem atF_tot (m : Int) (ss : List (List Int)) (i : Nat) : atF m ss i = (tot m (ss.take i) : Int) := by
  unfold atF tot
  have : ∀ (l : List (List Int)) (a : Int), l.foldl (fun a s => a + (wid m s : Int)) a = a + ((l.map (wid m)).sum : Nat) := by
    intro l
    induction l with
    | nil => intro a; simp
    | cons x r ih => intro a; rw [List.foldl_cons, ih]; simp only [List.map_cons, List.sum_cons]; push_cast; omega
  rw [this]; simp
theorem atF_succ (m : Int) (ss : List (List Int)) {i : Nat} (h : i < ss.length) : atF m ss (i + 1) = atF m ss i + (wid m (ss.getD i []) : Int) := by
  rw [atF_tot, atF_tot, take_succ ss [] h, tot_app]
  simp [tot]
theorem atF_le (m : Int) (ss : List (List Int)) (i : Nat) : atF m ss i ≤ tot m ss := by
  rw [atF_tot]
  have : tot m ss = tot m (ss.take i) + tot m (ss.drop i) := by rw [← tot_app, List.take_append_drop]
  omega
theorem atF_nonneg (m : Int) (ss : List (List Int)) (i : Nat) : 0 ≤ atF m ss i := by rw [atF_tot]; omega
theorem atF_zero (m : Int) (ss : List (List Int)) : atF m ss 0 = 0 := rfl
/-! ### a right code -/
structure Good (l : List Int) : Prop where
  len : l.length ≤ 256
  lens : ∀ x ∈ l, 0 ≤ x ∧ x ≤ 11
  m0 : 1 ≤ gmx l
  m1 : gmx l ≤ 11
  sum : tot (gmx l) (ordS l) = 2 ^ (gmx l).toNat
  big : 2 ^ (gmx l).toNat ≤ 2048
theorem good {l : List Int} (h : chk l = 0) : Good l := by
  obtain ⟨h1, h2, h3, h4⟩ := chk_zero h
  have hg := gmx_ge l
  have hl := gmx_le (m := 11) (by omega) fun x hx => (all_ok h2 x hx).2
  refine ⟨h1, all_ok h2, ?_, hl, tot_ord h, ?_⟩
  · by_cases h0 : gmx l = 0
    · have hz : ∀ x ∈ l, x = 0 := fun x hx => by have := hg.2 x hx; have := (all_ok h2 x hx).1; omega
      have : ∀ l : List Int, (∀ x ∈ l, x = 0) → cntP l = 0 := by
        intro l
        induction l using snoc_ind' with
        | h0 => intro _; rfl
        | h1 l z ih =>
          intro h
          rw [cntP_snoc, h z (by simp), ih fun x hx => h x (by simp [hx])]
          rfl
      rw [this l hz] at h3
      omega
    · omega
  · exact Nat.pow_le_pow_right (n := 2) (by omega) (show (gmx l).toNat ≤ 11 by omega)
theorem symI_mem {l : List Int} {i : Nat} (h : i < (ordS l).length) : ∃ k : Nat, k < l.length ∧ symI l i = [(k : Int), l.getD k 0] ∧ 0 < l.getD k 0 := by
  have hm : symI l i ∈ ordS l := by
    unfold symI
    rw [List.getD_eq_getElem?_getD, List.getElem?_eq_getElem h]
    exact List.getElem_mem h
  exact ordS_mem hm
theorem symI_bd {l : List Int} (hg : Good l) {i : Nat} (h : i < (ordS l).length) : 0 ≤ (symI l i).getD 0 0 ∧ (symI l i).getD 0 0 < l.length ∧ 1 ≤ (symI l i).getD 1 0 ∧ (symI l i).getD 1 0 ≤ gmx l := by
  obtain ⟨k, h1, h2, h3⟩ := symI_mem h
  rw [h2]
  simp only [List.getD_cons_zero, List.getD_cons_succ]
  have := (gmx_ge l).2 _ (getD_mem' h1)
  omega
theorem at_bd {l : List Int} (hg : Good l) {i : Nat} (h : i < (ordS l).length) : 0 ≤ atF (gmx l) (ordS l) i ∧ atF (gmx l) (ordS l) i + (wid (gmx l) (symI l i) : Int) ≤ ((2 ^ (gmx l).toNat : Nat) : Int) := by
  refine ⟨atF_nonneg _ _ _, ?_⟩
  have := atF_le (gmx l) (ordS l) (i + 1)
  rw [atF_succ _ _ h, hg.sum] at this
  exact this
/-! ### what is yielded -/
theorem itemF_len (m : Int) : ∀ a ss, (itemF m a ss).length = ss.length
  | a, [] => rfl
  | a, s :: r => by simp [itemF, itemF_len m _ r]
theorem itemF_get (m : Int) : ∀ (ss : List (List Int)) (a : Int) (i : Nat), i < ss.length →
    (itemF m a ss)[i]? = some [.agg #[.int .i64 ((ss.getD i []).getD 0 0), .int .i64 ((ss.getD i []).getD 1 0)], .int .i64 (a + atF m ss i)]
  | [], a, i, h => by simp at h
  | s :: r, a, 0, _ => by simp [itemF, atF]
  | s :: r, a, i + 1, h => by
    simp only [itemF, List.getElem?_cons_succ]
    rw [itemF_get m r _ i (by simpa using h)]
    have : a + (wid m s : Int) + atF m r i = a + atF m (s :: r) (i + 1) := by
      rw [atF_tot, atF_tot]
      simp [tot]
      omega
    rw [this]
    rfl
theorem items_len (l : List Int) : (items l).length = (ordS l).length := itemF_len ..
theorem items_get {l : List Int} {i : Nat} (h : i < (ordS l).length) : (items l)[i]? = some (itemI l i) := by
  have := itemF_get (gmx l) (ordS l) 0 i h
  rw [Int.zero_add] at this
  exact this
/-! ### codes -/
theorem codF_len (m : Int) : ∀ ss a out, (codF m a ss out).length = out.length
  | [], a, out => rfl
  | s :: r, a, out => by rw [codF, codF_len m r, List.length_set]
theorem codF_snoc (m : Int) (s : List Int) : ∀ (ss : List (List Int)) (a : Int) (out : List (List Int)), codF m a (ss ++ [s]) out = (codF m a ss out).set (s.getD 0 0).toNat [s.getD 1 0, (a + tot m ss) / 2 ^ (m - s.getD 1 0).toNat]
  | [], a, out => by simp [codF, tot]
  | x :: r, a, out => by
    simp only [List.cons_append, codF, codF_snoc m s r]
    have : a + (wid m x : Int) + tot m r = a + tot m (x :: r) := by simp [tot]; omega
    rw [this]
theorem codP_succ {l : List Int} {i : Nat} (h : i < (ordS l).length) : codP l (i + 1) = (codP l i).set ((symI l i).getD 0 0).toNat [(symI l i).getD 1 0, atF (gmx l) (ordS l) i / 2 ^ (gmx l - (symI l i).getD 1 0).toNat] := by
  unfold codP
  rw [take_succ (ordS l) [] h, codF_snoc, atF_tot, Int.zero_add]
  rfl
theorem codP_len (l : List Int) (i : Nat) : (codP l i).length = l.length := by unfold codP; rw [codF_len, List.length_replicate]
/-! ### cells -/
theorem tblQ_zero (l : List Int) (i : Nat) : tblQ l i 0 = tblP l i := by simp [tblQ, tblP]
theorem tblP_succ {l : List Int} {i : Nat} (h : i < (ordS l).length) : tblP l (i + 1) = tblQ l i (wid (gmx l) (symI l i)) := by
  unfold tblP tblQ
  rw [take_succ (ordS l) [] h, tblF_app, List.append_assoc]
  have e : tblF (gmx l) [(ordS l).getD i []] = List.replicate (wid (gmx l) (symI l i)) [(symI l i).getD 0 0, (symI l i).getD 1 0, 0] := by
    simp only [tblF, blkS, List.append_nil]
    rfl
  rw [e, atF_succ _ _ h]
  have h0 := atF_nonneg (gmx l) (ordS l) i
  have e2 : 2 ^ (gmx l).toNat - (atF (gmx l) (ordS l) i + (wid (gmx l) ((ordS l).getD i []) : Int)).toNat = 2 ^ (gmx l).toNat - (atF (gmx l) (ordS l) i).toNat - wid (gmx l) (symI l i) := by
    unfold symI
    omega
  rw [e2]
theorem tblF_at (l : List Int) (i : Nat) : (tblF (gmx l) ((ordS l).take i)).length = (atF (gmx l) (ordS l) i).toNat := by
  rw [tblF_len, atF_tot]; rfl
theorem tblQ_len {l : List Int} (hg : Good l) {i j : Nat} (h : i < (ordS l).length) (hj : j ≤ wid (gmx l) (symI l i)) : (tblQ l i j).length = 2 ^ (gmx l).toNat := by
  have := at_bd hg h
  unfold tblQ
  simp only [List.length_append, List.length_replicate, tblF_at]
  omega
theorem tblQ_set {l : List Int} (hg : Good l) {i j : Nat} (h : i < (ordS l).length) (hj : j < wid (gmx l) (symI l i)) : (tblQ l i j).set ((atF (gmx l) (ordS l) i).toNat + j) [(symI l i).getD 0 0, (symI l i).getD 1 0, 0] = tblQ l i (j + 1) := by
  have hb := at_bd hg h
  unfold tblQ
  obtain ⟨k, hk⟩ : ∃ k, 2 ^ (gmx l).toNat - (atF (gmx l) (ordS l) i).toNat - j = k + 1 := ⟨2 ^ (gmx l).toNat - (atF (gmx l) (ordS l) i).toNat - j - 1, by omega⟩
  have hk2 : 2 ^ (gmx l).toNat - (atF (gmx l) (ordS l) i).toNat - (j + 1) = k := by omega
  rw [hk, hk2, List.set_append_right _ _ (by rw [tblF_at]; omega), tblF_at, show (atF (gmx l) (ordS l) i).toNat + j - (atF (gmx l) (ordS l) i).toNat = j by omega,
    List.set_append_right _ _ (by simp), List.length_replicate, Nat.sub_self, List.replicate_succ, List.set_cons_zero, List.replicate_succ', List.append_assoc]
  rfl
theorem tblP_end {l : List Int} (hg : Good l) : tblP l (ordS l).length = tblL l := by
  unfold tblP tblL
  rw [atF_tot, List.take_length, hg.sum, Int.toNat_natCast, Nat.sub_self]
  simp
theorem tblL_len {l : List Int} (hg : Good l) : (tblL l).length = 2 ^ (gmx l).toNat := by
  unfold tblL
  rw [tblF_len, hg.sum]
theorem tblF_mem (m : Int) {c : List Int} : ∀ ss, c ∈ tblF m ss → ∃ s ∈ ss, c = [s.getD 0 0, s.getD 1 0, 0]
  | [], h => by simp [tblF] at h
  | s :: r, h => by
    simp only [tblF, List.mem_append, blkS, List.mem_replicate] at h
    rcases h with ⟨_, h⟩ | h
    · exact ⟨s, by simp, h⟩
    · obtain ⟨s', h1, h2⟩ := tblF_mem m r h
      exact ⟨s', by simp [h1], h2⟩
theorem cell_bd {l : List Int} (hg : Good l) {i : Nat} (h : i < (tblL l).length) : 0 ≤ ((tblL l).getD i []).getD 0 0 ∧ ((tblL l).getD i []).getD 0 0 < l.length ∧ 1 ≤ ((tblL l).getD i []).getD 1 0 ∧ ((tblL l).getD i []).getD 1 0 ≤ gmx l := by
  have hm : (tblL l).getD i [] ∈ tblL l := by
    rw [List.getD_eq_getElem?_getD, List.getElem?_eq_getElem h]
    exact List.getElem_mem h
  obtain ⟨s, h1, h2⟩ := tblF_mem _ _ hm
  obtain ⟨k, k1, k2, k3⟩ := ordS_mem h1
  rw [h2, k2]
  simp only [List.getD_cons_zero, List.getD_cons_succ]
  have := (gmx_ge l).2 _ (getD_mem' k1)
  omega
/-! ### the reference's table -/
def refL (l : List Int) : Nat → List (List Int)
  | 0 => []
  | j + 1 => refL l j ++ (syms l).filter (isLen (gmx l - j))
theorem refT_eq (l : List Int) : ∀ j, refT l j = tblF (gmx l) (refL l j)
  | 0 => rfl
  | j + 1 => by rw [refT, refL, tblF_app, refT_eq l j]
theorem perm_split {α : Type} {p q r : α → Bool} (h : ∀ x, p x = (q x || r x)) (hd : ∀ x, (q x && r x) = false) : ∀ S : List α, (S.filter p).Perm (S.filter q ++ S.filter r)
  | [] => List.Perm.refl _
  | x :: S => by
    have ih := perm_split h hd S
    have hx := h x
    have hdx := hd x
    cases hq : q x <;> cases hr : r x
    · rw [hq, hr] at hx
      simpa [List.filter_cons, hq, hr, hx] using ih
    · rw [hq, hr] at hx
      simp only [List.filter_cons, hq, hr, hx]
      exact (ih.cons x).trans List.perm_middle.symm
    · rw [hq, hr] at hx
      simp only [List.filter_cons, hq, hr, hx]
      exact ih.cons x
    · rw [hq, hr] at hdx; cases hdx
theorem refL_perm (l : List Int) : ∀ j : Nat, ((syms l).filter fun r => decide (gmx l - j < r.getD 1 0)).Perm (refL l j)
  | 0 => by
    have : ((syms l).filter fun r => decide (gmx l - (0 : Nat) < r.getD 1 0)) = [] := by
      rw [List.filter_eq_nil_iff]
      intro r hr
      obtain ⟨k, k1, rfl, k3⟩ := syms_mem hr
      have := (gmx_ge l).2 _ (getD_mem' k1)
      simp only [List.getD_cons_succ, List.getD_cons_zero, decide_eq_true_eq]
      omega
    rw [this]
    exact List.Perm.refl _
  | j + 1 => by
    refine (perm_split (q := fun r => decide (gmx l - j < r.getD 1 0)) (r := isLen (gmx l - j)) (fun r => ?_) (fun r => ?_) (syms l)).trans ((refL_perm l j).append_right _)
    · unfold isLen
      rw [Bool.eq_iff_iff]
      simp only [decide_eq_true_eq, Bool.or_eq_true, beq_iff_eq]
      push_cast
      omega
    · unfold isLen
      rw [Bool.eq_false_iff]
      simp only [ne_eq, Bool.and_eq_true, decide_eq_true_eq, beq_iff_eq]
      omega
theorem refL_sorted (l : List Int) : ∀ j, (refL l j).Pairwise (fun x y => sLe x y = true)
  | 0 => List.Pairwise.nil
  | j + 1 => by
    rw [refL, List.pairwise_append]
    refine ⟨refL_sorted l j, ?_, fun a ha b hb => ?_⟩
    · have := (symsF_sorted l 0).filter (isLen (gmx l - j))
      refine List.Pairwise.imp_of_mem ?_ this
      intro a b ha hb h
      have h1 := (List.mem_filter.1 ha).2
      have h2 := (List.mem_filter.1 hb).2
      simp only [isLen, beq_iff_eq] at h1 h2
      rw [sLe_iff]
      omega
    · have h1 := (List.mem_filter.1 ((refL_perm l j).mem_iff.2 ha)).2
      have h2 := (List.mem_filter.1 hb).2
      simp only [isLen, beq_iff_eq] at h2
      simp only [decide_eq_true_eq] at h1
      rw [sLe_iff]
      omega
theorem refT_end {l : List Int} (hg : Good l) : refT l (gmx l).toNat = tblL l := by
  rw [refT_eq]
  unfold tblL ordS
  rw [srt_unique syms_two ?_ (refL_sorted l _)]
  refine (refL_perm l (gmx l).toNat).symm.trans ?_
  have : ((syms l).filter fun r => decide (gmx l - (gmx l).toNat < r.getD 1 0)) = syms l := by
    rw [List.filter_eq_self]
    intro r hr
    obtain ⟨k, k1, rfl, k3⟩ := syms_mem hr
    simp only [List.getD_cons_succ, List.getD_cons_zero, decide_eq_true_eq]
    have := hg.m0
    omega
  rw [this]
theorem refS_zero (l : List Int) (j : Nat) : refS l j 0 = refT l j := by simp [refS, syms, symsF, tblF]
theorem refS_all {l : List Int} (j : Nat) : refS l j l.length = refT l (j + 1) := by
  unfold refS
  rw [List.take_length]
  rfl
theorem refS_step {l : List Int} {j s : Nat} (hs : s < l.length) (hp : 0 < gmx l - (j : Int)) : refS l j (s + 1) = if l.getD s 0 = gmx l - j then refK l j s (2 ^ j) else refS l j s := by
  unfold refS
  rw [syms_take hs]
  by_cases h0 : 0 < l.getD s 0
  · rw [decide_eq_true h0, cond_true, List.filter_append, tblF_app, ← List.append_assoc]
    split
    · rename_i h
      have : [[(s : Int), l.getD s 0]].filter (isLen (gmx l - j)) = [[(s : Int), l.getD s 0]] := by
        have hb : (l.getD s 0 == gmx l - (j : Int)) = true := by rw [beq_iff_eq]; exact h
        simp only [List.filter_cons, isLen, List.getD_cons_succ, List.getD_cons_zero, List.filter_nil, hb, if_true]
      rw [this]
      unfold refK refS
      simp only [tblF, blkS, wid, List.append_nil, List.getD_cons_succ, List.getD_cons_zero, h]
      have : (gmx l - (gmx l - (j : Int))).toNat = j := by omega
      rw [this]
    · rename_i h
      have : [[(s : Int), l.getD s 0]].filter (isLen (gmx l - j)) = [] := by
        have hb : (l.getD s 0 == gmx l - (j : Int)) = false := by rw [beq_eq_false_iff_ne]; exact h
        simp only [List.filter_cons, isLen, List.getD_cons_succ, List.getD_cons_zero, List.filter_nil, hb, Bool.false_eq_true, if_false]
      rw [this]
      simp [tblF]
  · rw [decide_eq_false h0, cond_false, List.append_nil, if_neg (by omega)]
theorem refK_succ (l : List Int) (j s k : Nat) : refK l j s (k + 1) = refK l j s k ++ [[(s : Int), gmx l - j, 0]] := by
  unfold refK
  rw [List.replicate_succ', List.append_assoc]
theorem tblF_bd {m : Int} (hm : m ≤ 11) : ∀ ss : List (List Int), (∀ s ∈ ss, 0 ≤ s.getD 1 0) → (tblF m ss).length ≤ ss.length * 2048
  | [], _ => by simp [tblF]
  | s :: r, h => by
    have ih := tblF_bd hm r fun x hx => h x (by simp [hx])
    have h1 := h s (by simp)
    have h2 : wid m s ≤ 2 ^ 11 := Nat.pow_le_pow_right (by omega) (by omega)
    simp only [tblF, blkS, List.length_append, List.length_replicate, List.length_cons]
    omega
theorem refK_bd {l : List Int} (hg : Good l) {j s k : Nat} (hj : (j : Int) < gmx l) (hk : k ≤ 2 ^ j) : (refK l j s k).length ≤ 2000000 := by
  have hpos : ∀ l' : List Int, ∀ r ∈ syms l', 0 ≤ r.getD 1 0 := fun l' r hr => by
    obtain ⟨q, _, rfl, h⟩ := syms_mem hr
    simp only [List.getD_cons_succ, List.getD_cons_zero]
    omega
  have h1 : (refT l j).length ≤ 256 * 2048 := by
    rw [refT_eq]
    have hp := refL_perm l j
    have := tblF_bd hg.m1 (refL l j) fun r hr => hpos l r (List.mem_filter.1 (hp.mem_iff.2 hr)).1
    have h2 : (refL l j).length ≤ 256 := by
      rw [← hp.length_eq]
      exact Nat.le_trans (List.length_filter_le ..) (Nat.le_trans (syms_len_le l) hg.len)
    omega
  have h2 : (tblF (gmx l) ((syms (l.take s)).filter (isLen (gmx l - j)))).length ≤ 256 * 2048 := by
    have := tblF_bd hg.m1 ((syms (l.take s)).filter (isLen (gmx l - j))) fun r hr => hpos _ r (List.mem_filter.1 hr).1
    have h3 : ((syms (l.take s)).filter (isLen (gmx l - j))).length ≤ 256 := by
      have := syms_len_le (l.take s)
      rw [List.length_take] at this
      have := List.length_filter_le (isLen (gmx l - j)) (syms (l.take s))
      have := hg.len
      omega
    omega
  have h3 : (2 : Nat) ^ j ≤ 2 ^ 11 := Nat.pow_le_pow_right (by omega) (by have := hg.m1; omega)
  unfold refK refS
  simp only [List.length_append, List.length_replicate]
  omega
/-! ### the reference's codes -/
theorem refC_len (m : Int) : ∀ (t : List (List Int)) (a : Int) (out : List (List Int)), (refC m a t out).length = out.length
  | [], a, out => rfl
  | c :: r, a, out => by rw [refC, List.length_set, refC_len m r]
theorem refC_block (m : Int) (n b z : Int) (r out : List (List Int)) : ∀ (k : Nat) (a : Int), refC m a (List.replicate (k + 1) [n, b, z] ++ r) out = (refC m (a + k + 1) r out).set n.toNat [b, a / 2 ^ (m - b).toNat]
  | 0, a => by simp [refC]
  | k + 1, a => by
    rw [List.replicate_succ, List.cons_append, refC, refC_block m n b z r out k (a + 1)]
    simp only [List.getD_cons_zero, List.getD_cons_succ, List.set_set]
    have : a + 1 + (k : Int) + 1 = a + ((k + 1 : Nat) : Int) + 1 := by push_cast; omega
    rw [this]
def codB (m : Int) : Int → List (List Int) → List (List Int) → List (List Int)
  | _, [], out => out
  | a, s :: r, out => (codB m (a + (wid m s : Int)) r out).set (s.getD 0 0).toNat [s.getD 1 0, a / 2 ^ (m - s.getD 1 0).toNat]
theorem refC_tbl (m : Int) (out : List (List Int)) : ∀ (ss : List (List Int)) (a : Int), refC m a (tblF m ss) out = codB m a ss out
  | [], a => rfl
  | s :: r, a => by
    obtain ⟨k, hk⟩ : ∃ k, wid m s = k + 1 := ⟨wid m s - 1, by have := wid_pos m s; omega⟩
    simp only [tblF, blkS, codB]
    rw [hk, refC_block, refC_tbl m out r]
    have : a + (k : Int) + 1 = a + ((k + 1 : Nat) : Int) := by push_cast; omega
    rw [this]
theorem codF_set (m : Int) (k : Nat) (v : List Int) : ∀ (ss : List (List Int)) (a : Int) (out : List (List Int)), (∀ s ∈ ss, (s.getD 0 0).toNat ≠ k) → codF m a ss (out.set k v) = (codF m a ss out).set k v
  | [], a, out, _ => rfl
  | s :: r, a, out, h => by
    rw [codF, codF, List.set_comm _ _ (Ne.symm (h s (by simp))), codF_set m k v r _ _ fun x hx => h x (by simp [hx])]
theorem codB_codF (m : Int) : ∀ (ss : List (List Int)) (a : Int) (out : List (List Int)), ss.Pairwise (fun x y => (x.getD 0 0).toNat ≠ (y.getD 0 0).toNat) → codB m a ss out = codF m a ss out
  | [], a, out, _ => rfl
  | s :: r, a, out, h => by
    obtain ⟨h1, h2⟩ := List.pairwise_cons.1 h
    rw [codB, codF, codB_codF m r _ _ h2, codF_set m _ _ r _ _ fun x hx => Ne.symm (h1 x hx)]
theorem ordS_nodup (l : List Int) : (ordS l).Pairwise (fun x y => (x.getD 0 0).toNat ≠ (y.getD 0 0).toNat) := by
  refine ((ordS_perm l).pairwise_iff fun h => Ne.symm h).2 ?_
  refine List.Pairwise.imp_of_mem ?_ (symsF_sorted l 0)
  intro a b ha hb h
  obtain ⟨k, _, rfl, _⟩ := syms_mem ha
  obtain ⟨q, _, rfl, _⟩ := syms_mem hb
  simp only [List.getD_cons_zero] at h ⊢
  omega
theorem refCL_zero (l : List Int) : refCL l 0 = List.replicate l.length [0, 0] := by
  unfold refCL
  simp [refC]
theorem refCL_end (l : List Int) : refCL l (tblL l).length = codL l := by
  unfold refCL
  rw [Nat.sub_self, List.drop_zero, Int.sub_self]
  show refC _ _ (tblF (gmx l) (ordS l)) _ = _
  rw [refC_tbl, codB_codF _ _ _ _ (ordS_nodup l)]
  rfl
theorem refCL_succ {l : List Int} {c : Nat} (h : c < (tblL l).length) : refCL l (c + 1) = (refCL l c).set (((tblL l).getD ((tblL l).length - 1 - c) []).getD 0 0).toNat
    [((tblL l).getD ((tblL l).length - 1 - c) []).getD 1 0, (((tblL l).length : Int) - 1 - c) / 2 ^ (gmx l - ((tblL l).getD ((tblL l).length - 1 - c) []).getD 1 0).toNat] := by
  unfold refCL
  have hi : (tblL l).length - 1 - c < (tblL l).length := by omega
  have e : (tblL l).length - (c + 1) = (tblL l).length - 1 - c := by omega
  have e2 : (tblL l).length - c = (tblL l).length - 1 - c + 1 := by omega
  rw [e, List.drop_eq_getElem_cons hi, refC, e2]
  have e3 : (tblL l)[(tblL l).length - 1 - c] = (tblL l).getD ((tblL l).length - 1 - c) [] := by rw [List.getD_eq_getElem?_getD, List.getElem?_eq_getElem hi]; rfl
  rw [e3]
  have e4 : ((tblL l).length : Int) - ((c + 1 : Nat) : Int) + 1 = (tblL l).length - c := by push_cast; omega
  have e5 : ((tblL l).length : Int) - ((c + 1 : Nat) : Int) = (tblL l).length - 1 - c := by push_cast; omega
  rw [e4, e5]
theorem refCL_len (l : List Int) (c : Nat) : (refCL l c).length = l.length := by unfold refCL; rw [refC_len, List.length_replicate]
end Go.Proofs.Ytfbdocfhgjfboaa
/-
  Chapter 16: tables and codes come out as they are said to. Conditions: each theorem's own.
-/
namespace Go.Proofs.Ytfbdocfhgjfboaa
open Go Go.RowKit
set_option linter.unusedVariables false
set_option linter.unusedSimpArgs false
set_option maxRecDepth 100000
theorem syms_end {l : List Int} (h : chk l = 0) : 1 ≤ (syms l).length := by
  have h3 := (chk_zero h).2.2.1
  have : ∀ l : List Int, cntP l = ((syms l).length : Int) := by
    intro l
    induction l using snoc_ind' with
    | h0 => rfl
    | h1 l z ih =>
      rw [cntP_snoc, syms_snoc, List.length_append, ih]
      cases decide (0 < z) <;> simp
  rw [this] at h3
  omega
theorem pair2 (a b : Int) : List.map (fun (i : Nat) => List.take 2 (List.drop (i * 2) [a, b])) (List.range 1) = [[a, b]] := rfl
theorem ranges6_v (l : List Int) (hc : chk l = 0) : ranges6_t l := by
  have hg := good hc
  have hlen := hg.len
  unfold ranges6_t
  refine ⟨⟨0, by rw [nle]; omega, rfl, rfl, rfl, rfl, rfl⟩, fun i hi => ⟨fun hlt => ?_, fun hge => ?_⟩⟩
  · simp only [decide_eq_true_eq] at hlt
    have hi' : i < l.length := by omega
    have hsl := syms_len_le (l.take i)
    rw [List.length_take] at hsl
    simp only [toNat_cast, gt_iff_lt, decide_eq_true_eq, decide_eq_false_iff_not]
    refine ⟨by omega, by omega, fun hp => ⟨?_, i + 1, by rw [nle]; omega, by show l.length - (i + 1) < l.length - i; omega, by trivial, by trivial, by rw [wr (by omega) (by omega)]; simp, by trivial, ?_⟩, fun hp => ⟨i + 1, by rw [nle]; omega, by show l.length - (i + 1) < l.length - i; omega, by trivial, by trivial, by rw [wr (by omega) (by omega)]; simp, by trivial, ?_⟩⟩
    · show ((syms (l.take i)).length + 1) * 16 ≤ _
      omega
    · rw [pair2, syms_take hi', decide_eq_true hp]; rfl
    · rw [syms_take hi', decide_eq_false hp, cond_false, List.append_nil]
  · simp only [decide_eq_false_iff_not] at hge
    rw [List.take_of_length_le (by omega)]
    have := syms_len_le l
    refine ⟨syms_end hc, by omega, ?_, by trivial, by trivial⟩
    rw [List.all_eq_true]
    intro r hr
    simp [syms_two r hr]
theorem items6_v (l : List Int) (hc : chk l = 0) (l0 : Nat) : items6_t l l0 := by
  have hg := good hc
  have hm := hg.m1
  unfold items6_t
  refine ⟨hc, 0, by rw [nle]; omega, rfl, ⟨rfl, rfl, rfl, rfl, rfl, rfl, rfl⟩, fun i hi => ⟨fun hlt => ?_, fun hge => ?_⟩⟩
  · simp only [decide_eq_true_eq] at hlt
    have hi' : i < (ordS l).length := by omega
    have hb := symI_bd hg hi'
    have ha := at_bd hg hi'
    have hbig := hg.big
    have hol : (ordS l).length ≤ 256 := by
      have := (ordS_perm l).length_eq
      have := syms_len_le l
      have := hg.len
      omega
    have hw : (wid (gmx l) (symI l i) : Int) = 2 ^ (gmx l - (symI l i).getD 1 0).toNat := by unfold wid; exact (pow_cast _).symm
    simp only [toNat_cast]
    have e : (ordS l).getD i [] = symI l i := rfl
    rw [e]
    have e1 : IntKind.wrap IntKind.i64 (gmx l - (symI l i).getD 1 0) = gmx l - (symI l i).getD 1 0 := wr (by omega) (by omega)
    refine ⟨by omega, by omega, hi', by trivial, items_get hi', ⟨by rw [e1]; omega, i + 1, by rw [nle]; omega, by trivial, by show (ordS l).length - (i + 1) < (ordS l).length - i; omega, by trivial, by trivial, ?_, by trivial, by rw [wr (by omega) (by omega)]; simp, by trivial, by trivial⟩, by trivial⟩
    rw [e1, shl1 (by omega) (by omega), ← hw, atF_succ _ _ hi', e, wr (by omega) (by omega)]
  · simp only [decide_eq_false_iff_not] at hge
    rw [nle] at hi
    rw [items_len]
    omega
theorem G6z2 : True := trivial
/-! ### tables -/
theorem G6g_ok : AllOk Try.prog G6g := .cons sort_sound <| .cons eqr2_sound <| .cons eqr3_sound G6f_ok
theorem items6_isat (l : List Int) (hc : chk l = 0) : ISat Try.prog 95 [.p 0 0 0, .p 1 0 0] [(0, .cells 22 [.dat (.ints .i64 l)]), (1, .cells 116 [.o 2]), (2, .row 87 (.recs 2 (ordS l)))] (items l) :=
  isat_of_vcI (Ωi := fun l0 => oneI (oItems l0 l)) G6g_ok mixed Try.func95 (by kernel_rfl) fun l0 => by
    have := items6_v l hc l0
    rw [items6_e] at this
    exact this
theorem items6_at (k : Nat) (l : List Int) (hc : chk l = 0) : ISat Try.prog 95 [.p k 0 0, .p (k + 1) 0 0] [(k, .cells 22 [.dat (.ints .i64 l)]), (k + 1, .cells 116 [.o (k + 2)]), (k + 2, .row 87 (.recs 2 (ordS l)))] (items l) := by
  have := (items6_isat l hc).ren (fun i => k + i) (fun a b _ _ h => by omega) rfl rfl
  exact this
theorem ranges6_sound : Sound Try.prog 62 sRanges.ctr := sRanges.sound (by kernel_rfl) sRanges_enc fun l hc => by
  have h0 := hc _ (.head _)
  exact satG G6g_ok mixed Try.func62 (ranges6_e l) (ranges6_v l h0)
theorem rtable6_v (l : List Int) (h0 : l.length ≤ 4294967296) : rtable6_t l := by
  unfold rtable6_t
  refine ⟨h0, fun h => ⟨fun hc => by rw [hc] at h; simp at h, fun hc => ⟨rfl, rfl⟩⟩, fun h => ?_⟩
  have hc : chk l = 0 := by simpa using h
  have hg := good hc
  have m0 := hg.m0
  have m1 := hg.m1
  have hL := hg.len
  refine ⟨h0, ⟨0, ⟨by omega, hc⟩, rfl, rfl, by simp, rfl⟩, fun j ⟨hj, _⟩ => ⟨fun hlt => ?_, fun hge => ?_⟩⟩
  · simp only [gt_iff_lt, decide_eq_true_eq] at hlt
    refine ⟨j, ⟨0, ⟨by omega, by omega, hc⟩, rfl, rfl, rfl, rfl, (refS_zero l j).symm⟩, fun s ⟨_, hs, _⟩ => ⟨fun hlt2 => ?_, fun hge2 => ?_⟩⟩
    · simp only [decide_eq_true_eq] at hlt2
      have hs' : s < l.length := by omega
      have step := refS_step (l := l) (j := j) hs' hlt
      simp only [toNat_cast]
      refine ⟨by omega, by omega, fun hne => ?_, fun heq => ?_⟩
      · have hne' : ¬ l.getD s 0 = gmx l - j := by simpa using hne
        rw [if_neg hne'] at step
        exact ⟨s + 1, ⟨by omega, by omega, hc⟩, by show l.length - (s + 1) < l.length - s; omega, by trivial, by trivial, by trivial, by rw [wr (by omega) (by omega)]; simp, step.symm⟩
      · have heq' : l.getD s 0 = gmx l - j := by simpa using heq
        rw [if_pos heq'] at step
        refine ⟨(j, s), ⟨0, ⟨by show (j : Int) < gmx l; omega, hs', heq', Nat.zero_le _, hc⟩, by trivial, by trivial, by trivial, by trivial, by trivial, by simp [refK]⟩, fun k ⟨_, _, _, hk, _⟩ => ?_⟩
        have e : gmx l - (gmx l - (j : Int)) = j := by omega
        have hjj : (j : Int) < gmx l := by omega
        simp only [e]
        have h2j : (2 : Int) ^ j = ((2 ^ j : Nat) : Int) := pow_cast j
        rw [wr (n := (j : Int)) (by omega) (by omega), wru (by omega) (by omega), shl1 (by omega) (by omega), toNat_cast, h2j]
        simp only at hk
        have hj11 : j ≤ 11 := by omega
        have h2b : 2 ^ j ≤ 2 ^ 11 := Nat.pow_le_pow_right (n := 2) (by omega) hj11
        refine ⟨by omega, fun hlt3 => ?_, fun hge3 => ?_⟩
        · simp only [decide_eq_true_eq] at hlt3
          have hbd := refK_bd hg (j := j) (s := s) (k := k) hjj hk
          refine ⟨?_, k + 1, ⟨hjj, hs', heq', by omega, hc⟩, by show 2 ^ j - (k + 1) < 2 ^ j - k; omega, by trivial, by trivial, by trivial, by trivial, by rw [wr (by omega) (by omega)]; simp, ?_⟩
          · show ((refK l j s k).length + 1) * 24 ≤ _
            omega
          · rw [refK_succ]; rfl
        · simp only [decide_eq_false_iff_not] at hge3
          have : k = 2 ^ j := by omega
          subst this
          exact ⟨s + 1, ⟨by omega, by omega, hc⟩, by show l.length - (s + 1) < l.length - s; omega, by trivial, by trivial, by trivial, by rw [wr (by omega) (by omega)]; simp, step.symm⟩
    · simp only [decide_eq_false_iff_not] at hge2
      have : s = l.length := by omega
      subst this
      refine ⟨j + 1, ⟨by omega, hc⟩, by show (gmx l).toNat - (j + 1) < (gmx l).toNat - j; omega, by trivial, by trivial, by rw [wr (by omega) (by omega)]; push_cast; omega, refS_all j⟩
  · simp only [gt_iff_lt, decide_eq_false_iff_not] at hge
    refine ⟨fun _ => ⟨rfl, ?_⟩, fun hn => absurd hc hn⟩
    have : j = (gmx l).toNat := by omega
    rw [this]
    exact refT_end hg
theorem rtable6_sound : Sound Try.prog 27 sTable.ctr := sTable.sound (by kernel_rfl) sTable_enc fun l hc => by
  have h0 := hc _ (.head _)
  exact satG G6g_ok mixed Try.func27 (rtable6_e l) (rtable6_v l h0)
theorem G6h_ok : AllOk Try.prog G6h := .cons ranges6_sound <| .cons rtable6_sound G6g_ok
theorem codes6_v (l : List Int) (h0 : l.length ≤ 4294967296) : codes6_t l := by
  unfold codes6_t
  refine ⟨h0, fun h => ⟨fun hc => by rw [hc] at h; simp at h, fun hc => ⟨rfl, rfl⟩⟩, fun h => ?_⟩
  have hc : chk l = 0 := by simpa using h
  have hg := good hc
  have m0 := hg.m0
  have m1 := hg.m1
  have hL := hg.len
  have hit : (itemF (gmx l) 0 (ordS l)).length = (ordS l).length := itemF_len ..
  refine ⟨hc, by omega, by omega, by omega, by omega, hc, 0, items6_at 700008 l hc, ⟨rfl, rfl⟩, trivial, ⟨rfl, by rw [toNat_cast]; rfl⟩, fun i hi _ => ?_, fun _ => ⟨fun _ => ⟨rfl, ?_⟩, fun hn => absurd hc hn⟩⟩
  · rw [hit] at hi
    have hb := symI_bd hg hi
    have ha := at_bd hg hi
    rw [wr (n := gmx l - (symI l i).getD 1 0) (by omega) (by omega), codP_len]
    refine ⟨items_get hi, by trivial, by omega, by omega, by omega, by omega, trivial, by trivial, ?_⟩
    rw [codP_succ hi, b64, Nat.min_eq_left (by omega), fdivp (Int.le_of_lt (pow_pos' _))]
  · rw [hit]
    unfold codP codL
    rw [List.take_length]
theorem tbl6_v (l : List Int) (hc : chk l = 0) : tbl6_t l := by
  have hg := good hc
  have m0 := hg.m0
  have m1 := hg.m1
  have hL := hg.len
  have hbig := hg.big
  have hp : (2 : Int) ^ (gmx l).toNat = ((2 ^ (gmx l).toNat : Nat) : Int) := pow_cast _
  have hit : (itemF (gmx l) 0 (ordS l)).length = (ordS l).length := itemF_len ..
  have hpp := pow_pos' (gmx l).toNat
  have hp2 : (2 : Int) ^ (gmx l).toNat ≤ 2048 := by rw [hp]; exact_mod_cast hbig
  unfold tbl6_t
  rw [shl1 (g := gmx l) (by omega) (by omega)]
  refine ⟨hc, by omega, by omega, by omega, by omega, by omega, hc, 0, items6_at 400008 l hc, ⟨rfl, rfl⟩, trivial, ⟨rfl, ?_⟩, fun i hi _ => ?_, fun _ => ?_⟩
  · rw [hp, toNat_cast]
    unfold tblP
    rw [atF_zero]
    simp [tblF]
  · rw [hit] at hi
    have hb := symI_bd hg hi
    have ha := at_bd hg hi
    have hw : (wid (gmx l) (symI l i) : Int) = 2 ^ (gmx l - (symI l i).getD 1 0).toNat := by unfold wid; exact (pow_cast _).symm
    rw [wr (n := gmx l - (symI l i).getD 1 0) (by omega) (by omega)]
    refine ⟨items_get hi, by trivial, by omega, i, ⟨0, ⟨hi, Nat.zero_le _⟩, by trivial, ?_, by trivial, by trivial, (tblQ_zero l i).symm, by trivial, by trivial⟩, fun j ⟨_, hj⟩ => ⟨fun hlt => ?_, fun hge => ?_⟩⟩
    · rw [shl1 (by omega) (by omega), hw]
    · simp only [decide_eq_true_eq] at hlt
      have hj' : j < wid (gmx l) (symI l i) := by omega
      rw [tblQ_len hg hi hj, wr (n := atF (gmx l) (ordS l) i + (j : Int)) (by omega) (by omega)]
      simp only [ge_iff_le, decide_eq_true_eq, decide_eq_false_iff_not]
      refine ⟨fun hn => by omega, fun hn => ⟨by omega, by omega, by omega, j + 1, ⟨hi, by omega⟩, by show wid (gmx l) (symI l i) - (j + 1) < wid (gmx l) (symI l i) - j; omega, by trivial, by trivial, by rw [wr (by omega) (by omega)]; simp, by trivial, ?_, by trivial, by trivial⟩⟩
      have e : (atF (gmx l) (ordS l) i + (j : Int)).toNat = (atF (gmx l) (ordS l) i).toNat + j := by omega
      rw [e]
      exact tblQ_set hg hi hj'
    · simp only [decide_eq_false_iff_not] at hge
      have : j = wid (gmx l) (symI l i) := by omega
      subst this
      exact ⟨trivial, by trivial, (tblP_succ hi).symm⟩
  · rw [hit]
    exact tblP_end hg
theorem rcodes6_v (l : List Int) (h0 : l.length ≤ 4294967296) : rcodes6_t l := by
  unfold rcodes6_t
  refine ⟨fun hc => ⟨h0, fun h => by simp at h, fun _ => ?_⟩, fun hn => ⟨h0, fun _ => ⟨fun hc => absurd hc hn, fun _ => ⟨rfl, rfl⟩⟩, fun h => absurd (by simpa using h) hn⟩⟩
  have hg := good hc
  have m0 := hg.m0
  have m1 := hg.m1
  have hL := hg.len
  have hbig := hg.big
  have hN := tblL_len hg
  have hNb : (tblL l).length ≤ 2048 := by rw [hN]; exact hbig
  refine ⟨h0, by omega, by omega, by omega, by omega, ⟨0, ⟨by omega, hc⟩, rfl, ?_, rfl, ?_⟩, fun c ⟨hcl, _⟩ => ⟨fun hlt => ?_, fun hge => ?_⟩⟩
  · rw [wr (by omega) (by omega)]; simp
  · rw [toNat_cast, refCL_zero]; rfl
  · simp only [ge_iff_le, decide_eq_true_eq] at hlt
    have hi : (tblL l).length - 1 - c < (tblL l).length := by omega
    have e : (((tblL l).length : Int) - 1 - (c : Int)).toNat = (tblL l).length - 1 - c := by omega
    have hb := cell_bd hg hi
    rw [e, refCL_len, wr (n := gmx l - ((tblL l).getD ((tblL l).length - 1 - c) []).getD 1 0) (by omega) (by omega), wru (by omega) (by omega)]
    refine ⟨by omega, by omega, hi, by omega, by omega, hi, by omega, by omega, hi, by omega, by omega, by omega, by omega, c + 1, ⟨by omega, hc⟩, by show (tblL l).length - (c + 1) < (tblL l).length - c; omega, by trivial, by rw [wr (by omega) (by omega)]; push_cast; omega, by trivial, ?_⟩
    rw [refCL_succ (by omega), b64, Nat.min_eq_left (by omega), fdivp (Int.le_of_lt (pow_pos' _))]
  · simp only [ge_iff_le, decide_eq_false_iff_not] at hge
    have : c = (tblL l).length := by omega
    subst this
    exact ⟨fun _ => ⟨rfl, refCL_end l⟩, fun hn => absurd hc hn⟩
/-! ### one cell -/
theorem decE_bad {l : List Int} (h : chk l ≠ 0) (v : Int) (j : Nat) : decC l v j = 0 ∧ decE l v = chk l := by
  have h1 : (chk l == 0) = false := by rw [beq_eq_false_iff_ne]; exact h
  unfold decC decE
  rw [h1]
  simp only [cond_false, h1]
  exact ⟨by trivial, by trivial⟩
theorem decE_out {l : List Int} (h : chk l = 0) {v : Int} (hv : v < 0 ∨ ((tblL l).length : Int) ≤ v) (j : Nat) : decC l v j = 0 ∧ decE l v = 2 := by
  unfold decC decE
  have : (decide (v < 0) || decide (((tblL l).length : Int) ≤ v)) = true := by simpa using hv
  rw [h, this]
  exact ⟨rfl, rfl⟩
theorem decE_in {l : List Int} (h : chk l = 0) {v : Int} (h1 : 0 ≤ v) (h2 : v < (tblL l).length) (j : Nat) : decC l v j = ((tblL l).getD v.toNat []).getD j 0 ∧ decE l v = 0 := by
  unfold decC decE
  have : (decide (v < 0) || decide (((tblL l).length : Int) ≤ v)) = false := by
    rw [decide_eq_false (by omega), decide_eq_false (by omega)]; rfl
  rw [h, this]
  exact ⟨rfl, rfl⟩
theorem dec6_v (l : List Int) (v : Int) (h0 : l.length ≤ 4294967296) : dec6_t l v := by
  unfold dec6_t
  simp only [ge_iff_le, decide_eq_true_eq, decide_eq_false_iff_not]
  refine ⟨fun hc => ⟨h0, fun h => by simp at h, fun _ => ⟨fun h1 => ?_, fun h1 => ⟨fun h2 => ?_, fun h2 => ?_⟩⟩⟩, fun hn => ⟨h0, fun _ => ?_, fun h => absurd (by simpa using h) hn⟩⟩
  · have a := decE_out hc (v := v) (.inl h1) 0
    have b := decE_out hc (v := v) (.inl h1) 1
    exact ⟨a.1.symm, b.1.symm, a.2.symm⟩
  · have a := decE_out hc (v := v) (.inr h2) 0
    have b := decE_out hc (v := v) (.inr h2) 1
    exact ⟨a.1.symm, b.1.symm, a.2.symm⟩
  · have a := decE_in hc (v := v) (by omega) (by omega) 0
    have b := decE_in hc (v := v) (by omega) (by omega) 1
    exact ⟨by omega, by omega, by omega, by omega, by omega, by omega, a.1.symm, b.1.symm, a.2.symm⟩
  · have a := decE_bad hn v 0
    have b := decE_bad hn v 1
    exact ⟨a.1.symm, b.1.symm, a.2.symm⟩
theorem rdec6_v (l : List Int) (v : Int) (h0 : l.length ≤ 4294967296) : rdec6_t l v := by
  unfold rdec6_t
  simp only [ge_iff_le, decide_eq_true_eq, decide_eq_false_iff_not]
  refine ⟨fun hc => ⟨h0, fun _ => ⟨fun h1 => ⟨fun _ => ?_, fun h => by simp at h⟩, fun h1 => ⟨fun h2 => ⟨fun _ => ?_, fun h => by simp at h⟩, fun h2 => ⟨fun h => by simp at h, fun _ => ?_⟩⟩⟩, fun h => by simp at h⟩,
    fun hn => ⟨h0, fun h => absurd (by simpa using h) hn, fun _ => ⟨fun _ => ?_, fun h => absurd (by simpa using h) hn⟩⟩⟩
  · have a := decE_out hc (v := v) (.inl h1) 0
    have b := decE_out hc (v := v) (.inl h1) 1
    exact ⟨a.1.symm, b.1.symm, a.2.symm⟩
  · have a := decE_out hc (v := v) (.inr h2) 0
    have b := decE_out hc (v := v) (.inr h2) 1
    exact ⟨a.1.symm, b.1.symm, a.2.symm⟩
  · have a := decE_in hc (v := v) (by omega) (by omega) 0
    have b := decE_in hc (v := v) (by omega) (by omega) 1
    exact ⟨by omega, by omega, by omega, by omega, by omega, by omega, a.1.symm, b.1.symm, a.2.symm⟩
  · have a := decE_bad hn v 0
    have b := decE_bad hn v 1
    exact ⟨a.1.symm, b.1.symm, a.2.symm⟩
theorem table6_v (l : List Int) (h0 : l.length ≤ 4294967296) : table6_t l := by
  unfold table6_t
  refine ⟨h0, fun h => ⟨fun hc => by rw [hc] at h; simp at h, fun hc => ⟨rfl, rfl⟩⟩, fun h => ?_⟩
  have hc : chk l = 0 := by simpa using h
  exact ⟨hc, fun _ => ⟨rfl, rfl⟩, fun hn => absurd hc hn⟩
theorem codes6_sound : Sound Try.prog 16 sCodes.ctr := sCodes.sound (by kernel_rfl) sCodes_enc fun l hc => by
  have h0 := hc _ (.head _)
  exact satG G6h_ok mixed Try.func16 (codes6_e l) (codes6_v l h0)
theorem tbl6_sound : Sound Try.prog 63 sTbl.ctr := sTbl.sound (by kernel_rfl) sTbl_enc fun l hc => by
  have h0 := hc _ (.head _)
  exact satG G6h_ok mixed Try.func63 (tbl6_e l) (tbl6_v l h0)
theorem rcodes6_sound : Sound Try.prog 25 sCodes.ctr := sCodes.sound (by kernel_rfl) sCodes_enc fun l hc => by
  have h0 := hc _ (.head _)
  exact satG G6h_ok mixed Try.func25 (rcodes6_e l) (rcodes6_v l h0)
theorem rdec6_sound : Sound Try.prog 30 sDec.ctr := sDec.sound (by kernel_rfl) sDec_enc fun ⟨l, v⟩ hc => by
  have h0 := hc _ (.head _)
  exact satG G6h_ok mixed Try.func30 (rdec6_e l v) (rdec6_v l v h0)
theorem G6i_ok : AllOk Try.prog G6i := .cons codes6_sound <| .cons tbl6_sound <| .cons rcodes6_sound <| .cons rdec6_sound G6h_ok
theorem table6_sound : Sound Try.prog 18 sTable.ctr := sTable.sound (by kernel_rfl) sTable_enc fun l hc => by
  have h0 := hc _ (.head _)
  exact satG G6i_ok mixed Try.func18 (table6_e l) (table6_v l h0)
theorem G6j_ok : AllOk Try.prog G6j := .cons table6_sound G6i_ok
theorem dec6_sound : Sound Try.prog 29 sDec.ctr := sDec.sound (by kernel_rfl) sDec_enc fun ⟨l, v⟩ hc => by
  have h0 := hc _ (.head _)
  exact satG G6j_ok mixed Try.func29 (dec6_e l v) (dec6_v l v h0)
theorem G6k_ok : AllOk Try.prog G6k := .cons dec6_sound G6j_ok
end Go.Proofs.Ytfbdocfhgjfboaa
/-
  Chapter 16: the laws as conditions. Conditions: none (definitions).
-/
namespace Go.Proofs.Ytfbdocfhgjfboaa
open Go Go.RowKit
set_option linter.unusedVariables false
set_option linter.unusedSimpArgs false
set_option maxRecDepth 100000
def sAwake6 : Spec where
  ι := Unit
  dec l H := match l with
    | [] => some ((), [])
    | _ => none
  args := fun _ => []
  out := fun _ => .leaf (.v (.bool true)) []
theorem sAwake6_enc : ∀ l H n i ls, sAwake6.dec l H = some (i, ls) → l = renL (rho ls n) (sAwake6.args i) ∧ givenHp H ls = renH (rho ls n) (sAwake6.hp i) := by
  intro l H n i ls h
  simp only [sAwake6] at h
  repeat' split at h
  all_goals first
    | (cases h; done)
    | (cases h; exact ⟨rfl, rfl⟩)
def sChkN : Spec where
  ι := Unit
  dec l H := match l with
    | [.v (.slice none 0 0)] => some ((), [])
    | _ => none
  args := fun _ => [.v (.slice none 0 0)]
  out := fun _ => .leaf (.v (.int .i64 21)) []
theorem sChkN_enc : ∀ l H n i ls, sChkN.dec l H = some (i, ls) → l = renL (rho ls n) (sChkN.args i) ∧ givenHp H ls = renH (rho ls n) (sChkN.hp i) := by
  intro l H n i ls h
  simp only [sChkN] at h
  repeat' split at h
  all_goals first
    | (cases h; done)
    | (cases h; exact ⟨rfl, rfl⟩)
def sDecs6 : Spec where
  ι := Int × Int × Int × Int
  dec l H := match l with
    | [.v (.int .i64 v), .v (.int .i64 s), .v (.int .i64 b), .v (.int .i64 e)] => some ((v, s, b, e), [])
    | _ => none
  args := fun (v, s, b, e) => [.v (.int .i64 v), .v (.int .i64 s), .v (.int .i64 b), .v (.int .i64 e)]
  out := fun (v, s, b, e) => .leaf (.v (.bool (decC [1, 2, 2] v 0 == s && (decC [1, 2, 2] v 1 == b && decE [1, 2, 2] v == e)))) []
theorem sDecs6_enc : ∀ l H n i ls, sDecs6.dec l H = some (i, ls) → l = renL (rho ls n) (sDecs6.args i) ∧ givenHp H ls = renH (rho ls n) (sDecs6.hp i) := by
  intro l H n i ls h
  simp only [sDecs6] at h
  repeat' split at h
  all_goals first
    | (cases h; done)
    | (cases h; exact ⟨rfl, rfl⟩)
def sManyN : Spec where
  ι := Unit
  dec l H := match l with
    | [.v (.slice none 0 0)] => some ((), [])
    | _ => none
  args := fun _ => [.v (.slice none 0 0)]
  out := fun _ => .leaf (.tu [.av (.ints .i64 (manyT []).1), .v (.int .i64 (manyT []).2)]) []
theorem sManyN_enc : ∀ l H n i ls, sManyN.dec l H = some (i, ls) → l = renL (rho ls n) (sManyN.args i) ∧ givenHp H ls = renH (rho ls n) (sManyN.hp i) := by
  intro l H n i ls h
  simp only [sManyN] at h
  repeat' split at h
  all_goals first
    | (cases h; done)
    | (cases h; exact ⟨rfl, rfl⟩)
def oManyN : LoopInv := { ι := Nat, p := fun i => i = 0, tm := fun _ => [(2, .p 1000 0 0), (10, .v (.slice none 0 0)), (11, .v (.int .i64 0)), (12, .v (.int .i64 0))], hp := fun _ => [(1000, .arr 89 (.ints .i64 (bumps [])))], μ := fun _ => 0 }
def G6an : List (Nat × Ctr) := (65, sManyN.ctr) :: G6a
def G6l : List (Nat × Ctr) := (20, sAwake6.ctr) :: (43, sDecs6.ctr) :: (23, orC sChkN sChk) :: G6k
/-!
--%VC awake6 ;; ;; G6k ;; fun _ => none ;; law16.awake ;; [] ;; [] ;; (.v (.bool true)) ;; []
--%VC manyN6 ;; ;; [] ;; one6 oManyN ;; code.many ;; [.v (.slice none 0 0)] ;; [] ;; (.tu [.av (.ints .i64 (manyT []).1), .v (.int .i64 (manyT []).2)]) ;; []
--%VC chkN6 ;; ;; G6an ;; one6 (oChk6 []) ;; code.Check ;; [.v (.slice none 0 0)] ;; [] ;; (.v (.int .i64 21)) ;; []
--%VC decs6 ;; (v s b e : Int) ;; G6k ;; fun _ => none ;; law16.decodes ;; [.v (.int .i64 v), .v (.int .i64 s), .v (.int .i64 b), .v (.int .i64 e)] ;; [] ;; (.v (.bool (decC [1, 2, 2] v 0 == s && (decC [1, 2, 2] v 1 == b && decE [1, 2, 2] v == e)))) ;; []
--%VC lawMk6 ;; (l : List Int) (v : Int) ;; G6l ;; fun _ => none ;; law16.CodeMakes ;; [.dat (.ints .i64 l), .v (.int .i64 v)] ;; [] ;; (.v (.bool true)) ;; []
--%VC lawCt6 ;; (l c : List Int) ;; G6l ;; fun _ => none ;; law16.CodeCounts ;; [.dat (.ints .i64 l), .dat (.ints .i64 c)] ;; [] ;; (.v (.bool true)) ;; []
--%VC lawKn6 ;; ;; G6l ;; fun _ => none ;; law16.CodeKnown ;; [] ;; [] ;; (.v (.bool true)) ;; []
-/
end Go.Proofs.Ytfbdocfhgjfboaa
/-
  The verifier's lengths made of numbers: what its functions compute. Conditions: none (definitions).
-/
namespace Go.Proofs.Ytfbdocfhgjfboaa
open Go Go.RowKit
set_option linter.unusedVariables false
set_option maxRecDepth 100000
abbrev Nd : Type := List (List Int)
/-- a node: its count, whether it is a leaf, its number, its symbols -/
def nd (c f n : Int) (s : List Int) : Nd := [[c], [f], [n], s]
def ndC (x : Nd) : Int := (x.getD 0 []).getD 0 0
def ndF (x : Nd) : Bool := (x.getD 1 []).getD 0 0 == 1
def ndN (x : Nd) : Int := (x.getD 2 []).getD 0 0
def ndS (x : Nd) : List Int := x.getD 3 []
def befB (c1 : Int) (f1 : Bool) (n1 c2 : Int) (f2 : Bool) (n2 : Int) : Bool := cond (c1 != c2) (decide (c1 < c2)) (cond (f1 != f2) f1 (decide (n1 < n2)))
def befN (x y : Nd) : Bool := befB (ndC x) (ndF x) (ndN x) (ndC y) (ndF y) (ndN y)
def bestI (xs : List Nd) : Nat → Nat
  | 0 => 0
  | i + 1 => cond (befN (xs.getD i []) (xs.getD (bestI xs i) [])) i (bestI xs i)
def bestX (xs : List Nd) : Nat := bestI xs xs.length
def topX (xs : List Nd) : Nd := xs.getD (bestX xs) []
def restX (xs : List Nd) : List Nd := xs.take (bestX xs) ++ xs.drop (bestX xs + 1)
def incAll (out ss : List Int) : List Int := ss.foldl (fun o s => o.set s.toNat (o.getD s.toNat 0 + 1)) out
def leavesG : Int → List Int → List Nd
  | _, [] => []
  | i, x :: r => cond (decide (0 < x)) (nd x 1 i [i] :: leavesG (i + 1) r) (leavesG (i + 1) r)
def leaves (l : List Int) : List Nd := leavesG 0 l
def mrgX (xs : List Nd) (made : Nat) : Nd := nd (ndC (topX xs) + ndC (topX (restX xs))) 0 made (ndS (topX xs) ++ ndS (topX (restX xs)))
def stepD (st : List Int × List Nd) (made : Nat) : List Int × List Nd := (incAll st.1 (ndS (mrgX st.2 made)), restX (restX st.2) ++ [mrgX st.2 made])
def runD (l : List Int) : Nat → List Int × List Nd
  | 0 => (List.replicate l.length 0, leaves l)
  | j + 1 => stepD (runD l j) j
def depL (l : List Int) : List Int := (runD l ((leaves l).length - 1)).1
def halfC (c : Int) : Int := (c + 1).tdiv 2
def okD (out : List Int) : Bool := out.all fun d => decide (d ≤ 11)
def ofF : Nat → List Int → List Int
  | 0, l => depL l
  | f + 1, l => cond (okD (depL l)) (depL l) (ofF f (l.map halfC))
def sumL (l : List Int) : Int := l.sum
def ofL (l : List Int) : List Int := ofF ((sumL l).toNat + 1) l
def halfs (l : List Int) : Nat → List Int
  | 0 => l
  | j + 1 => (halfs l j).map halfC
def halfP (l : List Int) (i : Nat) : List Int := (l.take i).map halfC ++ l.drop i
def nzL (l : List Int) : Int := l.foldl (fun s x => cond (x != 0) (s + 1) s) 0
/-- counts that Depths takes -/
def cntsOk (l : List Int) : Bool := l.all (fun x => decide (0 ≤ x)) && decide (sumL l ≤ 1099511627776)
/-! ### the kit's -/
def md (x m : Int) : Int := cond (decide (m < 1)) 0 (x % m)
def atL (l : List Int) (i : Int) : Int := cond (decide (i < 0) || decide ((l.length : Int) ≤ i)) 0 (l.getD i.toNat 0)
def cntK (k : Int) : Int := cond (decide (0 < k.tmod 3)) (2 ^ ((k.tdiv 3).tmod 12).toNat) 0
def cntX (x : Int) : Int := cntK (md x 1048576)
def cntsP (nums : List Int) (i : Nat) : List Int := [1 + md (atL nums 0) 9, 1 + md (atL nums 1) 9] ++ ((nums.take i).drop 2).map cntX
def cntsN (nums : List Int) : List Int := cntsP nums (max 2 (min nums.length 40))
def lensN (nums : List Int) : List Int := ofL (cntsN nums)
end Go.Proofs.Ytfbdocfhgjfboaa
/-
  The verifier's lengths made of numbers: contracts and loops. Conditions: none (definitions).
-/
namespace Go.Proofs.Ytfbdocfhgjfboaa
open Go Go.RowKit
set_option linter.unusedVariables false
set_option linter.unusedSimpArgs false
set_option maxRecDepth 100000
def ndSh : List Sh := [.i, .b, .i, .l]
def sBd : Spec where
  ι := Int
  dec l H := match l with
    | [.v (.int .i64 n)] => some (n, [])
    | _ => none
  args := fun n => [.v (.int .i64 n)]
  out := fun n => .leaf (.v (.bool (okCnt n))) []
theorem sBd_enc : ∀ l H n i ls, sBd.dec l H = some (i, ls) → l = renL (rho ls n) (sBd.args i) ∧ givenHp H ls = renH (rho ls n) (sBd.hp i) := by
  intro l H n i ls h
  simp only [sBd] at h
  repeat' split at h
  all_goals first
    | (cases h; done)
    | (cases h; exact ⟨rfl, rfl⟩)
def sPlus : Spec where
  ι := Int × Int
  dec l H := match l with
    | [.v (.int .i64 a), .v (.int .i64 b)] => some ((a, b), [])
    | _ => none
  args := fun (a, b) => [.v (.int .i64 a), .v (.int .i64 b)]
  pre := fun (a, b) => [⟨okCnt a = true, inferInstance⟩, ⟨okCnt b = true, inferInstance⟩, ⟨okCnt (a + b) = true, inferInstance⟩]
  out := fun (a, b) => .leaf (.tu [.v (.int .i64 (a + b)), .v (.int .i64 0)]) []
theorem sPlus_enc : ∀ l H n i ls, sPlus.dec l H = some (i, ls) → l = renL (rho ls n) (sPlus.args i) ∧ givenHp H ls = renH (rho ls n) (sPlus.hp i) := by
  intro l H n i ls h
  simp only [sPlus] at h
  repeat' split at h
  all_goals first
    | (cases h; done)
    | (cases h; exact ⟨rfl, rfl⟩)
def sSum : Spec where
  ι := List Int
  dec l H := match l with
    | [.dat (.ints .i64 l)] => some (l, [])
    | _ => none
  args := fun l => [.dat (.ints .i64 l)]
  pre := fun l => [⟨l.length ≤ 4294967296, inferInstance⟩, ⟨cntsOk l = true, inferInstance⟩]
  out := fun l => .leaf (.tu [.v (.int .i64 (sumL l)), .v (.int .i64 0)]) []
theorem sSum_enc : ∀ l H n i ls, sSum.dec l H = some (i, ls) → l = renL (rho ls n) (sSum.args i) ∧ givenHp H ls = renH (rho ls n) (sSum.hp i) := by
  intro l H n i ls h
  simp only [sSum] at h
  repeat' split at h
  all_goals first
    | (cases h; done)
    | (cases h; exact ⟨rfl, rfl⟩)
def sChkd : Spec where
  ι := List Int
  dec l H := match l with
    | [.dat (.ints .i64 l)] => some (l, [])
    | _ => none
  args := fun l => [.dat (.ints .i64 l)]
  pre := fun l => [⟨l.length ≤ 256, inferInstance⟩, ⟨cntsOk l = true, inferInstance⟩]
  out := fun l => .leaf (.v (.int .i64 0)) []
theorem sChkd_enc : ∀ l H n i ls, sChkd.dec l H = some (i, ls) → l = renL (rho ls n) (sChkd.args i) ∧ givenHp H ls = renH (rho ls n) (sChkd.hp i) := by
  intro l H n i ls h
  simp only [sChkd] at h
  repeat' split at h
  all_goals first
    | (cases h; done)
    | (cases h; exact ⟨rfl, rfl⟩)
def sNz : Spec where
  ι := List Int
  dec l H := match l with
    | [.dat (.ints .i64 l)] => some (l, [])
    | _ => none
  args := fun l => [.dat (.ints .i64 l)]
  pre := fun l => [⟨l.length ≤ 4294967296, inferInstance⟩]
  out := fun l => .leaf (.v (.int .i64 (nzL l))) []
theorem sNz_enc : ∀ l H n i ls, sNz.dec l H = some (i, ls) → l = renL (rho ls n) (sNz.args i) ∧ givenHp H ls = renH (rho ls n) (sNz.hp i) := by
  intro l H n i ls h
  simp only [sNz] at h
  repeat' split at h
  all_goals first
    | (cases h; done)
    | (cases h; exact ⟨rfl, rfl⟩)
def sAsked : Spec where
  ι := List Int
  dec l H := match l with
    | [.dat (.ints .i64 l)] => some (l, [])
    | _ => none
  args := fun l => [.dat (.ints .i64 l)]
  pre := fun l => [⟨l.length ≤ 256, inferInstance⟩, ⟨cntsOk l = true, inferInstance⟩, ⟨2 ≤ (leaves l).length, inferInstance⟩]
  out := fun l => .leaf (.v (.int .i64 0)) []
theorem sAsked_enc : ∀ l H n i ls, sAsked.dec l H = some (i, ls) → l = renL (rho ls n) (sAsked.args i) ∧ givenHp H ls = renH (rho ls n) (sAsked.hp i) := by
  intro l H n i ls h
  simp only [sAsked] at h
  repeat' split at h
  all_goals first
    | (cases h; done)
    | (cases h; exact ⟨rfl, rfl⟩)
def sBef : Spec where
  ι := Int × Bool × Int × List Int × Int × Bool × Int × List Int
  dec l H := match l with
    | [.ag [.v (.int .i64 c1), .v (.bool f1), .v (.int .i64 n1), .dat (.ints .i64 s1)], .ag [.v (.int .i64 c2), .v (.bool f2), .v (.int .i64 n2), .dat (.ints .i64 s2)]] => some ((c1, f1, n1, s1, c2, f2, n2, s2), [])
    | _ => none
  args := fun (c1, f1, n1, s1, c2, f2, n2, s2) => [.ag [.v (.int .i64 c1), .v (.bool f1), .v (.int .i64 n1), .dat (.ints .i64 s1)], .ag [.v (.int .i64 c2), .v (.bool f2), .v (.int .i64 n2), .dat (.ints .i64 s2)]]
  out := fun (c1, f1, n1, s1, c2, f2, n2, s2) => .leaf (.v (.bool (befB c1 f1 n1 c2 f2 n2))) []
theorem sBef_enc : ∀ l H n i ls, sBef.dec l H = some (i, ls) → l = renL (rho ls n) (sBef.args i) ∧ givenHp H ls = renH (rho ls n) (sBef.hp i) := by
  intro l H n i ls h
  simp only [sBef] at h
  repeat' split at h
  all_goals first
    | (cases h; done)
    | (cases h; exact ⟨rfl, rfl⟩)
def sFirst : Spec where
  ι := List Nd
  own := true
  dec l H := match l with
    | [.o l0] => match H l0 with
      | some (.row 137 (.mix [.i, .b, .i, .l] xs)) => some (xs, [l0])
      | _ => none
    | _ => none
  args := fun xs => [.o 0]
  hp := fun xs => [(0, .row 137 (.mix [.i, .b, .i, .l] xs))]
  pre := fun xs => [⟨1 ≤ xs.length, inferInstance⟩, ⟨xs.length ≤ 65536, inferInstance⟩]
  out := fun xs => .leaf (.tu [.ag [.v (.int .i64 (ndC (topX xs))), .v (.bool (ndF (topX xs))), .v (.int .i64 (ndN (topX xs))), .dat (.ints .i64 (ndS (topX xs)))], .o 2000]) [(0, .row 137 (.mix [.i, .b, .i, .l] xs)), (2000, .row 137 (.mix [.i, .b, .i, .l] (restX xs)))]
theorem sFirst_enc : ∀ l H n i ls, sFirst.dec l H = some (i, ls) → l = renL (rho ls n) (sFirst.args i) ∧ givenHp H ls = renH (rho ls n) (sFirst.hp i) := by
  intro l H n i ls h
  simp only [sFirst] at h
  repeat' split at h
  all_goals first
    | (cases h; done)
    | (cases h; exact ⟨rfl, rfl⟩)
    | (cases h; refine ⟨rfl, ?_⟩; simp only [givenHp, List.filterMap_cons, List.filterMap_nil, Option.map, *]; rfl)
def sDepths : Spec where
  ι := List Int
  dec l H := match l with
    | [.dat (.ints .i64 l)] => some (l, [])
    | _ => none
  args := fun l => [.dat (.ints .i64 l)]
  pre := fun l => [⟨l.length ≤ 256, inferInstance⟩, ⟨cntsOk l = true, inferInstance⟩, ⟨2 ≤ (leaves l).length, inferInstance⟩]
  out := fun l => .leaf (.o 2000) [(2000, .row 3 (.ints .i64 (depL l)))]
theorem sDepths_enc : ∀ l H n i ls, sDepths.dec l H = some (i, ls) → l = renL (rho ls n) (sDepths.args i) ∧ givenHp H ls = renH (rho ls n) (sDepths.hp i) := by
  intro l H n i ls h
  simp only [sDepths] at h
  repeat' split at h
  all_goals first
    | (cases h; done)
    | (cases h; exact ⟨rfl, rfl⟩)
def sOf : Spec where
  ι := List Int
  dec l H := match l with
    | [.dat (.ints .i64 l)] => some (l, [])
    | _ => none
  args := fun l => [.dat (.ints .i64 l)]
  pre := fun l => [⟨l.length ≤ 40, inferInstance⟩, ⟨cntsOk l = true, inferInstance⟩, ⟨2 ≤ (leaves l).length, inferInstance⟩]
  out := fun l => .leaf (.tu [.o 2000, .v (.int .i64 0)]) [(2000, .row 3 (.ints .i64 (ofL l)))]
theorem sOf_enc : ∀ l H n i ls, sOf.dec l H = some (i, ls) → l = renL (rho ls n) (sOf.args i) ∧ givenHp H ls = renH (rho ls n) (sOf.hp i) := by
  intro l H n i ls h
  simp only [sOf] at h
  repeat' split at h
  all_goals first
    | (cases h; done)
    | (cases h; exact ⟨rfl, rfl⟩)
def sMd : Spec where
  ι := Int × Int
  dec l H := match l with
    | [.v (.int .i64 x), .v (.int .i64 m)] => some ((x, m), [])
    | _ => none
  args := fun (x, m) => [.v (.int .i64 x), .v (.int .i64 m)]
  pre := fun (x, m) => [⟨m ≤ 4611686018427387904, inferInstance⟩]
  out := fun (x, m) => .leaf (.v (.int .i64 (md x m))) []
theorem sMd_enc : ∀ l H n i ls, sMd.dec l H = some (i, ls) → l = renL (rho ls n) (sMd.args i) ∧ givenHp H ls = renH (rho ls n) (sMd.hp i) := by
  intro l H n i ls h
  simp only [sMd] at h
  repeat' split at h
  all_goals first
    | (cases h; done)
    | (cases h; exact ⟨rfl, rfl⟩)
def sAtL : Spec where
  ι := List Int × Int
  dec l H := match l with
    | [.dat (.ints .i64 l), .v (.int .i64 i)] => some ((l, i), [])
    | _ => none
  args := fun (l, i) => [.dat (.ints .i64 l), .v (.int .i64 i)]
  out := fun (l, i) => .leaf (.v (.int .i64 (atL l i))) []
theorem sAtL_enc : ∀ l H n i ls, sAtL.dec l H = some (i, ls) → l = renL (rho ls n) (sAtL.args i) ∧ givenHp H ls = renH (rho ls n) (sAtL.hp i) := by
  intro l H n i ls h
  simp only [sAtL] at h
  repeat' split at h
  all_goals first
    | (cases h; done)
    | (cases h; exact ⟨rfl, rfl⟩)
def sLens : Spec where
  ι := List Int
  dec l H := match l with
    | [.dat (.ints .i64 nums)] => some (nums, [])
    | _ => none
  args := fun nums => [.dat (.ints .i64 nums)]
  out := fun nums => .leaf (.o 2000) [(2000, .row 3 (.ints .i64 (lensN nums)))]
theorem sLens_enc : ∀ l H n i ls, sLens.dec l H = some (i, ls) → l = renL (rho ls n) (sLens.args i) ∧ givenHp H ls = renH (rho ls n) (sLens.hp i) := by
  intro l H n i ls h
  simp only [sLens] at h
  repeat' split at h
  all_goals first
    | (cases h; done)
    | (cases h; exact ⟨rfl, rfl⟩)
/-! ### loops -/
def oSum (l : List Int) : LoopInv := { ι := Nat, p := fun i => i ≤ l.length, tm := fun i => [(0, .dat (.ints .i64 l)), (4, .v (.int .i64 (sumL (l.take i)))), (5, .v (.int .i64 (i : Nat)))], hp := fun _ => [], μ := fun i => l.length - i }
def oNz (l : List Int) : LoopInv := { ι := Nat, p := fun i => i ≤ l.length, tm := fun i => [(0, .dat (.ints .i64 l)), (3, .v (.int .i64 (nzL (l.take i)))), (4, .v (.int .i64 (i : Nat)))], hp := fun _ => [], μ := fun i => l.length - i }
def oFirst (xs : List Nd) : LoopInv := { ι := Nat, p := fun i => 1 ≤ i ∧ i ≤ xs.length, tm := fun i => [(0, .o 0), (2, .p 5001 0 0), (4, .v (.int .i64 (bestI xs i : Nat))), (5, .v (.int .i64 (i : Nat)))], hp := fun i => [(0, .row 137 (.mix [.i, .b, .i, .l] xs)), (5001, .cells 137 [.v (.int .i64 0), .v (.bool false), .v (.int .i64 0), .v (.slice none 0 0)])], μ := fun i => xs.length - i }
def oDepA (l : List Int) : LoopInv := { ι := Nat, p := fun i => i ≤ l.length, tm := fun i => [(0, .dat (.ints .i64 l)), (3, .o 5000), (4, .o 5001), (5, .v (.int .i64 (i : Nat)))], hp := fun i => [(5000, .row 3 (.ints .i64 (List.replicate l.length 0))), (5001, .row 137 (.mix [.i, .b, .i, .l] (leaves (l.take i))))], μ := fun i => l.length - i }
def oDepB (l : List Int) : LoopInv := { ι := Nat, p := fun j => j + 1 ≤ (leaves l).length, tm := fun j => [(3, .o 5000), (4, .o 5001), (6, .v (.int .i64 (j : Nat)))], hp := fun j => [(5000, .row 3 (.ints .i64 (runD l j).1)), (5001, .row 137 (.mix [.i, .b, .i, .l] (runD l j).2))], μ := fun j => (leaves l).length - j }
def oDepC (l : List Int) (j : Nat) : LoopInv := { ι := Nat, p := fun k => j + 2 ≤ (leaves l).length ∧ k ≤ (ndS (mrgX (runD l j).2 j)).length, tm := fun k => [(3, .o 5000), (8, .o 5001), (6, .v (.int .i64 (j : Nat))), (10, .p 5002 0 0), (11, .v (.int .i64 (k : Nat)))], hp := fun k => [(5000, .row 3 (.ints .i64 (incAll (runD l j).1 ((ndS (mrgX (runD l j).2 j)).take k)))), (5001, .row 137 (.mix [.i, .b, .i, .l] (restX (restX (runD l j).2)))), (5002, .cells 137 [.v (.int .i64 (ndC (mrgX (runD l j).2 j))), .v (.bool false), .v (.int .i64 (j : Nat)), .o 5003]), (5003, .row 3 (.ints .i64 (ndS (mrgX (runD l j).2 j))))], μ := fun k => (ndS (mrgX (runD l j).2 j)).length - k }
def oDep (l : List Int) : Nat → Option LoopFam := fun k => cond (Nat.beq k 0) (some (.one (oDepA l))) (cond (Nat.beq k 1) (some (.one (oDepB l))) (cond (Nat.beq k 2) (some (.fam Nat fun j => oDepC l j)) none))
def ofP (l : List Int) (j : Nat) : Prop := (j : Int) + sumL (halfs l j) ≤ sumL l ∧ ofF ((sumL l).toNat + 1 - j) (halfs l j) = ofL l
def oOfA (l : List Int) : LoopInv := { ι := Nat, p := fun j => ofP l j, tm := fun j => [(5, .o 5000)], hp := fun j => [(5000, .row 3 (.ints .i64 (halfs l j)))], μ := fun j => (sumL l).toNat - j }
def oOfB (l : List Int) (j : Nat) : LoopInv := { ι := Nat, p := fun i => ofP l j ∧ i ≤ (depL (halfs l j)).length, tm := fun i => [(5, .o 5000), (6, .o 5001), (7, .v (.bool (!okD ((depL (halfs l j)).take i)))), (8, .v (.int .i64 (i : Nat)))], hp := fun i => [(5000, .row 3 (.ints .i64 (halfs l j))), (5001, .row 3 (.ints .i64 (depL (halfs l j))))], μ := fun i => (depL (halfs l j)).length - i }
def oOfC (l : List Int) (j : Nat) : LoopInv := { ι := Nat, p := fun i => ofP l j ∧ okD (depL (halfs l j)) = false ∧ i ≤ (halfs l j).length, tm := fun i => [(5, .o 5000), (9, .v (.int .i64 (i : Nat)))], hp := fun i => [(5000, .row 3 (.ints .i64 (halfP (halfs l j) i)))], μ := fun i => (halfs l j).length - i }
def oOf (l : List Int) : Nat → Option LoopFam := fun k => cond (Nat.beq k 0) (some (.one (oOfA l))) (cond (Nat.beq k 1) (some (.fam Nat fun j => oOfB l j)) (cond (Nat.beq k 2) (some (.fam Nat fun j => oOfC l j)) none))
def oLens (nums : List Int) : LoopInv := { ι := Nat, p := fun i => 2 ≤ i ∧ i ≤ 40 ∧ i ≤ max 2 nums.length, tm := fun i => [(0, .dat (.ints .i64 nums)), (3, .o 5000), (4, .v (.int .i64 (i : Nat)))], hp := fun i => [(5000, .row 3 (.ints .i64 (cntsP nums i)))], μ := fun i => 40 - i }
/-! ### tables -/
def G7a : List (Nat × Ctr) := (159, sBd.ctr) :: (138, sBef.ctr) :: (114, sNz.ctr) :: (19, sMd.ctr) :: (36, sAtL.ctr) :: []
def G7b : List (Nat × Ctr) := (154, sPlus.ctr) :: (115, sFirst.ctr) :: G7a
def G7c : List (Nat × Ctr) := (137, sSum.ctr) :: (89, sDepths.ctr) :: G7b
def G7d : List (Nat × Ctr) := (113, sChkd.ctr) :: G7c
def G7e : List (Nat × Ctr) := (88, sAsked.ctr) :: G7d
def G7f : List (Nat × Ctr) := (60, sOf.ctr) :: G7e
/-! ### conditions
--%VC bd7 ;; (n : Int) ;; [] ;; fun _ => none ;; ref01.bounded ;; [.v (.int .i64 n)] ;; [] ;; (.v (.bool (okCnt n))) ;; []
--%VC bef7 ;; (c1 : Int) (f1 : Bool) (n1 : Int) (s1 : List Int) (c2 : Int) (f2 : Bool) (n2 : Int) (s2 : List Int) ;; [] ;; fun _ => none ;; ref13.before ;; [.ag [.v (.int .i64 c1), .v (.bool f1), .v (.int .i64 n1), .dat (.ints .i64 s1)], .ag [.v (.int .i64 c2), .v (.bool f2), .v (.int .i64 n2), .dat (.ints .i64 s2)]] ;; [] ;; (.v (.bool (befB c1 f1 n1 c2 f2 n2))) ;; []
--%VC nz7 ;; (l : List Int) ;; [] ;; one6 (oNz l) ;; ref13.many ;; [.dat (.ints .i64 l)] ;; [] ;; (.v (.int .i64 (nzL l))) ;; []
--%VC md7 ;; (x m : Int) ;; [] ;; fun _ => none ;; kit.Mod ;; [.v (.int .i64 x), .v (.int .i64 m)] ;; [] ;; (.v (.int .i64 (md x m))) ;; []
--%VC at7 ;; (l : List Int) (i : Int) ;; [] ;; fun _ => none ;; kit.At ;; [.dat (.ints .i64 l), .v (.int .i64 i)] ;; [] ;; (.v (.int .i64 (atL l i))) ;; []
--%VC plus7 ;; (a b : Int) ;; G7a ;; fun _ => none ;; ref01.Plus ;; [.v (.int .i64 a), .v (.int .i64 b)] ;; [] ;; (.tu [.v (.int .i64 (a + b)), .v (.int .i64 0)]) ;; []
--%VC first7 ;; (xs : List Nd) ;; G7a ;; one6 (oFirst xs) ;; ref13.first ;; [.o 0] ;; [(0, .row 137 (.mix [.i, .b, .i, .l] xs))] ;; (.tu [.ag [.v (.int .i64 (ndC (topX xs))), .v (.bool (ndF (topX xs))), .v (.int .i64 (ndN (topX xs))), .dat (.ints .i64 (ndS (topX xs)))], .o 2000]) ;; [(0, .row 137 (.mix [.i, .b, .i, .l] xs)), (2000, .row 137 (.mix [.i, .b, .i, .l] (restX xs)))]
--%VC sum7 ;; (l : List Int) ;; G7b ;; one6 (oSum l) ;; ref01.Sum ;; [.dat (.ints .i64 l)] ;; [] ;; (.tu [.v (.int .i64 (sumL l)), .v (.int .i64 0)]) ;; []
--%VC dep7 ;; (l : List Int) ;; G7b ;; oDep l ;; ref13.depths ;; [.dat (.ints .i64 l)] ;; [] ;; (.o 2000) ;; [(2000, .row 3 (.ints .i64 (depL l)))]
--%VC chkd7 ;; (l : List Int) ;; G7c ;; fun _ => none ;; ref13.checked ;; [.dat (.ints .i64 l)] ;; [] ;; (.v (.int .i64 0)) ;; []
--%VC asked7 ;; (l : List Int) ;; G7d ;; fun _ => none ;; ref13.asked ;; [.dat (.ints .i64 l)] ;; [] ;; (.v (.int .i64 0)) ;; []
--%VC of7 ;; (l : List Int) ;; G7e ;; oOf l ;; ref13.Of ;; [.dat (.ints .i64 l)] ;; [] ;; (.tu [.o 2000, .v (.int .i64 0)]) ;; [(2000, .row 3 (.ints .i64 (ofL l)))]
--%VC lens7 ;; (nums : List Int) ;; G7f ;; one6 (oLens nums) ;; kit.Lengths ;; [.dat (.ints .i64 nums)] ;; [] ;; (.o 2000) ;; [(2000, .row 3 (.ints .i64 (lensN nums)))]
-/
end Go.Proofs.Ytfbdocfhgjfboaa
/-
  Chapter 16: symbols by their place in the order, counts made of numbers. Conditions: none (definitions).
-/
namespace Go.Proofs.Ytfbdocfhgjfboaa
open Go Go.RowKit
set_option linter.unusedVariables false
/-- symbol i of the order: its number, its length, where its cells begin, how many they are -/
def kI (l : List Int) (i : Nat) : Nat := ((symI l i).getD 0 0).toNat
def bI (l : List Int) (i : Nat) : Int := l.getD (kI l i) 0
def aI (l : List Int) (i : Nat) : Nat := (atF (gmx l) (ordS l) i).toNat
def wI (l : List Int) (i : Nat) : Nat := wid (gmx l) (symI l i)
def nI (l : List Int) : Nat := (ordS l).length
def adX (l a : List Int) (k : Nat) : Int := cond (l.getD k 0 == 0) 0 (md (atL a k) 1000)
def adL (l a : List Int) : Nat → List Int
  | 0 => []
  | i + 1 => adL l a i ++ [adX l a i]
def adB (l a b : List Int) : Nat → List Int
  | 0 => []
  | i + 1 => adB l a b i ++ [adX l a i + adX l b i]
end Go.Proofs.Ytfbdocfhgjfboaa
/-
  Chapter 16: the laws on codes made of numbers, as conditions. Conditions: none (definitions).
-/
namespace Go.Proofs.Ytfbdocfhgjfboaa
open Go Go.RowKit
set_option linter.unusedVariables false
set_option linter.unusedSimpArgs false
set_option maxRecDepth 100000
/-- the law on starts: from the cell on -/
def oStC (l : List Int) (i c : Nat) : LoopInv := { ι := Unit, p := fun _ => i < nI l ∧ aI l i ≤ c ∧ c < aI l i + wI l i, tm := fun _ => [(6, .o 5001), (8, .v (.int .i64 (mostI l))), (10, .o 5002), (12, .v (.int .i64 (c : Nat))), (13, .v (.int .i64 (kI l i : Nat)))], hp := fun _ => [(5001, .row 38 (.recs 2 (codL l))), (5002, .row 36 (.recs 3 (tblL l)))], μ := fun _ => 0 }
def oSt (l : List Int) (i : Nat) : LoopInv := { ι := Nat, p := fun k => i < nI l ∧ k ≤ l.length, tm := fun k => [(6, .o 5001), (13, .v (.int .i64 (kI l i : Nat))), (14, .v (.int .i64 (k : Nat)))], hp := fun k => [(5001, .row 38 (.recs 2 (codL l)))], μ := fun k => l.length - k }
def oSts (l : List Int) : Nat → Option LoopFam := fun k => cond (Nat.beq k 0) (some (.fam Nat fun i => oSt l i)) (cond (Nat.beq k 1009) (some (.fam (Nat × Nat) fun x => oStC l x.1 x.2)) none)
def hpCe (l : List Int) : List (Nat × SBlk) := [(5000, .row 3 (.ints .i64 l)), (5001, .row 36 (.recs 3 (tblL l))), (5002, .row 38 (.recs 2 (codL l)))]
def oCeA (l : List Int) : LoopInv := { ι := Nat, p := fun r => r ≤ nI l, tm := fun r => [(3, .o 5000), (4, .o 5001), (6, .o 5002), (8, .v (.int .i64 (mostI l))), (10, .v (.int .i64 (aI l r : Nat)))], hp := fun r => hpCe l, μ := fun r => nI l - r }
def oCeB (l : List Int) (r : Nat) : LoopInv := { ι := Nat, p := fun k => r < nI l ∧ k ≤ wI l r, tm := fun k => [(3, .o 5000), (4, .o 5001), (6, .o 5002), (8, .v (.int .i64 (mostI l))), (10, .v (.int .i64 (aI l r : Nat))), (11, .v (.int .i64 (kI l r : Nat))), (12, .v (.int .i64 (wI l r : Nat))), (13, .v (.int .i64 (k : Nat)))], hp := fun k => hpCe l, μ := fun k => wI l r - k }
def oCeC (l : List Int) (r : Nat) : LoopInv := { ι := Unit, p := fun _ => r < nI l, tm := fun _ => [(3, .o 5000), (4, .o 5001), (6, .o 5002), (8, .v (.int .i64 (mostI l))), (10, .v (.int .i64 (aI l r : Nat))), (11, .v (.int .i64 (kI l r : Nat)))], hp := fun k => hpCe l, μ := fun _ => 0 }
def oCeD (l : List Int) (r : Nat) : LoopInv := { ι := Unit, p := fun _ => r + 1 < nI l, tm := fun _ => [(3, .o 5000), (4, .o 5001), (6, .o 5002), (8, .v (.int .i64 (mostI l))), (10, .v (.int .i64 (aI l (r + 1) : Nat))), (11, .v (.int .i64 (kI l r : Nat))), (14, .v (.int .i64 (kI l (r + 1) : Nat)))], hp := fun k => hpCe l, μ := fun _ => 0 }
def oCe (l : List Int) : Nat → Option LoopFam := fun k => cond (Nat.beq k 0) (some (.one (oCeA l))) (cond (Nat.beq k 1) (some (.fam Nat fun r => oCeB l r)) (cond (Nat.beq k 1010) (some (.fam Nat fun r => oCeC l r)) (cond (Nat.beq k 1021) (some (.fam Nat fun r => oCeD l r)) none)))
def oAd (l a b : List Int) : LoopInv := { ι := Nat, p := fun i => i ≤ l.length, tm := fun i => [(1, .dat (.ints .i64 a)), (2, .dat (.ints .i64 b)), (7, .o 5000), (8, .o 5001), (9, .o 5002), (10, .o 5003), (11, .v (.int .i64 (i : Nat)))], hp := fun i => [(5000, .row 3 (.ints .i64 l)), (5001, .row 3 (.ints .i64 (adL l a i))), (5002, .row 3 (.ints .i64 (adL l b i))), (5003, .row 3 (.ints .i64 (adB l a b i)))], μ := fun i => l.length - i }
def G7g : List (Nat × Ctr) := (15, sLens.ctr) :: (19, sMd.ctr) :: (36, sAtL.ctr) :: G6l
/-!
--%VC lawSt7 ;; (nums : List Int) (cell : Int) ;; G7g ;; oSts (lensN nums) ;; law16.CodeStarts ;; [.dat (.ints .i64 nums), .v (.int .i64 cell)] ;; [] ;; (.v (.bool true)) ;; []
--%VC lawCe7 ;; (nums : List Int) ;; G7g ;; oCe (lensN nums) ;; law16.CodeCells ;; [.dat (.ints .i64 nums)] ;; [] ;; (.v (.bool true)) ;; []
--%VC lawAd7 ;; (nums a b : List Int) ;; G7g ;; one6 (oAd (lensN nums) a b) ;; law16.CodeAdds ;; [.dat (.ints .i64 nums), .dat (.ints .i64 a), .dat (.ints .i64 b)] ;; [] ;; (.v (.bool true)) ;; []
-/
end Go.Proofs.Ytfbdocfhgjfboaa

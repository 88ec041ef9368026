/-
  Texts joined: FGt, FH, FI, FJ, FK, FL, FM, FN, FO, FP, FPt, EO, FQ, D8Yf, FRf, FR, HF, HA, HAt, FRt, Kd, FS, FT, HB, HC, HD, HG, HGt, HE, HH, HI, HJf, HJ, HJt, HM, HN, HO, HQ. Conditions: each theorem's own.
-/
import Derived.Test.YtbdgknebimdjoaaK4
import Derived.Test.YtbdgknebimdjoaaK3
namespace Go.Proofs.Ytbdgknebimdjoaa
open Go Go.RowKit
set_option linter.unusedVariables false
set_option maxRecDepth 100000
def noDF_t (x g : Int) (p : List Int) : Prop :=
 (decide (x < (0 : Int)) = true → true = noD p x ∧ g = g ∧ p = p) ∧
 (decide (x < (0 : Int)) = false →
 (decide (x ≥ (↑(List.length p) : Int)) = true → true = noD p x ∧ g = g ∧ p = p) ∧
 (decide (x ≥ (↑(List.length p) : Int)) = false → (0 : Int) ≤ x ∧ x < (↑(List.length p) : Int) ∧ (List.getD p (Int.toNat x) (0 : Int) == (0 : Int)) = noD p x ∧ g = g ∧ p = p))
theorem noDF_e (x g : Int) (p : List Int) : noDF_t x g p = vcG Try.prog (Gof []) (fun _ => none) Try.f111 [.v (.int .i64 x), .p 0 0 0] [(0, .cells 24 [.v (.int .i64 g), .dat (.ints .i64 p)])] (.leaf ((.v (.bool (noD p x)))) ([(0, .cells 24 [.v (.int .i64 g), .dat (.ints .i64 p)])])) := by kernel_rfl
def idxD_t (l : List Int) (g : Int) (p : List Int) : Prop :=
 (∃ (x0 : Nat), (x0 ≤ List.length l ∧ List.any (List.take x0 l) (noD p) = false) ∧ l = l ∧ (↑(List.length l) : Int) = (↑(List.length l) : Int) ∧ (0 : Int) = (↑x0 : Int) ∧ g = g ∧ p = p) ∧
 ∀ (x1 : Nat),
 x1 ≤ List.length l ∧ List.any (List.take x1 l) (noD p) = false →
 (decide ((↑x1 : Int) < (↑(List.length l) : Int)) = true →
 (0 : Int) ≤ (↑x1 : Int) ∧
 (↑x1 : Int) < (↑(List.length l) : Int) ∧
 List.length p ≤ (4294967296 : Nat) ∧
 (noD p (List.getD l (Int.toNat (↑x1 : Int)) (0 : Int)) = true → ((↑x1 : Int) = bif List.any l (noD p) then (↑(List.findIdx (noD p) l) : Int) else (-1 : Int)) ∧ g = g ∧ p = p) ∧
 (noD p (List.getD l (Int.toNat (↑x1 : Int)) (0 : Int)) = false →
 ∃ (y2 : Nat),
 (y2 ≤ List.length l ∧ List.any (List.take y2 l) (noD p) = false) ∧
 Nat.sub (List.length l) y2 < Nat.sub (List.length l) x1 ∧
 l = l ∧ (↑(List.length l) : Int) = (↑(List.length l) : Int) ∧ IntKind.wrap IntKind.i64 ((↑x1 : Int) + (1 : Int)) = (↑y2 : Int) ∧ g = g ∧ p = p)) ∧
 (decide ((↑x1 : Int) < (↑(List.length l) : Int)) = false → ((-1 : Int) = bif List.any l (noD p) then (↑(List.findIdx (noD p) l) : Int) else (-1 : Int)) ∧ g = g ∧ p = p)
theorem idxD_e (l : List Int) (g : Int) (p : List Int) : idxD_t l g p = vcG Try.prog (Gof GFd) (one (oIdxD g p l)) Try.f98 [.dat (.ints .i64 l), .fn (.func 111) [] [.p 0 0 0]] [(0, .cells 24 [.v (.int .i64 g), .dat (.ints .i64 p)])] (.leaf ((.v (.int .i64 (cond (l.any (noD p)) ((l.findIdx (noD p) : Nat) : Int) (-1))))) ([(0, .cells 24 [.v (.int .i64 g), .dat (.ints .i64 p)])])) := by kernel_rfl
def raskF_t (g : Int) (p l : List Int) (c : Int) : Prop :=
 List.length p ≤ (4294967296 : Nat) ∧
 ((dchk g p != (0 : Int)) = true → dchk g p = askE g p l c) ∧
 ((dchk g p != (0 : Int)) = false →
 (decide ((↑(List.length l) : Int) > (100000 : Int)) = true → (4 : Int) = askE g p l c) ∧
 (decide ((↑(List.length l) : Int) > (100000 : Int)) = false →
 (decide ((↑(List.length l) : Int) < c) = true → (5 : Int) = askE g p l c) ∧
 (decide ((↑(List.length l) : Int) < c) = false →
 List.length p ≤ (4294967296 : Nat) ∧
 List.length l ≤ (4294967296 : Nat) ∧ ((!!List.any l (noD p)) = true → (7 : Int) = askE g p l c) ∧ ((!!List.any l (noD p)) = false → (0 : Int) = askE g p l c))))
def hasD_t (l : List Int) (g : Int) (p : List Int) : Prop :=
 List.length l ≤ (4294967296 : Nat) ∧
 List.length p ≤ (4294967296 : Nat) ∧ decide ((bif List.any l (noD p) then (↑(List.findIdx (noD p) l) : Int) else (-1 : Int)) ≥ (0 : Int)) = List.any l (noD p) ∧ g = g ∧ p = p
theorem hasD_e (l : List Int) (g : Int) (p : List Int) : hasD_t l g p = vcG Try.prog (Gof GFe) (fun _ => none) Try.f63 [.dat (.ints .i64 l), .fn (.func 111) [] [.p 0 0 0]] [(0, .cells 24 [.v (.int .i64 g), .dat (.ints .i64 p)])] (.leaf ((.v (.bool (l.any (noD p))))) ([(0, .cells 24 [.v (.int .i64 g), .dat (.ints .i64 p)])])) := by kernel_rfl
def covF_t (g : Int) (p l : List Int) : Prop :=
 List.length l ≤ (4294967296 : Nat) ∧ List.length p ≤ (4294967296 : Nat) ∧ (!List.any l (noD p)) = !List.any l (noD p)
theorem covF_e (g : Int) (p l : List Int) : covF_t g p l = vcG Try.prog (Gof GFf) (fun _ => none) Try.f81 [.ag [.v (.int .i64 g), .dat (.ints .i64 p)], .dat (.ints .i64 l)] [] (.leaf ((.v (.bool (!l.any (noD p))))) ([])) := by kernel_rfl
def fwrF_t (g : Int) (p l : List Int) (c : Nat) : Prop :=
 List.length p ≤ (4294967296 : Nat) ∧
 ∃ (y0 : Unit),
 ISat Try.prog ((139 : Nat)) [SV.p (600008 : Nat) (0 : Nat) (0 : Nat)] [((600008 : Nat), SBlk.cells (22 : TypeId) [SV.dat (Dat.ints IntKind.i64 l)])]
 (List.map (fun (k : Nat) => [Value.int IntKind.i64 (↑(nthI l k) : Int), Value.int IntKind.i64 (nthS l k)]) (List.range (List.length l))) ∧
 l = l ∧
 True ∧
 (g = g ∧
 p = p ∧
 (↑c : Int) = (↑c : Int) ∧
 ByteArray.empty = ByteArray.empty ∧
 (0 : Int) = (0 : Int) ∧
 (0 : Int) = (0 : Int) ∧
 encG g p = g ∧
 encL g p = encL g p ∧
 ByteArray.empty = fwS g (encL g p) l c (0 : Nat) ∧
 (0 : Int) = fwP g (encL g p) l c (0 : Nat) ∧
 (0 : Int) = fwN g (encL g p) l c (0 : Nat) ∧ List.replicate (2 : Nat) (0 : Int) = fwX g (encL g p) l c (0 : Nat) ∧ List.replicate (2 : Nat) false = fwG l c (0 : Nat)) ∧
 (∀ (i1 : Nat),
 i1 < List.length (List.map (fun (k : Nat) => [Value.int IntKind.i64 (↑(nthI l k) : Int), Value.int IntKind.i64 (nthS l k)]) (List.range (List.length l))) →
 True →
 (List.map (fun (k : Nat) => [Value.int IntKind.i64 (↑(nthI l k) : Int), Value.int IntKind.i64 (nthS l k)]) (List.range (List.length l)))[i1]? =
 some [Value.int IntKind.i64 (↑(nthI l i1) : Int), Value.int IntKind.i64 (nthS l i1)] ∧
 List.length [Value.int IntKind.i64 (↑(nthI l i1) : Int), Value.int IntKind.i64 (nthS l i1)] = List.length #[(27 : Nat), (28 : Nat)].toList ∧
 (↑c : Int) ≠ (0 : Int) ∧
 (0 : Int) ≤ Int.tmod (↑(nthI l i1) : Int) (↑c : Int) ∧
 Int.tmod (↑(nthI l i1) : Int) (↑c : Int) < (↑(2 : Nat) : Int) ∧
 Int.toNat (Int.tmod (↑(nthI l i1) : Int) (↑c : Int)) < List.length (fwG l c i1) ∧
 ((!List.getD (fwG l c i1) (Int.toNat (Int.tmod (↑(nthI l i1) : Int) (↑c : Int))) false) = true →
 List.length (encL g p) ≤ (4294967296 : Nat) ∧
 litT g (encL g p) = true ∧
 (0 : Int) ≤ Int.tmod (↑(nthI l i1) : Int) (↑c : Int) ∧
 Int.tmod (↑(nthI l i1) : Int) (↑c : Int) < (↑(2 : Nat) : Int) ∧
 Int.toNat (Int.tmod (↑(nthI l i1) : Int) (↑c : Int)) < List.length (fwX g (encL g p) l c i1) ∧
 (0 : Int) ≤ Int.tmod (↑(nthI l i1) : Int) (↑c : Int) ∧
 Int.tmod (↑(nthI l i1) : Int) (↑c : Int) < (↑(2 : Nat) : Int) ∧
 Int.toNat (Int.tmod (↑(nthI l i1) : Int) (↑c : Int)) < List.length (fwG l c i1) ∧
 True ∧
 g = g ∧
 p = p ∧
 (↑c : Int) = (↑c : Int) ∧
 ByteArray.empty = ByteArray.empty ∧
 (0 : Int) = (0 : Int) ∧
 (0 : Int) = (0 : Int) ∧
 g = g ∧
 encL g p = encL g p ∧
 fwS g (encL g p) l c i1 = fwS g (encL g p) l c (i1 + (1 : Nat)) ∧
 fwP g (encL g p) l c i1 = fwP g (encL g p) l c (i1 + (1 : Nat)) ∧
 fwN g (encL g p) l c i1 = fwN g (encL g p) l c (i1 + (1 : Nat)) ∧
 List.set (fwX g (encL g p) l c i1) (Int.toNat (Int.tmod (↑(nthI l i1) : Int) (↑c : Int))) (frI g (encL g p) (nthS l i1)) =
 fwX g (encL g p) l c (i1 + (1 : Nat)) ∧
 List.set (fwG l c i1) (Int.toNat (Int.tmod (↑(nthI l i1) : Int) (↑c : Int))) true = fwG l c (i1 + (1 : Nat))) ∧
 ((!List.getD (fwG l c i1) (Int.toNat (Int.tmod (↑(nthI l i1) : Int) (↑c : Int))) false) = false →
 (0 : Int) ≤ Int.tmod (↑(nthI l i1) : Int) (↑c : Int) ∧
 Int.tmod (↑(nthI l i1) : Int) (↑c : Int) < (↑(2 : Nat) : Int) ∧
 Int.toNat (Int.tmod (↑(nthI l i1) : Int) (↑c : Int)) < List.length (fwX g (encL g p) l c i1) ∧
 List.length (encL g p) ≤ (4294967296 : Nat) ∧
 litT g (encL g p) = true ∧
 (0 : Int) ≤ fwN g (encL g p) l c i1 ∧
 fwN g (encL g p) l c i1 ≤ (7 : Int) ∧
 (0 : Int) ≤ fwP g (encL g p) l c i1 ∧
 fwP g (encL g p) l c i1 < (2 : Int) ^ Int.toNat (fwN g (encL g p) l c i1) ∧
 (0 : Int) ≤ puB g (encL g p) (List.getD (fwX g (encL g p) l c i1) (Int.toNat (Int.tmod (↑(nthI l i1) : Int) (↑c : Int))) (0 : Int)) (nthS l i1) ∧
 puB g (encL g p) (List.getD (fwX g (encL g p) l c i1) (Int.toNat (Int.tmod (↑(nthI l i1) : Int) (↑c : Int))) (0 : Int)) (nthS l i1) ≤
 (32 : Int) ∧
 (0 : Int) ≤
 IntKind.wrap IntKind.u64
 (puV g (encL g p) (List.getD (fwX g (encL g p) l c i1) (Int.toNat (Int.tmod (↑(nthI l i1) : Int) (↑c : Int))) (0 : Int)) (nthS l i1)) ∧
 IntKind.wrap IntKind.u64
 (puV g (encL g p) (List.getD (fwX g (encL g p) l c i1) (Int.toNat (Int.tmod (↑(nthI l i1) : Int) (↑c : Int))) (0 : Int))
 (nthS l i1)) <
 (2 : Int) ^
 Int.toNat
 (puB g (encL g p) (List.getD (fwX g (encL g p) l c i1) (Int.toNat (Int.tmod (↑(nthI l i1) : Int) (↑c : Int))) (0 : Int))
 (nthS l i1)) ∧
 ByteArray.size (fwS g (encL g p) l c i1) ≤ (1000000 : Nat) ∧
 (0 : Int) ≤ Int.tmod (↑(nthI l i1) : Int) (↑c : Int) ∧
 Int.tmod (↑(nthI l i1) : Int) (↑c : Int) < (↑(2 : Nat) : Int) ∧
 Int.toNat (Int.tmod (↑(nthI l i1) : Int) (↑c : Int)) < List.length (fwX g (encL g p) l c i1) ∧
 True ∧
 g = g ∧
 p = p ∧
 (↑c : Int) = (↑c : Int) ∧
 ByteArray.empty = ByteArray.empty ∧
 (0 : Int) = (0 : Int) ∧
 (0 : Int) = (0 : Int) ∧
 g = g ∧
 encL g p = encL g p ∧
 wS (fwS g (encL g p) l c i1) (fwP g (encL g p) l c i1) (fwN g (encL g p) l c i1)
 (puB g (encL g p)
 (List.getD (fwX g (encL g p) l c i1) (Int.toNat (Int.tmod (↑(nthI l i1) : Int) (↑c : Int))) (0 : Int))
 (nthS l i1))
 (IntKind.wrap IntKind.u64
 (puV g (encL g p)
 (List.getD (fwX g (encL g p) l c i1) (Int.toNat (Int.tmod (↑(nthI l i1) : Int) (↑c : Int))) (0 : Int))
 (nthS l i1))) =
 fwS g (encL g p) l c (i1 + (1 : Nat)) ∧
 wP (fwP g (encL g p) l c i1) (fwN g (encL g p) l c i1)
 (puB g (encL g p)
 (List.getD (fwX g (encL g p) l c i1) (Int.toNat (Int.tmod (↑(nthI l i1) : Int) (↑c : Int))) (0 : Int))
 (nthS l i1))
 (IntKind.wrap IntKind.u64
 (puV g (encL g p)
 (List.getD (fwX g (encL g p) l c i1) (Int.toNat (Int.tmod (↑(nthI l i1) : Int) (↑c : Int)))
 (0 : Int))
 (nthS l i1))) =
 fwP g (encL g p) l c (i1 + (1 : Nat)) ∧
 wN (fwN g (encL g p) l c i1)
 (puB g (encL g p)
 (List.getD (fwX g (encL g p) l c i1) (Int.toNat (Int.tmod (↑(nthI l i1) : Int) (↑c : Int)))
 (0 : Int))
 (nthS l i1)) =
 fwN g (encL g p) l c (i1 + (1 : Nat)) ∧
 List.set (fwX g (encL g p) l c i1) (Int.toNat (Int.tmod (↑(nthI l i1) : Int) (↑c : Int)))
 (puS g (encL g p)
 (List.getD (fwX g (encL g p) l c i1) (Int.toNat (Int.tmod (↑(nthI l i1) : Int) (↑c : Int)))
 (0 : Int))
 (nthS l i1)) =
 fwX g (encL g p) l c (i1 + (1 : Nat)) ∧
 fwG l c i1 = fwG l c (i1 + (1 : Nat)))) ∧
 (True →
 (∃ (x2 : Nat),
 Nat.le x2 c ∧
 IntKind.wrap IntKind.i64 ((↑c : Int) - (1 : Int)) = (↑c : Int) - (1 : Int) - (↑x2 : Int) ∧
 g = g ∧
 p = p ∧
 ByteArray.empty = ByteArray.empty ∧
 (0 : Int) = (0 : Int) ∧
 (0 : Int) = (0 : Int) ∧
 fwS g (encL g p) l c
 (List.length (List.map (fun (k : Nat) => [Value.int IntKind.i64 (↑(nthI l k) : Int), Value.int IntKind.i64 (nthS l k)]) (List.range (List.length l)))) =
 ffS g (encL g p) l c x2 ∧
 fwP g (encL g p) l c
 (List.length (List.map (fun (k : Nat) => [Value.int IntKind.i64 (↑(nthI l k) : Int), Value.int IntKind.i64 (nthS l k)]) (List.range (List.length l)))) =
 ffP g (encL g p) l c x2 ∧
 fwN g (encL g p) l c
 (List.length (List.map (fun (k : Nat) => [Value.int IntKind.i64 (↑(nthI l k) : Int), Value.int IntKind.i64 (nthS l k)]) (List.range (List.length l)))) =
 ffN g (encL g p) l c x2 ∧
 fwX g (encL g p) l c
 (List.length (List.map (fun (k : Nat) => [Value.int IntKind.i64 (↑(nthI l k) : Int), Value.int IntKind.i64 (nthS l k)]) (List.range (List.length l)))) =
 fwX g (encL g p) l c (List.length l)) ∧
 ∀ (x3 : Nat),
 Nat.le x3 c →
 (decide ((↑c : Int) - (1 : Int) - (↑x3 : Int) ≥ (0 : Int)) = true →
 (0 : Int) ≤ (↑c : Int) - (1 : Int) - (↑x3 : Int) ∧
 (↑c : Int) - (1 : Int) - (↑x3 : Int) < (↑(2 : Nat) : Int) ∧
 Int.toNat ((↑c : Int) - (1 : Int) - (↑x3 : Int)) < List.length (fwX g (encL g p) l c (List.length l)) ∧
 (0 : Int) ≤ ffN g (encL g p) l c x3 ∧
 ffN g (encL g p) l c x3 ≤ (7 : Int) ∧
 (0 : Int) ≤ ffP g (encL g p) l c x3 ∧
 ffP g (encL g p) l c x3 < (2 : Int) ^ Int.toNat (ffN g (encL g p) l c x3) ∧
 (0 : Int) ≤ g ∧
 g ≤ (32 : Int) ∧
 (0 : Int) ≤ IntKind.wrap IntKind.u64 (List.getD (fwX g (encL g p) l c (List.length l)) (Int.toNat ((↑c : Int) - (1 : Int) - (↑x3 : Int))) (0 : Int)) ∧
 IntKind.wrap IntKind.u64 (List.getD (fwX g (encL g p) l c (List.length l)) (Int.toNat ((↑c : Int) - (1 : Int) - (↑x3 : Int))) (0 : Int)) <
 (2 : Int) ^ Int.toNat g ∧
 ByteArray.size (ffS g (encL g p) l c x3) ≤ (1000000 : Nat) ∧
 ∃ (y4 : Nat),
 Nat.le y4 c ∧
 Nat.sub c y4 < Nat.sub c x3 ∧
 IntKind.wrap IntKind.i64 ((↑c : Int) - (1 : Int) - (↑x3 : Int) - (1 : Int)) = (↑c : Int) - (1 : Int) - (↑y4 : Int) ∧
 g = g ∧
 p = p ∧
 ByteArray.empty = ByteArray.empty ∧
 (0 : Int) = (0 : Int) ∧
 (0 : Int) = (0 : Int) ∧
 wS (ffS g (encL g p) l c x3) (ffP g (encL g p) l c x3) (ffN g (encL g p) l c x3) g
 (IntKind.wrap IntKind.u64
 (List.getD (fwX g (encL g p) l c (List.length l)) (Int.toNat ((↑c : Int) - (1 : Int) - (↑x3 : Int))) (0 : Int))) =
 ffS g (encL g p) l c y4 ∧
 wP (ffP g (encL g p) l c x3) (ffN g (encL g p) l c x3) g
 (IntKind.wrap IntKind.u64
 (List.getD (fwX g (encL g p) l c (List.length l)) (Int.toNat ((↑c : Int) - (1 : Int) - (↑x3 : Int))) (0 : Int))) =
 ffP g (encL g p) l c y4 ∧
 wN (ffN g (encL g p) l c x3) g = ffN g (encL g p) l c y4 ∧
 fwX g (encL g p) l c (List.length l) = fwX g (encL g p) l c (List.length l)) ∧
 (decide ((↑c : Int) - (1 : Int) - (↑x3 : Int) ≥ (0 : Int)) = false →
 ffS g (encL g p) l c x3 = ffS g (encL g p) l c c ∧ ffP g (encL g p) l c x3 = ffP g (encL g p) l c c ∧ ffN g (encL g p) l c x3 = ffN g (encL g p) l c c))
theorem fwrF_e (g : Int) (p l : List Int) (c : Nat) : fwrF_t g p l c = vcG Try.prog (Gof GFf) (oFw g p l c) Try.f76 [.ag [.v (.int .i64 g), .dat (.ints .i64 p)], .dat (.ints .i64 l), .v (.int .i64 (c : Nat))] [] (.leaf ((.ag [.v (.string (ffS g (encL g p) l c c)), .v (.int .i64 (ffP g (encL g p) l c c)), .v (.int .i64 (ffN g (encL g p) l c c))])) ([])) := by kernel_rfl
def askF_t (g : Int) (p l : List Int) (c : Int) : Prop :=
 List.length p ≤ (4294967296 : Nat) ∧
 ((dchk g p != (0 : Int)) = true → dchk g p = askE g p l c) ∧
 ((dchk g p != (0 : Int)) = false →
 (decide ((↑(List.length l) : Int) > (100000 : Int)) = true → (4 : Int) = askE g p l c) ∧
 (decide ((↑(List.length l) : Int) > (100000 : Int)) = false →
 (decide ((↑(List.length l) : Int) < c) = true → (5 : Int) = askE g p l c) ∧
 (decide ((↑(List.length l) : Int) < c) = false →
 List.length p ≤ (4294967296 : Nat) ∧
 List.length l ≤ (4294967296 : Nat) ∧ ((!!List.any l (noD p)) = true → (7 : Int) = askE g p l c) ∧ ((!!List.any l (noD p)) = false → (0 : Int) = askE g p l c))))
theorem askF_e (g : Int) (p l : List Int) (c : Int) : askF_t g p l c = vcG Try.prog (Gof GFg) (fun _ => none) Try.f75 [.ag [.v (.int .i64 g), .dat (.ints .i64 p)], .dat (.ints .i64 l), .v (.int .i64 c)] [] (.leaf ((.v (.int .i64 (askE g p l c)))) ([])) := by kernel_rfl
def wrt1F_t (g : Int) (p l : List Int) : Prop :=
 List.length p ≤ (4294967296 : Nat) ∧
 List.length l ≤ (4294967296 : Nat) ∧
 ((askE g p l (1 : Int) != (0 : Int)) = true → ByteArray.empty = wrtS g p l (1 : Nat) ∧ askE g p l (1 : Int) = askE g p l (1 : Int)) ∧
 ((askE g p l (1 : Int) != (0 : Int)) = false →
 askE g p l (1 : Int) = (0 : Int) ∧
 ((1 : Int) = (1 : Int) ∨ (1 : Int) = (2 : Int)) ∧
 (0 : Int) ≤ ffN g (encL g p) l (Int.toNat (1 : Int)) (Int.toNat (1 : Int)) ∧
 ffN g (encL g p) l (Int.toNat (1 : Int)) (Int.toNat (1 : Int)) ≤ (7 : Int) ∧
 (0 : Int) ≤ ffP g (encL g p) l (Int.toNat (1 : Int)) (Int.toNat (1 : Int)) ∧
 ffP g (encL g p) l (Int.toNat (1 : Int)) (Int.toNat (1 : Int)) < (2 : Int) ^ Int.toNat (ffN g (encL g p) l (Int.toNat (1 : Int)) (Int.toNat (1 : Int))) ∧
 ByteArray.size (ffS g (encL g p) l (Int.toNat (1 : Int)) (Int.toNat (1 : Int))) ≤ (1000000 : Nat) ∧
 dS (ffS g (encL g p) l (Int.toNat (1 : Int)) (Int.toNat (1 : Int))) (ffP g (encL g p) l (Int.toNat (1 : Int)) (Int.toNat (1 : Int)))
 (ffN g (encL g p) l (Int.toNat (1 : Int)) (Int.toNat (1 : Int))) =
 wrtS g p l (1 : Nat) ∧
 (0 : Int) = askE g p l (1 : Int))
theorem wrt1F_e (g : Int) (p l : List Int) : wrt1F_t g p l = vcG Try.prog (Gof GFh) (fun _ => none) Try.f40 [.ag [.v (.int .i64 g), .dat (.ints .i64 p)], .dat (.ints .i64 l)] [] (.leaf ((.tu [.v (.string (wrtS g p l 1)), .v (.int .i64 (askE g p l 1))])) ([])) := by kernel_rfl
def cosF_t (g : Int) (p l : List Int) : Prop :=
 List.length p ≤ (4294967296 : Nat) ∧
 List.length l ≤ (4294967296 : Nat) ∧
 ((askE g p l (1 : Int) != (0 : Int)) = true → (0 : Int) = cosN g p l ∧ askE g p l (1 : Int) = askE g p l (1 : Int)) ∧
 ((askE g p l (1 : Int) != (0 : Int)) = false →
 askE g p l (1 : Int) = (0 : Int) ∧
 ((1 : Int) = (1 : Int) ∨ (1 : Int) = (2 : Int)) ∧
 IntKind.wrap IntKind.i64
 (IntKind.wrap IntKind.i64 ((8 : Int) * (↑(ByteArray.size (ffS g (encL g p) l (Int.toNat (1 : Int)) (Int.toNat (1 : Int)))) : Int)) +
 ffN g (encL g p) l (Int.toNat (1 : Int)) (Int.toNat (1 : Int))) =
 cosN g p l ∧
 (0 : Int) = askE g p l (1 : Int))
theorem cosF_e (g : Int) (p l : List Int) : cosF_t g p l = vcG Try.prog (Gof GFh) (fun _ => none) Try.f37 [.ag [.v (.int .i64 g), .dat (.ints .i64 p)], .dat (.ints .i64 l)] [] (.leaf ((.tu [.v (.int .i64 (cosN g p l)), .v (.int .i64 (askE g p l 1))])) ([])) := by kernel_rfl
end Go.Proofs.Ytbdgknebimdjoaa
namespace Go.Proofs.Ytbdgknebimdjoaa
open Go Go.RowKit
set_option linter.unusedVariables false
set_option linter.unusedSimpArgs false
set_option maxRecDepth 100000
theorem cellsF_asc (s : Int) : ∀ (a : List Int) (c : Int), (cellsF s c a).Pairwise (fun x y : Int => x < y)
  | [], _ => List.Pairwise.nil
  | x :: r, c => by
    show (cond (x == s) (c :: cellsF s (c + 1) r) (cellsF s (c + 1) r)).Pairwise _
    cases x == s
    · exact cellsF_asc s r (c + 1)
    · refine List.Pairwise.cons (fun y hy => ?_) (cellsF_asc s r (c + 1))
      obtain ⟨i, _, _, rfl⟩ := (cellsF_mem s r (c + 1) y).1 hy
      omega
theorem asc_sorted {l : List Int} (h : l.Pairwise (fun x y : Int => x < y)) : sorted l = true := by
  rw [sorted_iff]
  intro i hi
  have := List.pairwise_iff_getElem.1 h i (i + 1) (by omega) hi (by omega)
  rw [List.getD_eq_getElem?_getD, List.getElem?_eq_getElem (by omega), List.getD_eq_getElem?_getD, List.getElem?_eq_getElem hi]
  simp only [Option.getD_some]
  omega
theorem filt_succ (n : Nat) : ∀ sp : List Int, (sp.filter fun x => decide (0 ≤ x) && decide (x < ((n + 1 : Nat) : Int))).length = (sp.filter fun x => decide (0 ≤ x) && decide (x < (n : Int))).length + sp.count (n : Int)
  | [] => rfl
  | x :: r => by
    have ih := filt_succ n r
    by_cases hx : x = (n : Int)
    · subst hx
      rw [List.filter_cons_of_pos (by simp; omega), List.filter_cons_of_neg (by simp), List.count_cons_self, List.length_cons, ih]
      omega
    · have hc : (x :: r).count (n : Int) = r.count (n : Int) := List.count_cons_of_ne hx
      rw [hc]
      by_cases hy : 0 ≤ x ∧ x < (n : Int)
      · rw [List.filter_cons_of_pos (by simp; omega), List.filter_cons_of_pos (by simp; omega), List.length_cons, List.length_cons, ih]
        omega
      · rw [List.filter_cons_of_neg (by simp; omega), List.filter_cons_of_neg (by simp; omega), ih]
theorem states_flat (sp : List Int) : ∀ n : Nat, (statesL n sp).flatten.length = (sp.filter fun x => decide (0 ≤ x) && decide (x < (n : Int))).length
  | 0 => by
    have : sp.filter (fun x => decide (0 ≤ x) && decide (x < ((0 : Nat) : Int))) = [] := List.filter_eq_nil_iff.2 fun x _ => by simp
    rw [this]
    rfl
  | n + 1 => by
    have e : statesL (n + 1) sp = statesL n sp ++ [cellsL sp (n : Int)] := by unfold statesL; rw [List.range_succ, List.map_append]; rfl
    rw [e, List.flatten_append, List.length_append, states_flat sp n, filt_succ]
    have : [cellsL sp (n : Int)].flatten.length = sp.count (n : Int) := by simp [cellsL, cellsF_len]
    rw [this]
theorem enc_tok {g : Int} {l : List Int} (h : dchk g l = 0) : TOk g (encL g l) := by
  have hd := dchk0 h
  have hsz := szN_bd hd.g5 hd.g12
  rw [(enc_good h).2]
  refine ⟨by have := hd.g5; omega, hd.g12, by rw [← states_all, states_len]; exact hd.n2, List.all_eq_true.2 fun r hr => ?_, ?_, ?_, ?_⟩
  · unfold statesL at hr
    obtain ⟨k, _, rfl⟩ := List.mem_map.1 hr
    exact asc_sorted (cellsF_asc _ _ _)
  · show List.Pairwise _ _
    rw [List.pairwise_flatten]
    refine ⟨fun r hr => ?_, ?_⟩
    · unfold statesL at hr
      obtain ⟨k, _, rfl⟩ := List.mem_map.1 hr
      exact (cellsF_asc _ _ _).imp fun h => by omega
    · unfold statesL
      rw [List.pairwise_map]
      refine List.pairwise_lt_range.imp fun {a b} hab x hx y hy e => ?_
      subst e
      obtain ⟨i, _, h1, h2⟩ := cellsL_mem.1 hx
      obtain ⟨j, _, h3, h4⟩ := cellsL_mem.1 hy
      have : i = j := by omega
      subst this
      omega
  · intro c hc
    obtain ⟨r, hr, hc⟩ := List.mem_flatten.1 hc
    unfold statesL at hr
    obtain ⟨k, _, rfl⟩ := List.mem_map.1 hr
    obtain ⟨i, hi, _, rfl⟩ := cellsL_mem.1 hc
    rw [spr_len] at hi
    omega
  · rw [states_flat]
    have : (spr g l).filter (fun x => decide (0 ≤ x) && decide (x < (l.length : Int))) = spr g l := List.filter_eq_self.2 fun x hx => by
      obtain ⟨i, hi, rfl⟩ := List.getElem_of_mem hx
      rw [spr_len] at hi
      obtain ⟨s, h1, _, h2⟩ := spr_sym hd hi
      rw [List.getD_eq_getElem?_getD, List.getElem?_eq_getElem (by rw [spr_len]; exact hi)] at h2
      simp only [Option.getD_some] at h2
      rw [h2]
      simp
      omega
    rw [this, spr_len]
end Go.Proofs.Ytbdgknebimdjoaa
namespace Go.Proofs.Ytbdgknebimdjoaa
open Go Go.RowKit
set_option linter.unusedVariables false
set_option linter.unusedSimpArgs false
set_option maxRecDepth 100000
theorem noD_neg {p : List Int} {x : Int} (h : decide (x < 0) = true) : noD p x = true := by unfold noD; rw [h]; rfl
theorem noD_big {p : List Int} {x : Int} (h : decide (x ≥ (p.length : Int)) = true) : noD p x = true := by
  unfold noD
  have : decide ((p.length : Int) ≤ x) = true := h
  rw [this, Bool.or_true]
  rfl
theorem noD_in {p : List Int} {x : Int} (h : decide (x < 0) = false) (h2 : decide (x ≥ (p.length : Int)) = false) : (p.getD x.toNat 0 == 0) = noD p x := by
  unfold noD
  have : decide ((p.length : Int) ≤ x) = false := h2
  rw [h, this]
  rfl
theorem noDF_v (x g : Int) (p : List Int) (h0 : p.length ≤ 4294967296) : noDF_t x g p := by
  unfold noDF_t
  refine ⟨fun h => ⟨(noD_neg h).symm, (by first | rfl | trivial), (by first | rfl | trivial)⟩, fun h => ⟨fun h2 => ⟨(noD_big h2).symm, (by first | rfl | trivial), (by first | rfl | trivial)⟩, fun h2 => ⟨?_, ?_, noD_in h h2, (by first | rfl | trivial), (by first | rfl | trivial)⟩⟩⟩
  · simp only [decide_eq_false_iff_not] at h; omega
  · simp only [ge_iff_le, decide_eq_false_iff_not] at h2; omega
theorem idxD_v (l : List Int) (g : Int) (p : List Int) (h0 : l.length ≤ 4294967296) (h1 : p.length ≤ 4294967296) : idxD_t l g p := by
  unfold idxD_t
  refine ⟨⟨0, ⟨by omega, rfl⟩, (by first | rfl | trivial), (by first | rfl | trivial), (by first | rfl | trivial), (by first | rfl | trivial), (by first | rfl | trivial)⟩, fun i ⟨hi, ha⟩ => ⟨fun hlt => ?_, fun hge => ?_⟩⟩
  · have hlt : i < l.length := by simpa using hlt
    simp only [toNat_cast]
    refine ⟨by omega, by omega, h1, fun hn => ?_, fun hn => ?_⟩
    · obtain ⟨k1, k2⟩ := findIdx_at (noD p) l i hlt ha hn
      rw [k1, k2]
      exact ⟨rfl, (by first | rfl | trivial), (by first | rfl | trivial)⟩
    · refine ⟨i + 1, ⟨by omega, ?_⟩, by rw [Nat.sub_eq, Nat.sub_eq]; omega, (by first | rfl | trivial), (by first | rfl | trivial), by rw [wr (by omega) (by omega)]; rfl, (by first | rfl | trivial), (by first | rfl | trivial)⟩
      rw [take_succ l 0 hlt, List.any_append, ha]
      simp only [List.any_cons, List.any_nil, hn]
      rfl
  · have : i = l.length := by simp only [decide_eq_false_iff_not] at hge; omega
    subst this
    rw [List.take_length] at ha
    rw [ha]
    exact ⟨rfl, (by first | rfl | trivial), (by first | rfl | trivial)⟩
theorem hasD_v (l : List Int) (g : Int) (p : List Int) (h0 : l.length ≤ 4294967296) (h1 : p.length ≤ 4294967296) : hasD_t l g p := by
  unfold hasD_t
  refine ⟨h0, h1, ?_, (by first | rfl | trivial), (by first | rfl | trivial)⟩
  cases l.any (noD p)
  · rfl
  · rw [cond_true]; exact decide_eq_true (by omega)
theorem ask_v {g : Int} {p l : List Int} {c : Int} (h0 : p.length ≤ 4294967296) (h1 : l.length ≤ 4294967296) : raskF_t g p l c := by
  unfold raskF_t askE
  refine ⟨h0, fun h => by rw [ne0 h]; rfl, fun h => ?_⟩
  rw [beq0 (eq0 h)]
  refine ⟨fun hl => ?_, fun hl => ⟨fun hc => ?_, fun hc => ⟨h0, h1, fun ha => ?_, fun ha => ?_⟩⟩⟩
  · rw [decide_eq_true (show 100000 < l.length by simp only [gt_iff_lt, decide_eq_true_eq] at hl; omega)]; rfl
  all_goals rw [decide_eq_false (show ¬ 100000 < l.length by simp only [gt_iff_lt, decide_eq_false_iff_not] at hl; omega)]
  · rw [hc]; rfl
  · rw [hc]
    rw [Bool.not_not] at ha
    rw [ha]; rfl
  · rw [hc]
    rw [Bool.not_not] at ha
    rw [ha]; rfl
theorem noDF_sound : Sound Try.prog 111 sNoDc.ctr := sNoDc.sound (by kernel_rfl) sNoDc_enc fun ⟨x, g, p⟩ hc => by
  have h0 := hc _ (.head _)
  exact satG AllOk.nil mixed Try.func111 (noDF_e x g p) (noDF_v x g p h0)
theorem look_app {c : Ctr} : ∀ (A B : List (Nat × Ctr)) (f : Nat), lookupL (A ++ B) f = some c → lookupL A f = some c ∨ lookupL B f = some c
  | [], _, _, h => .inr h
  | (i, y) :: r, B, f, h => by
    simp only [List.cons_append, lookupL] at h ⊢
    cases hb : Nat.beq f i
    · rw [hb] at h; exact look_app r B f h
    · rw [hb] at h; exact .inl h
theorem all_app {P : Program} {A B : List (Nat × Ctr)} (hA : AllOk P A) (hB : AllOk P B) : AllOk P (A ++ B) := fun f c h => (look_app A B f h).elim (hA f c) (hB f c)
theorem GFd_ok : AllOk Try.prog GFd := .cons noDF_sound <| all_app GFc_ok GEk_ok
theorem idxD_sound : Sound Try.prog 98 sIdxD.ctr := sIdxD.sound (by kernel_rfl) sIdxD_enc fun ⟨l, g, p⟩ hc => by
  have h0 := hc _ (.head _)
  have h1 := hc _ (.tail _ (.head _))
  exact satG GFd_ok mixed Try.func98 (idxD_e l g p) (idxD_v l g p h0 h1)
theorem GFe_ok : AllOk Try.prog GFe := .cons idxD_sound <| GFd_ok
theorem hasD_sound : Sound Try.prog 63 sHasD.ctr := sHasD.sound (by kernel_rfl) sHasD_enc fun ⟨l, g, p⟩ hc => by
  have h0 := hc _ (.head _)
  have h1 := hc _ (.tail _ (.head _))
  exact satG GFe_ok mixed Try.func63 (hasD_e l g p) (hasD_v l g p h0 h1)
theorem GFf_ok : AllOk Try.prog GFf := .cons hasD_sound <| GFe_ok
theorem covF_sound : Sound Try.prog 81 sCovD.ctr := sCovD.sound (by kernel_rfl) sCovD_enc fun ⟨g, p, l⟩ hc => by
  have h0 := hc _ (.head _)
  have h1 := hc _ (.tail _ (.head _))
  exact satG GFf_ok mixed Try.func81 (covF_e g p l) (⟨h1, h0, rfl⟩)
end Go.Proofs.Ytbdgknebimdjoaa
namespace Go.Proofs.Ytbdgknebimdjoaa
open Go Go.RowKit
set_option linter.unusedVariables false
set_option linter.unusedSimpArgs false
set_option maxRecDepth 100000
theorem spr_has {g : Int} {l : List Int} (h : DOk g l) {s : Nat} (hs : s < l.length) (hne : l.getD s 0 ≠ 0) : (s : Int) ∈ spr g l := by
  rw [(spr_perm h).mem_iff, List.mem_append]
  by_cases hr : isR (l.getD s 0) = true
  · left
    have := lowF_at l 0 s hs hr
    rw [Int.zero_add] at this
    exact List.mem_of_getElem? this
  · right
    have hp : 0 < (l.getD s 0).toNat := by
      have := h.lo _ (getD_mem' hs)
      unfold isR at hr
      simp only [beq_iff_eq, decide_eq_true_eq, Bool.not_eq_true] at hr
      first | omega | (simp at hr; omega)
    have := hiF_at hs hp
    exact List.mem_of_getElem? this
theorem noC_enc {g : Int} {l : List Int} (h : dchk g l = 0) (s : Int) : noC (encL g l) s = noD l s := by
  have hd := dchk0 h
  have hlen : (statesL l.length (spr g l)).length = l.length := by rw [← states_all, states_len]
  rw [(enc_good h).2]
  by_cases hs : s < 0 ∨ (l.length : Int) ≤ s
  · have e : noD l s = true := by
      rcases hs with hs | hs
      · exact noD_neg (decide_eq_true hs)
      · exact noD_big (decide_eq_true hs)
    rw [e]
    exact noC_iff.2 (by rw [celT_out (by rw [hlen]; exact hs)]; rfl)
  · have h0 : 0 ≤ s := by omega
    have h1 : s < l.length := by omega
    obtain ⟨k, rfl⟩ := Int.eq_ofNat_of_zero_le h0
    have hk : k < l.length := by omega
    have ec : celT (statesL l.length (spr g l)) (k : Int) = cellsL (spr g l) (k : Int) := by
      rw [celT_in (by omega) (by rw [hlen]; exact h1), toNat_cast, ← states_all, states_get hk, cellsP_all]
    have en := noD_in (p := l) (x := (k : Int)) (decide_eq_false (by omega)) (decide_eq_false (by omega))
    rw [toNat_cast] at en
    rw [← en]
    by_cases hz : l.getD k 0 = 0
    · rw [hz]
      exact noC_iff.2 (by rw [ec, cells_zero hd hk hz]; rfl)
    · have e2 : (l.getD k 0 == 0) = false := beq_eq_false_iff_ne.2 hz
      rw [e2]
      cases hb : noC (statesL l.length (spr g l)) (k : Int)
      · rfl
      · have hl := noC_iff.1 hb
        rw [ec] at hl
        have hc : (cellsL (spr g l) (k : Int)).length = (spr g l).count (k : Int) := cellsF_len _ _ _
        have := List.count_pos_iff.2 (spr_has hd hk hz)
        omega
theorem enc_echk {g : Int} {l : List Int} (h : dchk g l = 0) : echk g (encL g l) = 0 := echk0' (enc_tok h)
theorem enc_lit {g : Int} {l : List Int} (h : dchk g l = 0) : litT g (encL g l) = true := by
  have ht := enc_tok h
  have hs := sz0 ht.g0 ht.g12
  unfold litT
  rw [decide_eq_true (show (encL g l).flatten.length ≤ 65536 by rw [ht.w.len]; omega), Bool.or_true]
end Go.Proofs.Ytbdgknebimdjoaa
namespace Go.Proofs.Ytbdgknebimdjoaa
open Go Go.RowKit
set_option linter.unusedVariables false
set_option linter.unusedSimpArgs false
set_option maxRecDepth 100000
structure FwB (g : Int) (t : List (List Int)) (l : List Int) (c k : Nat) : Prop where
  len : (fwX g t l c k).length = 2
  x0 : ∀ j, 0 ≤ (fwX g t l c k).getD j 0
  x1 : ∀ j, (fwX g t l c k).getD j 0 < (szN g : Int)
  n0 : 0 ≤ fwN g t l c k
  n7 : fwN g t l c k ≤ 7
  p0 : 0 ≤ fwP g t l c k
  p1 : fwP g t l c k < 2 ^ (fwN g t l c k).toNat
  size : (fwS g t l c k).size ≤ 2 * k
theorem getD_set' {l : List Int} {i j : Nat} {x : Int} (P : Int → Prop) (h0 : P 0) (hx : P x) (hl : ∀ j, P (l.getD j 0)) : P ((l.set i x).getD j 0) := by
  rw [List.getD_eq_getElem?_getD, List.getElem?_set]
  split
  · split
    · exact hx
    · exact h0
  · have := hl j
    rw [List.getD_eq_getElem?_getD] at this
    exact this
theorem blt_t {a b : Nat} (h : a < b) : Nat.blt a b = true := by unfold Nat.blt; exact Nat.ble_eq_true_of_le h
theorem blt_f {a b : Nat} (h : ¬ a < b) : Nat.blt a b = false := by
  cases hb : Nat.blt a b
  · rfl
  · exact absurd (Nat.le_of_ble_eq_true hb) h
theorem fw_first {g : Int} {t : List (List Int)} {l : List Int} {c k : Nat} (h : k < c) : fwR g t l c (k + 1) = ((fwX g t l c k).set (nthI l k % c) ((celT t (nthS l k)).getD 0 0), (fwR g t l c k).2) := by
  show cond (Nat.blt k c) _ _ = _
  rw [blt_t h]
  rfl
theorem fw_put {g : Int} {t : List (List Int)} {l : List Int} {c k : Nat} (h : ¬ k < c) : fwR g t l c (k + 1) = ((fwX g t l c k).set (nthI l k % c) (putS g t ((fwX g t l c k).getD (nthI l k % c) 0) (nthS l k)),
    putWr (fwR g t l c k).2 (putN g t ((fwX g t l c k).getD (nthI l k % c) 0) (nthS l k)) (putV g t ((fwX g t l c k).getD (nthI l k % c) 0) (nthS l k))) := by
  show cond (Nat.blt k c) _ _ = _
  rw [blt_f h]
  rfl
theorem put_nums {g : Int} {t : List (List Int)} {x s p n : Int} (hT : TOk g t) (hx0 : 0 ≤ x) (hx1 : x < (szN g : Int)) (hn : noC t s = false) (n0 : 0 ≤ n) (n7 : n ≤ 7) (p0 : 0 ≤ p) (p1 : p < 2 ^ n.toNat) : PutN p n (putN g t x s) (putV g t x s) := by
  have hb := put_bd hT hx0 hx1 hn
  exact ⟨n0, n7, p0, p1, hb.1, by omega, Int.emod_nonneg _ (by have := pow_pos' (putN g t x s).toNat; omega), Int.emod_lt_of_pos _ (pow_pos' _)⟩
theorem fw_bd {g : Int} {t : List (List Int)} {l : List Int} {c : Nat} (hT : TOk g t) (hn : l.any (noC t) = false) : ∀ k, k ≤ l.length → FwB g t l c k
  | 0, _ => by
    have hz := szN_pos g
    have h2 : ∀ j, ([0, 0] : List Int).getD j 0 = 0 := fun j => by
      match j with
      | 0 => rfl
      | 1 => rfl
      | j + 2 => rfl
    exact ⟨rfl, fun j => by show 0 ≤ ([0, 0] : List Int).getD j 0; rw [h2]; exact Int.le_refl _, fun j => by show ([0, 0] : List Int).getD j 0 < _; rw [h2]; omega, Int.le_refl _, by show (0 : Int) ≤ 7; decide, Int.le_refl _, by show (0 : Int) < 2 ^ (0 : Int).toNat; decide, by show ByteArray.empty.size ≤ _; exact Nat.zero_le _⟩
  | k + 1, hk => by
    have ih := fw_bd (c := c) hT hn k (by omega)
    have hs : noC t (nthS l k) = false := any_get hn (by unfold nthI; omega)
    have hz := szN_pos g
    have hx0 := ih.x0 (nthI l k % c)
    have hx1 := ih.x1 (nthI l k % c)
    by_cases hc : k < c
    · have e := fw_first (g := g) (t := t) (l := l) hc
      have hb := cel_any hT (nthS l k) 0
      have eX : fwX g t l c (k + 1) = (fwX g t l c k).set (nthI l k % c) ((celT t (nthS l k)).getD 0 0) := congrArg Prod.fst e
      have eS : fwS g t l c (k + 1) = fwS g t l c k := congrArg (fun r => r.2.1) e
      have eP : fwP g t l c (k + 1) = fwP g t l c k := congrArg (fun r => r.2.2.1) e
      have eN : fwN g t l c (k + 1) = fwN g t l c k := congrArg (fun r => r.2.2.2) e
      exact ⟨by rw [eX, List.length_set]; exact ih.len, fun j => by rw [eX]; exact getD_set' (fun z => 0 ≤ z) (Int.le_refl _) hb.1 ih.x0, fun j => by rw [eX]; exact getD_set' (fun z => z < (szN g : Int)) (by omega) hb.2 ih.x1,
        by rw [eN]; exact ih.n0, by rw [eN]; exact ih.n7, by rw [eP]; exact ih.p0, by rw [eP, eN]; exact ih.p1, by rw [eS]; have := ih.size; omega⟩
    · have e := fw_put (g := g) (t := t) (l := l) hc
      have hp := put_nums (s := nthS l k) hT hx0 hx1 hs ih.n0 ih.n7 ih.p0 ih.p1
      have hb := put_bd hT hx0 hx1 hs
      obtain ⟨q0, q1⟩ := hp.P
      obtain ⟨r0, r1, r2⟩ := wM_eq ih.n0 hb.1
      have hc2 := cel_any hT (nthS l k) (putX g ((fwX g t l c k).getD (nthI l k % c) 0) / 2 ^ (putN g t ((fwX g t l c k).getD (nthI l k % c) 0) (nthS l k)).toNat - (celT t (nthS l k)).length).toNat
      have eX : fwX g t l c (k + 1) = (fwX g t l c k).set (nthI l k % c) (putS g t ((fwX g t l c k).getD (nthI l k % c) 0) (nthS l k)) := congrArg Prod.fst e
      have eS : fwS g t l c (k + 1) = wS (fwS g t l c k) (fwP g t l c k) (fwN g t l c k) (putN g t ((fwX g t l c k).getD (nthI l k % c) 0) (nthS l k)) (putV g t ((fwX g t l c k).getD (nthI l k % c) 0) (nthS l k)) := congrArg (fun r => r.2.1) e
      have eP : fwP g t l c (k + 1) = wP (fwP g t l c k) (fwN g t l c k) (putN g t ((fwX g t l c k).getD (nthI l k % c) 0) (nthS l k)) (putV g t ((fwX g t l c k).getD (nthI l k % c) 0) (nthS l k)) := congrArg (fun r => r.2.2.1) e
      have eN : fwN g t l c (k + 1) = wN (fwN g t l c k) (putN g t ((fwX g t l c k).getD (nthI l k % c) 0) (nthS l k)) := congrArg (fun r => r.2.2.2) e
      exact ⟨by rw [eX, List.length_set]; exact ih.len, fun j => by rw [eX]; exact getD_set' (fun z => 0 ≤ z) (Int.le_refl _) hc2.1 ih.x0, fun j => by rw [eX]; exact getD_set' (fun z => z < (szN g : Int)) (by omega) hc2.2 ih.x1,
        by rw [eN]; exact r1, by rw [eN]; exact r2, by rw [eP]; exact q0, by rw [eP, eN]; exact q1, by rw [eS, wS_size]; have := ih.size; have := ih.n7; omega⟩
end Go.Proofs.Ytbdgknebimdjoaa
namespace Go.Proofs.Ytbdgknebimdjoaa
open Go Go.RowKit
set_option linter.unusedVariables false
set_option linter.unusedSimpArgs false
set_option maxRecDepth 100000
theorem fwG_len (l : List Int) (c : Nat) : ∀ k, (fwG l c k).length = 2
  | 0 => rfl
  | k + 1 => by
    show ((fwG l c k).set (nthI l k % c) true).length = 2
    rw [List.length_set, fwG_len l c k]
theorem fwG_keep (l : List Int) (c : Nat) (k : Nat) {j : Nat} (h : (fwG l c k).getD j false = true) : (fwG l c (k + 1)).getD j false = true := by
  show ((fwG l c k).set (nthI l k % c) true).getD j false = true
  rw [List.getD_eq_getElem?_getD] at h ⊢
  rw [List.getElem?_set]
  split
  · split
    · rfl
    · rename_i h1 h2
      subst h1
      rw [List.getElem?_eq_none (by omega)] at h
      cases h
  · exact h
theorem fwG_new (l : List Int) (c : Nat) (k : Nat) {j : Nat} (hj : j < 2) (h : nthI l k % c = j) : (fwG l c (k + 1)).getD j false = true := by
  show ((fwG l c k).set (nthI l k % c) true).getD j false = true
  rw [List.getD_eq_getElem?_getD, List.getElem?_set, if_pos h, if_pos (by rw [h, fwG_len]; exact hj)]
  rfl
end Go.Proofs.Ytbdgknebimdjoaa
namespace Go.Proofs.Ytbdgknebimdjoaa
open Go Go.RowKit
set_option linter.unusedVariables false
set_option linter.unusedSimpArgs false
set_option maxRecDepth 100000
theorem fwG_keeps {l : List Int} {c k j : Nat} (h : (fwG l c k).getD j false = true) : ∀ m, (fwG l c (k + m)).getD j false = true
  | 0 => h
  | m + 1 => fwG_keep l c (k + m) (fwG_keeps h m)
theorem fwG_has {l : List Int} {c k : Nat} (hc : c = 1 ∨ c = 2) (hn : c ≤ l.length) (hk : k < l.length) : (fwG l c k).getD (nthI l k % c) false = Nat.ble c k := by
  by_cases h : c ≤ k
  · have e : nthI l (k - c) % c = nthI l k % c := by
      unfold nthI
      rw [show l.length - 1 - (k - c) = l.length - 1 - k + c by omega, Nat.add_mod_right]
    have hl : nthI l k % c < 2 := by
      have := Nat.mod_lt (nthI l k) (show c > 0 by omega)
      omega
    have := fwG_keeps (fwG_new l c (k - c) hl e) (c - 1)
    rw [show k - c + 1 + (c - 1) = k by omega] at this
    rw [this, Nat.ble_eq_true_of_le h]
  · have hb : Nat.ble c k = false := by
      cases hb : Nat.ble c k
      · rfl
      · exact absurd (Nat.le_of_ble_eq_true hb) h
    rw [hb]
    have h0 : ∀ j, ([false, false] : List Bool).getD j false = false := fun j => by
      match j with
      | 0 => rfl
      | 1 => rfl
      | j + 2 => rfl
    cases k with
    | zero => exact h0 _
    | succ k =>
      have : k = 0 ∧ c = 2 := by omega
      obtain ⟨rfl, rfl⟩ := this
      show ([false, false].set (nthI l 0 % 2) true).getD (nthI l (0 + 1) % 2) false = false
      have e1 : nthI l 0 = nthI l (0 + 1) + 1 := by unfold nthI; omega
      rw [e1]
      rcases Nat.mod_two_eq_zero_or_one (nthI l (0 + 1)) with h | h
      · rw [h, show (nthI l (0 + 1) + 1) % 2 = 1 by omega]; rfl
      · rw [h, show (nthI l (0 + 1) + 1) % 2 = 0 by omega]; rfl
structure AskOk (g : Int) (p l : List Int) (c : Nat) : Prop where
  d : dchk g p = 0
  hi : l.length ≤ 100000
  lo : c ≤ l.length
  no : l.any (noD p) = false
theorem ask0 {g : Int} {p l : List Int} {c : Nat} (h : askE g p l (c : Int) = 0) : AskOk g p l c := by
  unfold askE at h
  cases hd : dchk g p == 0
  · rw [hd] at h
    exact absurd h (by simpa using hd)
  rw [hd, cond_true] at h
  cases h1 : decide (100000 < l.length)
  · rw [h1, cond_false] at h
    cases h2 : decide ((l.length : Int) < (c : Int))
    · rw [h2, cond_false] at h
      cases h3 : l.any (noD p)
      · simp only [decide_eq_false_iff_not] at h1 h2
        exact ⟨by simpa using hd, by omega, by omega, h3⟩
      · rw [h3, cond_true] at h; exact absurd h (by decide)
    · rw [h2, cond_true] at h; exact absurd h (by decide)
  · rw [h1, cond_true] at h; exact absurd h (by decide)
theorem AskOk.T {g : Int} {p l : List Int} {c : Nat} (h : AskOk g p l c) : TOk g (encL g p) := enc_tok h.d
theorem AskOk.nc {g : Int} {p l : List Int} {c : Nat} (h : AskOk g p l c) : l.any (noC (encL g p)) = false := by
  have := h.no
  rw [← this]
  exact congrArg (List.any l) (funext fun s => noC_enc h.d s)
theorem AskOk.len {g : Int} {p l : List Int} {c : Nat} (h : AskOk g p l c) : (encL g p).length ≤ 4294967296 := by
  have := h.T.n
  omega
theorem pu_ok {g : Int} {t : List (List Int)} {x s : Int} (hc : echk g t = 0) (h0 : 0 ≤ x) (h1 : x < (szN g : Int)) (hn : noC t s = false) : puS g t x s = putS g t x s ∧ puB g t x s = putN g t x s ∧ puV g t x s = putV g t x s := by
  refine pu_good ?_
  rw [puE_st hc, stE_in h0 h1]
  unfold celM
  rw [hn]
  rfl
theorem noC_ne {t : List (List Int)} {s : Int} (hn : noC t s = false) : (celT t s).length ≠ 0 := by
  intro h
  unfold noC at hn
  rw [h] at hn
  cases hn
theorem fr_ok {g : Int} {t : List (List Int)} {s : Int} (hc : echk g t = 0) (hn : noC t s = false) : frI g t s = (celT t s).getD 0 0 := (fr_good hc (noC_ne hn)).2
structure FfB (g : Int) (t : List (List Int)) (l : List Int) (c m : Nat) : Prop where
  n0 : 0 ≤ ffN g t l c m
  n7 : ffN g t l c m ≤ 7
  p0 : 0 ≤ ffP g t l c m
  p1 : ffP g t l c m < 2 ^ (ffN g t l c m).toNat
  size : (ffS g t l c m).size ≤ 2 * l.length + 3 * m
def lstX (g : Int) (t : List (List Int)) (l : List Int) (c m : Nat) : Int := (fwX g t l c l.length).getD (c - 1 - m) 0
theorem ff_S (g : Int) (t : List (List Int)) (l : List Int) (c m : Nat) : ffS g t l c (m + 1) = wS (ffS g t l c m) (ffP g t l c m) (ffN g t l c m) g (lstX g t l c m) := rfl
theorem ff_P (g : Int) (t : List (List Int)) (l : List Int) (c m : Nat) : ffP g t l c (m + 1) = wP (ffP g t l c m) (ffN g t l c m) g (lstX g t l c m) := rfl
theorem ff_N (g : Int) (t : List (List Int)) (l : List Int) (c m : Nat) : ffN g t l c (m + 1) = wN (ffN g t l c m) g := rfl
theorem ff_num {g : Int} {t : List (List Int)} {l : List Int} {c m : Nat} (hT : TOk g t) (hn : l.any (noC t) = false) (n0 : 0 ≤ ffN g t l c m) (n7 : ffN g t l c m ≤ 7) (p0 : 0 ≤ ffP g t l c m) (p1 : ffP g t l c m < 2 ^ (ffN g t l c m).toNat) (j : Nat) :
    PutN (ffP g t l c m) (ffN g t l c m) g ((fwX g t l c l.length).getD j 0) := by
  have hb := fw_bd (c := c) hT hn l.length (Nat.le_refl _)
  have := hb.x1 j
  rw [szI] at this
  exact ⟨n0, n7, p0, p1, hT.g0, by have := hT.g12; omega, hb.x0 j, this⟩
theorem ff_bd {g : Int} {t : List (List Int)} {l : List Int} {c : Nat} (hT : TOk g t) (hn : l.any (noC t) = false) : ∀ m, FfB g t l c m
  | 0 => by
    have hb := fw_bd (c := c) hT hn l.length (Nat.le_refl _)
    exact ⟨hb.n0, hb.n7, hb.p0, hb.p1, by have := hb.size; show (fwS g t l c l.length).size ≤ _; omega⟩
  | m + 1 => by
    have ih := ff_bd (c := c) hT hn m
    have hp := ff_num hT hn ih.n0 ih.n7 ih.p0 ih.p1 (c - 1 - m)
    obtain ⟨q0, q1⟩ := hp.P
    obtain ⟨r0, r1, r2⟩ := wM_eq ih.n0 hT.g0
    have := hT.g12
    have := ih.n7
    have := ih.size
    exact ⟨by rw [ff_N]; exact r1, by rw [ff_N]; exact r2, by rw [ff_P]; exact q0, by rw [ff_P, ff_N]; exact q1, by rw [ff_S, wS_size]; omega⟩
theorem bkw_isat (k : Nat) (l : List Int) (h0 : l.length ≤ 4294967296) : ISat Try.prog 139 [.p k 0 0] [(k, .cells 22 [.dat (.ints .i64 l)])] (itBk l) := by
  have h0 : ISat Try.prog 139 [.p 0 0 0] [(0, .cells 22 [.dat (.ints .i64 l)])] (itBk l) :=
    isat_of_vcI (Ωi := fun l0 => oBkwF l0 l) AllOk.nil mixed Try.func139 (by kernel_rfl) fun l0 => by
      have := bkwI_v l h0 l0
      rw [bkwI_e] at this
      exact this
  exact h0.ren (fun i => k + i) (by intro a b _ _ e; omega) rfl rfl
theorem tmod_nat (a b : Nat) : Int.tmod (a : Int) (b : Int) = ((a % b : Nat) : Int) := (Int.ofNat_tmod a b).symm
theorem itBk_len (l : List Int) : (itBk l).length = l.length := by unfold itBk; rw [List.length_map, List.length_range]
theorem itBk_at {l : List Int} {k : Nat} (h : k < l.length) : (itBk l)[k]? = some [.int .i64 (nthI l k : Nat), .int .i64 (nthS l k)] := by
  unfold itBk
  rw [List.getElem?_map, List.getElem?_range h]
  rfl
theorem v_u64 {x : Int} {n : Nat} (h0 : 0 ≤ x) (h1 : x < 2 ^ n) (hn : n ≤ 32) : IntKind.wrap IntKind.u64 x = x := wru h0 (by have := pow_mono hn; simp at this; omega)
end Go.Proofs.Ytbdgknebimdjoaa
namespace Go.Proofs.Ytbdgknebimdjoaa
open Go Go.RowKit
set_option linter.unusedVariables false
set_option linter.unusedSimpArgs false
set_option maxRecDepth 100000
theorem fwrF_v (g : Int) (p l : List Int) (c : Nat) (ha : askE g p l (c : Int) = 0) (hc : c = 1 ∨ c = 2) : fwrF_t g p l c := by
  have hA := ask0 ha
  have hT := hA.T
  have hn := hA.nc
  have hd := dchk0 hA.d
  have hel := hA.len
  have hlit := enc_lit hA.d
  have heG := (enc_good hA.d).1
  have hck := enc_echk hA.d
  have hsz := sz0 hT.g0 hT.g12
  have hlo := hA.lo
  have hhi := hA.hi
  have hpl := hd.n2
  unfold fwrF_t
  simp only [tmod_nat, toNat_cast]
  refine ⟨by omega, (), bkw_isat 600008 l (by omega), (by first | rfl | trivial), trivial, ⟨(by first | rfl | trivial), (by first | rfl | trivial), (by first | rfl | trivial), (by first | rfl | trivial), (by first | rfl | trivial), (by first | rfl | trivial), heG, (by first | rfl | trivial), (by first | rfl | trivial), (by first | rfl | trivial), (by first | rfl | trivial), (by first | rfl | trivial), (by first | rfl | trivial)⟩, fun i hi _ => ?_, fun _ => ⟨⟨0, Nat.zero_le _, ?_⟩, fun m hm => ⟨fun h => ?_, fun h => ?_⟩⟩⟩
  · have hi : i < l.length := by
      have := itBk_len l
      unfold itBk at this
      omega
    have hb := fw_bd (c := c) hT hn i (by omega)
    have hG := fwG_has hc hlo hi
    have hgl := fwG_len l c i
    have hxl := hb.len
    have hm : nthI l i % c < 2 := by
      have := Nat.mod_lt (nthI l i) (show c > 0 by omega)
      omega
    have hs : noC (encL g p) (nthS l i) = false := any_get hn (by unfold nthI; omega)
    refine ⟨itBk_at hi, rfl, by omega, by omega, by omega, by omega, fun h => ?_, fun h => ?_⟩
    · rw [hG] at h
      have hic : i < c := by
        cases hb : Nat.ble c i
        · have : ¬ c ≤ i := fun h2 => by rw [Nat.ble_eq_true_of_le h2] at hb; cases hb
          omega
        · rw [hb] at h; cases h
      have e := fw_first (g := g) (t := encL g p) (l := l) hic
      have eX : (fwX g (encL g p) l c i).set (nthI l i % c) (frI g (encL g p) (nthS l i)) = fwX g (encL g p) l c (i + 1) := by
        rw [fr_ok hck hs]; exact (congrArg Prod.fst e).symm
      have eS : fwS g (encL g p) l c i = fwS g (encL g p) l c (i + 1) := (congrArg (fun r => r.2.1) e).symm
      have eP : fwP g (encL g p) l c i = fwP g (encL g p) l c (i + 1) := (congrArg (fun r => r.2.2.1) e).symm
      have eN : fwN g (encL g p) l c i = fwN g (encL g p) l c (i + 1) := (congrArg (fun r => r.2.2.2) e).symm
      (repeat' (refine And.intro ?_ ?_)) <;> first | assumption | omega | exact True.intro | rfl
    · rw [hG] at h
      have hic : ¬ i < c := by
        cases hb : Nat.ble c i
        · rw [hb] at h; cases h
        · have := Nat.le_of_ble_eq_true hb; omega
      have e := fw_put (g := g) (t := encL g p) (l := l) hic
      have hx0 := hb.x0 (nthI l i % c)
      have hx1 := hb.x1 (nthI l i % c)
      obtain ⟨pS, pB, pV⟩ := pu_ok (s := nthS l i) hck hx0 hx1 hs
      have hp := put_nums (s := nthS l i) hT hx0 hx1 hs hb.n0 hb.n7 hb.p0 hb.p1
      rw [pS, pB, pV, v_u64 hp.v0 hp.v1 (by have := hp.k1; omega)]
      have eX : (fwX g (encL g p) l c i).set (nthI l i % c) (putS g (encL g p) ((fwX g (encL g p) l c i).getD (nthI l i % c) 0) (nthS l i)) = fwX g (encL g p) l c (i + 1) := (congrArg Prod.fst e).symm
      have eS : wS (fwS g (encL g p) l c i) (fwP g (encL g p) l c i) (fwN g (encL g p) l c i) (putN g (encL g p) ((fwX g (encL g p) l c i).getD (nthI l i % c) 0) (nthS l i)) (putV g (encL g p) ((fwX g (encL g p) l c i).getD (nthI l i % c) 0) (nthS l i)) = fwS g (encL g p) l c (i + 1) := (congrArg (fun r => r.2.1) e).symm
      have eP : wP (fwP g (encL g p) l c i) (fwN g (encL g p) l c i) (putN g (encL g p) ((fwX g (encL g p) l c i).getD (nthI l i % c) 0) (nthS l i)) (putV g (encL g p) ((fwX g (encL g p) l c i).getD (nthI l i % c) 0) (nthS l i)) = fwP g (encL g p) l c (i + 1) := (congrArg (fun r => r.2.2.1) e).symm
      have eN : wN (fwN g (encL g p) l c i) (putN g (encL g p) ((fwX g (encL g p) l c i).getD (nthI l i % c) 0) (nthS l i)) = fwN g (encL g p) l c (i + 1) := (congrArg (fun r => r.2.2.2) e).symm
      have eG : fwG l c i = fwG l c (i + 1) := by
        show fwG l c i = (fwG l c i).set (nthI l i % c) true
        have h1 : (fwG l c i)[nthI l i % c]? = some true := by
          rw [Nat.ble_eq_true_of_le (by omega)] at hG
          rw [List.getD_eq_getElem?_getD] at hG
          cases hx : (fwG l c i)[nthI l i % c]? with
          | none => rw [hx] at hG; cases hG
          | some b => rw [hx] at hG; simp only [Option.getD_some] at hG; rw [hG]
        refine List.ext_getElem? fun j => ?_
        rw [List.getElem?_set]
        split
        · rename_i hj
          subst hj
          rw [h1, if_pos (by omega)]
        · rfl
      have hsz2 := hb.size
      obtain ⟨q1, q2, q3, q4, q5, q6, q7, q8⟩ := hp
      (repeat' (refine And.intro ?_ ?_)) <;> first | assumption | omega | exact True.intro | rfl
  · have e := itBk_len l
    unfold itBk at e
    rw [e]
    rw [wr (by omega) (by omega)]
    (repeat' (refine And.intro ?_ ?_)) <;> first | omega | rfl
  · have hb := fw_bd (c := c) hT hn l.length (Nat.le_refl _)
    have hf := ff_bd (c := c) hT hn m
    have hp := ff_num hT hn hf.n0 hf.n7 hf.p0 hf.p1 (c - 1 - m)
    have hxl := hb.len
    simp only [nle] at hm ⊢
    simp only [ge_iff_le, decide_eq_true_eq] at h
    have ej : ((c : Int) - 1 - (m : Int)).toNat = c - 1 - m := by omega
    rw [ej]
    have hp2 := hp
    obtain ⟨q1, q2, q3, q4, q5, q6, q7, q8⟩ := hp2
    rw [v_u64 q7 q8 (by omega)]
    have hsz2 := hf.size
    refine ⟨by omega, by omega, by omega, q1, q2, q3, q4, q5, q6, q7, q8, by omega, m + 1, by omega, by rw [Nat.sub_eq, Nat.sub_eq]; omega, by rw [wr (by omega) (by omega)]; omega, (by first | rfl | trivial), (by first | rfl | trivial), (by first | rfl | trivial), (by first | rfl | trivial), (by first | rfl | trivial), (ff_S _ _ _ _ _).symm, (ff_P _ _ _ _ _).symm, (ff_N _ _ _ _ _).symm, (by first | rfl | trivial)⟩
  · simp only [nle] at hm
    simp only [ge_iff_le, decide_eq_false_iff_not] at h
    have : m = c := by omega
    subst this
    exact ⟨rfl, rfl, rfl⟩
theorem fwrF_sound : Sound Try.prog 76 sFwr.ctr := sFwr.sound (by kernel_rfl) sFwr_enc fun ⟨g, p, l, c⟩ hc => by
  have h0 := hc _ (.head _)
  have h1 := hc _ (.tail _ (.head _))
  rcases h1 with rfl | rfl
  · exact satG GFf_ok mixed Try.func76 (fwrF_e g p l 1) (fwrF_v g p l 1 h0 (.inl rfl))
  · exact satG GFf_ok mixed Try.func76 (fwrF_e g p l 2) (fwrF_v g p l 2 h0 (.inr rfl))
theorem GFg_ok : AllOk Try.prog GFg := .cons covF_sound <| .cons fwrF_sound <| GFf_ok
theorem askF_v {g : Int} {p l : List Int} {c : Int} (h0 : p.length ≤ 4294967296) (h1 : l.length ≤ 4294967296) : askF_t g p l c := ask_v h0 h1
theorem askF_sound : Sound Try.prog 75 sAsk.ctr := sAsk.sound (by kernel_rfl) sAsk_enc fun ⟨g, p, l, c⟩ hc => by
  have h0 := hc _ (.head _)
  have h1 := hc _ (.tail _ (.head _))
  exact satG GFg_ok mixed Try.func75 (askF_e g p l c) (askF_v h0 h1)
theorem GFh_ok : AllOk Try.prog GFh := .cons askF_sound <| GFg_ok
end Go.Proofs.Ytbdgknebimdjoaa
namespace Go.Proofs.Ytbdgknebimdjoaa
open Go Go.RowKit
set_option linter.unusedVariables false
set_option linter.unusedSimpArgs false
set_option maxRecDepth 100000
theorem wrt_bad {g : Int} {p l : List Int} {c : Nat} (h : (askE g p l (c : Int) != (0 : Int)) = true) : ByteArray.empty = wrtS g p l c := by
  unfold wrtS
  rw [ne0 h]
  rfl
theorem wrt_good {g : Int} {p l : List Int} {c : Nat} (h : askE g p l (c : Int) = 0) : fulS g p l c = wrtS g p l c := by
  unfold wrtS
  rw [beq0 h]
  rfl
theorem wrt1F_v (g : Int) (p l : List Int) (h0 : p.length ≤ 4294967296) (h1 : l.length ≤ 4294967296) : wrt1F_t g p l := by
  unfold wrt1F_t
  refine ⟨h0, h1, fun h => ⟨wrt_bad (c := 1) h, rfl⟩, fun h => ?_⟩
  have ha := eq0 h
  have hA := ask0 (c := 1) ha
  have hf := ff_bd (c := 1) hA.T hA.nc 1
  have hs := hf.size
  have hi := hA.hi
  exact ⟨ha, .inl rfl, hf.n0, hf.n7, hf.p0, hf.p1, by show (ffS g (encL g p) l 1 1).size ≤ 1000000; omega, wrt_good (c := 1) ha, ha.symm⟩
theorem getD_set0 {l : List Int} (h : 0 < l.length) (x : Int) : (l.set 0 x).getD 0 0 = x := by
  rw [List.getD_eq_getElem?_getD, List.getElem?_set_self h]
  rfl
theorem wS_bits (s : ByteArray) (p n k v : Int) (h0 : 0 ≤ n) (h1 : 0 ≤ k) : 8 * ((wS s p n k v).size : Int) + wN n k = 8 * (s.size : Int) + n + k := by
  obtain ⟨e, _, _⟩ := wM_eq h0 h1
  rw [wS_size]
  push_cast
  omega
theorem fw_run {g : Int} {t : List (List Int)} {l : List Int} (hT : TOk g t) (hn : l.any (noC t) = false) : ∀ k, k < l.length → (fwX g t l 1 (k + 1)).getD 0 0 = (runL g t (l.drop (nthI l k))).1 ∧
    8 * ((fwS g t l 1 (k + 1)).size : Int) + fwN g t l 1 (k + 1) = (runL g t (l.drop (nthI l k))).2
  | 0, hk => by
    have e := fw_first (g := g) (t := t) (l := l) (c := 1) (k := 0) (by omega)
    have e1 : nthI l 0 = l.length - 1 := rfl
    have hx := (fw_bd (c := 1) hT hn 0 (by omega)).len
    have eX : fwX g t l 1 (0 + 1) = (fwX g t l 1 0).set (nthI l 0 % 1) ((celT t (nthS l 0)).getD 0 0) := congrArg Prod.fst e
    rw [Nat.mod_one] at eX
    rw [eX, getD_set0 (by omega), e1, run_last (by omega)]
    exact ⟨rfl, rfl⟩
  | k + 1, hk => by
    obtain ⟨i1, i2⟩ := fw_run hT hn k (by omega)
    have e := fw_put (g := g) (t := t) (l := l) (c := 1) (k := k + 1) (by omega)
    have hb := fw_bd (c := 1) hT hn (k + 1) (by omega)
    have hs : noC t (nthS l (k + 1)) = false := any_get hn (by unfold nthI; omega)
    rw [Nat.mod_one] at e
    have hpb := put_bd hT (hb.x0 0) (hb.x1 0) hs
    have eI : nthI l (k + 1) + 1 = nthI l k := by unfold nthI; omega
    have hr := run_step (g := g) (t := t) (l := l) (k := nthI l (k + 1)) (by unfold nthI; omega)
    rw [eI, ← i1] at hr
    have eX : fwX g t l 1 (k + 1 + 1) = (fwX g t l 1 (k + 1)).set 0 (putS g t ((fwX g t l 1 (k + 1)).getD 0 0) (nthS l (k + 1))) := congrArg Prod.fst e
    have eS : fwS g t l 1 (k + 1 + 1) = wS (fwS g t l 1 (k + 1)) (fwP g t l 1 (k + 1)) (fwN g t l 1 (k + 1)) (putN g t ((fwX g t l 1 (k + 1)).getD 0 0) (nthS l (k + 1))) (putV g t ((fwX g t l 1 (k + 1)).getD 0 0) (nthS l (k + 1))) := congrArg (fun r => r.2.1) e
    have eN : fwN g t l 1 (k + 1 + 1) = wN (fwN g t l 1 (k + 1)) (putN g t ((fwX g t l 1 (k + 1)).getD 0 0) (nthS l (k + 1))) := congrArg (fun r => r.2.2.2) e
    rw [eX, getD_set0 (by have := hb.len; omega), hr, eS, eN, wS_bits _ _ _ _ _ hb.n0 hpb.1, i2]
    exact ⟨rfl, rfl⟩
theorem cos_eq {g : Int} {p l : List Int} (ha : askE g p l 1 = 0) : 8 * ((ffS g (encL g p) l 1 1).size : Int) + ffN g (encL g p) l 1 1 = cosN g p l ∧ ruE g (encL g p) l = 0 ∧ cosN g p l = ruN g (encL g p) l + g := by
  have hA := ask0 (c := 1) ha
  have hT := hA.T
  have hlo := hA.lo
  have hck := enc_echk hA.d
  have hr := ru_good hck (by have := hA.hi; omega) (by omega) hA.nc
  have hv := (ru_vals hr).2.1
  obtain ⟨r1, r2⟩ := fw_run hT hA.nc (l.length - 1) (by omega)
  have eI : nthI l (l.length - 1) = 0 := by unfold nthI; omega
  rw [eI, List.drop_zero, show l.length - 1 + 1 = l.length by omega] at r2
  have e3 : cosN g p l = ruN g (encL g p) l + g := by
    unfold cosN
    rw [beq0 ha]
    rfl
  have hb := fw_bd (c := 1) hT hA.nc l.length (Nat.le_refl _)
  refine ⟨?_, hr, e3⟩
  rw [e3, ← hv, ← r2, ff_S, ff_N, wS_bits _ _ _ _ _ (ff_bd hT hA.nc 0).n0 hT.g0]
  rfl
theorem cos_bad {g : Int} {p l : List Int} (h : (askE g p l 1 != (0 : Int)) = true) : 0 = cosN g p l := by
  unfold cosN
  rw [ne0 h]
  rfl
theorem cosF_v (g : Int) (p l : List Int) (h0 : p.length ≤ 4294967296) (h1 : l.length ≤ 4294967296) : cosF_t g p l := by
  unfold cosF_t
  refine ⟨h0, h1, fun h => ⟨cos_bad h, rfl⟩, fun h => ?_⟩
  have ha := eq0 h
  have hA := ask0 (c := 1) ha
  have hf := ff_bd (c := 1) hA.T hA.nc 1
  have hs := hf.size
  have hi := hA.hi
  have hn7 := hf.n7
  have hn0 := hf.n0
  have e := (cos_eq ha).1
  refine ⟨ha, .inl rfl, ?_, ha.symm⟩
  show IntKind.wrap IntKind.i64 (IntKind.wrap IntKind.i64 (8 * ((ffS g (encL g p) l 1 1).size : Int)) + ffN g (encL g p) l 1 1) = _
  rw [show IntKind.wrap IntKind.i64 (8 * ((ffS g (encL g p) l 1 1).size : Int)) = 8 * ((ffS g (encL g p) l 1 1).size : Int) from wr (by omega) (by omega), wr (by omega) (by omega), e]
theorem wrt1F_sound : Sound Try.prog 40 sWrt1.ctr := sWrt1.sound (by kernel_rfl) sWrt1_enc fun ⟨g, p, l⟩ hc => by
  have h0 := hc _ (.head _)
  have h1 := hc _ (.tail _ (.head _))
  exact satG GFh_ok mixed Try.func40 (wrt1F_e g p l) (wrt1F_v g p l h0 h1)
theorem cosF_sound : Sound Try.prog 37 sCos.ctr := sCos.sound (by kernel_rfl) sCos_enc fun ⟨g, p, l⟩ hc => by
  have h0 := hc _ (.head _)
  have h1 := hc _ (.tail _ (.head _))
  exact satG GFh_ok mixed Try.func37 (cosF_e g p l) (cosF_v g p l h0 h1)
def GFi : List (Nat × Ctr) := (40, sWrt1.ctr) :: (37, sCos.ctr) :: GFh
theorem GFi_ok : AllOk Try.prog GFi := .cons wrt1F_sound <| .cons cosF_sound <| GFh_ok
end Go.Proofs.Ytbdgknebimdjoaa
namespace Go.Proofs.Ytbdgknebimdjoaa
open Go Go.RowKit
set_option linter.unusedVariables false
set_option linter.unusedSimpArgs false
set_option maxRecDepth 100000
def sEven : Spec where
  ι := Unit
  dec l H := match l with
    | [] => some ((), [])
    | _ => none
  args := fun _ => []
  out := fun _ => .leaf (.ag [.v (.int .i64 5), .dat (.ints .i64 [16, 16])]) []
theorem sEven_enc : ∀ l H n i ls, sEven.dec l H = some (i, ls) → l = renL (rho ls n) (sEven.args i) ∧ givenHp H ls = renH (rho ls n) (sEven.hp i) := by
  intro l H n i ls h
  simp only [sEven] at h
  repeat' split at h
  all_goals first
    | (cases h; done)
    | (cases h; exact ⟨rfl, rfl⟩)
def sFour : Spec where
  ι := Unit
  dec l H := match l with
    | [] => some ((), [])
    | _ => none
  args := fun _ => []
  out := fun _ => .leaf (.dat (.ints .i64 [0, 1, 1, 0])) []
theorem sFour_enc : ∀ l H n i ls, sFour.dec l H = some (i, ls) → l = renL (rho ls n) (sFour.args i) ∧ givenHp H ls = renH (rho ls n) (sFour.hp i) := by
  intro l H n i ls h
  simp only [sFour] at h
  repeat' split at h
  all_goals first
    | (cases h; done)
    | (cases h; exact ⟨rfl, rfl⟩)
def GFj : List (Nat × Ctr) := (57, sEven.ctr) :: (58, sFour.ctr) :: GFi
def GFk : List (Nat × Ctr) := (39, sAwake.ctr) :: GFj
end Go.Proofs.Ytbdgknebimdjoaa
namespace Go.Proofs.Ytbdgknebimdjoaa
open Go Go.RowKit
set_option linter.unusedVariables false
set_option maxRecDepth 100000
def evenF_t  : Prop :=
 (5 : Int) = (5 : Int) ∧ [(16 : Int), (16 : Int)] = [(16 : Int), (16 : Int)]
theorem evenF_e  : evenF_t  = vcG Try.prog (Gof []) (fun _ => none) Try.f57 [] [] (.leaf ((.ag [.v (.int .i64 5), .dat (.ints .i64 [16, 16])])) ([])) := by kernel_rfl
def fourF_t  : Prop :=
 [(0 : Int), (1 : Int), (1 : Int), (0 : Int)] = [(0 : Int), (1 : Int), (1 : Int), (0 : Int)]
theorem fourF_e  : fourF_t  = vcG Try.prog (Gof []) (fun _ => none) Try.f58 [] [] (.leaf ((.dat (.ints .i64 [0, 1, 1, 0]))) ([])) := by kernel_rfl
def awkF_t  : Prop :=
 List.length [(16 : Int), (16 : Int)] ≤ (4294967296 : Nat) ∧
 List.length [(0 : Int), (1 : Int), (1 : Int), (0 : Int)] ≤ (4294967296 : Nat) ∧
 ((cosN (5 : Int) [(16 : Int), (16 : Int)] [(0 : Int), (1 : Int), (1 : Int), (0 : Int)] == (8 : Int)) = true →
 (askE (5 : Int) [(16 : Int), (16 : Int)] [(0 : Int), (1 : Int), (1 : Int), (0 : Int)] (1 : Int) == (0 : Int)) = true) ∧
 ((cosN (5 : Int) [(16 : Int), (16 : Int)] [(0 : Int), (1 : Int), (1 : Int), (0 : Int)] == (8 : Int)) = false → false = true)
theorem awkF_e  : awkF_t  = vcG Try.prog (Gof GFj) (fun _ => none) Try.f39 [] [] (.leaf ((.v (.bool true))) ([])) := by kernel_rfl
end Go.Proofs.Ytbdgknebimdjoaa
namespace Go.Proofs.Ytbdgknebimdjoaa
open Go Go.RowKit
set_option linter.unusedVariables false
set_option linter.unusedSimpArgs false
set_option maxRecDepth 100000
theorem eqI_refl (l : List Int) : eqI l l = true := by unfold eqI; simp
end Go.Proofs.Ytbdgknebimdjoaa
namespace Go.Proofs.Ytbdgknebimdjoaa
open Go Go.RowKit
set_option linter.unusedVariables false
set_option linter.unusedSimpArgs false
set_option maxRecDepth 100000
theorem evenF_v : evenF_t := ⟨rfl, rfl⟩
theorem fourF_v : fourF_t := rfl
set_option synthInstance.maxSize 10000 in
set_option synthInstance.maxHeartbeats 400000 in
theorem awkF_v : awkF_t := by
  unfold awkF_t
  decide +kernel
theorem evenF_sound : Sound Try.prog 57 sEven.ctr := sEven.sound (by kernel_rfl) sEven_enc fun _ hc => by
  exact satG AllOk.nil mixed Try.func57 (evenF_e ) (evenF_v)
theorem fourF_sound : Sound Try.prog 58 sFour.ctr := sFour.sound (by kernel_rfl) sFour_enc fun _ hc => by
  exact satG AllOk.nil mixed Try.func58 (fourF_e ) (fourF_v)
theorem GFj_ok : AllOk Try.prog GFj := .cons evenF_sound <| .cons fourF_sound <| GFi_ok
theorem awkF_sound : Sound Try.prog 39 sAwake.ctr := sAwake.sound (by kernel_rfl) sAwake_enc fun _ hc => by
  exact satG GFj_ok mixed Try.func39 (awkF_e ) (awkF_v)
theorem GFk_ok : AllOk Try.prog GFk := .cons awkF_sound <| GFj_ok
end Go.Proofs.Ytbdgknebimdjoaa
namespace Go.Proofs.Ytbdgknebimdjoaa
open Go Go.RowKit
def stepV (x left : Int) : Int := cond (modI x 1048576 % 4 == 0) (-1) (cond (modI x 1048576 % 4 == 1) 0 (1 + modI x 1048576 / 4 % min left 40))
def kdL : List Int → Int → List Int → List Int × Int
  | [], left, out => (out, left)
  | x :: r, left, out => cond (decide (1 < left)) (cond (decide (left ≤ stepV x left)) (out, left) (kdL r (left - cond (decide (stepV x left < 0)) 1 (stepV x left)) (out ++ [stepV x left]))) (out, left)
def kdG (l : List Int) : Int := 5 + modI (atI l 0) 4
def kdF (l : List Int) : List Int × Int := kdL ((l.take 30).drop 1) (2 ^ (kdG l).toNat) []
def kdP (l : List Int) : List Int := (kdF l).1 ++ [(kdF l).2]
end Go.Proofs.Ytbdgknebimdjoaa
namespace Go.Proofs.Ytbdgknebimdjoaa
open Go
set_option linter.unusedVariables false
set_option maxRecDepth 100000
def thF (s : Int) : List Int → List Int
  | [] => []
  | x :: r => cond (x == 0) (thF (s + 1) r) (s :: thF (s + 1) r)
def thP (p : List Int) (i : Nat) : List Int := thF 0 (p.take i)
def thL (p : List Int) : List Int := thF 0 p
def symP (p nums : List Int) (i : Nat) : List Int := ((nums.take 200).take i).map fun x => (thL p).getD (modI x (thL p).length).toNat 0
def symL (p nums : List Int) : List Int := cond (Nat.beq (thL p).length 0) [] ((nums.take 200).map fun x => (thL p).getD (modI x (thL p).length).toNat 0)
abbrev YC : Type := Int × List Int × List Int
def okY (y : YC) : Prop := dchk y.1 y.2.1 = 0 ∧ y.2.2.any (noD y.2.1) = false ∧ y.2.2.length ≤ 200
end Go.Proofs.Ytbdgknebimdjoaa
namespace Go.Proofs.Ytbdgknebimdjoaa
open Go Go.RowKit
set_option linter.unusedVariables false
set_option linter.unusedSimpArgs false
set_option maxRecDepth 100000
def sAt : Spec where
  ι := List Int × Int
  dec l H := match l with
    | [.dat (.ints .i64 l), .v (.int .i64 i)] => some ((l, i), [])
    | _ => none
  args := fun (l, i) => [.dat (.ints .i64 l), .v (.int .i64 i)]
  out := fun (l, i) => .leaf (.v (.int .i64 (atI l i))) []
theorem sAt_enc : ∀ l H n i ls, sAt.dec l H = some (i, ls) → l = renL (rho ls n) (sAt.args i) ∧ givenHp H ls = renH (rho ls n) (sAt.hp i) := by
  intro l H n i ls h
  simp only [sAt] at h
  repeat' split at h
  all_goals first
    | (cases h; done)
    | (cases h; exact ⟨rfl, rfl⟩)
def sKd : Spec where
  ι := List Int
  dec l H := match l with
    | [.dat (.ints .i64 l)] => some (l, [])
    | _ => none
  args := fun l => [.dat (.ints .i64 l)]
  pre := fun l => [⟨l.all inW = true, inferInstance⟩]
  out := fun l => .leaf (.ag [.v (.int .i64 (kdG l)), .dat (.ints .i64 (kdP l))]) []
theorem sKd_enc : ∀ l H n i ls, sKd.dec l H = some (i, ls) → l = renL (rho ls n) (sKd.args i) ∧ givenHp H ls = renH (rho ls n) (sKd.hp i) := by
  intro l H n i ls h
  simp only [sKd] at h
  repeat' split at h
  all_goals first
    | (cases h; done)
    | (cases h; exact ⟨rfl, rfl⟩)
def sSymb : Spec where
  ι := Int × List Int × List Int
  dec l H := match l with
    | [.ag [.v (.int .i64 g), .dat (.ints .i64 p)], .dat (.ints .i64 l)] => some ((g, p, l), [])
    | _ => none
  args := fun (g, p, l) => [.ag [.v (.int .i64 g), .dat (.ints .i64 p)], .dat (.ints .i64 l)]
  pre := fun (g, p, l) => [⟨l.all inW = true, inferInstance⟩, ⟨p.length ≤ 4294967296, inferInstance⟩]
  out := fun (g, p, l) => .leaf (.dat (.ints .i64 (symL p l))) []
theorem sSymb_enc : ∀ l H n i ls, sSymb.dec l H = some (i, ls) → l = renL (rho ls n) (sSymb.args i) ∧ givenHp H ls = renH (rho ls n) (sSymb.hp i) := by
  intro l H n i ls h
  simp only [sSymb] at h
  repeat' split at h
  all_goals first
    | (cases h; done)
    | (cases h; exact ⟨rfl, rfl⟩)
def oKd (l : List Int) : LoopInv := { ι := Nat × Int × List Int, p := fun x => kdL ((l.take 30).drop x.1) x.2.1 x.2.2 = kdF l ∧ 1 ≤ x.1 ∧ x.1 ≤ 30 ∧ 1 ≤ x.2.1 ∧ x.2.1 ≤ 256 ∧ x.2.2.length ≤ x.1, tm := fun x => [(0, .dat (.ints .i64 l)), (2, .p 1000 0 0), (3, .p 1001 0 0), (4, .v (.int .i64 x.2.1)), (5, .v (.int .i64 (x.1 : Nat)))], hp := fun x => [(1000, .cells 24 [.v (.int .i64 0), .v (.slice none 0 0)]), (1001, .cells 24 [.v (.int .i64 (kdG l)), .o 1003]), (1003, .row 3 (.ints .i64 x.2.2))], μ := fun x => 30 - x.1 }
def oSymA (g : Int) (p l : List Int) : LoopInv := { ι := Nat, p := fun i => i ≤ p.length, tm := fun i => [(1, .dat (.ints .i64 l)), (2, .p 1000 0 0), (5, .o 5000), (6, .v (.int .i64 (i : Nat)))], hp := fun i => [dF 1000 g p, (5000, .row 3 (.ints .i64 (thP p i)))], μ := fun i => p.length - i }
def oSymB (g : Int) (p l : List Int) : LoopInv := { ι := Nat, p := fun i => i ≤ l.length ∧ i ≤ 200 ∧ (thL p = [] → i = 0), tm := fun i => [(1, .dat (.ints .i64 l)), (2, .p 1000 0 0), (5, .o 5000), (7, .o 5001), (8, .v (.int .i64 (i : Nat)))], hp := fun i => [dF 1000 g p, (5000, .row 3 (.ints .i64 (thL p))), (5001, .row 3 (.ints .i64 (symP p l i)))], μ := fun i => l.length - i }
def oSym (g : Int) (p l : List Int) : Nat → Option LoopFam := fun k => cond (Nat.beq k 0) (some (.one (oSymA g p l))) (cond (Nat.beq k 1) (some (.one (oSymB g p l))) none)
def GFl : List (Nat × Ctr) := (74, sAt.ctr) :: (36, sSymb.ctr) :: GFk
def GFm : List (Nat × Ctr) := (35, sKd.ctr) :: GFl
end Go.Proofs.Ytbdgknebimdjoaa
namespace Go.Proofs.Ytbdgknebimdjoaa
open Go
set_option linter.unusedVariables false
set_option maxRecDepth 100000
def lastB (s : ByteArray) : Int := ((s.data.toList.getD (s.size - 1) 0).toNat : Int)
def noB (s : ByteArray) : Bool := Nat.beq s.size 0 || lastB s == 0
def bkN (s : ByteArray) : Int := cond (noB s) (-1) (8 * ((s.size : Int) - 1) + hiI (lastB s))
def bkE (s : ByteArray) : Int := cond (decide (1048576 < s.size)) 4 (cond (noB s) 22 0)
def bkR (s : ByteArray) : Int := cond (bkE s == 0) (bkN s) 0
def bkS (s : ByteArray) : ByteArray := cond (bkE s == 0) s ByteArray.empty
def rgE (s : ByteArray) (left : Int) : Int := cond (bkE s == 0) (cond (decide (left < 0) || decide (bkN s < left)) 10 0) 10
def pkE (s : ByteArray) (left n : Int) : Int := cond (rgE s left == 0) (cond (decide (n < 0) || decide (32 < n)) 2 0) (rgE s left)
def byI (s : ByteArray) (i : Nat) : Int := ((s.data.toList.getD i 0).toNat : Int)
def bitS (s : ByteArray) (k : Int) : Int := cond (decide (k < 0)) 0 (byI s (k / 8).toNat / 2 ^ (k % 8).toNat % 2)
def pkF (s : ByteArray) (left : Int) : Nat → Int
  | 0 => 0
  | i + 1 => 2 * pkF s left i + bitS s (left - 1 - (i : Nat))
def pkV (s : ByteArray) (left n : Int) : Int := cond (pkE s left n == 0) (pkF s left n.toNat) 0
def tkE (s : ByteArray) (left n : Int) : Int := cond (pkE s left n == 0) (cond (decide (left < n)) 5 0) (pkE s left n)
def tkS (s : ByteArray) (left n : Int) : ByteArray := cond (tkE s left n == 0) s ByteArray.empty
def tkL (s : ByteArray) (left n : Int) : Int := cond (tkE s left n == 0) (left - n) 0
def tkV (s : ByteArray) (left n : Int) : Int := cond (tkE s left n == 0) (pkF s left n.toNat) 0
def tkO (s : ByteArray) (left n : Int) : Bool := tkE s left n == 0
def nxL (s : ByteArray) (left n : Int) : Int := cond (tkE s left n == 0) (left - n) left
def celX (p sy : List Int) (i : Nat) : Int := pt (p.getD (sy.getD i 0).toNat 0) + ((sy.take i).count (sy.getD i 0) : Nat)
def celN (g : Int) (p sy : List Int) (i : Nat) : Int := g - hiI (celX p sy i)
def celR (g : Int) (p sy : List Int) (i : Nat) : List Int := [sy.getD i 0, celN g p sy i, celX p sy i * 2 ^ (celN g p sy i).toNat - 2 ^ g.toNat]
def celA (g : Int) (p sy : List Int) (i : Nat) : List (List Int) := (List.range i).map (celR g p sy)
def decL (g : Int) (p : List Int) : List (List Int) := celA g p (spr g p) (spr g p).length
def decO (g : Int) (p : List Int) : List (List Int) := cond (okE g p) (decL g p) []
def nxM (p sy : List Int) : Nat → List (List Int × List Int)
  | 0 => []
  | i + 1 => ([sy.getD i 0], [celX p sy i + 1]) :: nxM p sy i
def cS (c : List (List Int)) (x : Int) : Int := (c.getD x.toNat []).getD 0 0
def cB (c : List (List Int)) (x : Int) : Int := (c.getD x.toNat []).getD 1 0
def cA (c : List (List Int)) (x : Int) : Int := (c.getD x.toNat []).getD 2 0
abbrev RSt : Type := Int × Int × Bool
def rd0 (s : ByteArray) (L g : Int) : RSt := (tkV s L g, nxL s L g, tkO s L g)
def rdN (s : ByteArray) (c : List (List Int)) (r : RSt) : RSt := (cA c r.1 + tkV s r.2.1 (cB c r.1), nxL s r.2.1 (cB c r.1), tkO s r.2.1 (cB c r.1))
def rdI (s : ByteArray) (L g : Int) (c : List (List Int)) : Nat → RSt
  | 0 => rd0 s L g
  | i + 1 => rdN s c (rdI s L g c i)
def rX (s : ByteArray) (L g : Int) (c : List (List Int)) (i : Nat) : Int := (rdI s L g c i).1
def rL (s : ByteArray) (L g : Int) (c : List (List Int)) (i : Nat) : Int := (rdI s L g c i).2.1
def rO (s : ByteArray) (L g : Int) (c : List (List Int)) (i : Nat) : Bool := (rdI s L g c i).2.2
def gdN (ok : Nat → Bool) : Nat → Nat
  | 0 => 0
  | n + 1 => cond (Nat.beq (gdN ok n) n && ok n) (n + 1) (gdN ok n)
def rG (s : ByteArray) (L g : Int) (c : List (List Int)) (n : Nat) : Nat := gdN (rO s L g c) n
def symN (s : ByteArray) (L g : Int) (c : List (List Int)) (i : Nat) : List Int := (List.range i).map fun k => cS c (rX s L g c k)
def itX (s : ByteArray) (L g : Int) (c : List (List Int)) (n i : Nat) : Int := cond (Nat.blt i (rG s L g c n)) (cS c (rX s L g c i)) 0
def itO (s : ByteArray) (L g : Int) (c : List (List Int)) (n i : Nat) : Bool := Nat.blt i (rG s L g c n)
def itS (s : ByteArray) (L g : Int) (c : List (List Int)) (n i : Nat) : List Value := [.int .i64 (itX s L g c n i), .bool (itO s L g c n i)]
def itsN (s : ByteArray) (L g : Int) (c : List (List Int)) (n : Nat) : Nat := cond (Nat.beq (rG s L g c n) n) n (rG s L g c n + 1)
def itsS (s : ByteArray) (L g : Int) (c : List (List Int)) (n : Nat) : List (List Value) := (List.range (itsN s L g c n)).map (itS s L g c n)
def itL (s : ByteArray) (L g : Int) (c : List (List Int)) (n y : Nat) : Int := rL s L g c (min y (itsN s L g c n - 1))
structure CelOk (g : Int) (c : List (List Int)) : Prop where
  g0 : 0 ≤ g
  g12 : g ≤ 12
  len : c.length = szN g
  b0 : ∀ x : Int, 0 ≤ x → x < c.length → 0 ≤ cB c x ∧ cB c x ≤ g
  a0 : ∀ x : Int, 0 ≤ x → x < c.length → 0 ≤ cA c x ∧ cA c x + 2 ^ (cB c x).toNat ≤ c.length
def opE (g : Int) (p : List Int) (s : ByteArray) : Int := cond (dchk g p == 0) (bkE s) (dchk g p)
def rdB (g : Int) (p : List Int) (s : ByteArray) (n : Nat) : Bool := !(Nat.beq (rG s (bkN s) g (decL g p) n) n) || decide (0 < rL s (bkN s) g (decL g p) (n - 1))
def rdE (g : Int) (p : List Int) (s : ByteArray) (n : Int) : Int := cond (dchk g p == 0) (cond (decide (n < 1)) 5 (cond (decide (100000 < n)) 4 (cond (bkE s == 0) (cond (rdB g p s n.toNat) 22 0) (bkE s)))) (dchk g p)
def rdO (g : Int) (p : List Int) (s : ByteArray) (n : Int) : List Int := cond (rdE g p s n == 0) (symN s (bkN s) g (decL g p) n.toNat) []
end Go.Proofs.Ytbdgknebimdjoaa
namespace Go.Proofs.Ytbdgknebimdjoaa
open Go Go.RowKit
set_option linter.unusedVariables false
set_option linter.unusedSimpArgs false
set_option maxRecDepth 100000
def sLong : Spec where
  ι := ByteArray
  dec l H := match l with
    | [.ag [.v (.string s)]] => some (s, [])
    | _ => none
  args := fun s => [.ag [.v (.string s)]]
  out := fun s => .leaf (.v (.bool (decide (1048576 < s.size)))) []
theorem sLong_enc : ∀ l H n i ls, sLong.dec l H = some (i, ls) → l = renL (rho ls n) (sLong.args i) ∧ givenHp H ls = renH (rho ls n) (sLong.hp i) := by
  intro l H n i ls h
  simp only [sLong] at h
  repeat' split at h
  all_goals first
    | (cases h; done)
    | (cases h; exact ⟨rfl, rfl⟩)
def sLen8 : Spec where
  ι := Int
  dec l H := match l with
    | [.v (.int .u8 x)] => some (x, [])
    | _ => none
  args := fun x => [.v (.int .u8 x)]
  pre := fun x => [⟨0 ≤ x, inferInstance⟩, ⟨x ≤ 255, inferInstance⟩]
  out := fun x => .leaf (.v (.int .i64 (hiI x + 1))) []
theorem sLen8_enc : ∀ l H n i ls, sLen8.dec l H = some (i, ls) → l = renL (rho ls n) (sLen8.args i) ∧ givenHp H ls = renH (rho ls n) (sLen8.hp i) := by
  intro l H n i ls h
  simp only [sLen8] at h
  repeat' split at h
  all_goals first
    | (cases h; done)
    | (cases h; exact ⟨rfl, rfl⟩)
def sSizeT : Spec where
  ι := ByteArray
  dec l H := match l with
    | [.ag [.v (.string s)]] => some (s, [])
    | _ => none
  args := fun s => [.ag [.v (.string s)]]
  pre := fun s => [⟨s.size ≤ 4294967296, inferInstance⟩]
  out := fun s => .leaf (.v (.int .i64 (bkN s))) []
theorem sSizeT_enc : ∀ l H n i ls, sSizeT.dec l H = some (i, ls) → l = renL (rho ls n) (sSizeT.args i) ∧ givenHp H ls = renH (rho ls n) (sSizeT.hp i) := by
  intro l H n i ls h
  simp only [sSizeT] at h
  repeat' split at h
  all_goals first
    | (cases h; done)
    | (cases h; exact ⟨rfl, rfl⟩)
def sBitT : Spec where
  ι := ByteArray × Int
  dec l H := match l with
    | [.ag [.v (.string s)], .v (.int .i64 i)] => some ((s, i), [])
    | _ => none
  args := fun (s, i) => [.ag [.v (.string s)], .v (.int .i64 i)]
  pre := fun (s, i) => [⟨0 ≤ i, inferInstance⟩, ⟨i < 8 * s.size, inferInstance⟩, ⟨s.size ≤ 4294967296, inferInstance⟩]
  out := fun (s, i) => .leaf (.v (.int .u64 (bitS s i))) []
theorem sBitT_enc : ∀ l H n i ls, sBitT.dec l H = some (i, ls) → l = renL (rho ls n) (sBitT.args i) ∧ givenHp H ls = renH (rho ls n) (sBitT.hp i) := by
  intro l H n i ls h
  simp only [sBitT] at h
  repeat' split at h
  all_goals first
    | (cases h; done)
    | (cases h; exact ⟨rfl, rfl⟩)
def sNumT : Spec where
  ι := ByteArray × Int × Int
  dec l H := match l with
    | [.p l0 0 0, .v (.int .i64 n)] => match H l0 with
      | some (.cells 187 [.v (.string s), .v (.int .i64 l)]) => some ((s, l, n), [l0])
      | _ => none
    | _ => none
  args := fun (s, l, n) => [.p 0 0 0, .v (.int .i64 n)]
  hp := fun (s, l, n) => [(0, .cells 187 [.v (.string s), .v (.int .i64 l)])]
  pre := fun (s, l, n) => [⟨0 ≤ n, inferInstance⟩, ⟨n ≤ 32, inferInstance⟩, ⟨0 ≤ l, inferInstance⟩, ⟨l ≤ 8 * s.size, inferInstance⟩, ⟨s.size ≤ 4294967296, inferInstance⟩]
  out := fun (s, l, n) => .leaf (.v (.int .u64 (pkF s l n.toNat))) [(0, .cells 187 [.v (.string s), .v (.int .i64 l)])]
theorem sNumT_enc : ∀ l H n i ls, sNumT.dec l H = some (i, ls) → l = renL (rho ls n) (sNumT.args i) ∧ givenHp H ls = renH (rho ls n) (sNumT.hp i) := by
  intro l H n i ls h
  simp only [sNumT] at h
  repeat' split at h
  all_goals first
    | (cases h; done)
    | (cases h; exact ⟨rfl, rfl⟩)
    | (cases h; refine ⟨rfl, ?_⟩; simp only [givenHp, List.filterMap_cons, List.filterMap_nil, Option.map, *]; rfl)
def sBits : Spec where
  ι := ByteArray
  dec l H := match l with
    | [.v (.string s)] => some (s, [])
    | _ => none
  args := fun s => [.v (.string s)]
  pre := fun s => [⟨s.size ≤ 4294967296, inferInstance⟩]
  out := fun s => .leaf (.tu [.v (.int .i64 (bkR s)), .v (.int .i64 (bkE s))]) []
theorem sBits_enc : ∀ l H n i ls, sBits.dec l H = some (i, ls) → l = renL (rho ls n) (sBits.args i) ∧ givenHp H ls = renH (rho ls n) (sBits.hp i) := by
  intro l H n i ls h
  simp only [sBits] at h
  repeat' split at h
  all_goals first
    | (cases h; done)
    | (cases h; exact ⟨rfl, rfl⟩)
def sReadB : Spec where
  ι := ByteArray
  dec l H := match l with
    | [.v (.string s)] => some (s, [])
    | _ => none
  args := fun s => [.v (.string s)]
  pre := fun s => [⟨s.size ≤ 4294967296, inferInstance⟩]
  out := fun s => .leaf (.tu [.ag [.v (.string (bkS s)), .v (.int .i64 (bkR s))], .v (.int .i64 (bkE s))]) []
theorem sReadB_enc : ∀ l H n i ls, sReadB.dec l H = some (i, ls) → l = renL (rho ls n) (sReadB.args i) ∧ givenHp H ls = renH (rho ls n) (sReadB.hp i) := by
  intro l H n i ls h
  simp only [sReadB] at h
  repeat' split at h
  all_goals first
    | (cases h; done)
    | (cases h; exact ⟨rfl, rfl⟩)
def sRight : Spec where
  ι := ByteArray × Int
  dec l H := match l with
    | [.ag [.v (.string s), .v (.int .i64 l)]] => some ((s, l), [])
    | _ => none
  args := fun (s, l) => [.ag [.v (.string s), .v (.int .i64 l)]]
  pre := fun (s, l) => [⟨s.size ≤ 4294967296, inferInstance⟩]
  out := fun (s, l) => .leaf (.v (.int .i64 (rgE s l))) []
theorem sRight_enc : ∀ l H n i ls, sRight.dec l H = some (i, ls) → l = renL (rho ls n) (sRight.args i) ∧ givenHp H ls = renH (rho ls n) (sRight.hp i) := by
  intro l H n i ls h
  simp only [sRight] at h
  repeat' split at h
  all_goals first
    | (cases h; done)
    | (cases h; exact ⟨rfl, rfl⟩)
def sPeek : Spec where
  ι := ByteArray × Int × Int
  dec l H := match l with
    | [.ag [.v (.string s), .v (.int .i64 l)], .v (.int .i64 n)] => some ((s, l, n), [])
    | _ => none
  args := fun (s, l, n) => [.ag [.v (.string s), .v (.int .i64 l)], .v (.int .i64 n)]
  pre := fun (s, l, n) => [⟨s.size ≤ 4294967296, inferInstance⟩]
  out := fun (s, l, n) => .leaf (.tu [.v (.int .u64 (pkV s l n)), .v (.int .i64 (pkE s l n))]) []
theorem sPeek_enc : ∀ l H n i ls, sPeek.dec l H = some (i, ls) → l = renL (rho ls n) (sPeek.args i) ∧ givenHp H ls = renH (rho ls n) (sPeek.hp i) := by
  intro l H n i ls h
  simp only [sPeek] at h
  repeat' split at h
  all_goals first
    | (cases h; done)
    | (cases h; exact ⟨rfl, rfl⟩)
def sTake : Spec where
  ι := ByteArray × Int × Int
  dec l H := match l with
    | [.ag [.v (.string s), .v (.int .i64 l)], .v (.int .i64 n)] => some ((s, l, n), [])
    | _ => none
  args := fun (s, l, n) => [.ag [.v (.string s), .v (.int .i64 l)], .v (.int .i64 n)]
  pre := fun (s, l, n) => [⟨s.size ≤ 4294967296, inferInstance⟩]
  out := fun (s, l, n) => .leaf (.tu [.ag [.v (.string (tkS s l n)), .v (.int .i64 (tkL s l n))], .v (.int .u64 (tkV s l n)), .v (.int .i64 (tkE s l n))]) []
theorem sTake_enc : ∀ l H n i ls, sTake.dec l H = some (i, ls) → l = renL (rho ls n) (sTake.args i) ∧ givenHp H ls = renH (rho ls n) (sTake.hp i) := by
  intro l H n i ls h
  simp only [sTake] at h
  repeat' split at h
  all_goals first
    | (cases h; done)
    | (cases h; exact ⟨rfl, rfl⟩)
def sPt : Spec where
  ι := Int
  dec l H := match l with
    | [.v (.int .i64 x)] => some (x, [])
    | _ => none
  args := fun x => [.v (.int .i64 x)]
  out := fun x => .leaf (.v (.int .i64 (pt x))) []
theorem sPt_enc : ∀ l H n i ls, sPt.dec l H = some (i, ls) → l = renL (rho ls n) (sPt.args i) ∧ givenHp H ls = renH (rho ls n) (sPt.hp i) := by
  intro l H n i ls h
  simp only [sPt] at h
  repeat' split at h
  all_goals first
    | (cases h; done)
    | (cases h; exact ⟨rfl, rfl⟩)
def sPrb : Spec where
  ι := Int × Int × List Int
  dec l H := match l with
    | [.v (.int .i64 x), .p l0 0 0] => match H l0 with
      | some (.cells 24 [.v (.int .i64 g), .dat (.ints .i64 p)]) => some ((x, g, p), [l0])
      | _ => none
    | _ => none
  args := fun (x, g, p) => [.v (.int .i64 x), .p 0 0 0]
  hp := fun (x, g, p) => [(0, .cells 24 [.v (.int .i64 g), .dat (.ints .i64 p)])]
  pre := fun (x, g, p) => [⟨0 ≤ x, inferInstance⟩, ⟨x < p.length, inferInstance⟩]
  out := fun (x, g, p) => .leaf (.v (.int .i64 (pt (p.getD x.toNat 0)))) [(0, .cells 24 [.v (.int .i64 g), .dat (.ints .i64 p)])]
theorem sPrb_enc : ∀ l H n i ls, sPrb.dec l H = some (i, ls) → l = renL (rho ls n) (sPrb.args i) ∧ givenHp H ls = renH (rho ls n) (sPrb.hp i) := by
  intro l H n i ls h
  simp only [sPrb] at h
  repeat' split at h
  all_goals first
    | (cases h; done)
    | (cases h; exact ⟨rfl, rfl⟩)
    | (cases h; refine ⟨rfl, ?_⟩; simp only [givenHp, List.filterMap_cons, List.filterMap_nil, Option.map, *]; rfl)
def sDecA : Spec where
  ι := Int × List Int × Int × List Int
  dec l H := match l with
    | [.v (.int .i64 y), .fn (.func 85) [] [.p l0 0 0], .dat (.ints .i64 q)] => match H l0 with
      | some (.cells 24 [.v (.int .i64 g), .dat (.ints .i64 p)]) => some ((y, q, g, p), [l0])
      | _ => none
    | _ => none
  args := fun (y, q, g, p) => [.v (.int .i64 y), .fn (.func 85) [] [.p 0 0 0], .dat (.ints .i64 q)]
  hp := fun (y, q, g, p) => [(0, .cells 24 [.v (.int .i64 g), .dat (.ints .i64 p)])]
  pre := fun (y, q, g, p) => [⟨dchk g p = 0, inferInstance⟩, ⟨y = g, inferInstance⟩, ⟨q = spr g p, inferInstance⟩]
  out := fun (y, q, g, p) => .leaf (.dat (.recs 3 (decL g p))) [(0, .cells 24 [.v (.int .i64 g), .dat (.ints .i64 p)])]
theorem sDecA_enc : ∀ l H n i ls, sDecA.dec l H = some (i, ls) → l = renL (rho ls n) (sDecA.args i) ∧ givenHp H ls = renH (rho ls n) (sDecA.hp i) := by
  intro l H n i ls h
  simp only [sDecA] at h
  repeat' split at h
  all_goals first
    | (cases h; done)
    | (cases h; exact ⟨rfl, rfl⟩)
    | (cases h; refine ⟨rfl, ?_⟩; simp only [givenHp, List.filterMap_cons, List.filterMap_nil, Option.map, *]; rfl)
def sDec : Spec where
  ι := Int × List Int
  dec l H := match l with
    | [.ag [.v (.int .i64 g), .dat (.ints .i64 p)]] => some ((g, p), [])
    | _ => none
  args := fun (g, p) => [.ag [.v (.int .i64 g), .dat (.ints .i64 p)]]
  pre := fun (g, p) => [⟨p.length ≤ 4294967296, inferInstance⟩]
  out := fun (g, p) => .leaf (.tu [.dat (.recs 3 (decO g p)), .v (.int .i64 (dchk g p))]) []
theorem sDec_enc : ∀ l H n i ls, sDec.dec l H = some (i, ls) → l = renL (rho ls n) (sDec.args i) ∧ givenHp H ls = renH (rho ls n) (sDec.hp i) := by
  intro l H n i ls h
  simp only [sDec] at h
  repeat' split at h
  all_goals first
    | (cases h; done)
    | (cases h; exact ⟨rfl, rfl⟩)
def smB (k : Nat) (s : ByteArray) (l g : Int) (c : List (List Int)) : Nat × SBlk := (k, .cells 120 [.v (.string s), .v (.int .i64 l), .dat (.recs 3 c), .v (.int .i64 g)])
def sTakeF : Spec where
  ι := ByteArray × Int × Int × List (List Int) × Int
  own := true
  dec l H := match l with
    | [.p l0 0 0, .v (.int .i64 n)] => match H l0 with
      | some (.cells 120 [.v (.string s), .v (.int .i64 l), .dat (.recs 3 c), .v (.int .i64 g)]) => some ((s, l, g, c, n), [l0])
      | _ => none
    | _ => none
  args := fun (s, l, g, c, n) => [.p 0 0 0, .v (.int .i64 n)]
  hp := fun (s, l, g, c, n) => [(0, .cells 120 [.v (.string s), .v (.int .i64 l), .dat (.recs 3 c), .v (.int .i64 g)])]
  pre := fun (s, l, g, c, n) => [⟨s.size ≤ 4294967296, inferInstance⟩]
  out := fun (s, l, g, c, n) => .leaf (.tu [.v (.int .i64 (tkV s l n)), .v (.bool (tkO s l n))]) [(0, .cells 120 [.v (.string s), .v (.int .i64 (nxL s l n)), .dat (.recs 3 c), .v (.int .i64 g)])]
theorem sTakeF_enc : ∀ l H n i ls, sTakeF.dec l H = some (i, ls) → l = renL (rho ls n) (sTakeF.args i) ∧ givenHp H ls = renH (rho ls n) (sTakeF.hp i) := by
  intro l H n i ls h
  simp only [sTakeF] at h
  repeat' split at h
  all_goals first
    | (cases h; done)
    | (cases h; exact ⟨rfl, rfl⟩)
    | (cases h; refine ⟨rfl, ?_⟩; simp only [givenHp, List.filterMap_cons, List.filterMap_nil, Option.map, *]; rfl)
def sOpenF : Spec where
  ι := Int × List Int × ByteArray
  dec l H := match l with
    | [.ag [.v (.int .i64 g), .dat (.ints .i64 p)], .v (.string s)] => some ((g, p, s), [])
    | _ => none
  args := fun (g, p, s) => [.ag [.v (.int .i64 g), .dat (.ints .i64 p)], .v (.string s)]
  pre := fun (g, p, s) => [⟨p.length ≤ 4294967296, inferInstance⟩, ⟨s.size ≤ 4294967296, inferInstance⟩]
  out := fun (g, p, s) => .ite ⟨opE g p s = 0, inferInstance⟩ (.leaf (.tu [.p 2000 0 0, .v (.int .i64 0)]) [(2000, .cells 120 [.v (.string s), .v (.int .i64 (bkN s)), .dat (.recs 3 (decL g p)), .v (.int .i64 g)])]) (.leaf (.tu [.v (.pointer none), .v (.int .i64 (opE g p s))]) [])
theorem sOpenF_enc : ∀ l H n i ls, sOpenF.dec l H = some (i, ls) → l = renL (rho ls n) (sOpenF.args i) ∧ givenHp H ls = renH (rho ls n) (sOpenF.hp i) := by
  intro l H n i ls h
  simp only [sOpenF] at h
  repeat' split at h
  all_goals first
    | (cases h; done)
    | (cases h; exact ⟨rfl, rfl⟩)
def sSyms : Spec where
  ι := ByteArray × Int × Int × List (List Int) × Int
  own := true
  dec l H := match l with
    | [.p l0 0 0, .v (.int .i64 n)] => match H l0 with
      | some (.cells 120 [.v (.string s), .v (.int .i64 l), .dat (.recs 3 c), .v (.int .i64 g)]) => some ((s, l, g, c, n), [l0])
      | _ => none
    | _ => none
  args := fun (s, l, g, c, n) => [.p 0 0 0, .v (.int .i64 n)]
  hp := fun (s, l, g, c, n) => [(0, .cells 120 [.v (.string s), .v (.int .i64 l), .dat (.recs 3 c), .v (.int .i64 g)])]
  out := fun (s, l, g, c, n) => .leaf (.fn (.func 119) [] [.p 2000 0 0, .p 2001 0 0]) [(0, .cells 120 [.v (.string s), .v (.int .i64 l), .dat (.recs 3 c), .v (.int .i64 g)]), (2000, .cells 111 [.p 0 0 0]), (2001, .cells 3 [.v (.int .i64 n)])]
theorem sSyms_enc : ∀ l H n i ls, sSyms.dec l H = some (i, ls) → l = renL (rho ls n) (sSyms.args i) ∧ givenHp H ls = renH (rho ls n) (sSyms.hp i) := by
  intro l H n i ls h
  simp only [sSyms] at h
  repeat' split at h
  all_goals first
    | (cases h; done)
    | (cases h; exact ⟨rfl, rfl⟩)
    | (cases h; refine ⟨rfl, ?_⟩; simp only [givenHp, List.filterMap_cons, List.filterMap_nil, Option.map, *]; rfl)
def sReadF : Spec where
  ι := Int × List Int × ByteArray × Int
  dec l H := match l with
    | [.ag [.v (.int .i64 g), .dat (.ints .i64 p)], .v (.string s), .v (.int .i64 n)] => some ((g, p, s, n), [])
    | _ => none
  args := fun (g, p, s, n) => [.ag [.v (.int .i64 g), .dat (.ints .i64 p)], .v (.string s), .v (.int .i64 n)]
  pre := fun (g, p, s, n) => [⟨p.length ≤ 4294967296, inferInstance⟩, ⟨s.size ≤ 4294967296, inferInstance⟩]
  out := fun (g, p, s, n) => .leaf (.tu [.dat (.ints .i64 (rdO g p s n)), .v (.int .i64 (rdE g p s n))]) []
theorem sReadF_enc : ∀ l H n i ls, sReadF.dec l H = some (i, ls) → l = renL (rho ls n) (sReadF.args i) ∧ givenHp H ls = renH (rho ls n) (sReadF.hp i) := by
  intro l H n i ls h
  simp only [sReadF] at h
  repeat' split at h
  all_goals first
    | (cases h; done)
    | (cases h; exact ⟨rfl, rfl⟩)
def oNumT (s : ByteArray) (l n : Int) : LoopInv := { ι := Nat, p := fun i => (i : Int) ≤ n, tm := fun i => [(0, .p 0 0 0), (5, .v (.int .u64 (pkF s l i))), (8, .v (.int .i64 n)), (9, .v (.int .i64 (i : Nat)))], hp := fun i => [(0, .cells 187 [.v (.string s), .v (.int .i64 l)])], μ := fun i => n.toNat - i }
def oDecA (g : Int) (p : List Int) : LoopInv := { ι := Nat, p := fun i => i ≤ (spr g p).length, tm := fun i => [(0, .v (.int .i64 g)), (1, .fn (.func 85) [] [.p 0 0 0]), (8, .o 5000), (9, .m 5001), (18, .dat (.ints .i64 (spr g p))), (19, .v (.int .i64 (spr g p).length)), (20, .v (.int .i64 (i : Nat)))], hp := fun i => [dF 0 g p, (5000, .row 68 (.recs 3 (celA g p (spr g p) i))), (5001, .mp (.one (.i .i64)) (.one (.i .i64)) (nxM p (spr g p) i))], μ := fun i => (spr g p).length - i }
def oDecZ (g : Int) (p : List Int) (i : Nat) : LoopInv := { ι := Unit, p := fun _ => i < (spr g p).length, tm := fun _ => [(0, .v (.int .i64 g)), (1, .fn (.func 85) [] [.p 0 0 0]), (8, .o 5000), (9, .m 5001), (11, .v (.int .i64 ((spr g p).getD i 0))), (18, .dat (.ints .i64 (spr g p))), (19, .v (.int .i64 (spr g p).length)), (20, .v (.int .i64 (i : Nat)))], hp := fun _ => [dF 0 g p, (5000, .row 68 (.recs 3 (celA g p (spr g p) i))), (5001, .mp (.one (.i .i64)) (.one (.i .i64)) (([(spr g p).getD i 0], [celX p (spr g p) i]) :: nxM p (spr g p) i))], μ := fun _ => 0 }
def oDecB (g : Int) (p : List Int) (i : Nat) : LoopInv := { ι := Unit, p := fun _ => i < (spr g p).length, tm := fun _ => [(0, .v (.int .i64 g)), (1, .fn (.func 85) [] [.p 0 0 0]), (8, .o 5000), (9, .m 5001), (11, .v (.int .i64 ((spr g p).getD i 0))), (14, .v (.int .i64 (celX p (spr g p) i))), (18, .dat (.ints .i64 (spr g p))), (19, .v (.int .i64 (spr g p).length)), (20, .v (.int .i64 (i : Nat)))], hp := fun _ => [dF 0 g p, (5000, .row 68 (.recs 3 (celA g p (spr g p) i))), (5001, .mp (.one (.i .i64)) (.one (.i .i64)) (nxM p (spr g p) (i + 1)))], μ := fun _ => 0 }
def oDecC (g : Int) (p : List Int) (i : Nat) : LoopInv := { ι := Unit, p := fun _ => i < (spr g p).length, tm := fun _ => [(0, .v (.int .i64 g)), (1, .fn (.func 85) [] [.p 0 0 0]), (8, .o 5000), (9, .m 5001), (11, .v (.int .i64 ((spr g p).getD i 0))), (14, .v (.int .i64 (celX p (spr g p) i))), (15, .v (.int .i64 (celN g p (spr g p) i))), (18, .dat (.ints .i64 (spr g p))), (19, .v (.int .i64 (spr g p).length)), (20, .v (.int .i64 (i : Nat)))], hp := fun _ => [dF 0 g p, (5000, .row 68 (.recs 3 (celA g p (spr g p) i))), (5001, .mp (.one (.i .i64)) (.one (.i .i64)) (nxM p (spr g p) (i + 1)))], μ := fun _ => 0 }
def oDec (g : Int) (p : List Int) : Nat → Option LoopFam := fun k => cond (Nat.beq k 0) (some (.one (oDecA g p))) (cond (Nat.beq k 1010) (some (.fam Nat fun i => oDecZ g p i)) <| cond (Nat.beq k 1012) (some (.fam Nat fun i => oDecB g p i)) (cond (Nat.beq k 1013) (some (.fam Nat fun i => oDecC g p i)) none))
def hpSy (s : ByteArray) (L g : Int) (c : List (List Int)) (n : Nat) (l : Int) : List (Nat × SBlk) := [(0, .cells 111 [.p 2 0 0]), (1, .cells 3 [.v (.int .i64 (n : Nat))]), smB 2 s l g c]
def oSyI (l0 : Nat) (s : ByteArray) (L g : Int) (c : List (List Int)) (n : Nat) : LoopInvI := { ι := Nat, p := fun i => i < n ∧ i ≤ rG s L g c n, tm := fun i => [(0, .v (.func (.yield l0) #[] #[])), (1, .p 0 0 0), (2, .p 1 0 0), (4, .v (.int .i64 (rX s L g c i))), (5, .v (.bool (rO s L g c i))), (18, .v (.int .i64 (n : Nat))), (19, .v (.int .i64 (i : Nat)))], hp := fun i => hpSy s L g c n (rL s L g c i), μ := fun i => n - i, y := fun i => i }
def oSyIF (l0 : Nat) (s : ByteArray) (L g : Int) (c : List (List Int)) (n : Nat) : Nat → Option LoopFamI := fun k => cond (Nat.beq k 0) (some ⟨Unit, fun _ => oSyI l0 s L g c n⟩) none
def GHa : List (Nat × Ctr) := (155, sLong.ctr) :: (161, sLen8.ctr) :: (162, sBitT.ctr) :: (107, sWhen.ctr) :: (105, sFst.ctr) :: (86, sPt.ctr) :: GFm
def GHb : List (Nat × Ctr) := (156, sSizeT.ctr) :: (159, sNumT.ctr) :: (85, sPrb.ctr) :: GHa
def GHc : List (Nat × Ctr) := (145, sBits.ctr) :: (158, sRight.ctr) :: (84, sDecA.ctr) :: GHb
def GHd : List (Nat × Ctr) := (118, sReadB.ctr) :: (147, sPeek.ctr) :: (50, sDec.ctr) :: GHc
def GHe : List (Nat × Ctr) := (123, sTake.ctr) :: (87, sOpenF.ctr) :: GHd
def GHf : List (Nat × Ctr) := (92, sTakeF.ctr) :: (88, sSyms.ctr) :: GHe
end Go.Proofs.Ytbdgknebimdjoaa
namespace Go.Proofs.Ytbdgknebimdjoaa
open Go Go.RowKit
set_option linter.unusedVariables false
set_option maxRecDepth 100000
def longH_t (s : ByteArray) : Prop :=
 decide ((↑(ByteArray.size s) : Int) > (1048576 : Int)) = decide ((1048576 : Nat) < ByteArray.size s)
theorem longH_e (s : ByteArray) : longH_t s = vcG Try.prog (Gof []) (fun _ => none) Try.f155 [.ag [.v (.string s)]] [] (.leaf ((.v (.bool (decide (1048576 < s.size))))) ([])) := by kernel_rfl
def bitH_t (s : ByteArray) (i : Int) : Prop :=
 (8 : Int) ≠ (0 : Int) ∧
 (0 : Int) ≤ IntKind.wrap IntKind.i64 (Int.tdiv i (8 : Int)) ∧
 IntKind.wrap IntKind.i64 (Int.tdiv i (8 : Int)) < (↑(ByteArray.size s) : Int) ∧
 (8 : Int) ≠ (0 : Int) ∧
 (0 : Int) ≤ IntKind.wrap IntKind.u64 (Int.tmod i (8 : Int)) ∧
 bits BinOp.and IntKind.u64
 (Int.fdiv (IntKind.wrap IntKind.u64 (↑(UInt8.toNat (List.getD s.data.toList (Int.toNat (IntKind.wrap IntKind.i64 (Int.tdiv i (8 : Int)))) (0 : UInt8))) : Int))
 ((2 : Int) ^ min (Int.toNat (IntKind.wrap IntKind.u64 (Int.tmod i (8 : Int)))) (IntKind.bits IntKind.u64)))
 (1 : Int) =
 bitS s i
theorem bitH_e (s : ByteArray) (i : Int) : bitH_t s i = vcG Try.prog (Gof []) (fun _ => none) Try.f162 [.ag [.v (.string s)], .v (.int .i64 i)] [] (.leaf ((.v (.int .u64 (bitS s i)))) ([])) := by kernel_rfl
def ptH_t (x : Int) : Prop :=
 (decide (x < (0 : Int)) = true → (1 : Int) = pt x) ∧ (decide (x < (0 : Int)) = false → x = pt x)
theorem ptH_e (x : Int) : ptH_t x = vcG Try.prog (Gof []) (fun _ => none) Try.f86 [.v (.int .i64 x)] [] (.leaf ((.v (.int .i64 (pt x)))) ([])) := by kernel_rfl
def sizeH_t (s : ByteArray) : Prop :=
 ((ByteArray.toList s == ByteArray.toList ByteArray.empty) = true → (-1 : Int) = bkN s) ∧
 ((ByteArray.toList s == ByteArray.toList ByteArray.empty) = false →
 (0 : Int) ≤ IntKind.wrap IntKind.i64 ((↑(ByteArray.size s) : Int) - (1 : Int)) ∧
 IntKind.wrap IntKind.i64 ((↑(ByteArray.size s) : Int) - (1 : Int)) < (↑(ByteArray.size s) : Int) ∧
 (((↑(UInt8.toNat (List.getD s.data.toList (Int.toNat (IntKind.wrap IntKind.i64 ((↑(ByteArray.size s) : Int) - (1 : Int)))) (0 : UInt8))) : Int) == (0 : Int)) = true → (-1 : Int) = bkN s) ∧
 (((↑(UInt8.toNat (List.getD s.data.toList (Int.toNat (IntKind.wrap IntKind.i64 ((↑(ByteArray.size s) : Int) - (1 : Int)))) (0 : UInt8))) : Int) == (0 : Int)) = false →
 (0 : Int) ≤ IntKind.wrap IntKind.i64 ((↑(ByteArray.size s) : Int) - (1 : Int)) ∧
 IntKind.wrap IntKind.i64 ((↑(ByteArray.size s) : Int) - (1 : Int)) < (↑(ByteArray.size s) : Int) ∧
 (0 : Int) ≤ (↑(UInt8.toNat (List.getD s.data.toList (Int.toNat (IntKind.wrap IntKind.i64 ((↑(ByteArray.size s) : Int) - (1 : Int)))) (0 : UInt8))) : Int) ∧
 (↑(UInt8.toNat (List.getD s.data.toList (Int.toNat (IntKind.wrap IntKind.i64 ((↑(ByteArray.size s) : Int) - (1 : Int)))) (0 : UInt8))) : Int) ≤ (255 : Int) ∧
 IntKind.wrap IntKind.i64
 (IntKind.wrap IntKind.i64
 (IntKind.wrap IntKind.i64 ((8 : Int) * IntKind.wrap IntKind.i64 ((↑(ByteArray.size s) : Int) - (1 : Int))) +
 (hiI (↑(UInt8.toNat (List.getD s.data.toList (Int.toNat (IntKind.wrap IntKind.i64 ((↑(ByteArray.size s) : Int) - (1 : Int)))) (0 : UInt8))) : Int) + (1 : Int))) -
 (1 : Int)) =
 bkN s))
theorem sizeH_e (s : ByteArray) : sizeH_t s = vcG Try.prog (Gof GHa) (fun _ => none) Try.f156 [.ag [.v (.string s)]] [] (.leaf ((.v (.int .i64 (bkN s)))) ([])) := by kernel_rfl
def numH_t (s : ByteArray) (l n : Int) : Prop :=
 (∃ (x0 : Nat), Int.NonNeg (n - (↑x0 : Int)) ∧ (0 : Int) = pkF s l x0 ∧ n = n ∧ (0 : Int) = (↑x0 : Int) ∧ s = s ∧ l = l) ∧
 ∀ (x1 : Nat),
 Int.NonNeg (n - (↑x1 : Int)) →
 (decide ((↑x1 : Int) < n) = true →
 (0 : Int) ≤ (1 : Int) ∧
 (decide (IntKind.wrap IntKind.i64 (IntKind.wrap IntKind.i64 (l - (1 : Int)) - (↑x1 : Int)) ≥ (0 : Int)) = true →
 (0 : Int) ≤ IntKind.wrap IntKind.i64 (IntKind.wrap IntKind.i64 (l - (1 : Int)) - (↑x1 : Int)) ∧
 IntKind.wrap IntKind.i64 (IntKind.wrap IntKind.i64 (l - (1 : Int)) - (↑x1 : Int)) < (8 : Int) * (↑(ByteArray.size s) : Int) ∧
 ByteArray.size s ≤ (4294967296 : Nat) ∧
 ∃ (y2 : Nat),
 Int.NonNeg (n - (↑y2 : Int)) ∧
 Nat.sub (Int.toNat n) y2 < Nat.sub (Int.toNat n) x1 ∧
 bits BinOp.or IntKind.u64 (IntKind.wrap IntKind.u64 (pkF s l x1 * (2 : Int) ^ min (Int.toNat (1 : Int)) (IntKind.bits IntKind.u64)))
 (bitS s (IntKind.wrap IntKind.i64 (IntKind.wrap IntKind.i64 (l - (1 : Int)) - (↑x1 : Int)))) =
 pkF s l y2 ∧
 n = n ∧ IntKind.wrap IntKind.i64 ((↑x1 : Int) + (1 : Int)) = (↑y2 : Int) ∧ s = s ∧ l = l) ∧
 (decide (IntKind.wrap IntKind.i64 (IntKind.wrap IntKind.i64 (l - (1 : Int)) - (↑x1 : Int)) ≥ (0 : Int)) = false →
 ∃ (y3 : Nat),
 Int.NonNeg (n - (↑y3 : Int)) ∧
 Nat.sub (Int.toNat n) y3 < Nat.sub (Int.toNat n) x1 ∧
 IntKind.wrap IntKind.u64 (pkF s l x1 * (2 : Int) ^ min (Int.toNat (1 : Int)) (IntKind.bits IntKind.u64)) = pkF s l y3 ∧
 n = n ∧ IntKind.wrap IntKind.i64 ((↑x1 : Int) + (1 : Int)) = (↑y3 : Int) ∧ s = s ∧ l = l)) ∧
 (decide ((↑x1 : Int) < n) = false → pkF s l x1 = pkF s l (Int.toNat n) ∧ s = s ∧ l = l)
theorem numH_e (s : ByteArray) (l n : Int) : numH_t s l n = vcG Try.prog (Gof GHa) (one (oNumT s l n)) Try.f159 [.p 0 0 0, .v (.int .i64 n)] [(0, .cells 187 [.v (.string s), .v (.int .i64 l)])] (.leaf ((.v (.int .u64 (pkF s l n.toNat)))) ([(0, .cells 187 [.v (.string s), .v (.int .i64 l)])])) := by kernel_rfl
def rreadH_t (s : ByteArray) : Prop :=
 ByteArray.size s ≤ (4294967296 : Nat) ∧
 ((bkE s != (0 : Int)) = true → ByteArray.empty = bkS s ∧ (0 : Int) = bkR s ∧ bkE s = bkE s) ∧ ((bkE s != (0 : Int)) = false → s = bkS s ∧ bkR s = bkR s ∧ (0 : Int) = bkE s)
def prbH_t (x g : Int) (p : List Int) : Prop :=
 (0 : Int) ≤ x ∧ x < (↑(List.length p) : Int) ∧ pt (List.getD p (Int.toNat x) (0 : Int)) = pt (List.getD p (Int.toNat x) (0 : Int)) ∧ g = g ∧ p = p
theorem prbH_e (x g : Int) (p : List Int) : prbH_t x g p = vcG Try.prog (Gof GHa) (fun _ => none) Try.f85 [.v (.int .i64 x), .p 0 0 0] [dF 0 g p] (.leaf ((.v (.int .i64 (pt (p.getD x.toNat 0))))) ([dF 0 g p])) := by kernel_rfl
def bitsH_t (s : ByteArray) : Prop :=
 ByteArray.size s ≤ (4294967296 : Nat) ∧
 List.length [bif decide ((1048576 : Nat) < ByteArray.size s) then (4 : Int) else (0 : Int), bif decide (bkN s < (0 : Int)) then (22 : Int) else (0 : Int)] ≤ (1000 : Nat) ∧
 ((fstE [bif decide ((1048576 : Nat) < ByteArray.size s) then (4 : Int) else (0 : Int), bif decide (bkN s < (0 : Int)) then (22 : Int) else (0 : Int)] != (0 : Int)) = true →
 (0 : Int) = bkR s ∧ fstE [bif decide ((1048576 : Nat) < ByteArray.size s) then (4 : Int) else (0 : Int), bif decide (bkN s < (0 : Int)) then (22 : Int) else (0 : Int)] = bkE s) ∧
 ((fstE [bif decide ((1048576 : Nat) < ByteArray.size s) then (4 : Int) else (0 : Int), bif decide (bkN s < (0 : Int)) then (22 : Int) else (0 : Int)] != (0 : Int)) = false →
 ByteArray.size s ≤ (4294967296 : Nat) ∧ bkN s = bkR s ∧ (0 : Int) = bkE s)
theorem bitsH_e (s : ByteArray) : bitsH_t s = vcG Try.prog (Gof GHb) (fun _ => none) Try.f145 [.v (.string s)] [] (.leaf ((.tu [.v (.int .i64 (bkR s)), .v (.int .i64 (bkE s))])) ([])) := by kernel_rfl
def rightH_t (s : ByteArray) (l : Int) : Prop :=
 (decide ((1048576 : Nat) < ByteArray.size s) = true → (10 : Int) = rgE s l) ∧
 (decide ((1048576 : Nat) < ByteArray.size s) = false →
 ByteArray.size s ≤ (4294967296 : Nat) ∧
 (decide (bkN s < (0 : Int)) = true → (10 : Int) = rgE s l) ∧
 (decide (bkN s < (0 : Int)) = false →
 (decide (l < (0 : Int)) = true → (10 : Int) = rgE s l) ∧
 (decide (l < (0 : Int)) = false → ByteArray.size s ≤ (4294967296 : Nat) ∧ (bif decide (l > bkN s) then (10 : Int) else (0 : Int)) = rgE s l)))
theorem rightH_e (s : ByteArray) (l : Int) : rightH_t s l = vcG Try.prog (Gof GHb) (fun _ => none) Try.f158 [.ag [.v (.string s), .v (.int .i64 l)]] [] (.leaf ((.v (.int .i64 (rgE s l)))) ([])) := by kernel_rfl
def decAH_t (g : Int) (p : List Int) : Prop :=
 (0 : Int) = (0 : Int) ∧
 (0 : Int) ≤ (0 : Int) ∧
 (0 : Int) ≤ (512 : Int) ∧
 (0 : Int) < (512 : Int) ∧
 (512 : Int) ≤ (↑(512 : Nat) : Int) ∧
 (512 : Nat) = (512 : Nat) ∧
 (512 : Nat) ≤ (4294967296 : Nat) ∧
 (∃ (x0 : Nat),
 Nat.le x0 (List.length (spr g p)) ∧
 g = g ∧
 spr g p = spr g p ∧
 (↑(List.length (spr g p)) : Int) = (↑(List.length (spr g p)) : Int) ∧
 (0 : Int) = (↑x0 : Int) ∧
 g = g ∧
 p = p ∧
 List.take (Int.toNat (0 : Int)) (List.drop (0 : Nat) (List.replicate (512 : Nat) (List.replicate ((3 : Nat)) (0 : Int)))) = celA g p (spr g p) x0 ∧
 ∀ (q1 : List Int), mget [] q1 = mget (nxM p (spr g p) x0) q1) ∧
 ∀ (x2 : Nat),
 Nat.le x2 (List.length (spr g p)) →
 (decide ((↑x2 : Int) < (↑(List.length (spr g p)) : Int)) = true →
 (0 : Int) ≤ (↑x2 : Int) ∧
 (↑x2 : Int) < (↑(List.length (spr g p)) : Int) ∧
 ∃ (g3 : Nat),
 (((!mhas (nxM p (spr g p) x2) [List.getD (spr g p) (Int.toNat (↑x2 : Int)) (0 : Int)]) = true →
 (0 : Int) ≤ List.getD (spr g p) (Int.toNat (↑x2 : Int)) (0 : Int) ∧
 List.getD (spr g p) (Int.toNat (↑x2 : Int)) (0 : Int) < (↑(List.length p) : Int) ∧
 ∃ (x4 : Unit),
 Nat.le (Nat.succ g3) (List.length (spr g p)) ∧
 g = g ∧
 List.getD (spr g p) (Int.toNat (↑x2 : Int)) (0 : Int) = List.getD (spr g p) g3 (0 : Int) ∧
 spr g p = spr g p ∧
 (↑(List.length (spr g p)) : Int) = (↑(List.length (spr g p)) : Int) ∧
 (↑x2 : Int) = (↑g3 : Int) ∧
 g = g ∧
 p = p ∧
 celA g p (spr g p) x2 = celA g p (spr g p) g3 ∧
 ∀ (q5 : List Int),
 mget
 (([List.getD (spr g p) (Int.toNat (↑x2 : Int)) (0 : Int)],
 [pt (List.getD p (Int.toNat (List.getD (spr g p) (Int.toNat (↑x2 : Int)) (0 : Int))) (0 : Int))]) ::
 nxM p (spr g p) x2)
 q5 =
 mget (([List.getD (spr g p) g3 (0 : Int)], [celX p (spr g p) g3]) :: nxM p (spr g p) g3) q5) ∧
 ((!mhas (nxM p (spr g p) x2) [List.getD (spr g p) (Int.toNat (↑x2 : Int)) (0 : Int)]) = false →
 ∃ (x6 : Unit),
 Nat.le (Nat.succ g3) (List.length (spr g p)) ∧
 g = g ∧
 List.getD (spr g p) (Int.toNat (↑x2 : Int)) (0 : Int) = List.getD (spr g p) g3 (0 : Int) ∧
 spr g p = spr g p ∧
 (↑(List.length (spr g p)) : Int) = (↑(List.length (spr g p)) : Int) ∧
 (↑x2 : Int) = (↑g3 : Int) ∧
 g = g ∧
 p = p ∧
 celA g p (spr g p) x2 = celA g p (spr g p) g3 ∧
 ∀ (q7 : List Int),
 mget (nxM p (spr g p) x2) q7 = mget (([List.getD (spr g p) g3 (0 : Int)], [celX p (spr g p) g3]) :: nxM p (spr g p) g3) q7)) ∧
 ∀ (x8 : Unit),
 Nat.le (Nat.succ g3) (List.length (spr g p)) →
 ∃ (g9 : Nat),
 (∃ (x10 : Unit),
 Nat.le (Nat.succ g9) (List.length (spr g p)) ∧
 g = g ∧
 List.getD (spr g p) g3 (0 : Int) = List.getD (spr g p) g9 (0 : Int) ∧
 List.headD (mval ((1 : Nat)) (([List.getD (spr g p) g3 (0 : Int)], [celX p (spr g p) g3]) :: nxM p (spr g p) g3) [List.getD (spr g p) g3 (0 : Int)])
 (0 : Int) =
 celX p (spr g p) g9 ∧
 spr g p = spr g p ∧
 (↑(List.length (spr g p)) : Int) = (↑(List.length (spr g p)) : Int) ∧
 (↑g3 : Int) = (↑g9 : Int) ∧
 g = g ∧
 p = p ∧
 celA g p (spr g p) g3 = celA g p (spr g p) g9 ∧
 ∀ (q11 : List Int),
 mget
 (([List.getD (spr g p) g3 (0 : Int)],
 [IntKind.wrap IntKind.i64
 (List.headD
 (mval ((1 : Nat)) (([List.getD (spr g p) g3 (0 : Int)], [celX p (spr g p) g3]) :: nxM p (spr g p) g3)
 [List.getD (spr g p) g3 (0 : Int)])
 (0 : Int) +
 (1 : Int))]) ::
 ([List.getD (spr g p) g3 (0 : Int)], [celX p (spr g p) g3]) :: nxM p (spr g p) g3)
 q11 =
 mget (nxM p (spr g p) (g9 + (1 : Nat))) q11) ∧
 ∀ (x12 : Unit),
 Nat.le (Nat.succ g9) (List.length (spr g p)) →
 ∃ (g13 : Nat),
 (celX p (spr g p) g9 ≤ (9223372036854775807 : Int) ∧
 ∃ (x14 : Unit),
 Nat.le (Nat.succ g13) (List.length (spr g p)) ∧
 g = g ∧
 List.getD (spr g p) g9 (0 : Int) = List.getD (spr g p) g13 (0 : Int) ∧
 celX p (spr g p) g9 = celX p (spr g p) g13 ∧
 IntKind.wrap IntKind.i64 (g - hiI (celX p (spr g p) g9)) = celN g p (spr g p) g13 ∧
 spr g p = spr g p ∧
 (↑(List.length (spr g p)) : Int) = (↑(List.length (spr g p)) : Int) ∧
 (↑g9 : Int) = (↑g13 : Int) ∧
 g = g ∧
 p = p ∧
 celA g p (spr g p) g9 = celA g p (spr g p) g13 ∧
 ∀ (q15 : List Int), mget (nxM p (spr g p) (g9 + (1 : Nat))) q15 = mget (nxM p (spr g p) (g13 + (1 : Nat))) q15) ∧
 ∀ (x16 : Unit),
 Nat.le (Nat.succ g13) (List.length (spr g p)) →
 (0 : Int) ≤ IntKind.wrap IntKind.u64 (celN g p (spr g p) g13) ∧
 (0 : Int) ≤ IntKind.wrap IntKind.u64 g ∧
 (List.length (celA g p (spr g p) g13) +
 Nat.succ
 (Nat.add
 (List.length
 (List.map
 (fun (i : Nat) =>
 List.take ((3 : Nat))
 (List.drop (i * (3 : Nat))
 [List.getD (spr g p) g13 (0 : Int), celN g p (spr g p) g13,
 IntKind.wrap IntKind.i64
 (IntKind.wrap IntKind.i64
 (celX p (spr g p) g13 *
 (2 : Int) ^ min (Int.toNat (IntKind.wrap IntKind.u64 (celN g p (spr g p) g13))) (IntKind.bits IntKind.i64)) -
 IntKind.wrap IntKind.i64
 ((1 : Int) * (2 : Int) ^ min (Int.toNat (IntKind.wrap IntKind.u64 g)) (IntKind.bits IntKind.i64)))]))
 []))
 ((0 : Nat)))) *
 (24 : Nat) ≤
 (140737488355328 : Nat) ∧
 ∃ (y17 : Nat),
 Nat.le y17 (List.length (spr g p)) ∧
 Nat.sub (List.length (spr g p)) y17 < Nat.sub (List.length (spr g p)) x2 ∧
 g = g ∧
 spr g p = spr g p ∧
 (↑(List.length (spr g p)) : Int) = (↑(List.length (spr g p)) : Int) ∧
 IntKind.wrap IntKind.i64 ((↑g13 : Int) + (1 : Int)) = (↑y17 : Int) ∧
 g = g ∧
 p = p ∧
 celA g p (spr g p) g13 ++
 List.map
 (fun (i : Nat) =>
 List.take ((3 : Nat))
 (List.drop (i * (3 : Nat))
 [List.getD (spr g p) g13 (0 : Int), celN g p (spr g p) g13,
 IntKind.wrap IntKind.i64
 (IntKind.wrap IntKind.i64
 (celX p (spr g p) g13 *
 (2 : Int) ^
 min (Int.toNat (IntKind.wrap IntKind.u64 (celN g p (spr g p) g13))) (IntKind.bits IntKind.i64)) -
 IntKind.wrap IntKind.i64
 ((1 : Int) * (2 : Int) ^ min (Int.toNat (IntKind.wrap IntKind.u64 g)) (IntKind.bits IntKind.i64)))]))
 (List.range (1 : Nat)) =
 celA g p (spr g p) y17 ∧
 ∀ (q18 : List Int), mget (nxM p (spr g p) (g13 + (1 : Nat))) q18 = mget (nxM p (spr g p) y17) q18) ∧
 (decide ((↑x2 : Int) < (↑(List.length (spr g p)) : Int)) = false → celA g p (spr g p) x2 = decL g p ∧ g = g ∧ p = p)
theorem decAH_e (g : Int) (p : List Int) : decAH_t g p = vcG Try.prog (Gof GHb) (oDec g p) Try.f84 [.v (.int .i64 g), .fn (.func 85) [] [.p 0 0 0], .dat (.ints .i64 (spr g p))] [dF 0 g p] (.leaf ((.dat (.recs 3 (decL g p)))) ([dF 0 g p])) := by kernel_rfl
def readH_t (s : ByteArray) : Prop :=
 ByteArray.size s ≤ (4294967296 : Nat) ∧
 ((bkE s != (0 : Int)) = true → ByteArray.empty = bkS s ∧ (0 : Int) = bkR s ∧ bkE s = bkE s) ∧ ((bkE s != (0 : Int)) = false → s = bkS s ∧ bkR s = bkR s ∧ (0 : Int) = bkE s)
theorem readH_e (s : ByteArray) : readH_t s = vcG Try.prog (Gof GHc) (fun _ => none) Try.f118 [.v (.string s)] [] (.leaf ((.tu [.ag [.v (.string (bkS s)), .v (.int .i64 (bkR s))], .v (.int .i64 (bkE s))])) ([])) := by kernel_rfl
def peekH_t (s : ByteArray) (l n : Int) : Prop :=
 ByteArray.size s ≤ (4294967296 : Nat) ∧
 (decide (n < (0 : Int)) = true →
 List.length [rgE s l, (2 : Int)] ≤ (1000 : Nat) ∧
 ((fstE [rgE s l, (2 : Int)] != (0 : Int)) = true → (0 : Int) = pkV s l n ∧ fstE [rgE s l, (2 : Int)] = pkE s l n) ∧
 ((fstE [rgE s l, (2 : Int)] != (0 : Int)) = false →
 (0 : Int) ≤ n ∧
 n ≤ (32 : Int) ∧ (0 : Int) ≤ l ∧ l ≤ (8 : Int) * (↑(ByteArray.size s) : Int) ∧ ByteArray.size s ≤ (4294967296 : Nat) ∧ pkF s l (Int.toNat n) = pkV s l n ∧ (0 : Int) = pkE s l n)) ∧
 (decide (n < (0 : Int)) = false →
 List.length [rgE s l, bif decide (n > (32 : Int)) then (2 : Int) else (0 : Int)] ≤ (1000 : Nat) ∧
 ((fstE [rgE s l, bif decide (n > (32 : Int)) then (2 : Int) else (0 : Int)] != (0 : Int)) = true →
 (0 : Int) = pkV s l n ∧ fstE [rgE s l, bif decide (n > (32 : Int)) then (2 : Int) else (0 : Int)] = pkE s l n) ∧
 ((fstE [rgE s l, bif decide (n > (32 : Int)) then (2 : Int) else (0 : Int)] != (0 : Int)) = false →
 (0 : Int) ≤ n ∧
 n ≤ (32 : Int) ∧ (0 : Int) ≤ l ∧ l ≤ (8 : Int) * (↑(ByteArray.size s) : Int) ∧ ByteArray.size s ≤ (4294967296 : Nat) ∧ pkF s l (Int.toNat n) = pkV s l n ∧ (0 : Int) = pkE s l n))
theorem peekH_e (s : ByteArray) (l n : Int) : peekH_t s l n = vcG Try.prog (Gof GHc) (fun _ => none) Try.f147 [.ag [.v (.string s), .v (.int .i64 l)], .v (.int .i64 n)] [] (.leaf ((.tu [.v (.int .u64 (pkV s l n)), .v (.int .i64 (pkE s l n))])) ([])) := by kernel_rfl
def decH_t (g : Int) (p : List Int) : Prop :=
 List.length p ≤ (4294967296 : Nat) ∧
 ((dchk g p != (0 : Int)) = true → List.length (decO g p) = (0 : Nat) ∧ dchk g p = dchk g p) ∧
 ((dchk g p != (0 : Int)) = false →
 List.length p ≤ (4294967296 : Nat) ∧
 ((dchk g p != (0 : Int)) = true → List.length (decO g p) = (0 : Nat) ∧ dchk g p = dchk g p) ∧
 ((dchk g p != (0 : Int)) = false → dchk g p = (0 : Int) ∧ g = g ∧ sprO g p = spr g p ∧ decL g p = decO g p ∧ (0 : Int) = dchk g p))
theorem decH_e (g : Int) (p : List Int) : decH_t g p = vcG Try.prog (Gof GHc) (fun _ => none) Try.f50 [.ag [.v (.int .i64 g), .dat (.ints .i64 p)]] [] (.leaf ((.tu [.dat (.recs 3 (decO g p)), .v (.int .i64 (dchk g p))])) ([])) := by kernel_rfl
def takeH_t (s : ByteArray) (l n : Int) : Prop :=
 ByteArray.size s ≤ (4294967296 : Nat) ∧
 List.length [pkE s l n, bif decide (n > l) then (5 : Int) else (0 : Int)] ≤ (1000 : Nat) ∧
 ((fstE [pkE s l n, bif decide (n > l) then (5 : Int) else (0 : Int)] != (0 : Int)) = true →
 ByteArray.empty = tkS s l n ∧ (0 : Int) = tkL s l n ∧ (0 : Int) = tkV s l n ∧ fstE [pkE s l n, bif decide (n > l) then (5 : Int) else (0 : Int)] = tkE s l n) ∧
 ((fstE [pkE s l n, bif decide (n > l) then (5 : Int) else (0 : Int)] != (0 : Int)) = false →
 s = tkS s l n ∧ IntKind.wrap IntKind.i64 (l - n) = tkL s l n ∧ pkV s l n = tkV s l n ∧ (0 : Int) = tkE s l n)
theorem takeH_e (s : ByteArray) (l n : Int) : takeH_t s l n = vcG Try.prog (Gof GHd) (fun _ => none) Try.f123 [.ag [.v (.string s), .v (.int .i64 l)], .v (.int .i64 n)] [] (.leaf ((.tu [.ag [.v (.string (tkS s l n)), .v (.int .i64 (tkL s l n))], .v (.int .u64 (tkV s l n)), .v (.int .i64 (tkE s l n))])) ([])) := by kernel_rfl
def openH_t (g : Int) (p : List Int) (s : ByteArray) : Prop :=
 List.length p ≤ (4294967296 : Nat) ∧
 ((dchk g p != (0 : Int)) = true → (opE g p s = (0 : Int) → False ∧ dchk g p = (0 : Int) ∧ False) ∧ (¬opE g p s = (0 : Int) → Value.pointer none = Value.pointer none ∧ dchk g p = opE g p s)) ∧
 ((dchk g p != (0 : Int)) = false →
 ByteArray.size s ≤ (4294967296 : Nat) ∧
 ((bkE s != (0 : Int)) = true → (opE g p s = (0 : Int) → False ∧ bkE s = (0 : Int) ∧ False) ∧ (¬opE g p s = (0 : Int) → Value.pointer none = Value.pointer none ∧ bkE s = opE g p s)) ∧
 ((bkE s != (0 : Int)) = false →
 List.length p ≤ (4294967296 : Nat) ∧
 (opE g p s = (0 : Int) → dchk g p = (0 : Int) ∧ bkS s = s ∧ bkR s = bkN s ∧ decO g p = decL g p ∧ g = g) ∧ (¬opE g p s = (0 : Int) → False ∧ dchk g p = opE g p s)))
theorem openH_e (g : Int) (p : List Int) (s : ByteArray) : openH_t g p s = vcG Try.prog (Gof GHd) (fun _ => none) Try.f87 [.ag [.v (.int .i64 g), .dat (.ints .i64 p)], .v (.string s)] [] (.ite ⟨opE g p s = 0, inferInstance⟩ (.leaf (.tu [.p 2000 0 0, .v (.int .i64 0)]) ([(2000, .cells 120 [.v (.string s), .v (.int .i64 (bkN s)), .dat (.recs 3 (decL g p)), .v (.int .i64 g)])])) (.leaf (.tu [.v (.pointer none), .v (.int .i64 (opE g p s))]) ([]))) := by kernel_rfl
def takeFH_t (s : ByteArray) (l g : Int) (c : List (List Int)) (n : Int) : Prop :=
 ByteArray.size s ≤ (4294967296 : Nat) ∧
 ((tkE s l n != (0 : Int)) = true → (0 : Int) = tkV s l n ∧ false = tkO s l n ∧ s = s ∧ l = nxL s l n ∧ c = c ∧ g = g) ∧
 ((tkE s l n != (0 : Int)) = false → IntKind.wrap IntKind.i64 (tkV s l n) = tkV s l n ∧ true = tkO s l n ∧ tkS s l n = s ∧ tkL s l n = nxL s l n ∧ c = c ∧ g = g)
theorem takeFH_e (s : ByteArray) (l g : Int) (c : List (List Int)) (n : Int) : takeFH_t s l g c n = vcG Try.prog (Gof GHe) (fun _ => none) Try.f92 [.p 0 0 0, .v (.int .i64 n)] [smB 0 s l g c] (.leaf ((.tu [.v (.int .i64 (tkV s l n)), .v (.bool (tkO s l n))])) ([smB 0 s (nxL s l n) g c])) := by kernel_rfl
def symsH_t (s : ByteArray) (l g : Int) (c : List (List Int)) (n : Int) : Prop :=
 s = s ∧ l = l ∧ c = c ∧ g = g ∧ n = n
theorem symsH_e (s : ByteArray) (l g : Int) (c : List (List Int)) (n : Int) : symsH_t s l g c n = vcG Try.prog (Gof GHe) (fun _ => none) Try.f88 [.p 0 0 0, .v (.int .i64 n)] [smB 0 s l g c] (.leaf ((.fn (.func 119) [] [.p 2000 0 0, .p 2001 0 0])) ([smB 0 s l g c, (2000, .cells 111 [.p 0 0 0]), (2001, .cells 3 [.v (.int .i64 n)])])) := by kernel_rfl
def syI_t (s : ByteArray) (L g : Int) (c : List (List Int)) (n : Nat) (l0 : Nat) : Prop :=
 ByteArray.size s ≤ (4294967296 : Nat) ∧
 ∃ (g0 : Unit),
 ∃ (x1 : Nat),
 (x1 < n ∧ x1 ≤ rG s L g c n) ∧
 ((0 : Nat), true) = (x1, true) ∧
 (Value.func (Fn.yield l0) #[] #[] = Value.func (Fn.yield l0) #[] #[] ∧
 tkV s L g = rX s L g c x1 ∧ tkO s L g = rO s L g c x1 ∧ (↑n : Int) = (↑n : Int) ∧ (0 : Int) = (↑x1 : Int) ∧ (↑n : Int) = (↑n : Int) ∧ s = s ∧ nxL s L g = rL s L g c x1 ∧ c = c ∧ g = g) ∧
 ∀ (x2 : Nat),
 x2 < n ∧ x2 ≤ rG s L g c n →
 (decide ((↑x2 : Int) < (↑n : Int)) = true →
 ((!rO s L g c x2) = true →
 l0 = l0 ∧
 (itsS s L g c n)[x2]? = some [Value.int IntKind.i64 (0 : Int), Value.bool false] ∧
 (x2 + (1 : Nat) = List.length (itsS s L g c n) ∧ s = s ∧ rL s L g c x2 = itL s L g c n (x2 + (1 : Nat)) ∧ c = c ∧ g = g) ∧
 s = s ∧ rL s L g c x2 = itL s L g c n x2 ∧ c = c ∧ g = g) ∧
 ((!rO s L g c x2) = false →
 (0 : Int) ≤ rX s L g c x2 ∧
 rX s L g c x2 < (↑(List.length c) : Int) ∧
 l0 = l0 ∧
 (itsS s L g c n)[x2]? = some [Value.int IntKind.i64 (List.getD (List.getD c (Int.toNat (rX s L g c x2)) []) ((0 : Nat)) (0 : Int)), Value.bool true] ∧
 ((((↑x2 : Int) == IntKind.wrap IntKind.i64 ((↑n : Int) - (1 : Int))) = true →
 x2 + (1 : Nat) = List.length (itsS s L g c n) ∧ s = s ∧ rL s L g c x2 = itL s L g c n (x2 + (1 : Nat)) ∧ c = c ∧ g = g) ∧
 (((↑x2 : Int) == IntKind.wrap IntKind.i64 ((↑n : Int) - (1 : Int))) = false →
 ByteArray.size s ≤ (4294967296 : Nat) ∧
 ∃ (y3 : Nat),
 (y3 < n ∧ y3 ≤ rG s L g c n) ∧
 (x2 + (1 : Nat), true) = (y3, true) ∧
 Nat.sub n y3 < Nat.sub n x2 ∧
 Value.func (Fn.yield l0) #[] #[] = Value.func (Fn.yield l0) #[] #[] ∧
 IntKind.wrap IntKind.i64
 (List.getD (List.getD c (Int.toNat (rX s L g c x2)) []) ((2 : Nat)) (0 : Int) +
 tkV s (rL s L g c x2) (List.getD (List.getD c (Int.toNat (rX s L g c x2)) []) ((1 : Nat)) (0 : Int))) =
 rX s L g c y3 ∧
 tkO s (rL s L g c x2) (List.getD (List.getD c (Int.toNat (rX s L g c x2)) []) ((1 : Nat)) (0 : Int)) = rO s L g c y3 ∧
 (↑n : Int) = (↑n : Int) ∧
 IntKind.wrap IntKind.i64 ((↑x2 : Int) + (1 : Int)) = (↑y3 : Int) ∧
 (↑n : Int) = (↑n : Int) ∧
 s = s ∧
 nxL s (rL s L g c x2) (List.getD (List.getD c (Int.toNat (rX s L g c x2)) []) ((1 : Nat)) (0 : Int)) = rL s L g c y3 ∧ c = c ∧ g = g)) ∧
 s = s ∧ rL s L g c x2 = itL s L g c n x2 ∧ c = c ∧ g = g)) ∧
 (decide ((↑x2 : Int) < (↑n : Int)) = false → x2 = List.length (itsS s L g c n) ∧ s = s ∧ rL s L g c x2 = itL s L g c n x2 ∧ c = c ∧ g = g)
theorem syI_e (s : ByteArray) (L g : Int) (c : List (List Int)) (n : Nat) (l0 : Nat) : syI_t s L g c n l0 = vcFIE Try.prog (Gof GHf) l0 (itsS s L g c n) (oSyIF l0 s L g c n) Try.f119 [.p 0 0 0, .p 1 0 0] (hpSy s L g c n L) (fun y => [smB 2 s (itL s L g c n y) g c]) := by kernel_rfl
end Go.Proofs.Ytbdgknebimdjoaa
namespace Go.Proofs.Ytbdgknebimdjoaa
open Go Go.RowKit
set_option linter.unusedVariables false
set_option maxRecDepth 100000
def atK_t (l : List Int) (i : Int) : Prop :=
 (decide (i < (0 : Int)) = true → (0 : Int) = atI l i) ∧
 (decide (i < (0 : Int)) = false →
 (decide (i ≥ (↑(List.length l) : Int)) = true → (0 : Int) = atI l i) ∧
 (decide (i ≥ (↑(List.length l) : Int)) = false → (0 : Int) ≤ i ∧ i < (↑(List.length l) : Int) ∧ List.getD l (Int.toNat i) (0 : Int) = atI l i))
theorem atK_e (l : List Int) (i : Int) : atK_t l i = vcG Try.prog (Gof []) (fun _ => none) Try.f74 [.dat (.ints .i64 l), .v (.int .i64 i)] [] (.leaf ((.v (.int .i64 (atI l i)))) ([])) := by kernel_rfl
def symK_t (g : Int) (p l : List Int) : Prop :=
 (∃ (x0 : Nat), Nat.le x0 (List.length p) ∧ l = l ∧ (0 : Int) = (↑x0 : Int) ∧ g = g ∧ p = p ∧ List.length (thP p x0) = (0 : Nat)) ∧
 ∀ (x1 : Nat),
 Nat.le x1 (List.length p) →
 (decide ((↑x1 : Int) < (↑(List.length p) : Int)) = true →
 (0 : Int) ≤ (↑x1 : Int) ∧
 (↑x1 : Int) < (↑(List.length p) : Int) ∧
 ((List.getD p (Int.toNat (↑x1 : Int)) (0 : Int) != (0 : Int)) = true →
 (List.length (thP p x1) + (1 : Nat)) * (8 : Nat) ≤ (140737488355328 : Nat) ∧
 ∃ (y2 : Nat),
 Nat.le y2 (List.length p) ∧
 Nat.sub (List.length p) y2 < Nat.sub (List.length p) x1 ∧
 l = l ∧ IntKind.wrap IntKind.i64 ((↑x1 : Int) + (1 : Int)) = (↑y2 : Int) ∧ g = g ∧ p = p ∧ thP p x1 ++ [(↑x1 : Int)] = thP p y2) ∧
 ((List.getD p (Int.toNat (↑x1 : Int)) (0 : Int) != (0 : Int)) = false →
 ∃ (y3 : Nat),
 Nat.le y3 (List.length p) ∧
 Nat.sub (List.length p) y3 < Nat.sub (List.length p) x1 ∧ l = l ∧ IntKind.wrap IntKind.i64 ((↑x1 : Int) + (1 : Int)) = (↑y3 : Int) ∧ g = g ∧ p = p ∧ thP p x1 = thP p y3)) ∧
 (decide ((↑x1 : Int) < (↑(List.length p) : Int)) = false →
 (∃ (x4 : Nat),
 (x4 ≤ List.length l ∧ x4 ≤ (200 : Nat) ∧ (thL p = [] → x4 = (0 : Nat))) ∧ l = l ∧ (0 : Int) = (↑x4 : Int) ∧ g = g ∧ p = p ∧ thP p x1 = thL p ∧ List.length (symP p l x4) = (0 : Nat)) ∧
 ∀ (x5 : Nat),
 x5 ≤ List.length l ∧ x5 ≤ (200 : Nat) ∧ (thL p = [] → x5 = (0 : Nat)) →
 (decide ((↑x5 : Int) < (↑(List.length l) : Int)) = true →
 (decide ((↑x5 : Int) < (200 : Int)) = true →
 (decide ((↑(List.length (thL p)) : Int) > (0 : Int)) = true →
 (0 : Int) ≤ (↑x5 : Int) ∧
 (↑x5 : Int) < (↑(List.length l) : Int) ∧
 inW (List.getD l (Int.toNat (↑x5 : Int)) (0 : Int)) = true ∧
 inW (↑(List.length (thL p)) : Int) = true ∧
 (0 : Int) ≤ modI (List.getD l (Int.toNat (↑x5 : Int)) (0 : Int)) (↑(List.length (thL p)) : Int) ∧
 modI (List.getD l (Int.toNat (↑x5 : Int)) (0 : Int)) (↑(List.length (thL p)) : Int) < (↑(List.length (thL p)) : Int) ∧
 Int.toNat (modI (List.getD l (Int.toNat (↑x5 : Int)) (0 : Int)) (↑(List.length (thL p)) : Int)) < List.length (thL p) ∧
 (List.length (symP p l x5) + (1 : Nat)) * (8 : Nat) ≤ (140737488355328 : Nat) ∧
 ∃ (y6 : Nat),
 (y6 ≤ List.length l ∧ y6 ≤ (200 : Nat) ∧ (thL p = [] → y6 = (0 : Nat))) ∧
 Nat.sub (List.length l) y6 < Nat.sub (List.length l) x5 ∧
 l = l ∧
 IntKind.wrap IntKind.i64 ((↑x5 : Int) + (1 : Int)) = (↑y6 : Int) ∧
 g = g ∧
 p = p ∧
 thL p = thL p ∧
 symP p l x5 ++
 [List.getD (thL p) (Int.toNat (modI (List.getD l (Int.toNat (↑x5 : Int)) (0 : Int)) (↑(List.length (thL p)) : Int))) (0 : Int)] =
 symP p l y6) ∧
 (decide ((↑(List.length (thL p)) : Int) > (0 : Int)) = false → symP p l x5 = symL p l)) ∧
 (decide ((↑x5 : Int) < (200 : Int)) = false → symP p l x5 = symL p l)) ∧
 (decide ((↑x5 : Int) < (↑(List.length l) : Int)) = false → symP p l x5 = symL p l))
theorem symK_e (g : Int) (p l : List Int) : symK_t g p l = vcG Try.prog (Gof GFk) (oSym g p l) Try.f36 [.ag [.v (.int .i64 g), .dat (.ints .i64 p)], .dat (.ints .i64 l)] [] (.leaf ((.dat (.ints .i64 (symL p l)))) ([])) := by kernel_rfl
def kd_t (l : List Int) : Prop :=
 inW (atI l (0 : Int)) = true ∧
 inW (4 : Int) = true ∧
 (0 : Int) ≤ IntKind.wrap IntKind.u64 (IntKind.wrap IntKind.i64 ((5 : Int) + modI (atI l (0 : Int)) (4 : Int))) ∧
 (∃ (x0 : Nat × Int × List Int),
 (kdL (List.drop x0.fst (List.take (30 : Nat) l)) x0.snd.fst x0.snd.snd = kdF l ∧
 (1 : Nat) ≤ x0.fst ∧ x0.fst ≤ (30 : Nat) ∧ (1 : Int) ≤ x0.snd.fst ∧ x0.snd.fst ≤ (256 : Int) ∧ List.length x0.snd.snd ≤ x0.fst) ∧
 l = l ∧
 IntKind.wrap IntKind.i64
 ((1 : Int) * (2 : Int) ^ min (Int.toNat (IntKind.wrap IntKind.u64 (IntKind.wrap IntKind.i64 ((5 : Int) + modI (atI l (0 : Int)) (4 : Int))))) (IntKind.bits IntKind.i64)) =
 x0.snd.fst ∧
 (1 : Int) = (↑x0.fst : Int) ∧
 (0 : Int) = (0 : Int) ∧
 Value.slice none (0 : Nat) (0 : Nat) = Value.slice none (0 : Nat) (0 : Nat) ∧
 IntKind.wrap IntKind.i64 ((5 : Int) + modI (atI l (0 : Int)) (4 : Int)) = kdG l ∧ List.length x0.snd.snd = (0 : Nat)) ∧
 ∀ (x1 : Nat × Int × List Int),
 kdL (List.drop x1.fst (List.take (30 : Nat) l)) x1.snd.fst x1.snd.snd = kdF l ∧
 (1 : Nat) ≤ x1.fst ∧ x1.fst ≤ (30 : Nat) ∧ (1 : Int) ≤ x1.snd.fst ∧ x1.snd.fst ≤ (256 : Int) ∧ List.length x1.snd.snd ≤ x1.fst →
 (decide ((↑x1.fst : Int) < (↑(List.length l) : Int)) = true →
 (decide ((↑x1.fst : Int) < (30 : Int)) = true →
 (decide (x1.snd.fst > (1 : Int)) = true →
 (0 : Int) ≤ (↑x1.fst : Int) ∧
 (↑x1.fst : Int) < (↑(List.length l) : Int) ∧
 inW (List.getD l (Int.toNat (↑x1.fst : Int)) (0 : Int)) = true ∧
 inW (1048576 : Int) = true ∧
 (4 : Int) ≠ (0 : Int) ∧
 ((Int.tmod (modI (List.getD l (Int.toNat (↑x1.fst : Int)) (0 : Int)) (1048576 : Int)) (4 : Int) == (0 : Int)) = true →
 (decide ((-1 : Int) ≥ x1.snd.fst) = true →
 (List.length x1.snd.snd + (1 : Nat)) * (8 : Nat) ≤ (140737488355328 : Nat) ∧ kdG l = kdG l ∧ x1.snd.snd ++ [x1.snd.fst] = kdP l) ∧
 (decide ((-1 : Int) ≥ x1.snd.fst) = false →
 (List.length x1.snd.snd + (1 : Nat)) * (8 : Nat) ≤ (140737488355328 : Nat) ∧
 (decide ((-1 : Int) < (0 : Int)) = true →
 ∃ (y2 : Nat × Int × List Int),
 (kdL (List.drop y2.fst (List.take (30 : Nat) l)) y2.snd.fst y2.snd.snd = kdF l ∧
 (1 : Nat) ≤ y2.fst ∧ y2.fst ≤ (30 : Nat) ∧ (1 : Int) ≤ y2.snd.fst ∧ y2.snd.fst ≤ (256 : Int) ∧ List.length y2.snd.snd ≤ y2.fst) ∧
 Nat.sub (30 : Nat) y2.fst < Nat.sub (30 : Nat) x1.fst ∧
 l = l ∧
 IntKind.wrap IntKind.i64 (x1.snd.fst - (1 : Int)) = y2.snd.fst ∧
 IntKind.wrap IntKind.i64 ((↑x1.fst : Int) + (1 : Int)) = (↑y2.fst : Int) ∧
 (0 : Int) = (0 : Int) ∧
 Value.slice none (0 : Nat) (0 : Nat) = Value.slice none (0 : Nat) (0 : Nat) ∧ kdG l = kdG l ∧ x1.snd.snd ++ [(-1 : Int)] = y2.snd.snd) ∧
 (decide ((-1 : Int) < (0 : Int)) = false →
 ∃ (y3 : Nat × Int × List Int),
 (kdL (List.drop y3.fst (List.take (30 : Nat) l)) y3.snd.fst y3.snd.snd = kdF l ∧
 (1 : Nat) ≤ y3.fst ∧ y3.fst ≤ (30 : Nat) ∧ (1 : Int) ≤ y3.snd.fst ∧ y3.snd.fst ≤ (256 : Int) ∧ List.length y3.snd.snd ≤ y3.fst) ∧
 Nat.sub (30 : Nat) y3.fst < Nat.sub (30 : Nat) x1.fst ∧
 l = l ∧
 IntKind.wrap IntKind.i64 (x1.snd.fst - (-1 : Int)) = y3.snd.fst ∧
 IntKind.wrap IntKind.i64 ((↑x1.fst : Int) + (1 : Int)) = (↑y3.fst : Int) ∧
 (0 : Int) = (0 : Int) ∧
 Value.slice none (0 : Nat) (0 : Nat) = Value.slice none (0 : Nat) (0 : Nat) ∧ kdG l = kdG l ∧ x1.snd.snd ++ [(-1 : Int)] = y3.snd.snd))) ∧
 ((Int.tmod (modI (List.getD l (Int.toNat (↑x1.fst : Int)) (0 : Int)) (1048576 : Int)) (4 : Int) == (0 : Int)) = false →
 ((Int.tmod (modI (List.getD l (Int.toNat (↑x1.fst : Int)) (0 : Int)) (1048576 : Int)) (4 : Int) == (1 : Int)) = true →
 (decide ((0 : Int) ≥ x1.snd.fst) = true →
 (List.length x1.snd.snd + (1 : Nat)) * (8 : Nat) ≤ (140737488355328 : Nat) ∧ kdG l = kdG l ∧ x1.snd.snd ++ [x1.snd.fst] = kdP l) ∧
 (decide ((0 : Int) ≥ x1.snd.fst) = false →
 (List.length x1.snd.snd + (1 : Nat)) * (8 : Nat) ≤ (140737488355328 : Nat) ∧
 (decide ((0 : Int) < (0 : Int)) = true →
 ∃ (y4 : Nat × Int × List Int),
 (kdL (List.drop y4.fst (List.take (30 : Nat) l)) y4.snd.fst y4.snd.snd = kdF l ∧
 (1 : Nat) ≤ y4.fst ∧ y4.fst ≤ (30 : Nat) ∧ (1 : Int) ≤ y4.snd.fst ∧ y4.snd.fst ≤ (256 : Int) ∧ List.length y4.snd.snd ≤ y4.fst) ∧
 Nat.sub (30 : Nat) y4.fst < Nat.sub (30 : Nat) x1.fst ∧
 l = l ∧
 IntKind.wrap IntKind.i64 (x1.snd.fst - (1 : Int)) = y4.snd.fst ∧
 IntKind.wrap IntKind.i64 ((↑x1.fst : Int) + (1 : Int)) = (↑y4.fst : Int) ∧
 (0 : Int) = (0 : Int) ∧
 Value.slice none (0 : Nat) (0 : Nat) = Value.slice none (0 : Nat) (0 : Nat) ∧
 kdG l = kdG l ∧ x1.snd.snd ++ [(0 : Int)] = y4.snd.snd) ∧
 (decide ((0 : Int) < (0 : Int)) = false →
 ∃ (y5 : Nat × Int × List Int),
 (kdL (List.drop y5.fst (List.take (30 : Nat) l)) y5.snd.fst y5.snd.snd = kdF l ∧
 (1 : Nat) ≤ y5.fst ∧ y5.fst ≤ (30 : Nat) ∧ (1 : Int) ≤ y5.snd.fst ∧ y5.snd.fst ≤ (256 : Int) ∧ List.length y5.snd.snd ≤ y5.fst) ∧
 Nat.sub (30 : Nat) y5.fst < Nat.sub (30 : Nat) x1.fst ∧
 l = l ∧
 IntKind.wrap IntKind.i64 (x1.snd.fst - (0 : Int)) = y5.snd.fst ∧
 IntKind.wrap IntKind.i64 ((↑x1.fst : Int) + (1 : Int)) = (↑y5.fst : Int) ∧
 (0 : Int) = (0 : Int) ∧
 Value.slice none (0 : Nat) (0 : Nat) = Value.slice none (0 : Nat) (0 : Nat) ∧
 kdG l = kdG l ∧ x1.snd.snd ++ [(0 : Int)] = y5.snd.snd))) ∧
 ((Int.tmod (modI (List.getD l (Int.toNat (↑x1.fst : Int)) (0 : Int)) (1048576 : Int)) (4 : Int) == (1 : Int)) = false →
 (4 : Int) ≠ (0 : Int) ∧
 min x1.snd.fst (40 : Int) ≠ (0 : Int) ∧
 (decide
 (IntKind.wrap IntKind.i64
 ((1 : Int) +
 Int.tmod (IntKind.wrap IntKind.i64 (Int.tdiv (modI (List.getD l (Int.toNat (↑x1.fst : Int)) (0 : Int)) (1048576 : Int)) (4 : Int)))
 (min x1.snd.fst (40 : Int))) ≥
 x1.snd.fst) =
 true →
 (List.length x1.snd.snd + (1 : Nat)) * (8 : Nat) ≤ (140737488355328 : Nat) ∧ kdG l = kdG l ∧ x1.snd.snd ++ [x1.snd.fst] = kdP l) ∧
 (decide
 (IntKind.wrap IntKind.i64
 ((1 : Int) +
 Int.tmod (IntKind.wrap IntKind.i64 (Int.tdiv (modI (List.getD l (Int.toNat (↑x1.fst : Int)) (0 : Int)) (1048576 : Int)) (4 : Int)))
 (min x1.snd.fst (40 : Int))) ≥
 x1.snd.fst) =
 false →
 (List.length x1.snd.snd + (1 : Nat)) * (8 : Nat) ≤ (140737488355328 : Nat) ∧
 (decide
 (IntKind.wrap IntKind.i64
 ((1 : Int) +
 Int.tmod (IntKind.wrap IntKind.i64 (Int.tdiv (modI (List.getD l (Int.toNat (↑x1.fst : Int)) (0 : Int)) (1048576 : Int)) (4 : Int)))
 (min x1.snd.fst (40 : Int))) <
 (0 : Int)) =
 true →
 ∃ (y6 : Nat × Int × List Int),
 (kdL (List.drop y6.fst (List.take (30 : Nat) l)) y6.snd.fst y6.snd.snd = kdF l ∧
 (1 : Nat) ≤ y6.fst ∧ y6.fst ≤ (30 : Nat) ∧ (1 : Int) ≤ y6.snd.fst ∧ y6.snd.fst ≤ (256 : Int) ∧ List.length y6.snd.snd ≤ y6.fst) ∧
 Nat.sub (30 : Nat) y6.fst < Nat.sub (30 : Nat) x1.fst ∧
 l = l ∧
 IntKind.wrap IntKind.i64 (x1.snd.fst - (1 : Int)) = y6.snd.fst ∧
 IntKind.wrap IntKind.i64 ((↑x1.fst : Int) + (1 : Int)) = (↑y6.fst : Int) ∧
 (0 : Int) = (0 : Int) ∧
 Value.slice none (0 : Nat) (0 : Nat) = Value.slice none (0 : Nat) (0 : Nat) ∧
 kdG l = kdG l ∧
 x1.snd.snd ++
 [IntKind.wrap IntKind.i64
 ((1 : Int) +
 Int.tmod
 (IntKind.wrap IntKind.i64
 (Int.tdiv (modI (List.getD l (Int.toNat (↑x1.fst : Int)) (0 : Int)) (1048576 : Int)) (4 : Int)))
 (min x1.snd.fst (40 : Int)))] =
 y6.snd.snd) ∧
 (decide
 (IntKind.wrap IntKind.i64
 ((1 : Int) +
 Int.tmod (IntKind.wrap IntKind.i64 (Int.tdiv (modI (List.getD l (Int.toNat (↑x1.fst : Int)) (0 : Int)) (1048576 : Int)) (4 : Int)))
 (min x1.snd.fst (40 : Int))) <
 (0 : Int)) =
 false →
 ∃ (y7 : Nat × Int × List Int),
 (kdL (List.drop y7.fst (List.take (30 : Nat) l)) y7.snd.fst y7.snd.snd = kdF l ∧
 (1 : Nat) ≤ y7.fst ∧ y7.fst ≤ (30 : Nat) ∧ (1 : Int) ≤ y7.snd.fst ∧ y7.snd.fst ≤ (256 : Int) ∧ List.length y7.snd.snd ≤ y7.fst) ∧
 Nat.sub (30 : Nat) y7.fst < Nat.sub (30 : Nat) x1.fst ∧
 l = l ∧
 IntKind.wrap IntKind.i64
 (x1.snd.fst -
 IntKind.wrap IntKind.i64
 ((1 : Int) +
 Int.tmod
 (IntKind.wrap IntKind.i64 (Int.tdiv (modI (List.getD l (Int.toNat (↑x1.fst : Int)) (0 : Int)) (1048576 : Int)) (4 : Int)))
 (min x1.snd.fst (40 : Int)))) =
 y7.snd.fst ∧
 IntKind.wrap IntKind.i64 ((↑x1.fst : Int) + (1 : Int)) = (↑y7.fst : Int) ∧
 (0 : Int) = (0 : Int) ∧
 Value.slice none (0 : Nat) (0 : Nat) = Value.slice none (0 : Nat) (0 : Nat) ∧
 kdG l = kdG l ∧
 x1.snd.snd ++
 [IntKind.wrap IntKind.i64
 ((1 : Int) +
 Int.tmod
 (IntKind.wrap IntKind.i64
 (Int.tdiv (modI (List.getD l (Int.toNat (↑x1.fst : Int)) (0 : Int)) (1048576 : Int)) (4 : Int)))
 (min x1.snd.fst (40 : Int)))] =
 y7.snd.snd))))) ∧
 (decide (x1.snd.fst > (1 : Int)) = false → (List.length x1.snd.snd + (1 : Nat)) * (8 : Nat) ≤ (140737488355328 : Nat) ∧ kdG l = kdG l ∧ x1.snd.snd ++ [x1.snd.fst] = kdP l)) ∧
 (decide ((↑x1.fst : Int) < (30 : Int)) = false → (List.length x1.snd.snd + (1 : Nat)) * (8 : Nat) ≤ (140737488355328 : Nat) ∧ kdG l = kdG l ∧ x1.snd.snd ++ [x1.snd.fst] = kdP l)) ∧
 (decide ((↑x1.fst : Int) < (↑(List.length l) : Int)) = false →
 (List.length x1.snd.snd + (1 : Nat)) * (8 : Nat) ≤ (140737488355328 : Nat) ∧ kdG l = kdG l ∧ x1.snd.snd ++ [x1.snd.fst] = kdP l)
theorem kd_e (l : List Int) : kd_t l = vcG Try.prog (Gof GFl) (one (oKd l)) Try.f35 [.dat (.ints .i64 l)] [] (.leaf ((.ag [.v (.int .i64 (kdG l)), .dat (.ints .i64 (kdP l))])) ([])) := by kernel_rfl
end Go.Proofs.Ytbdgknebimdjoaa
namespace Go.Proofs.Ytbdgknebimdjoaa
open Go Go.RowKit
set_option linter.unusedVariables false
set_option linter.unusedSimpArgs false
set_option maxRecDepth 100000
theorem pts_cons (p : Int) (r : List Int) : pts (p :: r) = pt p + pts r := by
  have := pts_app [p] r
  have h5 : pts [p] = pt p := by simp [pts]
  rw [h5] at this
  exact this
theorem mod20 (x : Int) : 0 ≤ modI x 1048576 ∧ modI x 1048576 < 1048576 := by
  unfold modI
  simp only [show decide ((1048576 : Int) < 1) = false from rfl, cond_false]
  omega
theorem kdG_in (l : List Int) : 5 ≤ kdG l ∧ kdG l ≤ 8 := by
  unfold kdG modI
  simp only [show decide ((4 : Int) < 1) = false from rfl, cond_false]
  omega
theorem kd_one {r : List Int} {left : Int} {out : List Int} (h : ¬ 1 < left) : kdL r left out = (out, left) := by
  cases r
  · rfl
  · unfold kdL; rw [decide_eq_false h]; rfl
theorem kd_stop {x : Int} {r : List Int} {left v : Int} {out : List Int} (h : 1 < left) (hv : stepV x left = v) (h2 : left ≤ v) : kdL (x :: r) left out = (out, left) := by
  unfold kdL; rw [decide_eq_true h, hv, decide_eq_true h2]; rfl
theorem kd_step {x : Int} {r : List Int} {left v : Int} {out : List Int} (h : 1 < left) (hv : stepV x left = v) (h2 : ¬ left ≤ v) : kdL (x :: r) left out = kdL r (left - cond (decide (v < 0)) 1 v) (out ++ [v]) := by
  conv => lhs; unfold kdL
  rw [decide_eq_true h, hv, decide_eq_false h2]; rfl
theorem take_drop_cons {l : List Int} {i : Nat} (h : i < l.length) (h2 : i < 30) : (l.take 30).drop i = l.getD i 0 :: (l.take 30).drop (i + 1) := by
  have h3 : i < (l.take 30).length := by simp; omega
  rw [List.drop_eq_getElem_cons h3]
  simp [List.getD_eq_getElem?_getD, List.getElem?_eq_getElem h]
theorem take_drop_nil {l : List Int} {i : Nat} (h : l.length ≤ i ∨ 30 ≤ i) : (l.take 30).drop i = [] := by
  apply List.drop_eq_nil_of_le
  simp
  omega
theorem inW_get {l : List Int} (h : l.all inW = true) (i : Nat) : inW (l.getD i 0) = true := by
  by_cases c : i < l.length
  · rw [List.getD_eq_getElem?_getD, List.getElem?_eq_getElem c]
    exact List.all_eq_true.1 h _ (List.getElem_mem c)
  · rw [List.getD_eq_getElem?_getD, List.getElem?_eq_none (by omega)]
    decide
theorem kd_v (l : List Int) (hl : l.all inW = true) : kd_t l := by
  unfold kd_t
  simp only [e00, n00, e23, n23, e31, n31, Bool.true_eq_false, Bool.false_eq_true, true_implies, false_implies, eq_self, true_and, and_true, and_self, gt_iff_lt, ge_iff_le, decide_eq_true_eq, decide_eq_false_iff_not, toNat_cast]
  have hg := kdG_in l
  have hw : IntKind.wrap IntKind.i64 (5 + modI (atI l 0) 4) = kdG l := wr (n := kdG l) (by omega) (by omega)
  have hu : IntKind.wrap IntKind.u64 (kdG l) = kdG l := wru (by omega) (by omega)
  simp only [hw, hu, shl1 (g := kdG l) (by omega) (by omega)]
  have hpw : (1 : Int) ≤ 2 ^ (kdG l).toNat ∧ (2 : Int) ^ (kdG l).toNat ≤ 256 := by
    have : (kdG l).toNat = 5 ∨ (kdG l).toNat = 6 ∨ (kdG l).toNat = 7 ∨ (kdG l).toNat = 8 := by omega
    rcases this with h | h | h | h <;> rw [h] <;> decide
  refine ⟨?_, by decide, by omega, ⟨(1, 2 ^ (kdG l).toNat, []), ⟨rfl, (by omega : 1 ≤ 1), (by omega : 1 ≤ 30), hpw.1, hpw.2, (by omega : 0 ≤ 1)⟩, rfl, rfl, trivial, rfl⟩, fun ⟨i, left, out⟩ ⟨hp, i1, i2, l1, l2, ol⟩ => ?_⟩
  · unfold atI
    cases decide ((0 : Int) < 0) || decide ((l.length : Int) ≤ 0)
    · exact inW_get hl _
    · show inW 0 = true; decide
  dsimp only at hp i1 i2 l1 l2 ol ⊢
  have fin : kdL ((l.take 30).drop i) left out = (out, left) → (out.length + 1) * 8 ≤ 140737488355328 ∧ out ++ [left] = kdP l := fun h => by
    rw [h] at hp
    exact ⟨by omega, by unfold kdP; rw [← hp]⟩
  refine ⟨fun hlen => ⟨fun h30 => ⟨fun hgt => ⟨by omega, by omega, inW_get hl _, by decide, by decide, ?_⟩, fun hle => fin (kd_one (by omega))⟩, fun h30 => fin (by rw [take_drop_nil (.inr (by omega))]; rfl)⟩, fun hlen => fin (by rw [take_drop_nil (.inl (by omega))]; rfl)⟩
  have hc := take_drop_cons (l := l) (i := i) (by omega) (by omega)
  rw [hc] at hp fin
  generalize hx : l.getD i 0 = x at hp fin ⊢
  have hV := mod20 x
  have e1 : (modI x 1048576).tmod 4 = modI x 1048576 % 4 := Int.tmod_eq_emod_of_nonneg hV.1
  have e2 : (modI x 1048576).tdiv 4 = modI x 1048576 / 4 := Int.tdiv_eq_ediv_of_nonneg hV.1
  have e3 : IntKind.wrap IntKind.i64 (modI x 1048576 / 4) = modI x 1048576 / 4 := wr (by omega) (by omega)
  have e4 : (modI x 1048576 / 4).tmod (min left 40) = modI x 1048576 / 4 % min left 40 := Int.tmod_eq_emod_of_nonneg (by omega)
  have m0 := Int.emod_nonneg (modI x 1048576 / 4) (show min left 40 ≠ 0 by omega)
  have m1 := Int.emod_lt_of_pos (modI x 1048576 / 4) (show 0 < min left 40 by omega)
  have e5 : IntKind.wrap IntKind.i64 (1 + modI x 1048576 / 4 % min left 40) = 1 + modI x 1048576 / 4 % min left 40 := wr (by omega) (by omega)
  have wi : IntKind.wrap IntKind.i64 ((i : Int) + 1) = ((i + 1 : Nat) : Int) := by rw [wr (by omega) (by omega)]; simp
  simp only [e1, e2, e3, e4, e5, wi]
  have nx : ∀ v : Int, stepV x left = v → ¬ left ≤ v → -1 ≤ v → ∀ u, u = cond (decide (v < 0)) 1 v → 0 ≤ u → u < left →
      ∃ y : Nat × Int × List Int, (kdL (List.drop y.1 (List.take 30 l)) y.2.1 y.2.2 = kdF l ∧ 1 ≤ y.1 ∧ y.1 ≤ 30 ∧ 1 ≤ y.2.1 ∧ y.2.1 ≤ 256 ∧ y.2.2.length ≤ y.1) ∧ Nat.sub 30 y.1 < Nat.sub 30 i ∧ IntKind.wrap IntKind.i64 (left - u) = y.2.1 ∧ ((i + 1 : Nat) : Int) = (y.1 : Int) ∧ out ++ [v] = y.2.2 := fun v hv h1 h2 u hu u0 u1 => by
    rw [kd_step hgt hv h1, ← hu] at hp
    refine ⟨(i + 1, left - u, out ++ [v]), ⟨hp, by dsimp only; omega, by dsimp only; omega, by dsimp only; omega, by dsimp only; omega, by simp; omega⟩, ?_, wr (by omega) (by omega), rfl, rfl⟩
    show 30 - (i + 1) < 30 - i
    omega
  refine ⟨fun h0 => ?_, fun h0 => ⟨fun h1 => ?_, fun h1 => ?_⟩⟩
  · have hv : stepV x left = -1 := by unfold stepV; rw [h0]; rfl
    exact ⟨fun h => by omega, fun h => ⟨by omega, fun _ => nx _ hv (by omega) (by omega) 1 rfl (by omega) (by omega), fun h => absurd h (by decide)⟩⟩
  · have hv : stepV x left = 0 := by unfold stepV; rw [h0, h1]; rfl
    exact ⟨fun h => by omega, fun h => ⟨by omega, fun h => absurd h (by decide), fun _ => nx _ hv (by omega) (by omega) 0 rfl (by omega) (by omega)⟩⟩
  · have hv : stepV x left = 1 + modI x 1048576 / 4 % min left 40 := by unfold stepV; rw [h0, h1]; rfl
    refine ⟨by decide, by omega, fun h => fin (kd_stop hgt hv h), fun h => ⟨by omega, fun h2 => by omega, fun h2 => nx _ hv (by omega) (by omega) _ (by rw [decide_eq_false h2]; rfl) (by omega) (by omega)⟩⟩
theorem stepV_low (x left : Int) (h : 1 < left) : -1 ≤ stepV x left := by
  have hV := mod20 x
  have m0 := Int.emod_nonneg (modI x 1048576 / 4) (show min left 40 ≠ 0 by omega)
  unfold stepV
  cases modI x 1048576 % 4 == 0
  · cases modI x 1048576 % 4 == 1
    · simp only [cond_false]; omega
    · simp only [cond_true, cond_false]; omega
  · simp only [cond_true]; omega
structure KdOk (n : Int) (m : Nat) (z : List Int × Int) : Prop where
  pos : 1 ≤ z.2
  low : ∀ x ∈ z.1, -1 ≤ x
  sum : pts z.1 + z.2 = n
  len : z.1.length ≤ m
theorem kdL_ok (r : List Int) : ∀ (left : Int) (out : List Int) (n : Int) (m : Nat), KdOk n m (out, left) → KdOk n (m + r.length) (kdL r left out) := by
  induction r with
  | nil => intro left out n m h; exact h
  | cons x r ih =>
    intro left out n m h
    have h1 := h.pos
    have h2 := h.low
    have h3 := h.sum
    have h4 := h.len
    dsimp only at h1 h2 h3 h4
    have up : KdOk n (m + (r.length + 1)) (out, left) := ⟨h1, h2, h3, by dsimp only; omega⟩
    by_cases c : 1 < left
    · by_cases c2 : left ≤ stepV x left
      · rw [kd_stop c rfl c2]; exact up
      · rw [kd_step c rfl c2]
        have lo := stepV_low x left c
        have e : m + (x :: r).length = (m + 1) + r.length := by simp only [List.length_cons]; omega
        rw [e]
        refine ih _ _ _ _ ⟨?_, ?_, ?_, by simp; omega⟩
        · dsimp only
          cases d : decide (stepV x left < 0)
          · simp only [cond_false]; omega
          · simp only [cond_true]; omega
        · intro z hz
          rcases List.mem_append.1 hz with hz | hz
          · exact h2 z hz
          · rw [List.mem_singleton.1 hz]; exact lo
        · dsimp only
          rw [pts_app, pts_cons]
          have e0 : pts ([] : List Int) = 0 := rfl
          rw [e0]
          unfold pt
          omega
    · rw [kd_one c]; exact up
theorem kd_ok (l : List Int) : dchk (kdG l) (kdP l) = 0 ∧ (kdP l).length ≤ 30 := by
  have hg := kdG_in l
  have p0 := pow_pos' (kdG l).toNat
  have K := kdL_ok ((l.take 30).drop 1) (2 ^ (kdG l).toNat) [] (2 ^ (kdG l).toNat) 0 ⟨by dsimp only; omega, fun x h => by simp at h, by show (0 : Int) + _ = _; omega, Nat.le_refl _⟩
  have k1 := K.pos
  have k2 := K.low
  have k3 := K.sum
  have k4 := K.len
  have e : kdL ((l.take 30).drop 1) (2 ^ (kdG l).toNat) [] = kdF l := rfl
  rw [e] at k1 k2 k3 k4
  have h29 : ((l.take 30).drop 1).length ≤ 29 := by simp; omega
  have hlen : (kdP l).length = (kdF l).1.length + 1 := by unfold kdP; simp
  have hlast : (kdP l).getD ((kdP l).length - 1) 0 = (kdF l).2 := by
    rw [hlen, Nat.add_sub_cancel]
    unfold kdP
    simp
  have hsum : pts (kdP l) = 2 ^ (kdG l).toNat := by
    unfold kdP
    rw [pts_app, pts_cons]
    have e0 : pts ([] : List Int) = 0 := rfl
    have e1 : pt (kdF l).2 = (kdF l).2 := by unfold pt; rw [decide_eq_false (by omega)]; rfl
    rw [e0, e1]
    omega
  refine ⟨?_, by omega⟩
  unfold dchk
  rw [decide_eq_false (by omega), decide_eq_false (by omega)]
  have hb : dbad (kdG l) (kdP l) = false := by
    unfold dbad
    rw [hlast, hsum]
    have a1 : decide ((kdP l).length < 1) = false := decide_eq_false (by omega)
    have a2 : decide (256 < (kdP l).length) = false := decide_eq_false (by omega)
    have a3 : ((kdF l).2 == 0) = false := by
      have : (kdF l).2 ≠ 0 := by omega
      simpa using this
    have a4 : (kdP l).any (fun x => decide (x < -1)) = false := by
      rw [List.any_eq_false]
      intro x hx
      simp only [decide_eq_true_eq]
      unfold kdP at hx
      rcases List.mem_append.1 hx with hx | hx
      · have := k2 x hx; omega
      · rw [List.mem_singleton.1 hx]; omega
    rw [a1, a2, a3, a4]
    simp
  rw [hb]; rfl
end Go.Proofs.Ytbdgknebimdjoaa
namespace Go.Proofs.Ytbdgknebimdjoaa
open Go Go.RowKit
set_option linter.unusedVariables false
set_option linter.unusedSimpArgs false
set_option maxRecDepth 100000
theorem atK_v (l : List Int) (i : Int) : atK_t l i := by
  unfold atK_t atI
  refine ⟨fun h => by rw [h]; rfl, fun h => ⟨fun h2 => by rw [h]; rw [show decide ((l.length : Int) ≤ i) = true from h2]; rfl, fun h2 => ⟨by simp only [decide_eq_false_iff_not] at h; omega, by simp only [ge_iff_le, decide_eq_false_iff_not] at h2; omega, by rw [h, show decide ((l.length : Int) ≤ i) = false from h2]; rfl⟩⟩⟩
theorem thF_app : ∀ (s : Int) (l : List Int) (x : Int), thF s (l ++ [x]) = thF s l ++ cond (x == 0) [] [s + l.length]
  | s, [], x => by
    show cond (x == 0) [] [s] = cond (x == 0) [] [s + 0]
    rw [Int.add_zero]
  | s, y :: r, x => by
    have ih := thF_app (s + 1) r x
    show cond (y == 0) (thF (s + 1) (r ++ [x])) (s :: thF (s + 1) (r ++ [x])) = cond (y == 0) (thF (s + 1) r) (s :: thF (s + 1) r) ++ _
    rw [ih, List.length_cons]
    have e : s + 1 + (r.length : Int) = s + ((r.length + 1 : Nat) : Int) := by omega
    rw [e]
    cases y == 0 <;> rfl
theorem thP_succ {p : List Int} {i : Nat} (h : i < p.length) : thP p (i + 1) = thP p i ++ cond (p.getD i 0 == 0) [] [(i : Int)] := by
  unfold thP
  rw [take_succ p 0 h, thF_app, List.length_take, Nat.min_eq_left (by omega), Int.zero_add]
theorem thP_len (p : List Int) : ∀ i, i ≤ p.length → (thP p i).length ≤ i
  | 0, _ => by simp [thP, thF]
  | i + 1, h => by
    rw [thP_succ (by omega), List.length_append]
    have := thP_len p i (by omega)
    cases p.getD i 0 == 0
    · simp only [cond_false, List.length_singleton]; omega
    · simp only [cond_true, List.length_nil]; omega
theorem thP_all (p : List Int) : thP p p.length = thL p := by unfold thP thL; rw [List.take_length]
theorem thP_mem {p : List Int} : ∀ i, i ≤ p.length → ∀ x ∈ thP p i, noD p x = false
  | 0, _, x, hx => by simp [thP, thF] at hx
  | i + 1, h, x, hx => by
    rw [thP_succ (by omega), List.mem_append] at hx
    rcases hx with hx | hx
    · exact thP_mem i (by omega) x hx
    · cases hz : p.getD i 0 == 0
      · rw [hz] at hx
        simp only [cond_false, List.mem_singleton] at hx
        subst hx
        have := noD_in (p := p) (x := (i : Int)) (decide_eq_false (by omega)) (decide_eq_false (by omega))
        rw [toNat_cast] at this
        rw [← this]
        exact hz
      · rw [hz] at hx
        simp at hx
theorem modI_pos {x m : Int} (h : 1 ≤ m) : 0 ≤ modI x m ∧ modI x m < m := by
  unfold modI
  rw [decide_eq_false (by omega)]
  exact ⟨Int.emod_nonneg _ (by omega), Int.emod_lt_of_pos _ (by omega)⟩
theorem sym_no (p nums : List Int) : (symL p nums).any (noD p) = false ∧ (symL p nums).length ≤ 200 := by
  unfold symL
  cases h : Nat.beq (thL p).length 0
  · simp only [cond_false]
    refine ⟨?_, by rw [List.length_map, List.length_take]; omega⟩
    have h1 : 1 ≤ (thL p).length := by
      cases hl : (thL p).length with
      | zero => rw [hl] at h; cases h
      | succ n => omega
    rw [List.any_map, List.any_eq_false]
    intro x _
    have hm := modI_pos (x := x) (m := ((thL p).length : Int)) (by omega)
    have : (thL p).getD (modI x (thL p).length).toNat 0 ∈ thL p := getD_mem' (by omega)
    rw [← thP_all] at this
    simp only [Function.comp]
    rw [← thP_all, thP_mem p.length (Nat.le_refl _) _ this]
    simp
  · simp
theorem symP_succ {p nums : List Int} {i : Nat} (h : i < nums.length) (h2 : i < 200) : symP p nums (i + 1) = symP p nums i ++ [(thL p).getD (modI (nums.getD i 0) (thL p).length).toNat 0] := by
  unfold symP
  have h3 : i < (nums.take 200).length := by rw [List.length_take]; omega
  rw [take_succ (nums.take 200) 0 h3, List.map_append]
  have : (nums.take 200).getD i 0 = nums.getD i 0 := by
    rw [List.getD_eq_getElem?_getD, List.getElem?_take_of_lt h2, List.getD_eq_getElem?_getD]
  rw [this]
  rfl
theorem symP_end {p nums : List Int} {i : Nat} (h : i = nums.length ∨ i = 200) (h1 : i ≤ nums.length) (h2 : i ≤ 200) (h0 : thL p = [] → i = 0) : symP p nums i = symL p nums := by
  have e : (nums.take 200).take i = nums.take 200 := List.take_of_length_le (by rw [List.length_take]; omega)
  unfold symP symL
  cases hn : Nat.beq (thL p).length 0
  · rw [e]; rfl
  · have : thL p = [] := List.eq_nil_of_length_eq_zero (Nat.eq_of_beq_eq_true hn)
    have := h0 this
    subst this
    simp
theorem symK_v (g : Int) (p l : List Int) (h0 : l.all inW = true) (h1 : p.length ≤ 4294967296) : symK_t g p l := by
  unfold symK_t
  simp only [nle, toNat_cast]
  have hin : ∀ i, inW (l.getD i 0) = true := inW_get h0
  refine ⟨⟨0, Nat.zero_le _, (by first | rfl | trivial), (by first | rfl | trivial), (by first | rfl | trivial), (by first | rfl | trivial), by simp [thP, thF]⟩, fun i hi => ⟨fun hlt => ?_, fun hge => ?_⟩⟩
  · have hlt : i < p.length := by simpa using hlt
    have hl := thP_len p i hi
    have es := thP_succ hlt
    refine ⟨by omega, by omega, fun hz => ⟨by omega, i + 1, by omega, by rw [Nat.sub_eq, Nat.sub_eq]; omega, (by first | rfl | trivial), cnt_wrap64 (by omega), (by first | rfl | trivial), (by first | rfl | trivial), ?_⟩, fun hz => ⟨i + 1, by omega, by rw [Nat.sub_eq, Nat.sub_eq]; omega, (by first | rfl | trivial), cnt_wrap64 (by omega), (by first | rfl | trivial), (by first | rfl | trivial), ?_⟩⟩
    · rw [ne0 hz] at es; exact es.symm
    · rw [beq0 (eq0 hz)] at es
      rw [es]
      simp
  · have : i = p.length := by simp only [decide_eq_false_iff_not] at hge; omega
    subst this
    have hl := thP_len p p.length (Nat.le_refl _)
    rw [thP_all] at hl ⊢
    refine ⟨⟨0, ⟨Nat.zero_le _, by omega, fun _ => rfl⟩, (by first | rfl | trivial), (by first | rfl | trivial), (by first | rfl | trivial), (by first | rfl | trivial), (by first | rfl | trivial), by simp [symP]⟩, fun i ⟨i1, i2, i3⟩ => ⟨fun hlt => ⟨fun hlt2 => ⟨fun hpos => ?_, fun hneg => ?_⟩, fun hge2 => ?_⟩, fun hge2 => ?_⟩⟩
    · have hlt : i < l.length := by simpa using hlt
      have hlt2 : i < 200 := by simp only [decide_eq_true_eq] at hlt2; omega
      have hpos : 0 < (thL p).length := by simp only [gt_iff_lt, decide_eq_true_eq] at hpos; omega
      have hm := modI_pos (x := l.getD i 0) (m := ((thL p).length : Int)) (by omega)
      have hle : (symP p l i).length ≤ 200 := by unfold symP; rw [List.length_map, List.length_take, List.length_take]; omega
      refine ⟨by omega, by omega, hin i, ?_, hm.1, hm.2, by omega, by omega, i + 1, ⟨by omega, by omega, fun h => by rw [h] at hpos; simp at hpos⟩, by rw [Nat.sub_eq, Nat.sub_eq]; omega, (by first | rfl | trivial), cnt_wrap64 (by omega), (by first | rfl | trivial), (by first | rfl | trivial), (by first | rfl | trivial), (symP_succ hlt hlt2).symm⟩
      unfold inW
      rw [decide_eq_true (by omega), decide_eq_true (by omega)]
      rfl
    · have : thL p = [] := List.eq_nil_of_length_eq_zero (by simp only [gt_iff_lt, decide_eq_false_iff_not] at hneg; omega)
      have h0 := i3 this
      subst h0
      unfold symP symL
      rw [this]
      simp
    · exact symP_end (.inr (by simp only [decide_eq_false_iff_not] at hge2; omega)) i1 i2 i3
    · exact symP_end (.inl (by simp only [decide_eq_false_iff_not] at hge2; omega)) i1 i2 i3
theorem lowF_cnt : ∀ (l : List Int) (s : Int) (k : Nat), k < l.length → (lowF s l).count (s + k) = cond (isR (l.getD k 0)) 1 0 ∧ ∀ z, z < s → (lowF s l).count z = 0
  | [], _, _, h => by simp at h
  | x :: r, s, k, h => by
    have low : ∀ (l : List Int) (s z : Int), z < s → (lowF s l).count z = 0 := by
      intro l
      induction l with
      | nil => intro s z _; rfl
      | cons y t ih =>
        intro s z hz
        show (cond (isR y) (s :: lowF (s + 1) t) (lowF (s + 1) t)).count z = 0
        cases isR y
        · exact ih _ _ (by omega)
        · simp only [cond_true]
          rw [List.count_cons_of_ne (by omega)]
          exact ih _ _ (by omega)
    refine ⟨?_, low _ _⟩
    show (cond (isR x) (s :: lowF (s + 1) r) (lowF (s + 1) r)).count (s + k) = _
    cases k with
    | zero =>
      have e : s + ((0 : Nat) : Int) = s := by omega
      rw [e]
      show _ = cond (isR x) 1 0
      cases isR x
      · exact low _ _ _ (by omega)
      · simp only [cond_true]
        rw [List.count_cons_self, low _ _ _ (by omega)]
    | succ k =>
      have e : s + ((k + 1 : Nat) : Int) = s + 1 + (k : Int) := by omega
      rw [e]
      have ih := (lowF_cnt r (s + 1) k (by simpa using h)).1
      show _ = cond (isR (r.getD k 0)) 1 0
      rw [← ih]
      cases isR x
      · rfl
      · simp only [cond_true]
        rw [List.count_cons_of_ne (by omega)]
theorem hiF_cnt : ∀ (l : List Int) (s : Int) (k : Nat), k < l.length → (hiF s l).count (s + k) = (l.getD k 0).toNat
  | [], _, _, h => by simp at h
  | x :: r, s, k, h => by
    have low : ∀ (l : List Int) (s z : Int), z < s → (hiF s l).count z = 0 := by
      intro l
      induction l with
      | nil => intro s z _; rfl
      | cons y t ih =>
        intro s z hz
        show (List.replicate y.toNat s ++ hiF (s + 1) t).count z = 0
        rw [List.count_append, ih _ _ (by omega), List.count_replicate]
        have : (s == z) = false := by simp; omega
        rw [this]
        rfl
    show (List.replicate x.toNat s ++ hiF (s + 1) r).count (s + k) = _
    rw [List.count_append]
    cases k with
    | zero =>
      have e : s + ((0 : Nat) : Int) = s := by omega
      rw [e, low _ _ _ (by omega), List.count_replicate_self]
      rfl
    | succ k =>
      have e : s + ((k + 1 : Nat) : Int) = s + 1 + (k : Int) := by omega
      rw [e, hiF_cnt r (s + 1) k (by simpa using h), List.count_replicate]
      have : (s == s + 1 + (k : Int)) = false := by simp; omega
      rw [this]
      simp
theorem spr_cnt {g : Int} {l : List Int} (h : DOk g l) {k : Nat} (hk : k < l.length) : ((spr g l).count (k : Int) : Int) = pt (l.getD k 0) := by
  rw [(spr_perm h).count_eq, List.count_append]
  have e1 := (lowF_cnt l 0 k hk).1
  have e2 := hiF_cnt l 0 k hk
  rw [Int.zero_add] at e1 e2
  rw [e1, e2]
  have lo := h.lo _ (getD_mem' hk)
  unfold pt isR
  by_cases hm : l.getD k 0 = -1
  · rw [hm]; decide
  · have : (l.getD k 0 == -1) = false := beq_eq_false_iff_ne.2 hm
    rw [this, decide_eq_false (by omega)]
    simp only [cond_false]
    omega
theorem cel_pt {g : Int} {p : List Int} (h : dchk g p = 0) {s : Int} (hn : noD p s = false) : ((celT (encL g p) s).length : Int) = pt (p.getD s.toNat 0) := by
  have hd := dchk0 h
  have h0 : 0 ≤ s := by
    rcases Int.lt_or_le s 0 with hs | hs
    · rw [noD_neg (decide_eq_true hs)] at hn; cases hn
    · exact hs
  have h1 : s < p.length := by
    rcases Int.lt_or_le s p.length with hs | hs
    · exact hs
    · rw [noD_big (decide_eq_true hs)] at hn; cases hn
  obtain ⟨k, rfl⟩ := Int.eq_ofNat_of_zero_le h0
  have hk : k < p.length := by omega
  have hlen : (statesL p.length (spr g p)).length = p.length := by rw [← states_all, states_len]
  rw [(enc_good h).2, celT_in (by omega) (by rw [hlen]; exact h1), toNat_cast, ← states_all, states_get hk, cellsP_all]
  rw [show (cellsL (spr g p) (k : Int)).length = (spr g p).count (k : Int) from cellsF_len _ _ _]
  exact spr_cnt hd hk
theorem hi_X {g x : Int} (h0 : 0 ≤ g) (hx0 : 0 ≤ x) (hx1 : x < (szN g : Int)) : hiI (putX g x) = g := by
  have hp := szN_pos g
  unfold putX
  rw [hiI_pos (by omega)]
  have e : (x + (szN g : Int)).toNat = x.toNat + szN g := by omega
  rw [e]
  have : Nat.log2 (x.toNat + szN g) = g.toNat := by
    unfold szN at *
    refine (Nat.log2_eq_iff (by omega)).2 ⟨by omega, ?_⟩
    rw [Nat.pow_succ]
    omega
  rw [this]
  omega
theorem ask_of {g : Int} {p l : List Int} {c : Nat} (h : AskOk g p l c) : askE g p l (c : Int) = 0 := by
  unfold askE
  rw [beq0 h.d, h.no, decide_eq_false (by have := h.hi; omega), decide_eq_false (by have := h.lo; omega)]
  rfl
end Go.Proofs.Ytbdgknebimdjoaa
namespace Go.Proofs.Ytbdgknebimdjoaa
open Go Go.RowKit
set_option linter.unusedVariables false
set_option linter.unusedSimpArgs false
set_option maxRecDepth 100000
theorem atK_sound : Sound Try.prog 74 sAt.ctr := sAt.sound (by kernel_rfl) sAt_enc fun ⟨l, i⟩ hc => by
  exact satG AllOk.nil mixed Try.func74 (atK_e l i) (atK_v l i)
theorem symK_sound : Sound Try.prog 36 sSymb.ctr := sSymb.sound (by kernel_rfl) sSymb_enc fun ⟨g, p, l⟩ hc => by
  have h0 := hc _ (.head _)
  have h1 := hc _ (.tail _ (.head _))
  exact satG GFk_ok mixed Try.func36 (symK_e g p l) (symK_v g p l h0 h1)
theorem GFl_ok : AllOk Try.prog GFl := .cons atK_sound <| .cons symK_sound <| GFk_ok
theorem kd_sound : Sound Try.prog 35 sKd.ctr := sKd.sound (by kernel_rfl) sKd_enc fun l hc => by
  have h0 := hc _ (.head _)
  exact satG GFl_ok mixed Try.func35 (kd_e l) (kd_v l h0)
theorem GFm_ok : AllOk Try.prog GFm := .cons kd_sound <| GFl_ok
theorem ints_inW {w : World} {A : Option Addr} {n cap : Nat} {zs : List Int} (h : IntsIn w A n cap zs) : (zs.take n).all inW = true := by
  rw [List.all_eq_true]
  intro x hx
  have := h.rng x (List.mem_of_mem_take hx)
  simp [inW]
  omega
end Go.Proofs.Ytbdgknebimdjoaa
namespace Go.Proofs.Ytbdgknebimdjoaa
open Go Go.RowKit
set_option linter.unusedVariables false
set_option linter.unusedSimpArgs false
set_option maxRecDepth 100000
theorem toList_loop (s : ByteArray) : ∀ (k i : Nat) (r : List UInt8), s.size - i = k → ByteArray.toList.loop s i r = r.reverse ++ s.data.toList.drop i
  | 0, i, r, h => by
    rw [ByteArray.toList.loop, if_neg (by omega), List.drop_eq_nil_of_le (by show s.data.toList.length ≤ i; have : s.data.toList.length = s.size := rfl; omega), List.append_nil]
  | k + 1, i, r, h => by
    rw [ByteArray.toList.loop, if_pos (by omega), toList_loop s k (i + 1) _ (by omega)]
    have hl : i < s.data.toList.length := by have : s.data.toList.length = s.size := rfl; omega
    rw [List.drop_eq_getElem_cons hl, List.reverse_cons, List.append_assoc]
    have : s.get! i = s.data.toList[i] := by
      show s.data[i]! = _
      rw [getElem!_pos s.data i (by simpa using hl)]
      simp
    rw [this]
    rfl
theorem toList_data (s : ByteArray) : s.toList = s.data.toList := by
  unfold ByteArray.toList
  rw [toList_loop s s.size 0 [] (by omega)]
  simp
theorem bytes_eq {a b : ByteArray} (h : a.toList = b.toList) : a = b := by
  rw [toList_data, toList_data] at h
  cases a; cases b
  simp only [ByteArray.mk.injEq]
  exact Array.toList_inj.1 h
theorem toList_nil (s : ByteArray) : (s.toList == ByteArray.empty.toList) = Nat.beq s.size 0 := by
  cases h : Nat.beq s.size 0
  · refine beq_eq_false_iff_ne.2 fun he => ?_
    rw [bytes_eq he] at h
    cases h
  · have h0 := Nat.eq_of_beq_eq_true h
    have : s = ByteArray.empty := by
      cases s with
      | mk d =>
        have : d.size = 0 := h0
        rw [Array.size_eq_zero_iff.1 this]
        rfl
    rw [this]
    simp
theorem byI_rng (s : ByteArray) (i : Nat) : 0 ≤ byI s i ∧ byI s i < 256 := by
  unfold byI
  have := (s.data.toList.getD i 0).toNat_lt
  omega
def l8S : ByteArray := ⟨(([0, 1] ++ List.replicate 2 2 ++ List.replicate 4 3 ++ List.replicate 8 4 ++ List.replicate 16 5 ++ List.replicate 32 6 ++ List.replicate 64 7 ++ List.replicate 128 8 : List UInt8)).toArray⟩
def len8H_t (x : Int) : Prop := (0 : Int) ≤ x ∧ x < (l8S.size : Int) ∧ IntKind.wrap IntKind.i64 ((UInt8.toNat (List.getD l8S.data.toList (Int.toNat x) 0) : Nat) : Int) = hiI x + 1
theorem len8H_e (x : Int) : len8H_t x = vcG Try.prog (Gof []) (fun _ => none) Try.f161 [.v (.int .u8 x)] [] (.leaf (.v (.int .i64 (hiI x + 1))) []) := by kernel_rfl
theorem len8_tab : ∀ n : Fin 256, ((UInt8.toNat (List.getD l8S.data.toList n.val 0) : Nat) : Int) = hiI (n.val : Int) + 1 := by decide +kernel
theorem len8H_v (x : Int) (h0 : 0 ≤ x) (h1 : x ≤ 255) : len8H_t x := by
  obtain ⟨n, rfl⟩ := Int.eq_ofNat_of_zero_le h0
  have h := len8_tab ⟨n, by omega⟩
  simp only at h
  have hb : hiI (n : Int) ≤ 100 ∧ -1 ≤ hiI (n : Int) := by
    unfold hiI
    cases hd : decide ((n : Int) ≤ 0)
    · simp only [cond_false, toNat_cast]
      have : Nat.log2 n < 9 := (Nat.log2_lt (by simp only [decide_eq_false_iff_not] at hd; omega)).2 (by omega)
      omega
    · simp only [cond_true]; omega
  refine ⟨h0, by show (n : Int) < 256; omega, ?_⟩
  rw [toNat_cast, h, wr (by omega) (by omega)]
theorem hi_8 : ∀ b : Fin 256, b.val ≠ 0 → 0 ≤ hiI (b.val : Int) ∧ hiI (b.val : Int) ≤ 7 := by decide +kernel
theorem noB_size {s : ByteArray} (h : noB s = false) : 0 < s.size ∧ lastB s ≠ 0 := by
  unfold noB at h
  simp only [Bool.or_eq_false_iff, beq_eq_false_iff_ne] at h
  refine ⟨?_, h.2⟩
  rcases Nat.eq_zero_or_pos s.size with h0 | h0
  · rw [h0] at h; cases h.1
  · exact h0
theorem lastB_rng (s : ByteArray) : 0 ≤ lastB s ∧ lastB s < 256 := byI_rng s _
theorem bkN_rng {s : ByteArray} (h : noB s = false) : 8 * ((s.size : Int) - 1) ≤ bkN s ∧ bkN s < 8 * s.size ∧ 0 ≤ bkN s := by
  obtain ⟨h0, h1⟩ := noB_size h
  obtain ⟨b0, b1⟩ := lastB_rng s
  have hh := hi_8 ⟨(lastB s).toNat, by omega⟩ (by simp only; omega)
  simp only at hh
  rw [show (((lastB s).toNat : Nat) : Int) = lastB s by omega] at hh
  unfold bkN
  rw [h]
  simp only [cond_false]
  omega
theorem bkN_no {s : ByteArray} (h : noB s = true) : bkN s = -1 := by unfold bkN; rw [h]; rfl
theorem bkN_neg (s : ByteArray) : decide (bkN s < 0) = noB s := by
  cases h : noB s
  · exact decide_eq_false (by have := (bkN_rng h).2.2; omega)
  · rw [bkN_no h]; rfl
theorem bitS_eq {s : ByteArray} {k : Nat} : bitS s (k : Int) = ((byI s (k / 8)).toNat / 2 ^ (k % 8) % 2 : Nat) := by
  have hb := (byI_rng s (k / 8)).1
  unfold bitS
  rw [decide_eq_false (by omega)]
  simp only [cond_false]
  rw [show ((k : Int) / 8).toNat = k / 8 by omega, show ((k : Int) % 8).toNat = k % 8 by omega]
  obtain ⟨b, he⟩ := Int.eq_ofNat_of_zero_le hb
  rw [he, toNat_cast]
  push_cast
  rfl
theorem bitS_01 (s : ByteArray) (k : Int) : bitS s k = 0 ∨ bitS s k = 1 := by
  unfold bitS
  cases decide (k < 0)
  · simp only [cond_false]
    omega
  · exact .inl rfl
theorem bit_u64 {s : ByteArray} {k : Nat} : bits BinOp.and IntKind.u64 (Int.fdiv (byI s (k / 8)) (2 ^ min (k % 8) 64)) 1 = bitS s (k : Int) := by
  obtain ⟨b0, b1⟩ := byI_rng s (k / 8)
  rw [bitS_eq, Nat.min_eq_left (by omega), fdivp (Int.le_of_lt (pow_pos' _))]
  obtain ⟨b, he⟩ := Int.eq_ofNat_of_zero_le b0
  rw [he, toNat_cast]
  have : (b : Int) / 2 ^ (k % 8) = ((b / 2 ^ (k % 8) : Nat) : Int) := by push_cast; rfl
  rw [this, and1_u64 _ (by have := Nat.div_le_self b (2 ^ (k % 8)); omega)]
theorem wr_div {k : Nat} (h : k ≤ 100000000000) : IntKind.wrap IntKind.i64 (Int.tdiv (k : Int) 8) = ((k / 8 : Nat) : Int) := by
  rw [Int.tdiv_eq_ediv_of_nonneg (by omega), wr (by omega) (by omega)]
  omega
theorem wr_mod (k : Nat) : IntKind.wrap IntKind.u64 (Int.tmod (k : Int) 8) = ((k % 8 : Nat) : Int) := by
  rw [Int.tmod_eq_emod_of_nonneg (by omega), wru (by omega) (by omega)]
  omega
theorem longH_v (s : ByteArray) : longH_t s := decide_eq_decide.2 (by omega)
theorem bitH_v (s : ByteArray) (i : Int) (h0 : 0 ≤ i) (h1 : i < 8 * s.size) (h2 : s.size ≤ 4294967296) : bitH_t s i := by
  obtain ⟨k, rfl⟩ := Int.eq_ofNat_of_zero_le h0
  unfold bitH_t
  rw [wr_div (by omega), wr_mod]
  simp only [toNat_cast, bu64]
  have hb := byI_rng s (k / 8)
  refine ⟨by decide, by omega, by omega, by decide, by omega, ?_⟩
  have : IntKind.wrap IntKind.u64 ((UInt8.toNat (List.getD s.data.toList (k / 8) 0) : Nat) : Int) = byI s (k / 8) := wru (n := byI s (k / 8)) (by omega) (by omega)
  rw [this]
  exact bit_u64
theorem bk_no {s : ByteArray} (h : noB s = true) (hl : ¬ 1048576 < s.size) : (0 : Int) = bkR s ∧ (22 : Int) = bkE s := by
  have : bkE s = 22 := by unfold bkE; rw [decide_eq_false hl, h]; rfl
  exact ⟨by unfold bkR; rw [this]; rfl, this.symm⟩
theorem bk_long {s : ByteArray} (hl : 1048576 < s.size) : (0 : Int) = bkR s ∧ (4 : Int) = bkE s := by
  have : bkE s = 4 := by unfold bkE; rw [decide_eq_true hl]; rfl
  exact ⟨by unfold bkR; rw [this]; rfl, this.symm⟩
theorem bk_yes {s : ByteArray} (h : noB s = false) (hl : ¬ 1048576 < s.size) : bkN s = bkR s ∧ (0 : Int) = bkE s := by
  have : bkE s = 0 := by unfold bkE; rw [decide_eq_false hl, h]; rfl
  exact ⟨by unfold bkR; rw [this]; rfl, this.symm⟩
theorem bkE_0 {s : ByteArray} (h : bkE s = 0) : noB s = false ∧ ¬ 1048576 < s.size ∧ bkR s = bkN s ∧ bkS s = s := by
  have hl : ¬ 1048576 < s.size := fun hl => by have := (bk_long hl).2; omega
  have hn : noB s = false := by
    cases hn : noB s
    · rfl
    · have := (bk_no hn hl).2; omega
  exact ⟨hn, hl, (bk_yes hn hl).1.symm, by unfold bkS; rw [h]; rfl⟩
theorem wr_len {s : ByteArray} (h : 0 < s.size) (h2 : s.size ≤ 4294967296) : IntKind.wrap IntKind.i64 ((s.size : Int) - 1) = ((s.size - 1 : Nat) : Int) := by rw [wr (by omega) (by omega)]; omega
theorem size_pos {s : ByteArray} (h : Nat.beq s.size 0 = false) : 0 < s.size := by
  rcases Nat.eq_zero_or_pos s.size with h0 | h0
  · rw [h0] at h; cases h
  · exact h0
theorem noB_empty {s : ByteArray} (h : Nat.beq s.size 0 = true) : noB s = true := by unfold noB; rw [h]; rfl
theorem noB_last {s : ByteArray} (h : Nat.beq s.size 0 = false) : noB s = (lastB s == 0) := by unfold noB; rw [h]; rfl
theorem ptH_v (x : Int) : ptH_t x := ⟨fun h => (pt_neg h).symm, fun h => (pt_pos h).symm⟩
theorem sizeH_v (s : ByteArray) (h2 : s.size ≤ 4294967296) : sizeH_t s := by
  unfold sizeH_t
  rw [toList_nil]
  refine ⟨fun h => (bkN_no (noB_empty h)).symm, fun h => ?_⟩
  have hz := size_pos h
  have hn := noB_last h
  rw [wr_len hz h2]
  simp only [toNat_cast]
  have hb := lastB_rng s
  refine ⟨by omega, by omega, fun h => (bkN_no (by rw [hn]; exact h)).symm, fun h => ?_⟩
  have hn : noB s = false := by rw [hn]; exact h
  obtain ⟨r1, r2, r3⟩ := bkN_rng hn
  have hN : bkN s = 8 * ((s.size : Int) - 1) + hiI (lastB s) := by unfold bkN; rw [hn]; rfl
  refine ⟨by omega, by omega, hb.1, by have := hb.2; unfold lastB at this; omega, ?_⟩
  show IntKind.wrap IntKind.i64 (IntKind.wrap IntKind.i64 (IntKind.wrap IntKind.i64 (8 * ((s.size - 1 : Nat) : Int)) + (hiI (lastB s) + 1)) - 1) = bkN s
  rw [show IntKind.wrap IntKind.i64 (8 * ((s.size - 1 : Nat) : Int)) = 8 * ((s.size : Int) - 1) by rw [wr (by omega) (by omega)]; omega]
  rw [show IntKind.wrap IntKind.i64 (8 * ((s.size : Int) - 1) + (hiI (lastB s) + 1)) = 8 * ((s.size : Int) - 1) + (hiI (lastB s) + 1) from wr (by omega) (by omega), wr (by omega) (by omega)]
  omega
theorem longH_sound : Sound Try.prog 155 sLong.ctr := sLong.sound (by kernel_rfl) sLong_enc fun s hc => by
  exact satG AllOk.nil mixed Try.func155 (longH_e s) (longH_v s)
theorem len8H_sound : Sound Try.prog 161 sLen8.ctr := sLen8.sound (by kernel_rfl) sLen8_enc fun x hc => by
  have h0 := hc _ (.head _)
  have h1 := hc _ (.tail _ (.head _))
  exact satG AllOk.nil mixed Try.func161 (len8H_e x) (len8H_v x h0 h1)
theorem bitH_sound : Sound Try.prog 162 sBitT.ctr := sBitT.sound (by kernel_rfl) sBitT_enc fun ⟨s, i⟩ hc => by
  have h0 := hc _ (.head _)
  have h1 := hc _ (.tail _ (.head _))
  have h2 := hc _ (.tail _ (.tail _ (.head _)))
  exact satG AllOk.nil mixed Try.func162 (bitH_e s i) (bitH_v s i h0 h1 h2)
theorem ptH_sound : Sound Try.prog 86 sPt.ctr := sPt.sound (by kernel_rfl) sPt_enc fun x hc => by
  exact satG AllOk.nil mixed Try.func86 (ptH_e x) (ptH_v x)
theorem GHa_ok : AllOk Try.prog GHa := .cons longH_sound <| .cons len8H_sound <| .cons bitH_sound <| .cons whenF_sound <| .cons fstF_sound <| .cons ptH_sound <| GFm_ok
theorem sizeH_sound : Sound Try.prog 156 sSizeT.ctr := sSizeT.sound (by kernel_rfl) sSizeT_enc fun s hc => by
  have h0 := hc _ (.head _)
  exact satG GHa_ok mixed Try.func156 (sizeH_e s) (sizeH_v s h0)
end Go.Proofs.Ytbdgknebimdjoaa
namespace Go.Proofs.Ytbdgknebimdjoaa
open Go Go.RowKit
set_option linter.unusedVariables false
set_option linter.unusedSimpArgs false
set_option maxRecDepth 100000
theorem nnI (a : Int) : Int.NonNeg a ↔ 0 ≤ a := ⟨fun h => by cases h; exact Int.natCast_nonneg _, fun h => by obtain ⟨m, rfl⟩ := Int.eq_ofNat_of_zero_le h; exact ⟨m⟩⟩
theorem pkF_succ (s : ByteArray) (l : Int) (i : Nat) : pkF s l (i + 1) = 2 * pkF s l i + bitS s (l - 1 - (i : Nat)) := rfl
theorem pkF_rng (s : ByteArray) (l : Int) : ∀ i, 0 ≤ pkF s l i ∧ pkF s l i < 2 ^ i
  | 0 => by show (0 : Int) ≤ 0 ∧ (0 : Int) < 2 ^ 0; decide
  | i + 1 => by
    have ih := pkF_rng s l i
    have hb := bitS_01 s (l - 1 - (i : Nat))
    rw [pkF_succ, Int.pow_succ]
    omega
theorem bitS_neg {s : ByteArray} {k : Int} (h : k < 0) : bitS s k = 0 := by unfold bitS; rw [decide_eq_true h]; rfl
theorem or1_u64 (a b : Nat) (hb : b < 2) (h : 2 * a + b < 18446744073709551616) : bits .or .u64 ((2 * a : Nat) : Int) (b : Int) = ((2 * a + b : Nat) : Int) := by
  have hx : ∀ a : Nat, a < 18446744073709551616 → (BitVec.ofInt 64 (a : Int)).toNat = a := fun a ha => by
    rw [BitVec.ofInt_natCast, BitVec.toNat_ofNat]; exact Nat.mod_eq_of_lt (by omega)
  show IntKind.u64.wrap ((BitVec.ofInt 64 ((2 * a : Nat) : Int) ||| BitVec.ofInt 64 (b : Int)).toNat : Int) = _
  rw [BitVec.toNat_or, hx _ (by omega), hx _ (by omega)]
  have := Nat.two_pow_add_eq_or_of_lt (i := 1) (b := b) (by omega) a
  rw [Nat.pow_one] at this
  rw [← this, IntKind.wrap_u64]
  omega
theorem min1 : min (Int.toNat (1 : Int)) 64 = 1 := rfl
theorem dbl {s : ByteArray} {l : Int} {i : Nat} (h : i ≤ 32) : IntKind.wrap IntKind.u64 (pkF s l i * (2 : Int) ^ min (Int.toNat (1 : Int)) (IntKind.bits IntKind.u64)) = 2 * pkF s l i := by
  have h1 := pkF_rng s l i
  have h2 := pow_mono h
  rw [bu64, min1, Int.pow_one, wru (by omega) (by simp at h2; omega)]
  omega
theorem idx_wr {l : Int} {i : Nat} (h0 : 0 ≤ l) (h1 : l ≤ 100000000000) (hi : i ≤ 100) : IntKind.wrap IntKind.i64 (IntKind.wrap IntKind.i64 (l - 1) - (i : Int)) = l - 1 - (i : Int) := by
  rw [show IntKind.wrap IntKind.i64 (l - 1) = l - 1 from wr (by omega) (by omega), wr (by omega) (by omega)]
theorem numH_v (s : ByteArray) (l n : Int) (h0 : 0 ≤ n) (h1 : n ≤ 32) (h2 : 0 ≤ l) (h3 : l ≤ 8 * s.size) (h4 : s.size ≤ 4294967296) : numH_t s l n := by
  unfold numH_t
  simp only [nnI]
  refine ⟨⟨0, by omega, rfl, (by first | rfl | trivial), (by first | rfl | trivial), (by first | rfl | trivial), (by first | rfl | trivial)⟩, fun i hi => ⟨fun hlt => ⟨by decide, fun hk => ?_, fun hk => ?_⟩, fun hge => ⟨?_, (by first | rfl | trivial), (by first | rfl | trivial)⟩⟩⟩
  · have hlt : (i : Int) < n := by simpa using hlt
    rw [idx_wr h2 (by omega) (by omega)] at hk ⊢
    simp only [ge_iff_le, decide_eq_true_eq] at hk
    have hr := pkF_rng s l i
    have hp := pow_mono (show i ≤ 32 by omega)
    have hb := bitS_01 s (l - 1 - (i : Nat))
    refine ⟨hk, by omega, h4, i + 1, by omega, by rw [Nat.sub_eq, Nat.sub_eq]; omega, ?_, (by first | rfl | trivial), cnt_wrap (by omega), (by first | rfl | trivial), (by first | rfl | trivial)⟩
    rw [dbl (by omega), pkF_succ]
    obtain ⟨a, ha⟩ := Int.eq_ofNat_of_zero_le hr.1
    obtain ⟨b, hb2⟩ := Int.eq_ofNat_of_zero_le (show 0 ≤ bitS s (l - 1 - (i : Nat)) by omega)
    rw [ha, hb2]
    have := or1_u64 a b (by omega) (by simp at hp; omega)
    push_cast at this
    exact this
  · have hlt : (i : Int) < n := by simpa using hlt
    rw [idx_wr h2 (by omega) (by omega)] at hk
    simp only [ge_iff_le, decide_eq_false_iff_not] at hk
    refine ⟨i + 1, by omega, by rw [Nat.sub_eq, Nat.sub_eq]; omega, ?_, (by first | rfl | trivial), cnt_wrap (by omega), (by first | rfl | trivial), (by first | rfl | trivial)⟩
    rw [dbl (by omega), pkF_succ, bitS_neg (by omega)]
    omega
  · have : i = n.toNat := by simp only [decide_eq_false_iff_not] at hge; omega
    rw [this]
theorem rgE_bad {s : ByteArray} {l : Int} (h : bkE s ≠ 0) : rgE s l = 10 := by
  unfold rgE
  rw [show (bkE s == 0) = false by simpa using h]
  rfl
theorem rgE_out {s : ByteArray} {l : Int} (h : l < 0 ∨ bkN s < l) : rgE s l = 10 := by
  unfold rgE
  cases bkE s == 0
  · rfl
  · have : (decide (l < 0) || decide (bkN s < l)) = true := by simpa using h
    rw [this]; rfl
theorem rgE_ok {s : ByteArray} {l : Int} (h : bkE s = 0) (h0 : 0 ≤ l) (h1 : l ≤ bkN s) : rgE s l = 0 := by
  unfold rgE
  rw [beq0 h, decide_eq_false (by omega), decide_eq_false (by omega)]
  rfl
theorem rgE_0 {s : ByteArray} {l : Int} (h : rgE s l = 0) : bkE s = 0 ∧ 0 ≤ l ∧ l ≤ bkN s := by
  have h1 : bkE s = 0 := Classical.byContradiction fun hn => by rw [rgE_bad hn] at h; cases h
  have h2 : ¬ (l < 0 ∨ bkN s < l) := fun hn => by rw [rgE_out hn] at h; cases h
  exact ⟨h1, by omega, by omega⟩
theorem pk_bad {s : ByteArray} {l n : Int} (h : rgE s l ≠ 0) : pkE s l n = rgE s l := by
  unfold pkE
  rw [show (rgE s l == 0) = false by simpa using h]
  rfl
theorem pk_out {s : ByteArray} {l n : Int} (h : rgE s l = 0) (hn : n < 0 ∨ 32 < n) : pkE s l n = 2 := by
  unfold pkE
  have : (decide (n < 0) || decide (32 < n)) = true := by simpa using hn
  rw [beq0 h, this]
  rfl
theorem pk_ok {s : ByteArray} {l n : Int} (h : rgE s l = 0) (h0 : 0 ≤ n) (h1 : n ≤ 32) : pkE s l n = 0 := by
  unfold pkE
  rw [beq0 h, decide_eq_false (by omega), decide_eq_false (by omega)]
  rfl
theorem pk_0 {s : ByteArray} {l n : Int} (h : pkE s l n = 0) : rgE s l = 0 ∧ 0 ≤ n ∧ n ≤ 32 := by
  have h1 : rgE s l = 0 := Classical.byContradiction fun hn => hn (by rw [← pk_bad hn (n := n)]; exact h)
  have h2 : ¬ (n < 0 ∨ 32 < n) := fun hn => by rw [pk_out h1 hn] at h; cases h
  exact ⟨h1, by omega, by omega⟩
theorem pkV_bad {s : ByteArray} {l n : Int} (h : pkE s l n ≠ 0) : 0 = pkV s l n := by
  unfold pkV
  rw [show (pkE s l n == 0) = false by simpa using h]
  rfl
theorem pkV_ok {s : ByteArray} {l n : Int} (h : pkE s l n = 0) : pkV s l n = pkF s l n.toNat := by
  unfold pkV
  rw [beq0 h]
  rfl
theorem tk_bad {s : ByteArray} {l n : Int} (h : pkE s l n ≠ 0) : tkE s l n = pkE s l n := by
  unfold tkE
  rw [show (pkE s l n == 0) = false by simpa using h]
  rfl
theorem tk_short {s : ByteArray} {l n : Int} (h : pkE s l n = 0) (h2 : l < n) : tkE s l n = 5 := by
  unfold tkE
  rw [beq0 h, decide_eq_true h2]
  rfl
theorem tk_good {s : ByteArray} {l n : Int} (h : pkE s l n = 0) (h2 : n ≤ l) : tkE s l n = 0 := by
  unfold tkE
  rw [beq0 h, decide_eq_false (by omega)]
  rfl
theorem tk_0 {s : ByteArray} {l n : Int} (h : tkE s l n = 0) : pkE s l n = 0 ∧ n ≤ l := by
  have h1 : pkE s l n = 0 := Classical.byContradiction fun hn => hn (by rw [← tk_bad hn]; exact h)
  have h2 : ¬ l < n := fun hn => by rw [tk_short h1 hn] at h; cases h
  exact ⟨h1, by omega⟩
structure TkOk (s : ByteArray) (l n : Int) : Prop where
  nb : noB s = false
  le : ¬ 1048576 < s.size
  l0 : 0 ≤ l
  l1 : l ≤ bkN s
  l2 : bkN s < 8 * s.size
  n0 : 0 ≤ n
  n1 : n ≤ 32
theorem pk_ok0 {s : ByteArray} {l n : Int} (h : pkE s l n = 0) : TkOk s l n := by
  obtain ⟨h1, h2, h3⟩ := pk_0 h
  obtain ⟨h4, h5, h6⟩ := rgE_0 h1
  obtain ⟨h7, h8, _⟩ := bkE_0 h4
  exact ⟨h7, h8, h5, h6, (bkN_rng h7).2.1, h2, h3⟩
theorem tk_vals {s : ByteArray} {l n : Int} (h : tkE s l n = 0) : s = tkS s l n ∧ l - n = tkL s l n ∧ pkF s l n.toNat = tkV s l n ∧ (true = tkO s l n) ∧ nxL s l n = l - n := by
  unfold tkS tkL tkV tkO nxL
  rw [beq0 h]
  exact ⟨rfl, rfl, rfl, rfl, rfl⟩
theorem tk_none {s : ByteArray} {l n : Int} (h : tkE s l n ≠ 0) : ByteArray.empty = tkS s l n ∧ 0 = tkL s l n ∧ 0 = tkV s l n ∧ (false = tkO s l n) ∧ l = nxL s l n := by
  unfold tkS tkL tkV tkO nxL
  rw [show (tkE s l n == 0) = false by simpa using h]
  exact ⟨rfl, rfl, rfl, rfl, rfl⟩
theorem bkS_bad {s : ByteArray} (h : bkE s ≠ 0) : ByteArray.empty = bkS s ∧ 0 = bkR s := by
  unfold bkS bkR
  rw [show (bkE s == 0) = false by simpa using h]
  exact ⟨rfl, rfl⟩
theorem rreadH_v (s : ByteArray) (h : s.size ≤ 4294967296) : rreadH_t s := by
  unfold rreadH_t
  exact ⟨h, fun hb => ⟨(bkS_bad (nz hb)).1, (bkS_bad (nz hb)).2, rfl⟩, fun hb => ⟨(bkE_0 (eq0 hb)).2.2.2.symm, rfl, (eq0 hb).symm⟩⟩
theorem prbH_v (x g : Int) (p : List Int) (h0 : 0 ≤ x) (h1 : x < p.length) : prbH_t x g p := ⟨h0, h1, rfl, rfl, rfl⟩
theorem fst2 (a b : Int) : fstE [a, b] = cond (a == 0) (cond (b == 0) 0 b) a := rfl
theorem bits_first (s : ByteArray) : fstE [bif decide (1048576 < s.size) then (4 : Int) else 0, bif decide (bkN s < 0) then (22 : Int) else 0] = bkE s := by
  rw [fst2, bkN_neg]
  unfold bkE
  cases decide (1048576 < s.size) <;> cases noB s <;> rfl
theorem bitsH_v (s : ByteArray) (h : s.size ≤ 4294967296) : bitsH_t s := by
  unfold bitsH_t
  rw [bits_first]
  exact ⟨h, by simp, fun hb => ⟨(bkS_bad (nz hb)).2, rfl⟩, fun hb => ⟨h, (bkE_0 (eq0 hb)).2.2.1.symm, (eq0 hb).symm⟩⟩
theorem rightH_v (s : ByteArray) (l : Int) (h : s.size ≤ 4294967296) : rightH_t s l := by
  unfold rightH_t
  refine ⟨fun hb => (rgE_bad ?_).symm, fun hb => ⟨h, fun hn => (rgE_bad ?_).symm, fun hn => ⟨fun hl => (rgE_out (.inl (by simpa using hl))).symm, fun hl => ⟨h, ?_⟩⟩⟩⟩
  · rw [← (bk_long (by simpa using hb)).2]; decide
  · rw [bkN_neg] at hn
    rw [← (bk_no hn (by simpa using hb)).2]; decide
  · rw [bkN_neg] at hn
    have h0 := (bk_yes hn (by simpa using hb)).2
    simp only [decide_eq_false_iff_not] at hl
    cases hg : decide (l > bkN s)
    · simp only [gt_iff_lt, decide_eq_false_iff_not] at hg
      exact (rgE_ok h0.symm (by omega) (by omega)).symm
    · exact (rgE_out (.inr (by simpa using hg))).symm
theorem readH_v (s : ByteArray) (h : s.size ≤ 4294967296) : readH_t s := rreadH_v s h
theorem peek_first (s : ByteArray) (l n : Int) : (decide (n < 0) = true → fstE [rgE s l, 2] = pkE s l n) ∧ (decide (n < 0) = false → fstE [rgE s l, bif decide (n > 32) then (2 : Int) else 0] = pkE s l n) := by
  rw [fst2, fst2]
  unfold pkE
  have e : decide (n > 32) = decide (32 < n) := rfl
  rw [e]
  refine ⟨fun h => ?_, fun h => ?_⟩
  · rw [h]; cases rgE s l == 0 <;> rfl
  · rw [h]; cases rgE s l == 0 <;> cases decide (32 < n) <;> rfl
theorem peekH_v (s : ByteArray) (l n : Int) (h : s.size ≤ 4294967296) : peekH_t s l n := by
  unfold peekH_t
  obtain ⟨p1, p2⟩ := peek_first s l n
  have good : pkE s l n = 0 → (0 : Int) ≤ n ∧ n ≤ (32 : Int) ∧ (0 : Int) ≤ l ∧ l ≤ (8 : Int) * (s.size : Int) ∧ s.size ≤ (4294967296 : Nat) ∧ pkF s l (Int.toNat n) = pkV s l n ∧ (0 : Int) = pkE s l n := fun h0 => by
    have hk := pk_ok0 h0
    have := hk.l1
    have := hk.l2
    exact ⟨hk.n0, hk.n1, hk.l0, by omega, h, (pkV_ok h0).symm, h0.symm⟩
  refine ⟨h, fun hn => ?_, fun hn => ?_⟩
  · rw [p1 hn]
    exact ⟨by simp, fun hb => ⟨pkV_bad (nz hb), rfl⟩, fun hb => good (eq0 hb)⟩
  · rw [p2 hn]
    exact ⟨by simp, fun hb => ⟨pkV_bad (nz hb), rfl⟩, fun hb => good (eq0 hb)⟩
theorem take_first (s : ByteArray) (l n : Int) : fstE [pkE s l n, bif decide (n > l) then (5 : Int) else 0] = tkE s l n := by
  rw [fst2]
  unfold tkE
  have e : decide (n > l) = decide (l < n) := rfl
  rw [e]
  cases pkE s l n == 0 <;> cases decide (l < n) <;> rfl
theorem takeH_v (s : ByteArray) (l n : Int) (h : s.size ≤ 4294967296) : takeH_t s l n := by
  unfold takeH_t
  rw [take_first]
  refine ⟨h, by simp, fun hb => ⟨(tk_none (nz hb)).1, (tk_none (nz hb)).2.1, (tk_none (nz hb)).2.2.1, rfl⟩, fun hb => ?_⟩
  have h0 := eq0 hb
  have hk := pk_ok0 (tk_0 h0).1
  have h1 := hk.l1; have h2 := hk.l2; have h3 := hk.n0; have h4 := hk.n1; have h5 := hk.l0
  have hv := tk_vals h0
  exact ⟨hv.1, by rw [wr (by omega) (by omega)]; exact hv.2.1, by rw [pkV_ok (tk_0 h0).1]; exact hv.2.2.1, h0.symm⟩
theorem op_bad1 {g : Int} {p : List Int} {s : ByteArray} (h : dchk g p ≠ 0) : opE g p s = dchk g p := by
  unfold opE
  rw [show (dchk g p == 0) = false by simpa using h]
  rfl
theorem op_ok1 {g : Int} {p : List Int} {s : ByteArray} (h : dchk g p = 0) : opE g p s = bkE s := by
  unfold opE
  rw [beq0 h]
  rfl
theorem openH_v (g : Int) (p : List Int) (s : ByteArray) (h0 : p.length ≤ 4294967296) (h : s.size ≤ 4294967296) : openH_t g p s := by
  unfold openH_t
  refine ⟨h0, fun hd => ?_, fun hd => ⟨h, fun hb => ?_, fun hb => ⟨h0, fun ho => ?_, fun ho => ?_⟩⟩⟩
  · have e := op_bad1 (s := s) (nz hd)
    exact ⟨fun ho => absurd (e ▸ ho) (nz hd), fun _ => ⟨rfl, e.symm⟩⟩
  · have e := op_ok1 (s := s) (eq0 hd)
    exact ⟨fun ho => absurd (e ▸ ho) (nz hb), fun _ => ⟨rfl, e.symm⟩⟩
  · obtain ⟨k1, k2, k3, k4⟩ := bkE_0 (eq0 hb)
    refine ⟨eq0 hd, k4, k3, ?_, rfl⟩
    unfold decO
    rw [show okE g p = true from beq0 (eq0 hd)]
    rfl
  · exact absurd (op_ok1 (s := s) (eq0 hd) ▸ eq0 hb) ho
theorem takeFH_v (s : ByteArray) (l g : Int) (c : List (List Int)) (n : Int) (h : s.size ≤ 4294967296) : takeFH_t s l g c n := by
  unfold takeFH_t
  refine ⟨h, fun hb => ?_, fun hb => ?_⟩
  · obtain ⟨k1, k2, k3, k4, k5⟩ := tk_none (nz hb)
    exact ⟨k3, k4, rfl, k5, rfl, rfl⟩
  · have h0 := eq0 hb
    obtain ⟨k1, k2, k3, k4, k5⟩ := tk_vals h0
    have hk := pk_ok0 (tk_0 h0).1
    have hr := pkF_rng s l n.toNat
    have hp := pow_mono (show n.toNat ≤ 32 by have := hk.n1; omega)
    rw [← k3]
    exact ⟨wr (by omega) (by simp at hp; omega), k4, k1.symm, by rw [k5]; exact k2.symm, rfl, rfl⟩
theorem numH_sound : Sound Try.prog 159 sNumT.ctr := sNumT.sound (by kernel_rfl) sNumT_enc fun ⟨s, l, n⟩ hc => by
  have h0 := hc _ (.head _)
  have h1 := hc _ (.tail _ (.head _))
  have h2 := hc _ (.tail _ (.tail _ (.head _)))
  have h3 := hc _ (.tail _ (.tail _ (.tail _ (.head _))))
  have h4 := hc _ (.tail _ (.tail _ (.tail _ (.tail _ (.head _)))))
  exact satG GHa_ok mixed Try.func159 (numH_e s l n) (numH_v s l n h0 h1 h2 h3 h4)
theorem prbH_sound : Sound Try.prog 85 sPrb.ctr := sPrb.sound (by kernel_rfl) sPrb_enc fun ⟨x, g, p⟩ hc => by
  have h0 := hc _ (.head _)
  have h1 := hc _ (.tail _ (.head _))
  exact satG GHa_ok mixed Try.func85 (prbH_e x g p) (prbH_v x g p h0 h1)
end Go.Proofs.Ytbdgknebimdjoaa
namespace Go.Proofs.Ytbdgknebimdjoaa
open Go Go.RowKit
set_option linter.unusedVariables false
set_option linter.unusedSimpArgs false
set_option maxRecDepth 100000
theorem take_count {l : List Int} {i : Nat} (h : i < l.length) (s : Int) : (l.take (i + 1)).count s = (l.take i).count s + cond (l.getD i 0 == s) 1 0 := by
  rw [take_succ l 0 h, List.count_append, List.count_singleton]
  cases l.getD i 0 == s <;> rfl
structure CelB (g : Int) (p : List Int) (i : Nat) : Prop where
  s0 : 0 ≤ (spr g p).getD i 0
  s1 : (spr g p).getD i 0 < p.length
  p1 : 1 ≤ pt (p.getD ((spr g p).getD i 0).toNat 0)
  pz : pt (p.getD ((spr g p).getD i 0).toNat 0) ≤ (szN g : Int)
  x1 : 1 ≤ celX p (spr g p) i
  lo : pt (p.getD ((spr g p).getD i 0).toNat 0) ≤ celX p (spr g p) i
  hi : celX p (spr g p) i < 2 * pt (p.getD ((spr g p).getD i 0).toNat 0)
theorem cel_b {g : Int} {p : List Int} (h : DOk g p) {i : Nat} (hi : i < (spr g p).length) : CelB g p i := by
  have hl := spr_len g p
  obtain ⟨s, h1, _, h2⟩ := spr_sym h (show i < szN g by omega)
  have hc := spr_cnt h h1
  have ht := take_count hi ((spr g p).getD i 0)
  rw [beq_self_eq_true, cond_true] at ht
  have hle : ((spr g p).take (i + 1)).count ((spr g p).getD i 0) ≤ (spr g p).count ((spr g p).getD i 0) := (List.take_sublist _ _).count_le _
  have hcl : (spr g p).count (s : Int) ≤ (spr g p).length := List.count_le_length
  have e : celX p (spr g p) i = pt (p.getD ((spr g p).getD i 0).toNat 0) + (((spr g p).take i).count ((spr g p).getD i 0) : Nat) := rfl
  rw [h2] at ht hle e
  rw [toNat_cast] at e
  refine ⟨by rw [h2]; omega, by rw [h2]; omega, ?_, ?_, by omega, ?_, ?_⟩
  all_goals
    rw [h2, toNat_cast]
    omega
theorem hi_bd {y : Int} (h : 1 ≤ y) : 0 ≤ hiI y ∧ 2 ^ (hiI y).toNat ≤ y ∧ y < 2 ^ ((hiI y).toNat + 1) := by
  rw [hiI_pos (by omega), toNat_cast]
  obtain ⟨n, rfl⟩ := Int.eq_ofNat_of_zero_le (show 0 ≤ y by omega)
  rw [toNat_cast]
  have h1 := Nat.log2_self_le (n := n) (by omega)
  have h2 := Nat.lt_log2_self (n := n)
  refine ⟨by omega, ?_, ?_⟩
  · exact_mod_cast h1
  · exact_mod_cast h2
structure CelV (g : Int) (p : List Int) (i : Nat) : Prop where
  b0 : 0 ≤ celN g p (spr g p) i
  b1 : celN g p (spr g p) i ≤ g
  a0 : 0 ≤ celX p (spr g p) i * 2 ^ (celN g p (spr g p) i).toNat - 2 ^ g.toNat
  a1 : celX p (spr g p) i * 2 ^ (celN g p (spr g p) i).toNat - 2 ^ g.toNat + 2 ^ (celN g p (spr g p) i).toNat ≤ (szN g : Int)
theorem pow_lt_of {a b : Nat} (h : (2 : Int) ^ a < 2 ^ b) : a < b := by
  rcases Nat.lt_or_ge a b with h1 | h1
  · exact h1
  · have := pow_mono h1; omega
theorem cel_v {g : Int} {p : List Int} (h : DOk g p) {i : Nat} (hi : i < (spr g p).length) : CelV g p i := by
  have hb := cel_b h hi
  obtain ⟨h0, h1, h2⟩ := hi_bd hb.x1
  have hz := szI g
  have hp := hb.pz
  have hh := hb.hi
  have g5 := h.g5
  have hg : (hiI (celX p (spr g p) i)).toNat < g.toNat + 1 := pow_lt_of (by rw [Int.pow_succ]; omega)
  have hN : (celN g p (spr g p) i).toNat = g.toNat - (hiI (celX p (spr g p) i)).toNat := by unfold celN; omega
  have hq := pow_pos' (celN g p (spr g p) i).toNat
  have e1 : (2 : Int) ^ (hiI (celX p (spr g p) i)).toNat * 2 ^ (celN g p (spr g p) i).toNat = 2 ^ g.toNat := by
    rw [← Int.pow_add]
    congr 1
    omega
  have e2 : (2 : Int) ^ ((hiI (celX p (spr g p) i)).toNat + 1) * 2 ^ (celN g p (spr g p) i).toNat = 2 * 2 ^ g.toNat := by
    rw [Int.pow_succ, Int.mul_right_comm, e1, Int.mul_comm]
  have m1 := Int.mul_le_mul_of_nonneg_right h1 (Int.le_of_lt hq)
  have m2 := Int.mul_le_mul_of_nonneg_right (show celX p (spr g p) i + 1 ≤ 2 ^ ((hiI (celX p (spr g p) i)).toNat + 1) by omega) (Int.le_of_lt hq)
  rw [Int.add_mul, Int.one_mul] at m2
  refine ⟨by unfold celN; omega, by unfold celN; omega, by omega, by omega⟩
theorem cel_get {g : Int} {p sy : List Int} {n i : Nat} (h : i < n) : (celA g p sy n).getD i [] = celR g p sy i := by
  unfold celA
  rw [List.getD_eq_getElem?_getD, List.getElem?_map, List.getElem?_range h]
  rfl
theorem celA_len (g : Int) (p sy : List Int) (n : Nat) : (celA g p sy n).length = n := by unfold celA; rw [List.length_map, List.length_range]
theorem dec_ok {g : Int} {p : List Int} (h : dchk g p = 0) : CelOk g (decL g p) := by
  have hd := dchk0 h
  have hl := spr_len g p
  have g5 := hd.g5
  have hlen : (decL g p).length = szN g := by unfold decL; rw [celA_len, hl]
  have key : ∀ x : Int, 0 ≤ x → x < (decL g p).length → (decL g p).getD x.toNat [] = celR g p (spr g p) x.toNat ∧ CelV g p x.toNat := fun x h0 h1 => by
    have hx : x.toNat < (spr g p).length := by omega
    exact ⟨cel_get hx, cel_v hd hx⟩
  refine ⟨by omega, hd.g12, hlen, fun x h0 h1 => ?_, fun x h0 h1 => ?_⟩
  · obtain ⟨k1, k2⟩ := key x h0 h1
    unfold cB
    rw [k1]
    exact ⟨k2.b0, k2.b1⟩
  · obtain ⟨k1, k2⟩ := key x h0 h1
    unfold cA cB
    rw [k1, hlen]
    exact ⟨k2.a0, k2.a1⟩
theorem celA_succ (g : Int) (p sy : List Int) (i : Nat) : celA g p sy (i + 1) = celA g p sy i ++ [celR g p sy i] := by
  unfold celA
  rw [List.range_succ, List.map_append]
  rfl
theorem decO_ok {g : Int} {p : List Int} (h : dchk g p = 0) : decO g p = decL g p := by
  unfold decO
  rw [show okE g p = true from beq0 h]
  rfl
theorem decO_bad {g : Int} {p : List Int} (h : (dchk g p != (0 : Int)) = true) : decO g p = [] := by
  unfold decO
  rw [show okE g p = false from ne0 h]
  rfl
theorem base_wr {g : Int} {p : List Int} (h : DOk g p) {i : Nat} (hi : i < (spr g p).length) : IntKind.wrap IntKind.i64 (IntKind.wrap IntKind.i64 (celX p (spr g p) i * (2 : Int) ^ min (Int.toNat (IntKind.wrap IntKind.u64 (celN g p (spr g p) i))) (IntKind.bits IntKind.i64)) - IntKind.wrap IntKind.i64 ((1 : Int) * (2 : Int) ^ min (Int.toNat (IntKind.wrap IntKind.u64 g)) (IntKind.bits IntKind.i64))) = celX p (spr g p) i * 2 ^ (celN g p (spr g p) i).toNat - 2 ^ g.toNat := by
  have hv := cel_v h hi
  have g5 := h.g5
  have g12 := h.g12
  have hz := szN_bd g5 g12
  have e := szI g
  have b0 := hv.b0; have b1 := hv.b1; have a0 := hv.a0; have a1 := hv.a1
  have q := pow_pos' (celN g p (spr g p) i).toNat
  rw [wu g5 g12, sz_wrap g5 g12, show IntKind.wrap IntKind.u64 (celN g p (spr g p) i) = celN g p (spr g p) i from wru (by omega) (by omega), b64, Nat.min_eq_left (by omega)]
  rw [show IntKind.wrap IntKind.i64 (celX p (spr g p) i * 2 ^ (celN g p (spr g p) i).toNat) = celX p (spr g p) i * 2 ^ (celN g p (spr g p) i).toNat from wr (by omega) (by omega), wr (by omega) (by omega), e]
theorem nxM_get {p sy : List Int} : ∀ (i : Nat), i ≤ sy.length → ∀ s : Int, mget (nxM p sy i) [s] = if (sy.take i).count s = 0 then none else some [pt (p.getD s.toNat 0) + ((sy.take i).count s : Nat)]
  | 0, _, s => by simp [nxM, mget]
  | i + 1, h, s => by
    have ih := nxM_get (p := p) (sy := sy) i (by omega) s
    show mget (([sy.getD i 0], [celX p sy i + 1]) :: nxM p sy i) [s] = _
    rw [mget_cons', take_count (show i < sy.length by omega)]
    by_cases hs : sy.getD i 0 = s
    · rw [if_pos (by rw [hs]), if_neg (by rw [hs, beq_self_eq_true]; simp)]
      unfold celX
      rw [hs, beq_self_eq_true]
      simp only [cond_true, Option.some.injEq, List.cons.injEq, and_true]
      push_cast
      omega
    · have : (sy.getD i 0 == s) = false := beq_eq_false_iff_ne.2 hs
      rw [if_neg (by simpa using hs), this, ih]
      rfl
theorem mhas_get (es : List (List Int × List Int)) (k : List Int) : mhas es k = (mget es k).isSome := by
  unfold mhas mget
  rw [Option.isSome_map, List.isSome_find?]
theorem mval_cons (k v : List Int) (es : List (List Int × List Int)) (n : Nat) : mval n ((k, v) :: es) k = v := by
  unfold mval
  rw [mget_cons', if_pos rfl]
  rfl
theorem decAH_v (g : Int) (p : List Int) (hc : dchk g p = 0) : decAH_t g p := by
  unfold decAH_t
  have hd := dchk0 hc
  have hl := spr_len g p
  have hz := szN_bd hd.g5 hd.g12
  have g5 := hd.g5
  have g12 := hd.g12
  have hn := hd.n2
  refine ⟨rfl, by decide, by decide, by decide, by decide, rfl, by decide, ⟨0, Nat.zero_le _, rfl, rfl, rfl, rfl, rfl, rfl, rfl, fun q => rfl⟩, fun i hi => ⟨fun hlt => ?_, fun hge => ?_⟩⟩
  · have hlt : i < (spr g p).length := by simpa using hlt
    have hb := cel_b hd hlt
    have hv := cel_v hd hlt
    have hzp := hb.pz; have hhi := hb.hi
    have b0 := hv.b0
    have b1 := hv.b1
    have hx1 := hb.x1
    have hhi0 := (hi_bd hx1).1
    have hbw := base_wr hd hlt
    have eN : g - hiI (celX p (spr g p) i) = celN g p (spr g p) i := rfl
    have hg := nxM_get (p := p) i (Nat.le_of_lt hlt) ((spr g p).getD i 0)
    have eX : celX p (spr g p) i = pt (p.getD ((spr g p).getD i 0).toNat 0) + (((spr g p).take i).count ((spr g p).getD i 0) : Nat) := rfl
    simp only [toNat_cast, mhas_get, hg]
    refine ⟨by omega, by omega, i, ⟨fun hm => ⟨hb.s0, hb.s1, (), hlt, (by first | rfl | trivial), (by first | rfl | trivial), (by first | rfl | trivial), (by first | rfl | trivial), (by first | rfl | trivial), (by first | rfl | trivial), (by first | rfl | trivial), (by first | rfl | trivial), fun q => ?_⟩, fun hm => ⟨(), hlt, (by first | rfl | trivial), (by first | rfl | trivial), (by first | rfl | trivial), (by first | rfl | trivial), (by first | rfl | trivial), (by first | rfl | trivial), (by first | rfl | trivial), (by first | rfl | trivial), fun q => ?_⟩⟩, fun _ _ => ⟨i, ⟨(), hlt, (by first | rfl | trivial), (by first | rfl | trivial), ?_, (by first | rfl | trivial), (by first | rfl | trivial), (by first | rfl | trivial), (by first | rfl | trivial), (by first | rfl | trivial), (by first | rfl | trivial), fun q => ?_⟩, fun _ _ => ⟨i, ⟨by omega, (), hlt, (by first | rfl | trivial), (by first | rfl | trivial), (by first | rfl | trivial), by rw [eN]; exact wr (by omega) (by omega), (by first | rfl | trivial), (by first | rfl | trivial), (by first | rfl | trivial), (by first | rfl | trivial), (by first | rfl | trivial), (by first | rfl | trivial), fun q => (by first | rfl | trivial)⟩, fun _ _ => ?_⟩⟩⟩
    · by_cases h0 : ((spr g p).take i).count ((spr g p).getD i 0) = 0
      · rw [eX, h0]
        rw [show ((0 : Nat) : Int) = 0 from rfl, Int.add_zero]
      · rw [if_neg h0] at hm; simp at hm
    · by_cases h0 : ((spr g p).take i).count ((spr g p).getD i 0) = 0
      · rw [if_pos h0] at hm; simp at hm
      · rw [mget_cons']
        by_cases hq : [(spr g p).getD i 0] = q
        · rw [if_pos hq, ← hq, hg, if_neg h0, eX]
        · rw [if_neg hq]
    · rw [mval_cons]
      rfl
    · rw [mval_cons]
      show mget (_ :: _) q = mget (([(spr g p).getD i 0], [celX p (spr g p) i + 1]) :: nxM p (spr g p) i) q
      rw [mget_cons', mget_cons', mget_cons']
      by_cases hq : [(spr g p).getD i 0] = q
      · rw [if_pos hq, if_pos hq]
        show some [IntKind.wrap IntKind.i64 (celX p (spr g p) i + 1)] = _
        rw [wr (by omega) (by omega)]
      · rw [if_neg hq, if_neg hq, if_neg hq]
    · rw [hbw, celA_len]
      refine ⟨by rw [wru (by omega) (by omega)]; exact b0, by rw [wu g5 g12]; omega, by show (i + Nat.succ 0) * 24 ≤ _; omega, i + 1, by rw [nle]; omega, by rw [Nat.sub_eq, Nat.sub_eq]; omega, (by first | rfl | trivial), (by first | rfl | trivial), (by first | rfl | trivial), cnt_wrap (by omega), (by first | rfl | trivial), (by first | rfl | trivial), ?_, fun q => (by first | rfl | trivial)⟩
      rw [celA_succ]
      rfl
  · have hj2 : i = (spr g p).length := by rw [nle] at hi; simp only [decide_eq_false_iff_not] at hge; omega
    rw [hj2]
    exact ⟨rfl, rfl, rfl⟩
theorem decH_v (g : Int) (p : List Int) (h0 : p.length ≤ 4294967296) : decH_t g p := by
  unfold decH_t
  exact ⟨h0, fun h => ⟨by rw [decO_bad h]; rfl, rfl⟩, fun h => ⟨h0, fun h => ⟨by rw [decO_bad h]; rfl, rfl⟩, fun h => ⟨eq0 h, rfl, sprO1 (eq0 h), (decO_ok (eq0 h)).symm, (eq0 h).symm⟩⟩⟩
theorem GHb_ok : AllOk Try.prog GHb := .cons sizeH_sound <| .cons numH_sound <| .cons prbH_sound <| GHa_ok
theorem bitsH_sound : Sound Try.prog 145 sBits.ctr := sBits.sound (by kernel_rfl) sBits_enc fun s hc => by
  have h0 := hc _ (.head _)
  exact satG GHb_ok mixed Try.func145 (bitsH_e s) (bitsH_v s h0)
theorem rightH_sound : Sound Try.prog 158 sRight.ctr := sRight.sound (by kernel_rfl) sRight_enc fun ⟨s, l⟩ hc => by
  have h0 := hc _ (.head _)
  exact satG GHb_ok mixed Try.func158 (rightH_e s l) (rightH_v s l h0)
theorem decAH_sound : Sound Try.prog 84 sDecA.ctr := sDecA.sound (by kernel_rfl) sDecA_enc fun ⟨y, q, g, p⟩ hc => by
  have h0 := hc _ (.head _)
  have h1 : y = g := hc _ (.tail _ (.head _))
  have h2 : q = spr g p := hc _ (.tail _ (.tail _ (.head _)))
  subst h1 h2
  exact satG GHb_ok mixed Try.func84 (decAH_e y p) (decAH_v y p h0)
theorem GHc_ok : AllOk Try.prog GHc := .cons bitsH_sound <| .cons rightH_sound <| .cons decAH_sound <| GHb_ok
theorem readH_sound : Sound Try.prog 118 sReadB.ctr := sReadB.sound (by kernel_rfl) sReadB_enc fun s hc => by
  have h0 := hc _ (.head _)
  exact satG GHc_ok mixed Try.func118 (readH_e s) (readH_v s h0)
theorem peekH_sound : Sound Try.prog 147 sPeek.ctr := sPeek.sound (by kernel_rfl) sPeek_enc fun ⟨s, l, n⟩ hc => by
  have h0 := hc _ (.head _)
  exact satG GHc_ok mixed Try.func147 (peekH_e s l n) (peekH_v s l n h0)
theorem decH_sound : Sound Try.prog 50 sDec.ctr := sDec.sound (by kernel_rfl) sDec_enc fun ⟨g, p⟩ hc => by
  have h0 := hc _ (.head _)
  exact satG GHc_ok mixed Try.func50 (decH_e g p) (decH_v g p h0)
theorem GHd_ok : AllOk Try.prog GHd := .cons readH_sound <| .cons peekH_sound <| .cons decH_sound <| GHc_ok
theorem takeH_sound : Sound Try.prog 123 sTake.ctr := sTake.sound (by kernel_rfl) sTake_enc fun ⟨s, l, n⟩ hc => by
  have h0 := hc _ (.head _)
  exact satG GHd_ok mixed Try.func123 (takeH_e s l n) (takeH_v s l n h0)
end Go.Proofs.Ytbdgknebimdjoaa
namespace Go.Proofs.Ytbdgknebimdjoaa
open Go Go.RowKit
set_option linter.unusedVariables false
set_option linter.unusedSimpArgs false
set_option maxRecDepth 100000
def rReadF (s : ByteArray) (L g : Int) (c : List (List Int)) (n : Nat) : RngInv := { f := 119, cap := [.p 1300016 0 0, .p 1300017 0 0], hpI := [(1300016, .cells 111 [.p 900016 0 0]), (1300017, .cells 3 [.v (.int .i64 (n : Nat))]), smB 900016 s L g c], xs := itsS s L g c n, it := fun i => [.int .i64 (itX s L g c n i), .bool (itO s L g c n i)], tm := [(6, .p 1002 0 0), (7, .p 1003 0 0), (11, .p 1004 0 0)], hp := fun i => [(1002, .cells 22 [.v (.slice none 0 0)]), (1003, .cells 29 [.v (.int .i64 0)]), (1004, .cells 22 [.o 5005]), (5005, .row 3 (.ints .i64 (symN s L g c i)))], p := fun i => i ≤ rG s L g c n, hpE := fun y => [smB 900016 s (itL s L g c n y) g c], tmE := [(9, .p 900016 0 0)] }
def oReadF (s : ByteArray) (L g : Int) (c : List (List Int)) (n : Nat) : Nat → Option LoopFam := fun k => cond (Nat.beq k 0) (some (.rng Unit fun _ => rReadF s L g c n)) none
end Go.Proofs.Ytbdgknebimdjoaa
namespace Go.Proofs.Ytbdgknebimdjoaa
open Go Go.RowKit
set_option linter.unusedVariables false
set_option maxRecDepth 100000
def readFH_t (g : Int) (p : List Int) (s : ByteArray) (n : Int) : Prop :=
 List.length p ≤ (4294967296 : Nat) ∧
 ((dchk g p != (0 : Int)) = true → List.length (rdO g p s n) = (0 : Nat) ∧ dchk g p = rdE g p s n) ∧
 ((dchk g p != (0 : Int)) = false →
 (decide (n < (1 : Int)) = true → List.length (rdO g p s n) = (0 : Nat) ∧ (5 : Int) = rdE g p s n) ∧
 (decide (n < (1 : Int)) = false →
 (decide (n > (100000 : Int)) = true → List.length (rdO g p s n) = (0 : Nat) ∧ (4 : Int) = rdE g p s n) ∧
 (decide (n > (100000 : Int)) = false →
 (opE g p s = (0 : Int) →
 List.length p ≤ (4294967296 : Nat) ∧
 ByteArray.size s ≤ (4294967296 : Nat) ∧
 (((0 : Int) != (0 : Int)) = true → List.length (rdO g p s n) = (0 : Nat) ∧ (0 : Int) = rdE g p s n) ∧
 (((0 : Int) != (0 : Int)) = false →
 ∃ (y0 : Unit),
 (ISatE Try.prog ((119 : Nat)) [SV.p (1300016 : Nat) (0 : Nat) (0 : Nat), SV.p (1300017 : Nat) (0 : Nat) (0 : Nat)]
 [((1300016 : Nat), SBlk.cells (111 : TypeId) [SV.p (900016 : Nat) (0 : Nat) (0 : Nat)]),
 ((1300017 : Nat), SBlk.cells (3 : TypeId) [SV.v (Value.int IntKind.i64 (↑(Int.toNat n) : Int))]), smB (900016 : Nat) s (bkN s) g (decL g p)]
 (List.map (itS s (bkN s) g (decL g p) (Int.toNat n)) (List.range (itsN s (bkN s) g (decL g p) (Int.toNat n)))) fun (y : Nat) =>
 [smB (900016 : Nat) s (itL s (bkN s) g (decL g p) (Int.toNat n) y) g (decL g p)]) ∧
 (n = (↑(Int.toNat n) : Int) ∧ s = s ∧ bkN s = bkN s ∧ decL g p = decL g p ∧ g = g) ∧
 Nat.le (0 : Nat) (rG s (bkN s) g (decL g p) (Int.toNat n)) ∧
 (Value.slice none (0 : Nat) (0 : Nat) = Value.slice none (0 : Nat) (0 : Nat) ∧ (0 : Int) = (0 : Int) ∧ (0 : Nat) = (0 : Nat)) ∧
 (∀ (i1 : Nat),
 i1 < List.length (List.map (itS s (bkN s) g (decL g p) (Int.toNat n)) (List.range (itsN s (bkN s) g (decL g p) (Int.toNat n)))) →
 Nat.le i1 (rG s (bkN s) g (decL g p) (Int.toNat n)) →
 (List.map (itS s (bkN s) g (decL g p) (Int.toNat n)) (List.range (itsN s (bkN s) g (decL g p) (Int.toNat n))))[i1]? =
 some [Value.int IntKind.i64 (itX s (bkN s) g (decL g p) (Int.toNat n) i1), Value.bool (itO s (bkN s) g (decL g p) (Int.toNat n) i1)] ∧
 List.length [Value.int IntKind.i64 (itX s (bkN s) g (decL g p) (Int.toNat n) i1), Value.bool (itO s (bkN s) g (decL g p) (Int.toNat n) i1)] =
 List.length #[(35 : Nat), (36 : Nat)].toList ∧
 ((!itO s (bkN s) g (decL g p) (Int.toNat n) i1) = true → List.length (rdO g p s n) = (0 : Nat) ∧ (22 : Int) = rdE g p s n) ∧
 ((!itO s (bkN s) g (decL g p) (Int.toNat n) i1) = false →
 (List.length (symN s (bkN s) g (decL g p) i1) + (1 : Nat)) * (8 : Nat) ≤ (140737488355328 : Nat) ∧
 Nat.le (i1 + (1 : Nat)) (rG s (bkN s) g (decL g p) (Int.toNat n)) ∧
 Value.slice none (0 : Nat) (0 : Nat) = Value.slice none (0 : Nat) (0 : Nat) ∧
 (0 : Int) = (0 : Int) ∧
 symN s (bkN s) g (decL g p) i1 ++ [itX s (bkN s) g (decL g p) (Int.toNat n) i1] = symN s (bkN s) g (decL g p) (i1 + (1 : Nat)))) ∧
 (Nat.le (List.length (List.map (itS s (bkN s) g (decL g p) (Int.toNat n)) (List.range (itsN s (bkN s) g (decL g p) (Int.toNat n)))))
 (rG s (bkN s) g (decL g p) (Int.toNat n)) →
 (decide
 (itL s (bkN s) g (decL g p) (Int.toNat n)
 (List.length (List.map (itS s (bkN s) g (decL g p) (Int.toNat n)) (List.range (itsN s (bkN s) g (decL g p) (Int.toNat n))))) >
 (0 : Int)) =
 true →
 List.length (rdO g p s n) = (0 : Nat) ∧ (22 : Int) = rdE g p s n) ∧
 (decide
 (itL s (bkN s) g (decL g p) (Int.toNat n)
 (List.length (List.map (itS s (bkN s) g (decL g p) (Int.toNat n)) (List.range (itsN s (bkN s) g (decL g p) (Int.toNat n))))) >
 (0 : Int)) =
 false →
 symN s (bkN s) g (decL g p) (List.length (List.map (itS s (bkN s) g (decL g p) (Int.toNat n)) (List.range (itsN s (bkN s) g (decL g p) (Int.toNat n))))) =
 rdO g p s n ∧
 (0 : Int) = rdE g p s n)))) ∧
 (¬opE g p s = (0 : Int) →
 List.length p ≤ (4294967296 : Nat) ∧
 ByteArray.size s ≤ (4294967296 : Nat) ∧
 ((opE g p s != (0 : Int)) = true → List.length (rdO g p s n) = (0 : Nat) ∧ opE g p s = rdE g p s n) ∧ ((opE g p s != (0 : Int)) = false → False ∧ ∃ (y2 : Unit), False)))))
theorem readFH_e (g : Int) (p : List Int) (s : ByteArray) (n : Int) : readFH_t g p s n = vcG Try.prog (Gof GHf) (oReadF s (bkN s) g (decL g p) n.toNat) Try.f53 [.ag [.v (.int .i64 g), .dat (.ints .i64 p)], .v (.string s), .v (.int .i64 n)] [] (.leaf ((.tu [.dat (.ints .i64 (rdO g p s n)), .v (.int .i64 (rdE g p s n))])) ([])) := by kernel_rfl
end Go.Proofs.Ytbdgknebimdjoaa
namespace Go.Proofs.Ytbdgknebimdjoaa
open Go Go.RowKit
set_option linter.unusedVariables false
set_option linter.unusedSimpArgs false
set_option maxRecDepth 100000
theorem openH_sound : Sound Try.prog 87 sOpenF.ctr := sOpenF.sound (by kernel_rfl) sOpenF_enc fun ⟨g, p, s⟩ hc => by
  have h0 := hc _ (.head _)
  have h1 := hc _ (.tail _ (.head _))
  exact satG GHd_ok mixed Try.func87 (openH_e g p s) (openH_v g p s h0 h1)
theorem GHe_ok : AllOk Try.prog GHe := .cons takeH_sound <| .cons openH_sound <| GHd_ok
theorem takeFH_sound : Sound Try.prog 92 sTakeF.ctr := sTakeF.sound (by kernel_rfl) sTakeF_enc fun ⟨s, l, g, c, n⟩ hc => by
  have h0 := hc _ (.head _)
  exact satG GHe_ok mixed Try.func92 (takeFH_e s l g c n) (takeFH_v s l g c n h0)
theorem symsH_v (s : ByteArray) (l g : Int) (c : List (List Int)) (n : Int) : symsH_t s l g c n := ⟨rfl, rfl, rfl, rfl, rfl⟩
theorem symsH_sound : Sound Try.prog 88 sSyms.ctr := sSyms.sound (by kernel_rfl) sSyms_enc fun ⟨s, l, g, c, n⟩ hc => by
  exact satG GHe_ok mixed Try.func88 (symsH_e s l g c n) (symsH_v s l g c n)
theorem GHf_ok : AllOk Try.prog GHf := .cons takeFH_sound <| .cons symsH_sound <| GHe_ok
theorem gd_le (ok : Nat → Bool) : ∀ n, gdN ok n ≤ n
  | 0 => Nat.le_refl _
  | n + 1 => by
    have := gd_le ok n
    show cond (Nat.beq (gdN ok n) n && ok n) (n + 1) (gdN ok n) ≤ n + 1
    cases Nat.beq (gdN ok n) n && ok n
    · simp only [cond_false]; omega
    · simp only [cond_true]; omega
theorem gd_in (ok : Nat → Bool) : ∀ n k, k < gdN ok n → ok k = true
  | 0, k, h => by cases h
  | n + 1, k, h => by
    have ih := gd_in ok n k
    have hl := gd_le ok n
    change k < cond (Nat.beq (gdN ok n) n && ok n) (n + 1) (gdN ok n) at h
    cases hb : Nat.beq (gdN ok n) n && ok n
    · rw [hb] at h; exact ih h
    · rw [hb] at h
      rw [Bool.and_eq_true] at hb
      have e := Nat.eq_of_beq_eq_true hb.1
      by_cases hk : k = n
      · rw [hk]; exact hb.2
      · simp only [cond_true] at h
        exact ih (by omega)
theorem gd_stop (ok : Nat → Bool) : ∀ n, gdN ok n < n → ok (gdN ok n) = false
  | 0, h => by cases h
  | n + 1, h => by
    have ih := gd_stop ok n
    have hl := gd_le ok n
    have e : gdN ok (n + 1) = cond (Nat.beq (gdN ok n) n && ok n) (n + 1) (gdN ok n) := rfl
    cases hb : Nat.beq (gdN ok n) n && ok n
    · rw [hb, cond_false] at e
      rw [e]
      by_cases hn : gdN ok n = n
      · rw [hn] at hb ⊢
        rw [Nat.beq_refl, Bool.true_and] at hb
        exact hb
      · exact ih (by omega)
    · rw [hb, cond_true] at e
      omega
theorem gd_step {ok : Nat → Bool} {n i : Nat} (h : i < n) (hi : i ≤ gdN ok n) (ho : ok i = true) : i + 1 ≤ gdN ok n := by
  rcases Nat.lt_or_ge i (gdN ok n) with h1 | h1
  · exact h1
  · have e : gdN ok n = i := by omega
    have := gd_stop ok n (by omega)
    rw [e, ho] at this
    cases this
theorem gd_fail {ok : Nat → Bool} {n i : Nat} (h : i < n) (hi : i ≤ gdN ok n) (ho : ok i = false) : gdN ok n = i := by
  rcases Nat.lt_or_ge i (gdN ok n) with h1 | h1
  · have := gd_in ok n i h1
    rw [ho] at this
    cases this
  · omega
theorem tkV_rng (s : ByteArray) (l n : Int) : 0 ≤ tkV s l n ∧ tkV s l n < 2 ^ n.toNat := by
  unfold tkV
  have hp := pow_pos' n.toNat
  cases tkE s l n == 0
  · exact ⟨Int.le_refl _, hp⟩
  · exact pkF_rng s l n.toNat
theorem rX_rng {s : ByteArray} {L g : Int} {c : List (List Int)} (h : CelOk g c) : ∀ i, 0 ≤ rX s L g c i ∧ rX s L g c i < c.length
  | 0 => by
    have := tkV_rng s L g
    rw [h.len, szI]
    exact this
  | i + 1 => by
    have ih := rX_rng (s := s) (L := L) h i
    have ha := h.a0 _ ih.1 ih.2
    have hv := tkV_rng s (rL s L g c i) (cB c (rX s L g c i))
    show 0 ≤ cA c (rX s L g c i) + tkV s (rL s L g c i) (cB c (rX s L g c i)) ∧ cA c (rX s L g c i) + tkV s (rL s L g c i) (cB c (rX s L g c i)) < _
    omega
theorem c_len {g : Int} {c : List (List Int)} (h : CelOk g c) : c.length ≤ 4096 := by
  have := sz0 h.g0 h.g12
  rw [h.len]
  omega
theorem symN_succ (s : ByteArray) (L g : Int) (c : List (List Int)) (i : Nat) : symN s L g c (i + 1) = symN s L g c i ++ [cS c (rX s L g c i)] := by
  unfold symN
  rw [List.range_succ, List.map_append]
  rfl
theorem symN_len (s : ByteArray) (L g : Int) (c : List (List Int)) (i : Nat) : (symN s L g c i).length = i := by unfold symN; rw [List.length_map, List.length_range]
theorem its_len (s : ByteArray) (L g : Int) (c : List (List Int)) (n : Nat) : (itsS s L g c n).length = itsN s L g c n := by unfold itsS; rw [List.length_map, List.length_range]
theorem its_at {s : ByteArray} {L g : Int} {c : List (List Int)} {n i : Nat} (h : i < itsN s L g c n) : (itsS s L g c n)[i]? = some [.int .i64 (itX s L g c n i), .bool (itO s L g c n i)] := by
  unfold itsS
  rw [List.getElem?_map, List.getElem?_range h]
  rfl
theorem itsN_all {s : ByteArray} {L g : Int} {c : List (List Int)} {n : Nat} (h : rG s L g c n = n) : itsN s L g c n = n := by
  unfold itsN
  rw [h, Nat.beq_refl]
  rfl
theorem itsN_cut {s : ByteArray} {L g : Int} {c : List (List Int)} {n : Nat} (h : rG s L g c n < n) : itsN s L g c n = rG s L g c n + 1 := by
  unfold itsN
  have : Nat.beq (rG s L g c n) n = false := by
    cases hb : Nat.beq (rG s L g c n) n
    · rfl
    · have := Nat.eq_of_beq_eq_true hb; omega
  rw [this]
  rfl
theorem it_good {s : ByteArray} {L g : Int} {c : List (List Int)} {n i : Nat} (h : i < rG s L g c n) : itX s L g c n i = cS c (rX s L g c i) ∧ itO s L g c n i = true := by
  unfold itX itO
  rw [blt_t h]
  exact ⟨rfl, rfl⟩
theorem it_bad {s : ByteArray} {L g : Int} {c : List (List Int)} {n i : Nat} (h : ¬ i < rG s L g c n) : itX s L g c n i = 0 ∧ itO s L g c n i = false := by
  unfold itX itO
  rw [blt_f h]
  exact ⟨rfl, rfl⟩
theorem itL_at {s : ByteArray} {L g : Int} {c : List (List Int)} {n i : Nat} (h : i < itsN s L g c n) : rL s L g c i = itL s L g c n i := by
  unfold itL
  rw [Nat.min_eq_left (by omega)]
theorem itL_end {s : ByteArray} {L g : Int} {c : List (List Int)} {n i : Nat} (h : i + 1 = itsN s L g c n) : rL s L g c i = itL s L g c n (i + 1) := by
  unfold itL
  rw [Nat.min_eq_right (by omega), show itsN s L g c n - 1 = i by omega]
theorem cS_r (c : List (List Int)) (x : Int) : (c.getD (Int.toNat x) []).getD 0 0 = cS c x := rfl
theorem cB_r (c : List (List Int)) (x : Int) : (c.getD (Int.toNat x) []).getD 1 0 = cB c x := rfl
theorem cA_r (c : List (List Int)) (x : Int) : (c.getD (Int.toNat x) []).getD 2 0 = cA c x := rfl
theorem syI_v (s : ByteArray) (L g : Int) (c : List (List Int)) (n : Nat) (hs : s.size ≤ 4294967296) (hC : CelOk g c) (hn1 : 1 ≤ n) (hn2 : n ≤ 100000) (l0 : Nat) : syI_t s L g c n l0 := by
  unfold syI_t
  simp only [cS_r, cB_r, cA_r, its_len]
  refine ⟨hs, (), 0, ⟨by omega, Nat.zero_le _⟩, rfl, ⟨(by first | rfl | trivial), rfl, rfl, (by first | rfl | trivial), (by first | rfl | trivial), (by first | rfl | trivial), (by first | rfl | trivial), rfl, (by first | rfl | trivial), (by first | rfl | trivial)⟩, fun i ⟨hi, hg⟩ => ⟨fun _ => ⟨fun hb => ?_, fun hb => ?_⟩, fun hge => ?_⟩⟩
  · have ho : rO s L g c i = false := by simpa using hb
    have e : rG s L g c n = i := gd_fail hi hg ho
    have eN := itsN_cut (s := s) (L := L) (g := g) (c := c) (n := n) (by omega)
    have hx := its_at (s := s) (L := L) (g := g) (c := c) (n := n) (i := i) (by omega)
    obtain ⟨x1, x2⟩ := it_bad (s := s) (L := L) (g := g) (c := c) (n := n) (i := i) (by omega)
    rw [x1, x2] at hx
    have e1 := itL_at (s := s) (L := L) (g := g) (c := c) (n := n) (i := i) (by omega)
    have e2 := itL_end (s := s) (L := L) (g := g) (c := c) (n := n) (i := i) (by omega)
    exact ⟨(by first | rfl | trivial), hx, ⟨by omega, (by first | rfl | trivial), e2, (by first | rfl | trivial), (by first | rfl | trivial)⟩, (by first | rfl | trivial), e1, (by first | rfl | trivial), (by first | rfl | trivial)⟩
  · have ho : rO s L g c i = true := by simpa using hb
    have h1 : i + 1 ≤ rG s L g c n := gd_step hi hg ho
    have hl : rG s L g c n ≤ n := gd_le _ _
    have hN : i < itsN s L g c n := by
      rcases Nat.lt_or_ge (rG s L g c n) n with h | h
      · rw [itsN_cut h]; omega
      · rw [itsN_all (by omega)]; exact hi
    have hx := its_at hN
    obtain ⟨x1, x2⟩ := it_good (s := s) (L := L) (g := g) (c := c) (n := n) (i := i) (by omega)
    rw [x1, x2] at hx
    have hr := rX_rng (s := s) (L := L) hC i
    have e1 := itL_at hN
    have hcl := c_len hC
    have ha := hC.a0 _ hr.1 hr.2
    have hv := tkV_rng s (rL s L g c i) (cB c (rX s L g c i))
    refine ⟨hr.1, hr.2, (by first | rfl | trivial), hx, ⟨fun he => ?_, fun hne => ⟨hs, i + 1, ⟨?_, h1⟩, (by first | rfl | trivial), by rw [Nat.sub_eq, Nat.sub_eq]; omega, (by first | rfl | trivial), ?_, rfl, (by first | rfl | trivial), cnt_wrap (by omega), (by first | rfl | trivial), (by first | rfl | trivial), rfl, (by first | rfl | trivial), (by first | rfl | trivial)⟩⟩, (by first | rfl | trivial), e1, (by first | rfl | trivial), (by first | rfl | trivial)⟩
    · rw [wr (by omega) (by omega)] at he
      have he : i + 1 = n := by simp only [beq_iff_eq] at he; omega
      have eN := itsN_all (s := s) (L := L) (g := g) (c := c) (n := n) (by omega)
      exact ⟨by omega, (by first | rfl | trivial), itL_end (by omega), (by first | rfl | trivial), (by first | rfl | trivial)⟩
    · rw [wr (by omega) (by omega)] at hne
      simp only [beq_eq_false_iff_ne, ne_eq] at hne
      omega
    · rw [wr (by omega) (by omega)]
      rfl
  · simp only [decide_eq_false_iff_not] at hge
    omega
theorem sy_isat (a b d : Nat) (hab : a ≠ b) (had : a ≠ d) (hbd : b ≠ d) (s : ByteArray) (L g : Int) (c : List (List Int)) (n : Nat) (hs : s.size ≤ 4294967296) (hC : CelOk g c) (hn1 : 1 ≤ n) (hn2 : n ≤ 100000) :
    ISatE Try.prog 119 [.p a 0 0, .p b 0 0] [(a, .cells 111 [.p d 0 0]), (b, .cells 3 [.v (.int .i64 (n : Nat))]), smB d s L g c] (itsS s L g c n) (fun y => [smB d s (itL s L g c n y) g c]) := by
  have h0 : ISatE Try.prog 119 [.p 0 0 0, .p 1 0 0] (hpSy s L g c n L) (itsS s L g c n) (fun y => [smB 2 s (itL s L g c n y) g c]) :=
    isatE_of_vcI (Ωi := fun l0 => oSyIF l0 s L g c n) GHf_ok mixed Try.func119 (by kernel_rfl) fun l0 => by
      have := syI_v s L g c n hs hC hn1 hn2 l0
      rw [syI_e] at this
      exact this
  exact h0.ren (fun i => cond (Nat.beq i 0) a (cond (Nat.beq i 1) b d)) (by
    intro x y hx hy e
    simp only [hpSy, smB, List.map_cons, List.map_nil, List.mem_cons, List.not_mem_nil, or_false] at hx hy
    rcases hx with rfl | rfl | rfl <;> rcases hy with rfl | rfl | rfl <;> first | rfl | (simp only [Nat.beq, cond_true, cond_false] at e; omega)) rfl rfl
end Go.Proofs.Ytbdgknebimdjoaa
namespace Go.Proofs.Ytbdgknebimdjoaa
open Go Go.RowKit
set_option linter.unusedVariables false
set_option linter.unusedSimpArgs false
set_option maxRecDepth 100000
theorem rd_bad {g : Int} {p : List Int} {s : ByteArray} {n e : Int} (h : rdE g p s n = e) (he : e ≠ 0) : (rdO g p s n).length = 0 ∧ e = rdE g p s n := by
  refine ⟨?_, h.symm⟩
  unfold rdO
  rw [show (rdE g p s n == 0) = false by rw [h]; simpa using he]
  rfl
theorem rdE_d {g : Int} {p : List Int} {s : ByteArray} {n : Int} (h : (dchk g p != (0 : Int)) = true) : rdE g p s n = dchk g p := by unfold rdE; rw [ne0 h]; rfl
theorem rdE_1 {g : Int} {p : List Int} {s : ByteArray} {n : Int} (h : dchk g p = 0) (h1 : n < 1) : rdE g p s n = 5 := by unfold rdE; rw [beq0 h, decide_eq_true h1]; rfl
theorem rdE_2 {g : Int} {p : List Int} {s : ByteArray} {n : Int} (h : dchk g p = 0) (h1 : 100000 < n) : rdE g p s n = 4 := by unfold rdE; rw [beq0 h, decide_eq_false (by omega), decide_eq_true h1]; rfl
theorem rdE_3 {g : Int} {p : List Int} {s : ByteArray} {n : Int} (h : dchk g p = 0) (h1 : ¬ n < 1) (h2 : ¬ 100000 < n) (h3 : (bkE s != (0 : Int)) = true) : rdE g p s n = bkE s := by unfold rdE; rw [beq0 h, decide_eq_false h1, decide_eq_false h2, ne0 h3]; rfl
theorem rdE_4 {g : Int} {p : List Int} {s : ByteArray} {n : Int} (h : dchk g p = 0) (h1 : ¬ n < 1) (h2 : ¬ 100000 < n) (h3 : bkE s = 0) : rdE g p s n = cond (rdB g p s n.toNat) 22 0 := by unfold rdE; rw [beq0 h, decide_eq_false h1, decide_eq_false h2, beq0 h3]; rfl
theorem rdB_cut {g : Int} {p : List Int} {s : ByteArray} {n : Nat} (h : rG s (bkN s) g (decL g p) n < n) : rdB g p s n = true := by
  unfold rdB
  have : Nat.beq (rG s (bkN s) g (decL g p) n) n = false := by
    cases hb : Nat.beq (rG s (bkN s) g (decL g p) n) n
    · rfl
    · have := Nat.eq_of_beq_eq_true hb; omega
  rw [this]
  rfl
theorem rdB_left {g : Int} {p : List Int} {s : ByteArray} {n : Nat} (h : rG s (bkN s) g (decL g p) n = n) : rdB g p s n = decide (0 < rL s (bkN s) g (decL g p) (n - 1)) := by
  unfold rdB
  rw [h, Nat.beq_refl]
  rfl
theorem rd_end {g : Int} {p : List Int} {s : ByteArray} {n : Int} {l : Int} (h : dchk g p = 0) (h1 : ¬ n < 1) (h2 : ¬ 100000 < n) (h3 : bkE s = 0) (hG : rG s (bkN s) g (decL g p) n.toNat = n.toNat) (hl : l = rL s (bkN s) g (decL g p) (n.toNat - 1)) :
    (decide (l > 0) = true → (rdO g p s n).length = 0 ∧ (22 : Int) = rdE g p s n) ∧ (decide (l > 0) = false → symN s (bkN s) g (decL g p) n.toNat = rdO g p s n ∧ (0 : Int) = rdE g p s n) := by
  have e := rdE_4 h h1 h2 h3
  rw [rdB_left hG, ← hl] at e
  refine ⟨fun hd => ?_, fun hd => ?_⟩
  · have hd : decide (0 < l) = true := hd
    rw [hd] at e
    exact rd_bad e (by decide)
  · have hd : decide (0 < l) = false := hd
    rw [hd] at e
    refine ⟨?_, e.symm⟩
    unfold rdO
    rw [beq0 e]
    rfl
theorem readFH_v (g : Int) (p : List Int) (s : ByteArray) (n : Int) (h0 : p.length ≤ 4294967296) (hs : s.size ≤ 4294967296) : readFH_t g p s n := by
  unfold readFH_t
  refine ⟨h0, fun h => rd_bad (rdE_d h) (nz h), fun h => ⟨fun h1 => rd_bad (rdE_1 (eq0 h) (by simpa using h1)) (by decide), fun h1 => ⟨fun h2 => rd_bad (rdE_2 (eq0 h) (by simpa using h2)) (by decide), fun h2 => ⟨fun ho => ?_, fun ho => ?_⟩⟩⟩⟩
  · have hd := eq0 h
    have hC := dec_ok hd
    have hb : bkE s = 0 := by rw [← op_ok1 (p := p) hd]; exact ho
    have n1 : ¬ n < 1 := by simpa using h1
    have n2 : ¬ 100000 < n := by simpa using h2
    refine ⟨h0, hs, fun hf => by simp at hf, fun _ => ?_⟩
    have e := its_len s (bkN s) g (decL g p) n.toNat
    unfold itsS at e
    rw [e]
    have hle : rG s (bkN s) g (decL g p) n.toNat ≤ n.toNat := gd_le _ _
    refine ⟨(), sy_isat 1300016 1300017 900016 (by decide) (by decide) (by decide) s (bkN s) g (decL g p) n.toNat hs hC (by omega) (by omega), ⟨by omega, rfl, rfl, rfl, rfl⟩, Nat.zero_le _, ⟨rfl, rfl, rfl⟩, fun i hi hg => ⟨its_at hi, rfl, fun hb2 => ?_, fun hb2 => ?_⟩, fun hg => ?_⟩
    · have hb2 : itO s (bkN s) g (decL g p) n.toNat i = false := by simpa using hb2
      have hG : rG s (bkN s) g (decL g p) n.toNat < n.toNat := by
        rw [nle] at hg
        rcases Nat.lt_or_ge (rG s (bkN s) g (decL g p) n.toNat) n.toNat with h | h
        · exact h
        · rw [itsN_all (by omega)] at hi
          rw [(it_good (by omega)).2] at hb2
          cases hb2
      have e2 := rdE_4 hd n1 n2 hb
      rw [rdB_cut hG] at e2
      exact rd_bad e2 (by decide)
    · have hb2 : itO s (bkN s) g (decL g p) n.toNat i = true := by simpa using hb2
      have hG : i < rG s (bkN s) g (decL g p) n.toNat := Classical.byContradiction fun hn => by rw [(it_bad hn).2] at hb2; cases hb2
      refine ⟨by rw [symN_len]; omega, hG, rfl, rfl, ?_⟩
      rw [(it_good hG).1]
      exact (symN_succ _ _ _ _ _).symm
    · rw [nle] at hg
      have hG : rG s (bkN s) g (decL g p) n.toNat = n.toNat := by
        rcases Nat.lt_or_ge (rG s (bkN s) g (decL g p) n.toNat) n.toNat with h | h
        · rw [itsN_cut h] at hg; omega
        · omega
      have eN := itsN_all hG
      rw [eN]
      refine rd_end hd n1 n2 hb hG ?_
      unfold itL
      rw [eN, Nat.min_eq_right (by omega)]
  · refine ⟨h0, hs, fun hf => ?_, fun hf => absurd (eq0 hf) ho⟩
    have e := op_ok1 (s := s) (eq0 h)
    rw [e] at hf ⊢
    exact rd_bad (rdE_3 (eq0 h) (by simpa using h1) (by simpa using h2) hf) (nz hf)
theorem readFH_sound : Sound Try.prog 53 sReadF.ctr := sReadF.sound (by kernel_rfl) sReadF_enc fun ⟨g, p, s, n⟩ hc => by
  have h0 := hc _ (.head _)
  have h1 := hc _ (.tail _ (.head _))
  exact satG GHf_ok mixed Try.func53 (readFH_e g p s n) (readFH_v g p s n h0 h1)
end Go.Proofs.Ytbdgknebimdjoaa
namespace Go.Proofs.Ytbdgknebimdjoaa
open Go Go.RowKit
set_option linter.unusedVariables false
set_option linter.unusedSimpArgs false
set_option maxRecDepth 100000
theorem nx_rng {s : ByteArray} {l n : Int} (h0 : 0 ≤ l) (h1 : l ≤ bkN s) : 0 ≤ nxL s l n ∧ nxL s l n ≤ bkN s := by
  unfold nxL
  cases h : tkE s l n == 0
  · exact ⟨h0, h1⟩
  · have h : tkE s l n = 0 := by simpa using h
    have hk := tk_0 h
    have := (pk_ok0 hk.1).n0
    simp only [cond_true]
    omega
theorem tk_iff {s : ByteArray} {l n : Int} (hb : bkE s = 0) (h0 : 0 ≤ l) (h1 : l ≤ bkN s) (n0 : 0 ≤ n) (n1 : n ≤ 32) : (n ≤ l → tkE s l n = 0) ∧ (l < n → tkE s l n = 5) := by
  have hp := pk_ok (rgE_ok hb h0 h1) n0 n1
  exact ⟨tk_good hp, tk_short hp⟩
def GHg : List (Nat × Ctr) := (53, sReadF.ctr) :: GHf
theorem GHg_ok : AllOk Try.prog GHg := .cons readFH_sound <| GHf_ok
end Go.Proofs.Ytbdgknebimdjoaa
namespace Go.Proofs.Ytbdgknebimdjoaa
open Go
set_option linter.unusedVariables false
set_option maxRecDepth 100000
abbrev YD : Type := Int × List Int × List Int × List Int
def zG (y : YD) : Int := y.1
def zP (y : YD) : List Int := y.2.1
def zU (y : YD) : List Int := y.2.2.1
def zV (y : YD) : List Int := y.2.2.2
def zM (y : YD) : Nat := min (zU y).length (zV y).length
def okZ (y : YD) : Prop := okY (zG y, zP y, zU y) ∧ okY (zG y, zP y, zV y)
def zA (y : YD) : List Int := (zU y).take (zM y)
def zB (y : YD) : List Int := (zV y).take (zM y)
def apS (y : YD) : ByteArray := wrtS (zG y) (zP y) (zA y) 1
def apT (y : YD) : ByteArray := wrtS (zG y) (zP y) (zB y) 1
def apE (y : YD) : Int := askE (zG y) (zP y) (zA y) 1
def apF (y : YD) : Int := askE (zG y) (zP y) (zB y) 1
end Go.Proofs.Ytbdgknebimdjoaa
namespace Go.Proofs.Ytbdgknebimdjoaa
open Go Go.RowKit
set_option linter.unusedVariables false
set_option linter.unusedSimpArgs false
set_option maxRecDepth 100000
def tmD (b : Int) (y : YD) : List (Nat × SV) := [(3, .v (.int .u8 b)), (9, .p 1000 0 0), (10, .dat (.ints .i64 (zU y))), (11, .dat (.ints .i64 (zV y))), (12, .v (.int .i64 (zM y : Nat)))]
def oApA (b : Int) : LoopInv := { ι := YD, p := fun y => okZ y, tm := fun y => tmD b y, hp := fun y => [dF 1000 (zG y) (zP y)], μ := fun _ => 0 }
def oApB (b : Int) (y : YD) : LoopInv := { ι := Unit, p := fun _ => okZ y ∧ 0 < zM y, tm := fun _ => (13, .v (.string (apS y))) :: (14, .v (.int .i64 (apE y))) :: (15, .v (.string (apT y))) :: (16, .v (.int .i64 (apF y))) :: tmD b y, hp := fun _ => [dF 1000 (zG y) (zP y)], μ := fun _ => 0 }
def oApC (b : Int) (y : YD) : LoopInv := { ι := Unit, p := fun _ => okZ y ∧ 0 < zM y, tm := fun _ => [(3, .v (.int .u8 b)), (9, .p 1000 0 0), (12, .v (.int .i64 (zM y : Nat))), (13, .v (.string (apS y)))], hp := fun _ => [dF 1000 (zG y) (zP y)], μ := fun _ => 0 }
def oAp (b : Int) : Nat → Option LoopFam := fun k => cond (Nat.beq k 1004) (some (.one (oApA b))) (cond (Nat.beq k 1008) (some (.fam YD (oApB b))) (cond (Nat.beq k 1010) (some (.fam YD (oApC b))) none))
def nil1 : SV → SV
  | .v (.slice none 0 0) => .dat (.ints .i64 [])
  | x => x
def Ctr.nilI (c : Ctr) : Ctr := ⟨c.own, fun l H n => c.tr (l.map nil1) H n⟩
theorem nil1_ok {D : Nat → Prop} {w : World} {β : Nat → Option Loc} (x : SV) {u : Value} (h : Rep D w β x u) : Rep D w β (nil1 x) u := by
  unfold nil1
  split
  · simp only [Rep] at h
    subst h
    simp only [Rep, RepDat, SliceAt]
    exact ⟨none, 0, rfl, Nat.le_refl _, fun h => by cases h⟩
  · exact h
theorem nils_ok {D : Nat → Prop} {w : World} {β : Nat → Option Loc} : ∀ (xs : List SV) {us : List Value}, Reps D w β xs us → Reps D w β (xs.map nil1) us
  | [], _, h => h
  | x :: xs, _, h => by
    simp only [Reps, List.map_cons] at h ⊢
    obtain ⟨u, us, h1, h2, h3⟩ := h
    exact ⟨u, us, h1, nil1_ok x h2, nils_ok xs h3⟩
theorem Sound.nilI {P : Program} {f : FuncId} {c : Ctr} (h : Sound P f c) : Sound P f c.nilI :=
  ⟨h.1, fun l H n hp => fun D β w us hr => h.2 (l.map nil1) H n hp D β w us (nils_ok l hr)⟩
end Go.Proofs.Ytbdgknebimdjoaa
namespace Go.Proofs.Ytbdgknebimdjoaa
open Go Go.RowKit
set_option linter.unusedVariables false
set_option maxRecDepth 100000
def lwAp_t (l s k : List Int) (b : Int) : Prop :=
 List.all l inW = true ∧
 List.all s inW = true ∧
 List.length (kdP l) ≤ (4294967296 : Nat) ∧
 List.all k inW = true ∧
 List.length (kdP l) ≤ (4294967296 : Nat) ∧
 (∃ (x0 : Int × List Int × List Int × List Int),
 (okY (zG x0, zP x0, zU x0) ∧ okY (zG x0, zP x0, zV x0)) ∧
 b = b ∧
 symL (kdP l) s = zU x0 ∧
 symL (kdP l) k = zV x0 ∧ min (↑(List.length (symL (kdP l) s)) : Int) (↑(List.length (symL (kdP l) k)) : Int) = (↑(zM x0) : Int) ∧ kdG l = zG x0 ∧ kdP l = zP x0) ∧
 ∀ (x1 : Int × List Int × List Int × List Int),
 okY (zG x1, zP x1, zU x1) ∧ okY (zG x1, zP x1, zV x1) →
 (((↑(zM x1) : Int) == (0 : Int)) = true → true = true) ∧
 (((↑(zM x1) : Int) == (0 : Int)) = false →
 (0 : Int) ≤ (0 : Int) ∧
 (0 : Int) ≤ (↑(zM x1) : Int) ∧
 (↑(zM x1) : Int) ≤ (↑(List.length (zU x1)) : Int) ∧
 List.length (zP x1) ≤ (4294967296 : Nat) ∧
 List.length (List.take (Int.toNat (↑(zM x1) : Int) - Int.toNat (0 : Int)) (List.drop (Int.toNat (0 : Int)) (zU x1))) ≤ (4294967296 : Nat) ∧
 ∃ (g2 : YD),
 ((0 : Int) ≤ (0 : Int) ∧
 (0 : Int) ≤ (↑(zM x1) : Int) ∧
 (↑(zM x1) : Int) ≤ (↑(List.length (zV x1)) : Int) ∧
 List.length (zP x1) ≤ (4294967296 : Nat) ∧
 List.length (List.take (Int.toNat (↑(zM x1) : Int) - Int.toNat (0 : Int)) (List.drop (Int.toNat (0 : Int)) (zV x1))) ≤ (4294967296 : Nat) ∧
 ∃ (x3 : Unit),
 (okZ g2 ∧ (0 : Nat) < zM g2) ∧
 wrtS (zG x1) (zP x1) (List.take (Int.toNat (↑(zM x1) : Int) - Int.toNat (0 : Int)) (List.drop (Int.toNat (0 : Int)) (zU x1))) (1 : Nat) = apS g2 ∧
 askE (zG x1) (zP x1) (List.take (Int.toNat (↑(zM x1) : Int) - Int.toNat (0 : Int)) (List.drop (Int.toNat (0 : Int)) (zU x1))) (1 : Int) = apE g2 ∧
 wrtS (zG x1) (zP x1) (List.take (Int.toNat (↑(zM x1) : Int) - Int.toNat (0 : Int)) (List.drop (Int.toNat (0 : Int)) (zV x1))) (1 : Nat) = apT g2 ∧
 askE (zG x1) (zP x1) (List.take (Int.toNat (↑(zM x1) : Int) - Int.toNat (0 : Int)) (List.drop (Int.toNat (0 : Int)) (zV x1))) (1 : Int) = apF g2 ∧
 b = b ∧ zU x1 = zU g2 ∧ zV x1 = zV g2 ∧ (↑(zM x1) : Int) = (↑(zM g2) : Int) ∧ zG x1 = zG g2 ∧ zP x1 = zP g2) ∧
 ∀ (x4 : Unit),
 okZ g2 ∧ (0 : Nat) < zM g2 →
 ∃ (g5 : YD),
 (((apE g2 != (0 : Int)) = true → false = true) ∧
 ((apE g2 != (0 : Int)) = false →
 ((apF g2 != (0 : Int)) = true → false = true) ∧
 ((apF g2 != (0 : Int)) = false →
 (0 : Int) ≤ (0 : Int) ∧
 (0 : Int) ≤ (↑(zM g2) : Int) ∧
 (↑(zM g2) : Int) ≤ (↑(List.length (zU g2)) : Int) ∧
 (0 : Int) ≤ (0 : Int) ∧
 (0 : Int) ≤ (↑(zM g2) : Int) ∧
 (↑(zM g2) : Int) ≤ (↑(List.length (zV g2)) : Int) ∧
 List.length (List.take (Int.toNat (↑(zM g2) : Int) - Int.toNat (0 : Int)) (List.drop (Int.toNat (0 : Int)) (zU g2))) ≤
 (4294967296 : Nat) ∧
 ((!(ByteArray.toList (apS g2) == ByteArray.toList (apT g2)) ==
 eqI (List.take (Int.toNat (↑(zM g2) : Int) - Int.toNat (0 : Int)) (List.drop (Int.toNat (0 : Int)) (zU g2)))
 (List.take (Int.toNat (↑(zM g2) : Int) - Int.toNat (0 : Int)) (List.drop (Int.toNat (0 : Int)) (zV g2)))) =
 true →
 false = true) ∧
 ((!(ByteArray.toList (apS g2) == ByteArray.toList (apT g2)) ==
 eqI (List.take (Int.toNat (↑(zM g2) : Int) - Int.toNat (0 : Int)) (List.drop (Int.toNat (0 : Int)) (zU g2)))
 (List.take (Int.toNat (↑(zM g2) : Int) - Int.toNat (0 : Int)) (List.drop (Int.toNat (0 : Int)) (zV g2)))) =
 false →
 (((↑(ByteArray.size (apS g2)) : Int) == (0 : Int)) = true → false = true) ∧
 (((↑(ByteArray.size (apS g2)) : Int) == (0 : Int)) = false →
 ∃ (x6 : Unit),
 (okZ g5 ∧ (0 : Nat) < zM g5) ∧
 b = b ∧ (↑(zM g2) : Int) = (↑(zM g5) : Int) ∧ apS g2 = apS g5 ∧ zG g2 = zG g5 ∧ zP g2 = zP g5))))) ∧
 ∀ (x7 : Unit),
 okZ g5 ∧ (0 : Nat) < zM g5 →
 ByteArray.size (strOfNums [b]) + ByteArray.size (apS g5) ≤ (9223372036854775807 : Nat) ∧
 List.length (zP g5) ≤ (4294967296 : Nat) ∧
 ByteArray.size (strOfNums [b] ++ apS g5) ≤ (4294967296 : Nat) ∧
 (0 : Int) ≤ (1 : Int) ∧
 (1 : Int) ≤ (↑(ByteArray.size (apS g5)) : Int) ∧
 (↑(ByteArray.size (apS g5)) : Int) ≤ (↑(ByteArray.size (apS g5)) : Int) ∧
 List.length (zP g5) ≤ (4294967296 : Nat) ∧
 ByteArray.size (ByteArray.extract (apS g5) (Int.toNat (1 : Int)) (Int.toNat (↑(ByteArray.size (apS g5)) : Int))) ≤ (4294967296 : Nat) ∧
 ((rdE (zG g5) (zP g5) (strOfNums [b] ++ apS g5) (↑(zM g5) : Int) == (22 : Int)) = true →
 ((rdE (zG g5) (zP g5) (ByteArray.extract (apS g5) (Int.toNat (1 : Int)) (Int.toNat (↑(ByteArray.size (apS g5)) : Int)))
 (↑(zM g5) : Int) ==
 (22 : Int)) =
 true →
 true = true) ∧
 ((rdE (zG g5) (zP g5) (ByteArray.extract (apS g5) (Int.toNat (1 : Int)) (Int.toNat (↑(ByteArray.size (apS g5)) : Int)))
 (↑(zM g5) : Int) ==
 (22 : Int)) =
 false →
 false = true)) ∧
 ((rdE (zG g5) (zP g5) (strOfNums [b] ++ apS g5) (↑(zM g5) : Int) == (22 : Int)) = false → false = true))
theorem lwAp_e (l s k : List Int) (b : Int) : lwAp_t l s k b = vcG Try.prog (Gof GHg) (oAp b) Try.f11 [.dat (.ints .i64 l), .dat (.ints .i64 s), .dat (.ints .i64 k), .v (.int .u8 b)] [] (.leaf ((.v (.bool true))) ([])) := by kernel_rfl
end Go.Proofs.Ytbdgknebimdjoaa
namespace Go.Proofs.Ytbdgknebimdjoaa
open Go Go.RowKit
set_option linter.unusedVariables false
set_option linter.unusedSimpArgs false
set_option maxRecDepth 100000
def dgL : List Int → Int
  | [] => 0
  | x :: r => x + 256 * dgL r
def dgS (s : ByteArray) : Int := dgL (bytesN s)
def byteR (l : List Int) : Prop := ∀ x ∈ l, 0 ≤ x ∧ x < 256
theorem dgL_app : ∀ a b : List Int, dgL (a ++ b) = dgL a + 256 ^ a.length * dgL b
  | [], b => by show dgL b = 0 + 256 ^ 0 * dgL b; rw [Int.pow_zero]; omega
  | x :: a, b => by
    show x + 256 * dgL (a ++ b) = x + 256 * dgL a + 256 ^ (a.length + 1) * dgL b
    rw [dgL_app a b, Int.pow_succ, Int.mul_add, Int.mul_comm (256 ^ a.length) 256, Int.mul_assoc]
    omega
theorem dgL_rng : ∀ a : List Int, byteR a → 0 ≤ dgL a ∧ dgL a < 256 ^ a.length
  | [], _ => by show (0 : Int) ≤ 0 ∧ (0 : Int) < 256 ^ 0; decide
  | x :: a, h => by
    have ih := dgL_rng a fun y hy => h y (List.mem_cons_of_mem _ hy)
    have hx := h x (by simp)
    show 0 ≤ x + 256 * dgL a ∧ x + 256 * dgL a < 256 ^ (a.length + 1)
    rw [Int.pow_succ]
    omega
theorem emod_mul' (X : Int) {a b : Int} (ha : 0 < a) (hb : 0 < b) : X % (a * b) = X % a + a * (X / a % b) := by
  have e1 := Int.emod_add_mul_ediv X a
  have e2 := Int.emod_add_mul_ediv (X / a) b
  have h1 := Int.emod_nonneg X (show a ≠ 0 by omega)
  have h2 := Int.emod_lt_of_pos X ha
  have h3 := Int.emod_nonneg (X / a) (show b ≠ 0 by omega)
  have h4 := Int.emod_lt_of_pos (X / a) hb
  have m1 : 0 ≤ a * (X / a % b) := Int.mul_nonneg (by omega) h3
  have m2 : a * (X / a % b) ≤ a * (b - 1) := Int.mul_le_mul_of_nonneg_left (by omega) (by omega)
  rw [Int.mul_sub, Int.mul_one] at m2
  have e3 : X = X % a + a * (X / a % b) + a * b * (X / a / b) := by
    rw [Int.mul_assoc, Int.add_assoc, ← Int.mul_add, e2, e1]
  conv => lhs; rw [e3]
  rw [Int.add_mul_emod_self_left, Int.emod_eq_of_lt (by omega) (by omega)]
theorem dgL_low : ∀ (m : Nat) (x : Int), dgL (lowB m x) = x % 256 ^ m
  | 0, x => by show (0 : Int) = x % 256 ^ 0; rw [Int.pow_zero, Int.emod_one]
  | m + 1, x => by
    have hp : (0 : Int) < 256 ^ m := by rw [pow256]; exact pow_pos' _
    show x % 256 + 256 * dgL (lowB m (x / 256)) = x % 256 ^ (m + 1)
    rw [dgL_low m, Int.pow_succ, Int.mul_comm (256 ^ m) 256, emod_mul' x (by decide) hp]
theorem bytesN_app (a b : ByteArray) : bytesN (a ++ b) = bytesN a ++ bytesN b := by
  unfold bytesN
  rw [ByteArray.data_append, Array.toList_append, List.map_append]
theorem bytesN_str {xs : List Int} (h : byteR xs) : bytesN (strOfNums xs) = xs := by
  unfold bytesN
  rw [str_data]
  show List.map _ (List.map _ xs) = xs
  rw [List.map_map]
  conv => rhs; rw [← List.map_id xs]
  refine List.map_congr_left fun x hx => ?_
  have := h x hx
  show ((UInt8.ofNat x.toNat).toNat : Int) = x
  have e : (UInt8.ofNat x.toNat).toNat = x.toNat % 256 := UInt8.toNat_ofNat'
  rw [e]
  omega
theorem bytesN_rng (s : ByteArray) : byteR (bytesN s) := by
  intro x hx
  unfold bytesN at hx
  obtain ⟨b, _, rfl⟩ := List.mem_map.1 hx
  have := b.toNat_lt
  omega
theorem lowB_rng : ∀ (m : Nat) (x : Int), byteR (lowB m x)
  | 0, x => fun y hy => by cases hy
  | m + 1, x => fun y hy => by
    change y ∈ x % 256 :: lowB m (x / 256) at hy
    rcases List.mem_cons.1 hy with rfl | hy
    · omega
    · exact lowB_rng m _ y hy
theorem dgS_app (s t : ByteArray) : dgS (s ++ t) = dgS s + 2 ^ (8 * s.size) * dgS t := by
  unfold dgS
  rw [bytesN_app, dgL_app, bytes_len, pow256]
theorem dgS_rng (s : ByteArray) : 0 ≤ dgS s ∧ dgS s < 2 ^ (8 * s.size) := by
  have := dgL_rng _ (bytesN_rng s)
  rw [bytes_len, pow256] at this
  exact this
theorem dgS_str {xs : List Int} (h : byteR xs) : dgS (strOfNums xs) = dgL xs := by unfold dgS; rw [bytesN_str h]
theorem dig : ∀ (l : List Int), byteR l → ∀ i, i < l.length → dgL l / 256 ^ i % 256 = l.getD i 0
  | [], _, i, h => by simp at h
  | x :: r, hb, 0, h => by
    have hx := hb x (by simp)
    show (x + 256 * dgL r) / 256 ^ 0 % 256 = x
    rw [Int.pow_zero, Int.ediv_one]
    omega
  | x :: r, hb, i + 1, h => by
    have hx := hb x (by simp)
    have ih := dig r (fun y hy => hb y (List.mem_cons_of_mem _ hy)) i (by simpa using h)
    show (x + 256 * dgL r) / 256 ^ (i + 1) % 256 = r.getD i 0
    rw [← ih, Int.pow_succ, Int.mul_comm (256 ^ i) 256, ← Int.ediv_ediv_of_nonneg (by decide)]
    congr 2
    omega
theorem byI_dig {s : ByteArray} {i : Nat} (h : i < s.size) : byI s i = dgS s / 256 ^ i % 256 := by
  unfold dgS
  rw [dig _ (bytesN_rng s) i (by rw [bytes_len]; exact h)]
  unfold byI bytesN
  have hl : i < s.data.toList.length := h
  rw [List.getD_eq_getElem?_getD, List.getD_eq_getElem?_getD, List.getElem?_map, List.getElem?_eq_getElem hl]
  rfl
theorem bit_of_byte (Y : Int) (r : Nat) (h : r < 8) : Y % 256 / 2 ^ r % 2 = Y / 2 ^ r % 2 := by
  have : r = 0 ∨ r = 1 ∨ r = 2 ∨ r = 3 ∨ r = 4 ∨ r = 5 ∨ r = 6 ∨ r = 7 := by omega
  rcases this with rfl | rfl | rfl | rfl | rfl | rfl | rfl | rfl
  · rw [show (2 : Int) ^ 0 = 1 from rfl]; omega
  · rw [show (2 : Int) ^ 1 = 2 from rfl]; omega
  · rw [show (2 : Int) ^ 2 = 4 from rfl]; omega
  · rw [show (2 : Int) ^ 3 = 8 from rfl]; omega
  · rw [show (2 : Int) ^ 4 = 16 from rfl]; omega
  · rw [show (2 : Int) ^ 5 = 32 from rfl]; omega
  · rw [show (2 : Int) ^ 6 = 64 from rfl]; omega
  · rw [show (2 : Int) ^ 7 = 128 from rfl]; omega
theorem bitS_le {s : ByteArray} {k : Nat} (h : k < 8 * s.size) : bitS s (k : Int) = dgS s / 2 ^ k % 2 := by
  unfold bitS
  rw [decide_eq_false (by omega)]
  simp only [cond_false]
  rw [show ((k : Int) / 8).toNat = k / 8 by omega, show ((k : Int) % 8).toNat = k % 8 by omega, byI_dig (by omega), bit_of_byte _ _ (by omega), pow256, Int.ediv_ediv_of_nonneg (Int.le_of_lt (pow_pos' _)), ← Int.pow_add, show 8 * (k / 8) + k % 8 = k by omega]
theorem pk_le {s : ByteArray} {left : Nat} (hl : left ≤ 8 * s.size) : ∀ n, n ≤ left → pkF s (left : Int) n = dgS s / 2 ^ (left - n) % 2 ^ n
  | 0, _ => by show (0 : Int) = _; rw [Int.pow_zero, Int.emod_one]
  | n + 1, h => by
    rw [pkF_succ, pk_le hl n (by omega), show (left : Int) - 1 - (n : Nat) = ((left - (n + 1) : Nat) : Int) by omega, bitS_le (by omega)]
    have e : left - n = left - (n + 1) + 1 := by omega
    rw [e, Int.pow_succ, ← Int.ediv_ediv_of_nonneg (Int.le_of_lt (pow_pos' _)), Int.pow_succ, Int.mul_comm (2 ^ n) 2, emod_mul' _ (by decide) (pow_pos' n)]
    omega
theorem take_num {s : ByteArray} {T n : Nat} {V v : Int} (hb : bkE s = 0) (hl : ((T + n : Nat) : Int) ≤ bkN s) (hn : n ≤ 32) (hm : dgS s % 2 ^ (T + n) = V + v * 2 ^ T) (hV : 0 ≤ V) (hV2 : V < 2 ^ T) (hv : 0 ≤ v) (hv2 : v < 2 ^ n) :
    tkE s ((T + n : Nat) : Int) (n : Int) = 0 ∧ tkV s ((T + n : Nat) : Int) (n : Int) = v ∧ nxL s ((T + n : Nat) : Int) (n : Int) = (T : Int) ∧ dgS s % 2 ^ T = V := by
  obtain ⟨k1, k2, k3, k4⟩ := bkE_0 hb
  have hr := bkN_rng k1
  have h0 := (tk_iff hb (l := ((T + n : Nat) : Int)) (n := (n : Int)) (by omega) hl (by omega) (by omega)).1 (by omega)
  obtain ⟨v1, v2, v3, v4, v5⟩ := tk_vals h0
  have hT := pow_pos' T
  have hN := pow_pos' n
  have e := emod_mul' (dgS s) hT hN
  rw [← Int.pow_add, hm] at e
  have q0 := Int.emod_nonneg (dgS s) (show (2 : Int) ^ T ≠ 0 by omega)
  have q1 := Int.emod_lt_of_pos (dgS s) hT
  have eV : dgS s % 2 ^ T = V := by
    have h1 : (V + v * 2 ^ T) % 2 ^ T = V := by rw [Int.add_mul_emod_self_right]; exact Int.emod_eq_of_lt hV hV2
    rw [e, Int.add_mul_emod_self_left, Int.emod_eq_of_lt q0 q1] at h1
    exact h1
  have ev : dgS s / 2 ^ T % 2 ^ n = v := by
    rw [eV, Int.mul_comm v] at e
    have : (2 : Int) ^ T * v = 2 ^ T * (dgS s / 2 ^ T % 2 ^ n) := by omega
    exact (Int.eq_of_mul_eq_mul_left (by omega) this).symm
  refine ⟨h0, ?_, by rw [v5]; omega, eV⟩
  rw [← v3, toNat_cast, pk_le (by omega) n (by omega), show T + n - n = T by omega]
  exact ev
def valW (s : ByteArray) (p : Int) : Int := dgS s + p * 2 ^ (8 * s.size)
def lenW (s : ByteArray) (n : Int) : Nat := 8 * s.size + n.toNat
theorem valW_rng {s : ByteArray} {p n : Int} (p0 : 0 ≤ p) (p1 : p < 2 ^ n.toNat) : 0 ≤ valW s p ∧ valW s p < 2 ^ lenW s n := by
  have h := dgS_rng s
  have hp := pow_pos' (8 * s.size)
  unfold valW lenW
  rw [Int.pow_add]
  have m1 := Int.mul_nonneg p0 (Int.le_of_lt hp)
  have m2 := Int.mul_le_mul_of_nonneg_right (show p + 1 ≤ 2 ^ n.toNat by omega) (Int.le_of_lt hp)
  rw [Int.add_mul, Int.one_mul, Int.mul_comm (2 ^ n.toNat)] at m2
  omega
theorem put_val {s : ByteArray} {p n k v : Int} (h : PutN p n k v) : valW (wS s p n k v) (wP p n k v) = valW s p + v * 2 ^ lenW s n ∧ lenW (wS s p n k v) (wN n k) = lenW s n + k.toNat := by
  obtain ⟨x0, x1, x2⟩ := h.X
  obtain ⟨e, r0, r1⟩ := wM_eq h.n0 h.k0
  have n0 := h.n0
  have k0 := h.k0
  refine ⟨?_, by unfold lenW; rw [wS_size]; omega⟩
  unfold valW
  rw [wS_size]
  unfold wS wP
  rw [dgS_app, dgS_str (lowB_rng _ _), dgL_low]
  have e1 := Int.emod_add_mul_ediv (wX p n v) (256 ^ wM n k)
  have e2 : (2 : Int) ^ (8 * (s.size + wM n k)) = 2 ^ (8 * s.size) * 256 ^ wM n k := by rw [pow256, ← Int.pow_add]; congr 1; omega
  have e3 : wX p n v / 256 ^ wM n k * (2 ^ (8 * s.size) * 256 ^ wM n k) = 2 ^ (8 * s.size) * (256 ^ wM n k * (wX p n v / 256 ^ wM n k)) := by
    rw [Int.mul_comm, Int.mul_assoc]
  rw [e2, e3, Int.add_assoc, ← Int.mul_add, e1]
  unfold wX lenW
  rw [Int.mul_add, Int.mul_comm _ p, Int.mul_comm _ (v * 2 ^ n.toNat), Int.mul_assoc, ← Int.pow_add, Nat.add_comm n.toNat, Int.add_assoc]
theorem hi_eq {x : Int} {n : Nat} (h0 : 2 ^ n ≤ x) (h1 : x < 2 ^ (n + 1)) : hiI x = n := by
  have hp := pow_pos' n
  obtain ⟨k0, k1, k2⟩ := hi_bd (show 1 ≤ x by omega)
  have a := pow_lt_of (a := n) (b := (hiI x).toNat + 1) (by omega)
  have b := pow_lt_of (a := (hiI x).toNat) (b := n + 1) (by omega)
  omega
structure DoneV (s : ByteArray) (p n : Int) : Prop where
  nb : noB (dS s p n) = false
  bn : bkN (dS s p n) = (lenW s n : Nat)
  le : dgS (dS s p n) = valW s p + 2 ^ lenW s n
  sz : (dS s p n).size = s.size + 1
theorem done_val {s : ByteArray} {p n : Int} (n0 : 0 ≤ n) (n7 : n ≤ 7) (p0 : 0 ≤ p) (p1 : p < 2 ^ n.toNat) : DoneV s p n := by
  have h7 := nn7 n0 n7
  have hp := pow_pos' n.toNat
  have hb : byteR [p + 2 ^ n.toNat] := fun x hx => by
    rw [List.mem_singleton.1 hx]
    omega
  have hsz : (dS s p n).size = s.size + 1 := by
    unfold dS
    rw [app_size, strOfNums_size]
    rfl
  have hlast : lastB (dS s p n) = p + 2 ^ n.toNat := by
    have e := byI_dig (s := dS s p n) (i := s.size) (by omega)
    have e2 : dgS (dS s p n) = dgS s + 2 ^ (8 * s.size) * (p + 2 ^ n.toNat) := by
      unfold dS
      rw [dgS_app, dgS_str hb]
      show _ = dgS s + 2 ^ (8 * s.size) * (p + 2 ^ n.toNat)
      show dgS s + 2 ^ (8 * s.size) * (p + 2 ^ n.toNat + 256 * 0) = _
      rw [Int.mul_zero, Int.add_zero]
    have hs := dgS_rng s
    have hpp := pow_pos' (8 * s.size)
    rw [e2, pow256, Int.add_mul_ediv_left _ _ (by omega), Int.ediv_eq_zero_of_lt hs.1 hs.2, Int.zero_add, Int.emod_eq_of_lt (by omega) (by omega)] at e
    unfold lastB
    rw [hsz, Nat.add_sub_cancel]
    exact e
  have hnb : noB (dS s p n) = false := by
    unfold noB
    rw [hlast, hsz]
    have h1 : Nat.beq (s.size + 1) 0 = false := rfl
    have h2 : (p + 2 ^ n.toNat == 0) = false := beq_eq_false_iff_ne.2 (by omega)
    rw [h1, h2]
    rfl
  refine ⟨hnb, ?_, ?_, hsz⟩
  · unfold bkN
    rw [hnb, hlast, hsz, hi_eq (n := n.toNat) (by omega) (by rw [Int.pow_succ]; omega)]
    unfold lenW
    simp only [cond_false]
    omega
  · unfold dS valW lenW
    rw [dgS_app, dgS_str hb]
    show dgS s + 2 ^ (8 * s.size) * (p + 2 ^ n.toNat + 256 * 0) = _
    rw [Int.mul_zero, Int.add_zero, Int.mul_add, Int.pow_add, Int.mul_comm _ p]
    omega
end Go.Proofs.Ytbdgknebimdjoaa
namespace Go.Proofs.Ytbdgknebimdjoaa
open Go Go.RowKit
set_option linter.unusedVariables false
set_option linter.unusedSimpArgs false
set_option maxRecDepth 100000
theorem cellsF_nth (s : Int) : ∀ (a : List Int) (c : Int) (q : Nat), q < (cellsF s c a).length → ∃ i : Nat, i < a.length ∧ (cellsF s c a).getD q 0 = c + i ∧ a.getD i 0 = s ∧ (a.take i).count s = q
  | [], c, q, h => by simp [cellsF] at h
  | x :: r, c, q, h => by
    have e : cellsF s c (x :: r) = cond (x == s) (c :: cellsF s (c + 1) r) (cellsF s (c + 1) r) := rfl
    cases hx : x == s
    · rw [hx, cond_false] at e
      rw [e] at h ⊢
      obtain ⟨i, h1, h2, h3, h4⟩ := cellsF_nth s r (c + 1) q h
      refine ⟨i + 1, by simpa using h1, by rw [h2]; push_cast; omega, h3, ?_⟩
      rw [List.take_succ_cons, List.count_cons_of_ne (by simpa using hx), h4]
    · rw [hx, cond_true] at e
      rw [e] at h ⊢
      have hx : x = s := by simpa using hx
      cases q with
      | zero => exact ⟨0, by simp, by show c = c + ((0 : Nat) : Int); omega, hx, rfl⟩
      | succ q =>
        obtain ⟨i, h1, h2, h3, h4⟩ := cellsF_nth s r (c + 1) q (by simpa using h)
        refine ⟨i + 1, by simpa using h1, ?_, h3, ?_⟩
        · show (cellsF s (c + 1) r).getD q 0 = _
          rw [h2]; push_cast; omega
        · rw [List.take_succ_cons, hx, List.count_cons_self, h4]
theorem noD_rng {p : List Int} {s : Int} (hn : noD p s = false) : 0 ≤ s ∧ s < p.length := by
  refine ⟨?_, ?_⟩
  · rcases Int.lt_or_le s 0 with hs | hs
    · rw [noD_neg (decide_eq_true hs)] at hn; cases hn
    · exact hs
  · rcases Int.lt_or_le s p.length with hs | hs
    · exact hs
    · rw [noD_big (decide_eq_true hs)] at hn; cases hn
theorem celT_cells {g : Int} {p : List Int} (h : dchk g p = 0) {s : Int} (hn : noD p s = false) : celT (encL g p) s = cellsF s 0 (spr g p) := by
  obtain ⟨h0, h1⟩ := noD_rng hn
  obtain ⟨k, rfl⟩ := Int.eq_ofNat_of_zero_le h0
  have hk : k < p.length := by omega
  have hlen : (statesL p.length (spr g p)).length = p.length := by rw [← states_all, states_len]
  rw [(enc_good h).2, celT_in (by omega) (by rw [hlen]; exact h1), toNat_cast, ← states_all, states_get hk, cellsP_all]
  rfl
structure CellAt (g : Int) (p : List Int) (s : Int) (q : Nat) (i : Nat) : Prop where
  y : (celT (encL g p) s).getD q 0 = (i : Int)
  lt : i < (spr g p).length
  sym : (spr g p).getD i 0 = s
  num : celX p (spr g p) i = pt (p.getD s.toNat 0) + (q : Nat)
theorem cel_nth {g : Int} {p : List Int} (h : dchk g p = 0) {s : Int} (hn : noD p s = false) {q : Nat} (hq : q < (celT (encL g p) s).length) : ∃ i, CellAt g p s q i := by
  have e := celT_cells h hn
  rw [e] at hq
  obtain ⟨i, h1, h2, h3, h4⟩ := cellsF_nth s (spr g p) 0 q hq
  refine ⟨i, by rw [e, h2]; omega, h1, h3, ?_⟩
  unfold celX
  rw [h3, h4]
structure DecAt (g : Int) (p : List Int) (i : Nat) : Prop where
  s : cS (decL g p) (i : Int) = (spr g p).getD i 0
  b : cB (decL g p) (i : Int) = g - hiI (celX p (spr g p) i)
  a : cA (decL g p) (i : Int) = celX p (spr g p) i * 2 ^ (g - hiI (celX p (spr g p) i)).toNat - 2 ^ g.toNat
theorem dec_at {g : Int} {p : List Int} {i : Nat} (h : i < (spr g p).length) : DecAt g p i := by
  have e : (decL g p).getD (Int.toNat (i : Int)) [] = celR g p (spr g p) i := by rw [toNat_cast]; exact cel_get h
  refine ⟨?_, ?_, ?_⟩
  · unfold cS; rw [e]; rfl
  · unfold cB; rw [e]; rfl
  · unfold cA; rw [e]; rfl
theorem dec_first {g : Int} {p : List Int} (h : dchk g p = 0) {s : Int} (hn : noD p s = false) (hc : noC (encL g p) s = false) : cS (decL g p) ((celT (encL g p) s).getD 0 0) = s ∧ cB (decL g p) ((celT (encL g p) s).getD 0 0) = g - hiI (pt (p.getD s.toNat 0)) := by
  obtain ⟨i, hi⟩ := cel_nth h hn (q := 0) (by have := noC_ne hc; omega)
  have hd := dec_at hi.lt
  have e := hi.num
  rw [show ((0 : Nat) : Int) = 0 from rfl, Int.add_zero] at e
  rw [hi.y]
  exact ⟨by rw [hd.s, hi.sym], by rw [hd.b, e]⟩
theorem dec_put {g : Int} {p : List Int} (h : dchk g p = 0) {x s : Int} (hx0 : 0 ≤ x) (hx1 : x < (szN g : Int)) (hn : noD p s = false) (hc : noC (encL g p) s = false) :
    cS (decL g p) (putS g (encL g p) x s) = s ∧ cB (decL g p) (putS g (encL g p) x s) = putN g (encL g p) x s ∧ cA (decL g p) (putS g (encL g p) x s) + putV g (encL g p) x s = x := by
  have hT := enc_tok h
  have hst := stpN hT.g0 hT.g12 hx0 hx1 hc (hT.cel_le s)
  have hX := hi_X hT.g0 hx0 hx1
  have hpt := cel_pt h hn
  have n0 := hst.nb.n0
  have n1 := hst.nb.nle
  have lo := hst.nb.lo
  have hi := hst.nb.hi
  rw [hX] at n1
  have eN : nbI (putX g x) ((celT (encL g p) s).length : Int) = putN g (encL g p) x s := rfl
  rw [eN] at n0 n1 lo hi
  obtain ⟨i, hi2⟩ := cel_nth h hn (q := (putX g x / 2 ^ (putN g (encL g p) x s).toNat - ((celT (encL g p) s).length : Int)).toNat) (by omega)
  have eS : putS g (encL g p) x s = (i : Int) := hi2.y
  have hd := dec_at hi2.lt
  have eY : celX p (spr g p) i = putX g x / 2 ^ (putN g (encL g p) x s).toNat := by rw [hi2.num, ← hpt]; omega
  have hq := pow_pos' (putN g (encL g p) x s).toNat
  have hdm := Int.emod_add_mul_ediv (putX g x) (2 ^ (putN g (encL g p) x s).toNat)
  have hm0 := Int.emod_nonneg (putX g x) (show (2 : Int) ^ (putN g (encL g p) x s).toNat ≠ 0 by omega)
  have hm1 := Int.emod_lt_of_pos (putX g x) hq
  have g0 := hT.g0
  have hz := szI g
  have X1 := hst.X1
  have X2 := hst.X2
  have ep : (2 : Int) ^ (g - putN g (encL g p) x s).toNat * 2 ^ (putN g (encL g p) x s).toNat = 2 ^ g.toNat := by
    rw [← Int.pow_add]; congr 1; omega
  have hhi : hiI (putX g x / 2 ^ (putN g (encL g p) x s).toNat) = g - putN g (encL g p) x s := by
    have h1 : (2 : Int) ^ (g - putN g (encL g p) x s).toNat ≤ putX g x / 2 ^ (putN g (encL g p) x s).toNat := Int.le_ediv_of_mul_le hq (by omega)
    have h2 : putX g x / 2 ^ (putN g (encL g p) x s).toNat < 2 ^ ((g - putN g (encL g p) x s).toNat + 1) := by
      refine Int.ediv_lt_of_lt_mul hq ?_
      rw [Int.pow_succ, Int.mul_right_comm, ep]
      omega
    rw [hi_eq h1 h2]
    omega
  rw [eS]
  refine ⟨by rw [hd.s, hi2.sym], by rw [hd.b, eY, hhi]; omega, ?_⟩
  rw [hd.a, eY, hhi, show g - (g - putN g (encL g p) x s) = putN g (encL g p) x s by omega]
  show _ + putX g x % 2 ^ (putN g (encL g p) x s).toNat = x
  have hXx : putX g x = x + (szN g : Int) := rfl
  rw [Int.mul_comm] at hdm
  omega
end Go.Proofs.Ytbdgknebimdjoaa
namespace Go.Proofs.Ytbdgknebimdjoaa
open Go Go.RowKit
set_option linter.unusedVariables false
set_option linter.unusedSimpArgs false
set_option maxRecDepth 100000
def vk (g : Int) (t : List (List Int)) (l : List Int) (c k : Nat) : Int := valW (fwS g t l c k) (fwP g t l c k)
def tk (g : Int) (t : List (List Int)) (l : List Int) (c k : Nat) : Nat := lenW (fwS g t l c k) (fwN g t l c k)
theorem vk_rng {g : Int} {p l : List Int} {c : Nat} (h : AskOk g p l c) {k : Nat} (hk : k ≤ l.length) : 0 ≤ vk g (encL g p) l c k ∧ vk g (encL g p) l c k < 2 ^ tk g (encL g p) l c k := by
  have hb := fw_bd (c := c) h.T h.nc k hk
  exact valW_rng hb.p0 hb.p1
theorem fw_val {g : Int} {p l : List Int} {c : Nat} (h : AskOk g p l c) {k : Nat} (hc : c ≤ k) (hk : k < l.length) :
    vk g (encL g p) l c (k + 1) = vk g (encL g p) l c k + putV g (encL g p) ((fwX g (encL g p) l c k).getD (nthI l k % c) 0) (nthS l k) * 2 ^ tk g (encL g p) l c k ∧
    tk g (encL g p) l c (k + 1) = tk g (encL g p) l c k + (putN g (encL g p) ((fwX g (encL g p) l c k).getD (nthI l k % c) 0) (nthS l k)).toNat := by
  have hb := fw_bd (c := c) h.T h.nc k (by omega)
  have hs : noC (encL g p) (nthS l k) = false := any_get h.nc (by unfold nthI; omega)
  have hp := put_nums (s := nthS l k) h.T (hb.x0 (nthI l k % c)) (hb.x1 (nthI l k % c)) hs hb.n0 hb.n7 hb.p0 hb.p1
  have e := fw_put (g := g) (t := encL g p) (l := l) (c := c) (k := k) (by omega)
  have := put_val (s := fwS g (encL g p) l c k) hp
  unfold vk tk
  have eS : fwS g (encL g p) l c (k + 1) = _ := congrArg (fun r => r.2.1) e
  have eP : fwP g (encL g p) l c (k + 1) = _ := congrArg (fun r => r.2.2.1) e
  have eN : fwN g (encL g p) l c (k + 1) = _ := congrArg (fun r => r.2.2.2) e
  rw [eS, eP, eN]
  exact this
theorem fw_none (g : Int) (t : List (List Int)) (l : List Int) (c : Nat) : ∀ k, k ≤ c → tk g t l c k = 0
  | 0, _ => rfl
  | k + 1, h => by
    have e := fw_first (g := g) (t := t) (l := l) (c := c) (k := k) (by omega)
    have eS : fwS g t l c (k + 1) = fwS g t l c k := congrArg (fun r => r.2.1) e
    have eN : fwN g t l c (k + 1) = fwN g t l c k := congrArg (fun r => r.2.2.2) e
    have ih := fw_none g t l c k (by omega)
    unfold tk at ih ⊢
    rw [eS, eN]
    exact ih
structure StepB (g : Int) (p l : List Int) (c k : Nat) (S : ByteArray) (y : Int) : Prop where
  e : tkE S ((tk g (encL g p) l c (k + 1) : Nat) : Int) (cB (decL g p) y) = 0
  v : cA (decL g p) y + tkV S ((tk g (encL g p) l c (k + 1) : Nat) : Int) (cB (decL g p) y) = (fwX g (encL g p) l c k).getD (nthI l k % c) 0
  nl : nxL S ((tk g (encL g p) l c (k + 1) : Nat) : Int) (cB (decL g p) y) = ((tk g (encL g p) l c k : Nat) : Int)
  m : dgS S % 2 ^ tk g (encL g p) l c k = vk g (encL g p) l c k
  s : cS (decL g p) y = nthS l k
theorem step_back {g : Int} {p l : List Int} {c : Nat} (h : AskOk g p l c) {S : ByteArray} (hb : bkE S = 0) {k : Nat} (hc : c ≤ k) (hk : k < l.length) (hm : dgS S % 2 ^ tk g (encL g p) l c (k + 1) = vk g (encL g p) l c (k + 1)) (hle : ((tk g (encL g p) l c (k + 1) : Nat) : Int) ≤ bkN S) :
    StepB g p l c k S (putS g (encL g p) ((fwX g (encL g p) l c k).getD (nthI l k % c) 0) (nthS l k)) := by
  have hb2 := fw_bd (c := c) h.T h.nc k (by omega)
  have hx0 := hb2.x0 (nthI l k % c)
  have hx1 := hb2.x1 (nthI l k % c)
  have hs : noC (encL g p) (nthS l k) = false := any_get h.nc (by unfold nthI; omega)
  have hsD : noD p (nthS l k) = false := any_get h.no (by unfold nthI; omega)
  obtain ⟨d1, d2, d3⟩ := dec_put h.d hx0 hx1 hsD hs
  obtain ⟨v1, v2⟩ := fw_val h hc hk
  have hv := vk_rng (c := c) h (k := k) (by omega)
  have hpb := put_bd h.T hx0 hx1 hs
  have hp := put_nums (s := nthS l k) h.T hx0 hx1 hs hb2.n0 hb2.n7 hb2.p0 hb2.p1
  rw [v1] at hm
  have hle' := hle
  rw [v2] at hm hle'
  have ht := take_num (s := S) (T := tk g (encL g p) l c k) (n := (putN g (encL g p) ((fwX g (encL g p) l c k).getD (nthI l k % c) 0) (nthS l k)).toNat) hb hle' (by omega) hm hv.1 hv.2 hp.v0 hp.v1
  rw [← v2, show (((putN g (encL g p) ((fwX g (encL g p) l c k).getD (nthI l k % c) 0) (nthS l k)).toNat : Nat) : Int) = putN g (encL g p) ((fwX g (encL g p) l c k).getD (nthI l k % c) 0) (nthS l k) by omega] at ht
  obtain ⟨t1, t2, t3, t4⟩ := ht
  exact ⟨by rw [d2]; exact t1, by rw [d2, t2]; exact d3, by rw [d2]; exact t3, t4, d1⟩
structure Str1 (g : Int) (p l : List Int) (S : ByteArray) : Prop where
  e : bkE S = 0
  n : bkN S = ((tk g (encL g p) l 1 l.length + g.toNat : Nat) : Int)
  m : dgS S % 2 ^ (tk g (encL g p) l 1 l.length + g.toNat) = vk g (encL g p) l 1 l.length + (fwX g (encL g p) l 1 l.length).getD 0 0 * 2 ^ tk g (encL g p) l 1 l.length
theorem str1 {g : Int} {p l : List Int} (h : AskOk g p l 1) : Str1 g p l (wrtS g p l 1) := by
  have hf0 := ff_bd (c := 1) h.T h.nc 0
  have hf1 := ff_bd (c := 1) h.T h.nc 1
  have hp := ff_num h.T h.nc hf0.n0 hf0.n7 hf0.p0 hf0.p1 0
  have hd := done_val (s := ffS g (encL g p) l 1 1) hf1.n0 hf1.n7 hf1.p0 hf1.p1
  have hw : wrtS g p l 1 = dS (ffS g (encL g p) l 1 1) (ffP g (encL g p) l 1 1) (ffN g (encL g p) l 1 1) := (wrt_good (c := 1) (ask_of h)).symm
  obtain ⟨v1, v2⟩ := put_val (s := ffS g (encL g p) l 1 0) hp
  have hv : valW (ffS g (encL g p) l 1 1) (ffP g (encL g p) l 1 1) = vk g (encL g p) l 1 l.length + (fwX g (encL g p) l 1 l.length).getD 0 0 * 2 ^ tk g (encL g p) l 1 l.length := v1
  have hl : lenW (ffS g (encL g p) l 1 1) (ffN g (encL g p) l 1 1) = tk g (encL g p) l 1 l.length + g.toNat := v2
  have hr := valW_rng (s := ffS g (encL g p) l 1 1) hf1.p0 hf1.p1
  have hs := hf1.size
  have hi := h.hi
  rw [hl, hv] at hr
  have hnb := hd.nb
  have hsz := hd.sz
  have hbn := hd.bn
  have hle := hd.le
  rw [hl] at hbn hle
  rw [hv] at hle
  rw [← hw] at hnb hsz hbn hle
  refine ⟨?_, hbn, ?_⟩
  · unfold bkE
    rw [decide_eq_false (by omega), hnb]
    rfl
  · rw [hle]
    have e : (vk g (encL g p) l 1 l.length + (fwX g (encL g p) l 1 l.length).getD 0 0 * 2 ^ tk g (encL g p) l 1 l.length + 2 ^ (tk g (encL g p) l 1 l.length + g.toNat)) = (vk g (encL g p) l 1 l.length + (fwX g (encL g p) l 1 l.length).getD 0 0 * 2 ^ tk g (encL g p) l 1 l.length) + 2 ^ (tk g (encL g p) l 1 l.length + g.toNat) * 1 := by omega
    rw [e, Int.add_mul_emod_self_left, Int.emod_eq_of_lt hr.1 hr.2]
structure Rd1 (g : Int) (p l : List Int) (S : ByteArray) (i : Nat) : Prop where
  x : rX S (bkN S) g (decL g p) i = (fwX g (encL g p) l 1 (l.length - i)).getD 0 0
  nl : rL S (bkN S) g (decL g p) i = ((tk g (encL g p) l 1 (l.length - i) : Nat) : Int)
  o : rO S (bkN S) g (decL g p) i = true
  m : dgS S % 2 ^ tk g (encL g p) l 1 (l.length - i) = vk g (encL g p) l 1 (l.length - i)
  b : ((tk g (encL g p) l 1 (l.length - i) : Nat) : Int) ≤ bkN S
theorem put_at1 {g : Int} {p l : List Int} (h : AskOk g p l 1) {k : Nat} (hc : 1 ≤ k) (hk : k < l.length) : (fwX g (encL g p) l 1 (k + 1)).getD 0 0 = putS g (encL g p) ((fwX g (encL g p) l 1 k).getD (nthI l k % 1) 0) (nthS l k) := by
  have e := fw_put (g := g) (t := encL g p) (l := l) (c := 1) (k := k) (by omega)
  have hb := fw_bd (c := 1) h.T h.nc k (by omega)
  rw [Nat.mod_one] at e ⊢
  have eX : fwX g (encL g p) l 1 (k + 1) = _ := congrArg Prod.fst e
  have hl := hb.len
  rw [eX, getD_set0 (by omega)]
theorem rd1 {g : Int} {p l : List Int} (h : AskOk g p l 1) : ∀ i, i < l.length → Rd1 g p l (wrtS g p l 1) i
  | 0, hi => by
    have hs := str1 h
    have hT := h.T
    have g0 := hT.g0
    have g12 := hT.g12
    have hv := vk_rng (c := 1) h (k := l.length) (Nat.le_refl _)
    have hb := fw_bd (c := 1) hT h.nc l.length (Nat.le_refl _)
    have hx1 := hb.x1 0
    rw [szI] at hx1
    have ht := take_num (s := wrtS g p l 1) (T := tk g (encL g p) l 1 l.length) (n := g.toNat) hs.e (by rw [hs.n]; exact Int.le_refl _) (by omega) hs.m hv.1 hv.2 (hb.x0 0) hx1
    rw [← hs.n, show ((g.toNat : Nat) : Int) = g by omega] at ht
    obtain ⟨t1, t2, t3, t4⟩ := ht
    refine ⟨t2, t3, ?_, t4, ?_⟩
    · show tkO _ _ _ = true
      unfold tkO
      exact beq0 t1
    · have := hs.n
      rw [Nat.sub_zero]
      omega
  | i + 1, hi => by
    have ih := rd1 h i (by omega)
    have hs := str1 h
    obtain ⟨k, hk⟩ : ∃ k, l.length - (i + 1) = k := ⟨_, rfl⟩
    have hk1 : l.length - i = k + 1 := by omega
    have i1 := ih.x; have i2 := ih.nl; have i4 := ih.m; have i5 := ih.b
    rw [hk1] at i1 i2 i4 i5
    have hb := step_back h hs.e (k := k) (by omega) (by omega) i4 i5
    rw [← put_at1 h (by omega) (by omega), ← i1] at hb
    have s1 := hb.e; have s2 := hb.v; have s3 := hb.nl; have s4 := hb.m
    rw [← i2] at s1 s2 s3
    rw [Nat.mod_one] at s2
    have f := fw_val h (c := 1) (k := k) (by omega) (by omega)
    refine ⟨?_, ?_, ?_, ?_, ?_⟩
    · rw [hk]; exact s2
    · rw [hk]; exact s3
    · show tkO _ _ _ = true
      unfold tkO
      exact beq0 s1
    · rw [hk]; exact s4
    · rw [hk]; have := f.2; omega
theorem sym1 {g : Int} {p l : List Int} (h : AskOk g p l 1) {i : Nat} (hi : i < l.length) : cS (decL g p) (rX (wrtS g p l 1) (bkN (wrtS g p l 1)) g (decL g p) i) = l.getD i 0 := by
  have hr := rd1 h i hi
  rw [hr.x]
  by_cases hl : i + 1 = l.length
  · have e1 : l.length - i = 0 + 1 := by omega
    have e := fw_first (g := g) (t := encL g p) (l := l) (c := 1) (k := 0) (by omega)
    have hx := (fw_bd (c := 1) h.T h.nc 0 (by omega)).len
    have eX : fwX g (encL g p) l 1 (0 + 1) = (fwX g (encL g p) l 1 0).set (nthI l 0 % 1) ((celT (encL g p) (nthS l 0)).getD 0 0) := congrArg Prod.fst e
    rw [Nat.mod_one] at eX
    rw [e1, eX, getD_set0 (by omega), (dec_first h.d (s := nthS l 0) (any_get h.no (by unfold nthI; omega)) (any_get h.nc (by unfold nthI; omega))).1]
    unfold nthS
    congr 1
    unfold nthI
    omega
  · obtain ⟨k, hk⟩ : ∃ k, l.length - i = k + 1 := ⟨l.length - i - 1, by omega⟩
    have r4 := hr.m; have r5 := hr.b
    rw [hk] at r4 r5
    have hb := step_back h (str1 h).e (k := k) (by omega) (by omega) r4 r5
    rw [hk, put_at1 h (by omega) (by omega), hb.s]
    unfold nthS
    congr 1
    unfold nthI
    omega
theorem gd_all {ok : Nat → Bool} {n : Nat} (h : ∀ k, k < n → ok k = true) : gdN ok n = n := by
  rcases Nat.lt_or_ge (gdN ok n) n with h1 | h1
  · have := gd_stop ok n h1
    rw [h _ h1] at this
    cases this
  · have := gd_le ok n
    omega
theorem map_getD {l : List Int} {n : Nat} (hn : l.length = n) {f : Nat → Int} (h : ∀ i, i < n → f i = l.getD i 0) : (List.range n).map f = l := by
  refine List.ext_getElem? fun i => ?_
  rw [List.getElem?_map]
  by_cases hi : i < n
  · rw [List.getElem?_range hi, List.getElem?_eq_getElem (by omega)]
    have := h i hi
    rw [List.getD_eq_getElem?_getD, List.getElem?_eq_getElem (by omega)] at this
    simp only [Option.map_some, Option.getD_some] at this ⊢
    rw [this]
  · rw [List.getElem?_eq_none (by simpa using hi), List.getElem?_eq_none (by omega)]
    rfl
theorem rG1 {g : Int} {p l : List Int} (h : AskOk g p l 1) : rG (wrtS g p l 1) (bkN (wrtS g p l 1)) g (decL g p) l.length = l.length := gd_all fun k hk => (rd1 h k hk).o
theorem left1 {g : Int} {p l : List Int} (h : AskOk g p l 1) : rL (wrtS g p l 1) (bkN (wrtS g p l 1)) g (decL g p) (l.length - 1) = 0 := by
  have hlo := h.lo
  rw [(rd1 h (l.length - 1) (by omega)).nl, show l.length - (l.length - 1) = 1 by omega, fw_none _ _ _ _ 1 (Nat.le_refl _)]
  rfl
theorem read_back1 {g : Int} {p l : List Int} (h : AskOk g p l 1) : rdE g p (wrtS g p l 1) (l.length : Int) = 0 ∧ rdO g p (wrtS g p l 1) (l.length : Int) = l := by
  have hlo := h.lo
  have hhi := h.hi
  have e := rd_end (s := wrtS g p l 1) (n := (l.length : Int)) (l := 0) h.d (by omega) (by omega) (str1 h).e (by rw [toNat_cast]; exact rG1 h) (by rw [toNat_cast]; exact (left1 h).symm)
  obtain ⟨e1, e2⟩ := e.2 rfl
  refine ⟨e2.symm, ?_⟩
  rw [← e1, toNat_cast]
  exact map_getD rfl fun i hi => sym1 h hi
structure Shift (b : Int) (S S' : ByteArray) : Prop where
  s : S' = strOfNums [b] ++ S
  b0 : 0 ≤ b
  b1 : b < 256
  e : bkE S = 0
  e' : bkE S' = 0
theorem Shift.sz {b : Int} {S S' : ByteArray} (h : Shift b S S') : S'.size = S.size + 1 := by
  rw [h.s, app_size, strOfNums_size, List.length_singleton]
  omega
theorem shift_le {b : Int} (h0 : 0 ≤ b) (h1 : b < 256) (S : ByteArray) : dgS (strOfNums [b] ++ S) = b + 256 * dgS S := by
  have hb : byteR [b] := fun x hx => by rw [List.mem_singleton.1 hx]; exact ⟨h0, h1⟩
  have hsz : (strOfNums [b]).size = 1 := by rw [strOfNums_size]; rfl
  rw [dgS_app, dgS_str hb, hsz]
  show b + 256 * 0 + 2 ^ (8 * 1) * dgS S = _
  rw [show (2 : Int) ^ (8 * 1) = 256 from rfl, Int.mul_zero, Int.add_zero]
theorem shift_last {b : Int} (h0 : 0 ≤ b) (h1 : b < 256) {S : ByteArray} (hS : 0 < S.size) : lastB (strOfNums [b] ++ S) = lastB S := by
  have hsz : (strOfNums [b] ++ S).size = S.size + 1 := by rw [app_size, strOfNums_size, List.length_singleton]; omega
  have e1 := byI_dig (s := strOfNums [b] ++ S) (i := S.size) (by omega)
  have e2 := byI_dig (s := S) (i := S.size - 1) (by omega)
  have l1 : lastB (strOfNums [b] ++ S) = byI (strOfNums [b] ++ S) S.size := by unfold lastB byI; rw [hsz, Nat.add_sub_cancel]
  have l2 : lastB S = byI S (S.size - 1) := rfl
  rw [l1, l2, e1, e2, shift_le h0 h1]
  obtain ⟨n, hn⟩ : ∃ n, S.size = n + 1 := ⟨S.size - 1, by omega⟩
  rw [hn, Nat.add_sub_cancel, Int.pow_succ, Int.mul_comm (256 ^ n) 256, ← Int.ediv_ediv_of_nonneg (by decide)]
  congr 2
  omega
theorem Shift.N {b : Int} {S S' : ByteArray} (h : Shift b S S') : bkN S' = bkN S + 8 := by
  obtain ⟨k1, _⟩ := bkE_0 h.e
  obtain ⟨k2, _⟩ := bkE_0 h.e'
  have hz := (noB_size k1).1
  have hl := shift_last h.b0 h.b1 hz
  rw [← h.s] at hl
  unfold bkN
  rw [k1, k2, hl, h.sz]
  simp only [cond_false]
  omega
theorem Shift.pk {b : Int} {S S' : ByteArray} (h : Shift b S S') {left n : Nat} (hl : left ≤ 8 * S.size) (hn : n ≤ left) : pkF S' ((left + 8 : Nat) : Int) n = pkF S (left : Int) n := by
  rw [pk_le (by have := h.sz; omega) n (by omega), pk_le hl n hn, h.s, shift_le h.b0 h.b1, show left + 8 - n = 8 + (left - n) by omega, Int.pow_add, show (2 : Int) ^ 8 = 256 from rfl, ← Int.ediv_ediv_of_nonneg (by decide)]
  congr 2
  have := h.b0; have := h.b1
  omega
theorem Shift.tk {b : Int} {S S' : ByteArray} (h : Shift b S S') {left n : Int} (hl0 : 0 ≤ left) (hl : left ≤ bkN S) (h0 : tkE S left n = 0) : tkE S' (left + 8) n = 0 ∧ tkV S' (left + 8) n = tkV S left n ∧ nxL S' (left + 8) n = nxL S left n + 8 := by
  obtain ⟨k1, _⟩ := bkE_0 h.e
  have hr := (bkN_rng k1).2.1
  obtain ⟨e1, e2⟩ := tk_0 h0
  have hk := pk_ok0 e1
  have n0 := hk.n0
  have h2 := (tk_iff h.e' (l := left + 8) (n := n) (by omega) (by rw [h.N]; omega) n0 hk.n1).1 (by omega)
  obtain ⟨_, _, v3, _, v5⟩ := tk_vals h0
  obtain ⟨_, _, w3, _, w5⟩ := tk_vals h2
  refine ⟨h2, ?_, by rw [v5, w5]; omega⟩
  rw [← v3, ← w3]
  obtain ⟨a, rfl⟩ := Int.eq_ofNat_of_zero_le hl0
  exact h.pk (left := a) (n := n.toNat) (by omega) (by omega)
theorem Shift.rd {b : Int} {S S' : ByteArray} (h : Shift b S S') {g : Int} {c : List (List Int)} : ∀ i, (∀ k, k ≤ i → rO S (bkN S) g c k = true) → rX S' (bkN S') g c i = rX S (bkN S) g c i ∧ rL S' (bkN S') g c i = rL S (bkN S) g c i + 8 ∧ rO S' (bkN S') g c i = true ∧ 0 ≤ rL S (bkN S) g c i ∧ rL S (bkN S) g c i ≤ bkN S
  | 0, ho => by
    obtain ⟨k1, _⟩ := bkE_0 h.e
    have hr := bkN_rng k1
    have h0 : tkE S (bkN S) g = 0 := by
      have := ho 0 (Nat.le_refl _)
      change tkO S (bkN S) g = true at this
      unfold tkO at this
      simpa using this
    obtain ⟨t1, t2, t3⟩ := h.tk hr.2.2 (Int.le_refl _) h0
    rw [← h.N] at t1 t2 t3
    have := nx_rng (s := S) (l := bkN S) (n := g) hr.2.2 (Int.le_refl _)
    exact ⟨t2, t3, by show tkO _ _ _ = true; unfold tkO; exact beq0 t1, this.1, this.2⟩
  | i + 1, ho => by
    obtain ⟨i1, i2, i3, i4, i5⟩ := h.rd i fun k hk => ho k (by omega)
    have h0 : tkE S (rL S (bkN S) g c i) (cB c (rX S (bkN S) g c i)) = 0 := by
      have := ho (i + 1) (Nat.le_refl _)
      change tkO S (rL S (bkN S) g c i) (cB c (rX S (bkN S) g c i)) = true at this
      unfold tkO at this
      simpa using this
    obtain ⟨t1, t2, t3⟩ := h.tk i4 i5 h0
    rw [← i2, ← i1] at t1 t2 t3
    have hn := nx_rng (s := S) (l := rL S (bkN S) g c i) (n := cB c (rX S (bkN S) g c i)) i4 i5
    refine ⟨?_, ?_, ?_, hn.1, hn.2⟩
    · show cA c (rX S' (bkN S') g c i) + tkV S' (rL S' (bkN S') g c i) (cB c (rX S' (bkN S') g c i)) = cA c (rX S (bkN S) g c i) + tkV S (rL S (bkN S) g c i) (cB c (rX S (bkN S) g c i))
      rw [t2, i1]
    · show nxL S' (rL S' (bkN S') g c i) (cB c (rX S' (bkN S') g c i)) = nxL S (rL S (bkN S) g c i) (cB c (rX S (bkN S) g c i)) + 8
      rw [t3, i1]
    · show tkO _ _ _ = true
      unfold tkO
      exact beq0 t1
theorem rd_more {g : Int} {p l : List Int} (h : AskOk g p l 1) {b : Int} (b0 : 0 ≤ b) (b1 : b < 256) (hs : (wrtS g p l 1).size ≤ 1000000) : rdE g p (strOfNums [b] ++ wrtS g p l 1) (l.length : Int) = 22 := by
  have hlo := h.lo
  have hhi := h.hi
  have hst := str1 h
  obtain ⟨k1, _⟩ := bkE_0 hst.e
  have hz := noB_size k1
  have hsz : (strOfNums [b] ++ wrtS g p l 1).size = (wrtS g p l 1).size + 1 := by rw [app_size, strOfNums_size, List.length_singleton]; omega
  have he' : bkE (strOfNums [b] ++ wrtS g p l 1) = 0 := by
    unfold bkE noB
    rw [shift_last b0 b1 hz.1, hsz, decide_eq_false (by omega)]
    have h1 : Nat.beq ((wrtS g p l 1).size + 1) 0 = false := rfl
    have h2 : (lastB (wrtS g p l 1) == 0) = false := beq_eq_false_iff_ne.2 hz.2
    rw [h1, h2]
    rfl
  have hS : Shift b (wrtS g p l 1) (strOfNums [b] ++ wrtS g p l 1) := ⟨rfl, b0, b1, hst.e, he'⟩
  have hall : ∀ k, k < l.length → _ := fun k hk => hS.rd (g := g) (c := decL g p) k fun j hj => (rd1 h j (by omega)).o
  have hG : rG (strOfNums [b] ++ wrtS g p l 1) (bkN (strOfNums [b] ++ wrtS g p l 1)) g (decL g p) (l.length : Int).toNat = (l.length : Int).toNat := by
    rw [toNat_cast]
    exact gd_all fun k hk => (hall k hk).2.2.1
  have hL := (hall (l.length - 1) (by omega)).2.1
  rw [left1 h] at hL
  have e := rd_end (s := strOfNums [b] ++ wrtS g p l 1) (n := (l.length : Int)) (l := 8) h.d (by omega) (by omega) he' hG (by rw [toNat_cast, hL]; rfl)
  exact (e.1 rfl).2.symm
theorem rd_less {g : Int} {p l : List Int} (h : AskOk g p l 1) {b : Int} {S : ByteArray} (b0 : 0 ≤ b) (b1 : b < 256) (hs : wrtS g p l 1 = strOfNums [b] ++ S) : rdE g p S (l.length : Int) = 22 := by
  have hlo := h.lo
  have hhi := h.hi
  have hst := str1 h
  obtain ⟨k1, k2, _⟩ := bkE_0 hst.e
  have hsz : (wrtS g p l 1).size = S.size + 1 := by rw [hs, app_size, strOfNums_size, List.length_singleton]; omega
  by_cases h0 : S.size = 0
  · have hb : bkE S = 22 := by
      unfold bkE noB
      rw [decide_eq_false (by omega), h0]
      rfl
    rw [rdE_3 h.d (by omega) (by omega) (by rw [hb]; rfl), hb]
  · have hl := shift_last b0 b1 (S := S) (by omega)
    rw [← hs] at hl
    have hz := noB_size k1
    have he : bkE S = 0 := by
      unfold bkE noB
      rw [← hl, decide_eq_false (by omega)]
      have h1 : Nat.beq S.size 0 = false := by
        cases hb : Nat.beq S.size 0
        · rfl
        · exact absurd (Nat.eq_of_beq_eq_true hb) h0
      have h2 : (lastB (wrtS g p l 1) == 0) = false := beq_eq_false_iff_ne.2 hz.2
      rw [h1, h2]
      rfl
    have hS : Shift b S (wrtS g p l 1) := ⟨hs, b0, b1, he, hst.e⟩
    have hG : rG S (bkN S) g (decL g p) l.length < l.length := by
      rcases Nat.lt_or_ge (rG S (bkN S) g (decL g p) l.length) l.length with h1 | h1
      · exact h1
      · have hle : rG S (bkN S) g (decL g p) l.length ≤ l.length := gd_le _ _
        have hall : ∀ k, k < l.length → rO S (bkN S) g (decL g p) k = true := fun k hk => gd_in _ l.length k (by unfold rG at h1 hle; omega)
        have := hS.rd (g := g) (c := decL g p) (l.length - 1) fun k hk => hall k (by omega)
        rw [left1 h] at this
        omega
    rw [rdE_4 h.d (by omega) (by omega) he, toNat_cast, rdB_cut hG]
    rfl
end Go.Proofs.Ytbdgknebimdjoaa
namespace Go.Proofs.Ytbdgknebimdjoaa
open Go Go.RowKit
set_option linter.unusedVariables false
set_option linter.unusedSimpArgs false
set_option maxRecDepth 100000
theorem wrt_sz {g : Int} {p l : List Int} {c : Nat} (h : AskOk g p l c) : (wrtS g p l c).size ≤ 2 * l.length + 3 * c + 1 := by
  have hf := ff_bd (c := c) h.T h.nc c
  have hs := hf.size
  have hd := done_val (s := ffS g (encL g p) l c c) hf.n0 hf.n7 hf.p0 hf.p1
  have hw : wrtS g p l c = dS (ffS g (encL g p) l c c) (ffP g (encL g p) l c c) (ffN g (encL g p) l c c) := (wrt_good (ask_of h)).symm
  have := hd.sz
  rw [hw]
  omega
theorem any_take {f : Int → Bool} {l : List Int} (h : l.any f = false) (m : Nat) : (l.take m).any f = false := by
  rw [List.any_eq_false] at h ⊢
  exact fun x hx => h x (List.mem_of_mem_take hx)
theorem askA {y : YD} (h : okZ y) (hm : 0 < zM y) : AskOk (zG y) (zP y) (zA y) 1 ∧ (zA y).length = zM y := by
  have e : (zA y).length = zM y := by
    unfold zA zM
    rw [List.length_take]
    omega
  have hl : (zU y).length ≤ 200 := h.1.2.2
  have : zM y ≤ (zU y).length := by unfold zM; omega
  exact ⟨⟨h.1.1, by omega, by omega, any_take h.1.2.1 _⟩, e⟩
theorem askB {y : YD} (h : okZ y) (hm : 0 < zM y) : AskOk (zG y) (zP y) (zB y) 1 ∧ (zB y).length = zM y := by
  have e : (zB y).length = zM y := by
    unfold zB zM
    rw [List.length_take]
    omega
  have hl : (zV y).length ≤ 200 := h.2.2.2
  have : zM y ≤ (zV y).length := by unfold zM; omega
  exact ⟨⟨h.2.1, by omega, by omega, any_take h.2.2.1 _⟩, e⟩
theorem take0 (l : List Int) (m : Nat) : List.take (Int.toNat (m : Int) - Int.toNat (0 : Int)) (List.drop (Int.toNat (0 : Int)) l) = l.take m := by simp
theorem str_split {S : ByteArray} (h : 0 < S.size) : S = strOfNums [byI S 0] ++ S.extract 1 S.size := by
  have hb := byI_rng S 0
  have hd : (strOfNums [byI S 0]).data.toList = S.data.toList.take 1 := by
    rw [str_data]
    unfold byI
    cases hl : S.data.toList with
    | nil =>
      have : S.data.toList.length = 0 := by rw [hl]; rfl
      have h2 : S.data.toList.length = S.size := rfl
      omega
    | cons x r =>
      show [UInt8.ofNat ((x.toNat : Int)).toNat] = [x]
      rw [toNat_cast, UInt8.ofNat_toNat]
  refine bytes_eq ?_
  rw [toList_data, toList_data, ByteArray.data_append, Array.toList_append, hd, ByteArray.data_extract, Array.toList_extract]
  have h2 : S.data.toList.length = S.size := rfl
  have h3 : S.data.toList.extract 1 S.size = S.data.toList.drop 1 := by
    rw [List.extract_eq_take_drop]
    exact List.take_of_length_le (by rw [List.length_drop]; omega)
  rw [h3, List.take_append_drop]
theorem lwAp_v (l s k : List Int) (b : Int) (hl : l.all inW = true) (hs : s.all inW = true) (hk2 : k.all inW = true) (hb0 : 0 ≤ b) (hb1 : b < 256) : lwAp_t l s k b := by
  unfold lwAp_t
  have hk := kd_ok l
  have hy := sym_no (kdP l) s
  have hz := sym_no (kdP l) k
  simp only [take0]
  refine ⟨hl, hs, by omega, hk2, by omega, ⟨(kdG l, kdP l, symL (kdP l) s, symL (kdP l) k), ⟨⟨hk.1, hy.1, hy.2⟩, ⟨hk.1, hz.1, hz.2⟩⟩, (by first | rfl | trivial), (by first | rfl | trivial), (by first | rfl | trivial), ?_, (by first | rfl | trivial), (by first | rfl | trivial)⟩, fun y hok => ⟨fun _ => (by first | rfl | trivial), fun hne => ?_⟩⟩
  · show min ((symL (kdP l) s).length : Int) ((symL (kdP l) k).length : Int) = ((min (symL (kdP l) s).length (symL (kdP l) k).length : Nat) : Int)
    omega
  have hok : okZ y := hok
  have hpos : 0 < zM y := by
    simp only [beq_eq_false_iff_ne, ne_eq] at hne
    omega
  obtain ⟨hA, lA⟩ := askA hok hpos
  obtain ⟨hB, lB⟩ := askB hok hpos
  have hD := dchk0 hok.1.1
  have hpl : (zP y).length ≤ 256 := hD.n2
  have hu : (zU y).length ≤ 200 := hok.1.2.2
  have hv : (zV y).length ≤ 200 := hok.2.2.2
  have mu : zM y ≤ (zU y).length := by unfold zM; omega
  have mv : zM y ≤ (zV y).length := by unfold zM; omega
  have eA : (zU y).take (zM y) = zA y := rfl
  have eB : (zV y).take (zM y) = zB y := rfl
  have aE : apE y = 0 := ask_of hA
  have aF : apF y = 0 := ask_of hB
  have sA := wrt_sz hA
  have rA := read_back1 hA
  have rB := read_back1 hB
  have hzA : (apS y).size ≤ 500 := by show (wrtS (zG y) (zP y) (zA y) 1).size ≤ 500; omega
  have st := str1 hA
  have hS0 : 0 < (apS y).size := (noB_size (bkE_0 st.e).1).1
  have same : ((apS y).toList == (apT y).toList) = eqI (zA y) (zB y) := by
    by_cases h : zA y = zB y
    · have hST : apS y = apT y := by unfold apS apT; rw [h]
      rw [hST, h, eqI_refl]
      simp
    · have h2 : eqI (zA y) (zB y) = false := by unfold eqI; simpa using h
      rw [h2]
      refine beq_eq_false_iff_ne.2 fun he => h ?_
      have hST : apS y = apT y := bytes_eq he
      have r1 := rA.2
      have r2 := rB.2
      rw [lA] at r1
      rw [lB] at r2
      have hST : wrtS (zG y) (zP y) (zA y) 1 = wrtS (zG y) (zP y) (zB y) 1 := hST
      rw [hST] at r1
      rw [← r1]
      exact r2
  have hm : rdE (zG y) (zP y) (strOfNums [b] ++ apS y) (zM y : Int) = 22 := by
    have := rd_more hA hb0 hb1 (by omega)
    rw [lA] at this
    exact this
  have hls : rdE (zG y) (zP y) ((apS y).extract 1 (apS y).size) (zM y : Int) = 22 := by
    have hb := byI_rng (apS y) 0
    have := rd_less hA hb.1 hb.2 (S := (apS y).extract 1 (apS y).size) (str_split hS0)
    rw [lA] at this
    exact this
  have hex : ((apS y).extract 1 (apS y).size).size ≤ 500 := by
    rw [ByteArray.size_extract]
    omega
  have hone : (strOfNums [b]).size = 1 := by rw [strOfNums_size]; rfl
  have hap : (strOfNums [b] ++ apS y).size = 1 + (apS y).size := by rw [app_size, hone]
  refine ⟨Int.le_refl _, by omega, by omega, by omega, by rw [eA]; omega, y, ⟨Int.le_refl _, by omega, by omega, by omega, by rw [eB]; omega, (), ⟨hok, hpos⟩, (by first | rfl | trivial), (by first | rfl | trivial), (by first | rfl | trivial), (by first | rfl | trivial), (by first | rfl | trivial), (by first | rfl | trivial), (by first | rfl | trivial), (by first | rfl | trivial), (by first | rfl | trivial), (by first | rfl | trivial)⟩, fun _ _ => ⟨y, ⟨fun h => ?_, fun _ => ⟨fun h => ?_, fun _ => ⟨Int.le_refl _, by omega, by omega, Int.le_refl _, by omega, by omega, by rw [eA]; omega, fun h => ?_, fun _ => ⟨fun h => ?_, fun _ => ⟨(), ⟨hok, hpos⟩, (by first | rfl | trivial), (by first | rfl | trivial), (by first | rfl | trivial), (by first | rfl | trivial), (by first | rfl | trivial)⟩⟩⟩⟩⟩, fun _ _ => ?_⟩⟩
  · rw [aE] at h; cases h
  · rw [aF] at h; cases h
  · rw [eA, eB, same] at h
    simp at h
  · simp only [beq_iff_eq] at h
    omega
  · have h1 : Int.toNat (1 : Int) = 1 := rfl
    rw [h1, toNat_cast, hm, hls]
    exact ⟨by omega, by omega, by omega, by omega, by omega, Int.le_refl _, by omega, by omega, fun _ => ⟨fun _ => (by first | rfl | trivial), fun h => absurd h (by decide)⟩, fun h => absurd h (by decide)⟩
theorem fapart_any (A : Option Addr) (n cap : Nat) (zs : List Int) (A2 : Option Addr) (n2 cap2 : Nat) (ys : List Int) (A3 : Option Addr) (n3 cap3 : Nat) (xs : List Int) (b : Int) (W : World) (hI : IntsIn W A n cap zs) (hI2 : IntsIn W A2 n2 cap2 ys) (hI3 : IntsIn W A3 n3 cap3 xs) (hb : 0 ≤ b ∧ b ≤ 255) :
    Calls Try.prog 11 #[.slice A n cap, .slice A2 n2 cap2, .slice A3 n3 cap3, .int .u8 b] W fun e w' => e = .returned (.bool true) ∧ Below W.heap.size W w' := by
  refine law_true (us := [.slice A n cap, .slice A2 n2 cap2, .slice A3 n3 cap3, .int .u8 b]) (satG GHg_ok mixed Try.func11 (lwAp_e (zs.take n) (ys.take n2) (xs.take n3) b) (lwAp_v _ _ _ _ (ints_inW hI) (ints_inW hI2) (ints_inW hI3) hb.1 (by omega))) (.inr rfl) ?_
  simp only [Reps]
  exact ⟨_, _, rfl, dat_ints hI, _, _, rfl, dat_ints hI2, _, _, rfl, dat_ints hI3, _, _, rfl, rfl, rfl⟩
end Go.Proofs.Ytbdgknebimdjoaa

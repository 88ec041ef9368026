/-
  Texts joined: UNt, UO, UP, UQ, US, UR, URt, UT. Conditions: each theorem's own.
-/
import Derived.Test.YtmdbliacaeokaaaK5
import Derived.Test.YtmdbliacaeokaaaK3
namespace Go.Proofs.Ytmdbliacaeokaaa
open Go Go.RowKit
set_option linter.unusedVariables false
set_option maxRecDepth 100000
def shownN_t  : Prop :=
 (0 : Int) ≤ (100 : Int) ∧
 (100 : Int) ≤ (100 : Int) ∧
 (↑((8 : Nat)) : Int) * (100 : Int) ≤ (281474976710656 : Int) ∧
 (100 : Int) ≤ (9223372036854775807 : Int) ∧
 (0 : Int) ≤ (97 : Int) ∧
 (97 : Int) < (↑(List.length (List.replicate (Int.toNat (100 : Int)) (0 : Int))) : Int) ∧
 Int.toNat (97 : Int) < List.length (List.replicate (Int.toNat (100 : Int)) (0 : Int)) ∧
 (0 : Int) ≤ (98 : Int) ∧
 (98 : Int) < (↑(List.length (List.set (List.replicate (Int.toNat (100 : Int)) (0 : Int)) (Int.toNat (97 : Int)) (1 : Int))) : Int) ∧
 Int.toNat (98 : Int) < List.length (List.set (List.replicate (Int.toNat (100 : Int)) (0 : Int)) (Int.toNat (97 : Int)) (1 : Int)) ∧
 (0 : Int) ≤ (99 : Int) ∧
 (99 : Int) < (↑(List.length (List.set (List.set (List.replicate (Int.toNat (100 : Int)) (0 : Int)) (Int.toNat (97 : Int)) (1 : Int)) (Int.toNat (98 : Int)) (2 : Int))) : Int) ∧
 Int.toNat (99 : Int) < List.length (List.set (List.set (List.replicate (Int.toNat (100 : Int)) (0 : Int)) (Int.toNat (97 : Int)) (1 : Int)) (Int.toNat (98 : Int)) (2 : Int)) ∧
 List.set (List.set (List.set (List.replicate (Int.toNat (100 : Int)) (0 : Int)) (Int.toNat (97 : Int)) (1 : Int)) (Int.toNat (98 : Int)) (2 : Int)) (Int.toNat (99 : Int))
 (2 : Int) =
 shownL
theorem shownN_e  : shownN_t  = vcG Try.prog (Gof []) (fun _ => none) Try.f24 [] [] (.leaf ((.o 2000)) ([(2000, .row 3 (.ints .i64 shownL))])) := by kernel_rfl
def wrsN_t (s w : ByteArray) : Prop :=
 List.length shownL ≤ (4294967296 : Nat) ∧
 ByteArray.size s ≤ (40000 : Nat) ∧
 ((txE shownL s == (0 : Int)) = true → (ByteArray.toList (wrO shownL s) == ByteArray.toList w) = wrsB s w) ∧ ((txE shownL s == (0 : Int)) = false → false = wrsB s w)
theorem wrsN_e (s w : ByteArray) : wrsN_t s w = vcG Try.prog (Gof GUg) (fun _ => none) Try.f25 [.v (.string s), .v (.string w)] [] (.leaf ((.v (.bool (wrsB s w)))) ([])) := by kernel_rfl
def rdsN_t (b : ByteArray) (n : Int) (w : ByteArray) (e : Int) : Prop :=
 List.length shownL ≤ (4294967296 : Nat) ∧
 ByteArray.size b ≤ (4294967296 : Nat) ∧
 ((ByteArray.toList (rO shownL b n) == ByteArray.toList w) = true → (rE shownL b n == e) = rdsB b n w e) ∧ ((ByteArray.toList (rO shownL b n) == ByteArray.toList w) = false → false = rdsB b n w e)
theorem rdsN_e (b : ByteArray) (n : Int) (w : ByteArray) (e : Int) : rdsN_t b n w e = vcG Try.prog (Gof GUg) (fun _ => none) Try.f26 [.v (.string b), .v (.int .i64 n), .v (.string w), .v (.int .i64 e)] [] (.leaf ((.v (.bool (rdsB b n w e)))) ([])) := by kernel_rfl
def madeN_t (nums text : List Int) : Prop :=
 (0 : Int) ≤ (110 : Int) ∧
 (110 : Int) ≤ (110 : Int) ∧
 (↑((8 : Nat)) : Int) * (110 : Int) ≤ (281474976710656 : Int) ∧
 (110 : Int) ≤ (9223372036854775807 : Int) ∧
 ((∃ (x0 : Nat), Nat.le x0 (cmN nums) ∧ nums = nums ∧ text = text ∧ (0 : Int) = (↑x0 : Int) ∧ List.replicate (Int.toNat (110 : Int)) (0 : Int) = cmP nums x0) ∧
 ∀ (x1 : Nat),
 Nat.le x1 (cmN nums) →
 (decide ((↑x1 : Int) < (2 : Int)) = true →
 (100 : Int) ≤ (4611686018427387904 : Int) ∧
 (0 : Int) ≤ IntKind.wrap IntKind.i64 ((97 : Int) + (↑x1 : Int)) ∧
 IntKind.wrap IntKind.i64 ((97 : Int) + (↑x1 : Int)) <
 (↑(Nat.succ
 (Nat.add (List.length (List.append (List.replicate ((96 : Nat)) (0 : Int)) (List.map (cmX nums) (List.range x1) ++ List.replicate ((13 : Nat) - x1) (0 : Int))))
 ((0 : Nat)))) :
 Int) ∧
 Int.toNat (IntKind.wrap IntKind.i64 ((97 : Int) + (↑x1 : Int))) <
 Nat.succ
 (Nat.add (List.length (List.append (List.replicate ((96 : Nat)) (0 : Int)) (List.map (cmX nums) (List.range x1) ++ List.replicate ((13 : Nat) - x1) (0 : Int))))
 ((0 : Nat))) ∧
 ∃ (y2 : Nat),
 Nat.le y2 (cmN nums) ∧
 Nat.sub (cmN nums) y2 < Nat.sub (cmN nums) x1 ∧
 nums = nums ∧
 text = text ∧
 IntKind.wrap IntKind.i64 ((↑x1 : Int) + (1 : Int)) = (↑y2 : Int) ∧
 List.set (cmP nums x1) (Int.toNat (IntKind.wrap IntKind.i64 ((97 : Int) + (↑x1 : Int))))
 (IntKind.wrap IntKind.i64 ((1 : Int) + md (atL nums (↑x1 : Int)) (100 : Int))) =
 cmP nums y2) ∧
 (decide ((↑x1 : Int) < (2 : Int)) = false →
 (decide ((↑x1 : Int) < (↑(List.length nums) : Int)) = true →
 (decide ((↑x1 : Int) < (12 : Int)) = true →
 (100 : Int) ≤ (4611686018427387904 : Int) ∧
 (0 : Int) ≤ IntKind.wrap IntKind.i64 ((97 : Int) + (↑x1 : Int)) ∧
 IntKind.wrap IntKind.i64 ((97 : Int) + (↑x1 : Int)) <
 (↑(Nat.succ
 (Nat.add
 (List.length (List.append (List.replicate ((96 : Nat)) (0 : Int)) (List.map (cmX nums) (List.range x1) ++ List.replicate ((13 : Nat) - x1) (0 : Int))))
 ((0 : Nat)))) :
 Int) ∧
 Int.toNat (IntKind.wrap IntKind.i64 ((97 : Int) + (↑x1 : Int))) <
 Nat.succ
 (Nat.add (List.length (List.append (List.replicate ((96 : Nat)) (0 : Int)) (List.map (cmX nums) (List.range x1) ++ List.replicate ((13 : Nat) - x1) (0 : Int))))
 ((0 : Nat))) ∧
 ∃ (y3 : Nat),
 Nat.le y3 (cmN nums) ∧
 Nat.sub (cmN nums) y3 < Nat.sub (cmN nums) x1 ∧
 nums = nums ∧
 text = text ∧
 IntKind.wrap IntKind.i64 ((↑x1 : Int) + (1 : Int)) = (↑y3 : Int) ∧
 List.set (cmP nums x1) (Int.toNat (IntKind.wrap IntKind.i64 ((97 : Int) + (↑x1 : Int))))
 (IntKind.wrap IntKind.i64 ((1 : Int) + md (atL nums (↑x1 : Int)) (100 : Int))) =
 cmP nums y3) ∧
 (decide ((↑x1 : Int) < (12 : Int)) = false → ∃ (x4 : Unit), True ∧ nums = nums ∧ text = text ∧ cmP nums x1 = cmL nums)) ∧
 (decide ((↑x1 : Int) < (↑(List.length nums) : Int)) = false → ∃ (x5 : Unit), True ∧ nums = nums ∧ text = text ∧ cmP nums x1 = cmL nums))) ∧
 ∀ (x6 : Unit),
 True →
 List.length (cmL nums) ≤ (256 : Nat) ∧
 List.length (leaves (cmL nums)) ≤ (40 : Nat) ∧
 cntsOk (cmL nums) = true ∧
 (2 : Nat) ≤ List.length (leaves (cmL nums)) ∧
 ((∃ (x7 : Nat),
 Nat.le x7 (min (List.length text) (100 : Nat)) ∧
 text = text ∧
 (0 : Int) = (0 : Int) ∧
 max (2 : Int) (min (↑(List.length nums) : Int) (12 : Int)) = (↑(cmN nums) : Int) ∧
 ByteArray.empty = strOfNums (mdC nums text x7) ∧ (0 : Int) = (↑x7 : Int) ∧ ofL (cmL nums) = mdL nums) ∧
 ∀ (x8 : Nat),
 Nat.le x8 (min (List.length text) (100 : Nat)) →
 (decide ((↑x8 : Int) < (↑(List.length text) : Int)) = true →
 (decide ((↑x8 : Int) < (100 : Int)) = true →
 (0 : Int) ≤ (↑x8 : Int) ∧
 (↑x8 : Int) < (↑(List.length text) : Int) ∧
 (↑(cmN nums) : Int) ≤ (4611686018427387904 : Int) ∧
 ByteArray.size (strOfNums (mdC nums text x8)) +
 ByteArray.size
 (strOfNums
 [IntKind.wrap IntKind.u8 (IntKind.wrap IntKind.i64 ((97 : Int) + md (List.getD text (Int.toNat (↑x8 : Int)) (0 : Int)) (↑(cmN nums) : Int)))]) ≤
 (9223372036854775807 : Nat) ∧
 ∃ (y9 : Nat),
 Nat.le y9 (min (List.length text) (100 : Nat)) ∧
 Nat.sub (100 : Nat) y9 < Nat.sub (100 : Nat) x8 ∧
 text = text ∧
 (0 : Int) = (0 : Int) ∧
 (↑(cmN nums) : Int) = (↑(cmN nums) : Int) ∧
 strOfNums (mdC nums text x8) ++
 strOfNums
 [IntKind.wrap IntKind.u8
 (IntKind.wrap IntKind.i64 ((97 : Int) + md (List.getD text (Int.toNat (↑x8 : Int)) (0 : Int)) (↑(cmN nums) : Int)))] =
 strOfNums (mdC nums text y9) ∧
 IntKind.wrap IntKind.i64 ((↑x8 : Int) + (1 : Int)) = (↑y9 : Int) ∧ mdL nums = mdL nums) ∧
 (decide ((↑x8 : Int) < (100 : Int)) = false → ∃ (x10 : Unit), True ∧ (0 : Int) = (0 : Int) ∧ strOfNums (mdC nums text x8) = mdS nums text ∧ mdL nums = mdL nums)) ∧
 (decide ((↑x8 : Int) < (↑(List.length text) : Int)) = false →
 ∃ (x11 : Unit), True ∧ (0 : Int) = (0 : Int) ∧ strOfNums (mdC nums text x8) = mdS nums text ∧ mdL nums = mdL nums)) ∧
 ∀ (x12 : Unit), True → mdS nums text = mdS nums text ∧ ((0 : Int) == (0 : Int)) = true ∧ mdL nums = mdL nums
theorem madeN_e (nums text : List Int) : madeN_t nums text = vcG Try.prog (Gof GUg) (oMd nums text) Try.f27 [.dat (.ints .i64 nums), .dat (.ints .i64 text)] [] (.leaf ((.tu [.o 2000, .v (.string (mdS nums text)), .v (.bool true)])) ([(2000, .row 3 (.ints .i64 (mdL nums)))])) := by kernel_rfl
def awakeN_t  : Prop :=
 List.length (ptV (10 : Int)) = (4 : Nat) ∧
 List.length (ptV (10 : Int)) = List.length (List.replicate (4 : Nat) (0 : Int)) ∧
 ByteArray.size { data := #[(97 : UInt8), (98 : UInt8), (99 : UInt8)] } ≤ (40000 : Nat) ∧
 (wrsB { data := #[(97 : UInt8), (98 : UInt8), (99 : UInt8)] } { data := #[(49 : UInt8)] } = true →
 ByteArray.size ByteArray.empty ≤ (40000 : Nat) ∧
 (wrsB ByteArray.empty { data := #[(1 : UInt8)] } = true →
 ByteArray.size { data := #[(49 : UInt8)] } ≤ (4294967296 : Nat) ∧
 (rdsB { data := #[(49 : UInt8)] } (3 : Int) { data := #[(97 : UInt8), (98 : UInt8), (99 : UInt8)] } (0 : Int) = true →
 ByteArray.size { data := #[(49 : UInt8)] } ≤ (4294967296 : Nat) ∧
 (rdsB { data := #[(49 : UInt8)] } (2 : Int) ByteArray.empty (22 : Int) = true →
 ((ptE (10 : Int) == (0 : Int)) = true →
 (4 : Nat) = List.length (ptV (10 : Int)) ∧
 (4 : Nat) = List.length (ptV (10 : Int)) ∧
 (4 : Nat) = List.length [(3 : Int), (3 : Int), (3 : Int), (1 : Int)] ∧ (ptV (10 : Int) == [(3 : Int), (3 : Int), (3 : Int), (1 : Int)]) = true) ∧
 ((ptE (10 : Int) == (0 : Int)) = false → false = true)) ∧
 (rdsB { data := #[(49 : UInt8)] } (2 : Int) ByteArray.empty (22 : Int) = false → false = true)) ∧
 (rdsB { data := #[(49 : UInt8)] } (3 : Int) { data := #[(97 : UInt8), (98 : UInt8), (99 : UInt8)] } (0 : Int) = false → false = true)) ∧
 (wrsB ByteArray.empty { data := #[(1 : UInt8)] } = false → false = true)) ∧
 (wrsB { data := #[(97 : UInt8), (98 : UInt8), (99 : UInt8)] } { data := #[(49 : UInt8)] } = false → false = true)
theorem awakeN_e  : awakeN_t  = vcG Try.prog (Gof GUh) (fun _ => none) Try.f9 [] [] (.leaf ((.v (.bool true))) ([])) := by kernel_rfl
def lawKnN_t  : Prop :=
 List.length shownL ≤ (4294967296 : Nat) ∧
 ByteArray.size { data := #[(100 : UInt8)] } ≤ (40000 : Nat) ∧
 List.length shownL ≤ (4294967296 : Nat) ∧
 ByteArray.size { data := #[(97 : UInt8), (98 : UInt8), (99 : UInt8)] } ≤ (40000 : Nat) ∧
 List.length (ptV (6 : Int)) = (4 : Nat) ∧
 List.length (ptV (6 : Int)) = List.length (List.replicate (4 : Nat) (0 : Int)) ∧
 List.length (ptV (5 : Int)) = (4 : Nat) ∧
 List.length (ptV (5 : Int)) = List.length (List.replicate (4 : Nat) (0 : Int)) ∧
 List.length shownL ≤ (4294967296 : Nat) ∧
 ByteArray.size { data := #[(97 : UInt8), (97 : UInt8), (97 : UInt8), (97 : UInt8), (97 : UInt8), (97 : UInt8), (97 : UInt8), (97 : UInt8)] } ≤ (40000 : Nat) ∧
 List.length shownL ≤ (4294967296 : Nat) ∧
 ByteArray.size { data := #[(97 : UInt8), (97 : UInt8), (97 : UInt8), (97 : UInt8), (97 : UInt8)] } ≤ (40000 : Nat) ∧
 List.length shownL ≤ (4294967296 : Nat) ∧
 ByteArray.size { data := #[(1 : UInt8), (0 : UInt8), (1 : UInt8), (0 : UInt8), (1 : UInt8), (0 : UInt8), (7 : UInt8), (7 : UInt8), (7 : UInt8), (7 : UInt8)] } ≤
 (4294967296 : Nat) ∧
 List.length shownL ≤ (4294967296 : Nat) ∧
 ByteArray.size { data := #[(1 : UInt8), (0 : UInt8), (1 : UInt8), (0 : UInt8), (1 : UInt8), (0 : UInt8), (7 : UInt8), (7 : UInt8), (7 : UInt8), (7 : UInt8)] } ≤
 (4294967296 : Nat) ∧
 (0 : Int) ≤ (0 : Int) ∧
 (0 : Int) ≤ (8 : Int) ∧
 (8 : Int) ≤
 (↑(ByteArray.size
 { data := #[(1 : UInt8), (0 : UInt8), (1 : UInt8), (0 : UInt8), (1 : UInt8), (0 : UInt8), (7 : UInt8), (7 : UInt8), (7 : UInt8), (7 : UInt8)] }) :
 Int) ∧
 List.length shownL ≤ (4294967296 : Nat) ∧
 ByteArray.size
 (ByteArray.extract
 { data := #[(1 : UInt8), (0 : UInt8), (1 : UInt8), (0 : UInt8), (1 : UInt8), (0 : UInt8), (7 : UInt8), (7 : UInt8), (7 : UInt8), (7 : UInt8)] }
 (Int.toNat (0 : Int)) (Int.toNat (8 : Int))) ≤
 (4294967296 : Nat) ∧
 ByteArray.size { data := #[(97 : UInt8)] } ≤ (40000 : Nat) ∧
 (wrsB { data := #[(97 : UInt8)] } { data := #[(3 : UInt8)] } = true →
 ((txE shownL { data := #[(100 : UInt8)] } == (7 : Int)) = true →
 ByteArray.size { data := #[(49 : UInt8)] } ≤ (4294967296 : Nat) ∧
 (rdsB { data := #[(49 : UInt8)] } (4 : Int) ByteArray.empty (22 : Int) = true →
 ByteArray.size { data := #[(0 : UInt8)] } ≤ (4294967296 : Nat) ∧
 (rdsB { data := #[(0 : UInt8)] } (0 : Int) ByteArray.empty (22 : Int) = true →
 ByteArray.size ByteArray.empty ≤ (4294967296 : Nat) ∧
 (rdsB ByteArray.empty (0 : Int) ByteArray.empty (22 : Int) = true →
 ((txE shownL { data := #[(97 : UInt8), (98 : UInt8), (99 : UInt8)] } == (0 : Int)) = true →
 ((ptE (6 : Int) == (0 : Int)) = true →
 (4 : Nat) = List.length (ptV (6 : Int)) ∧
 (4 : Nat) = List.length (ptV (6 : Int)) ∧
 (4 : Nat) = List.length [(2 : Int), (2 : Int), (2 : Int), (0 : Int)] ∧
 ((ptV (6 : Int) == [(2 : Int), (2 : Int), (2 : Int), (0 : Int)]) = true →
 ((ptE (5 : Int) == (20 : Int)) = true →
 ((w4E shownL
 {
 data :=
 #[(97 : UInt8), (97 : UInt8), (97 : UInt8), (97 : UInt8), (97 : UInt8), (97 : UInt8),
 (97 : UInt8), (97 : UInt8)] } ==
 (0 : Int)) =
 true →
 ((ByteArray.toList
 (w4O shownL
 {
 data :=
 #[(97 : UInt8), (97 : UInt8), (97 : UInt8), (97 : UInt8), (97 : UInt8), (97 : UInt8),
 (97 : UInt8), (97 : UInt8)] }) ==
 ByteArray.toList
 {
 data :=
 #[(1 : UInt8), (0 : UInt8), (1 : UInt8), (0 : UInt8), (1 : UInt8), (0 : UInt8),
 (7 : UInt8), (7 : UInt8), (7 : UInt8), (7 : UInt8)] }) =
 true →
 (true = true →
 ((szO shownL { data := #[(97 : UInt8), (98 : UInt8), (99 : UInt8)] } == (1 : Int)) = true →
 ((w4E shownL
 {
 data :=
 #[(97 : UInt8), (97 : UInt8), (97 : UInt8), (97 : UInt8), (97 : UInt8)] } ==
 (20 : Int)) =
 true →
 ((r4E shownL
 {
 data :=
 #[(1 : UInt8), (0 : UInt8), (1 : UInt8), (0 : UInt8), (1 : UInt8),
 (0 : UInt8), (7 : UInt8), (7 : UInt8), (7 : UInt8), (7 : UInt8)] }
 (8 : Int) ==
 (0 : Int)) =
 true →
 ((ByteArray.toList
 (r4O shownL
 {
 data :=
 #[(1 : UInt8), (0 : UInt8), (1 : UInt8), (0 : UInt8), (1 : UInt8),
 (0 : UInt8), (7 : UInt8), (7 : UInt8), (7 : UInt8), (7 : UInt8)] }
 (8 : Int)) ==
 ByteArray.toList
 {
 data :=
 #[(97 : UInt8), (97 : UInt8), (97 : UInt8), (97 : UInt8),
 (97 : UInt8), (97 : UInt8), (97 : UInt8), (97 : UInt8)] }) =
 true →
 ((r4P shownL
 {
 data :=
 #[(1 : UInt8), (0 : UInt8), (1 : UInt8), (0 : UInt8), (1 : UInt8),
 (0 : UInt8), (7 : UInt8), (7 : UInt8), (7 : UInt8),
 (7 : UInt8)] }
 (8 : Int) ==
 (0 : Int)) =
 true →
 ((r4E shownL
 {
 data :=
 #[(1 : UInt8), (0 : UInt8), (1 : UInt8), (0 : UInt8),
 (1 : UInt8), (0 : UInt8), (7 : UInt8), (7 : UInt8),
 (7 : UInt8), (7 : UInt8)] }
 (9 : Int) ==
 (22 : Int)) =
 true →
 ((r4P shownL
 {
 data :=
 #[(1 : UInt8), (0 : UInt8), (1 : UInt8), (0 : UInt8),
 (1 : UInt8), (0 : UInt8), (7 : UInt8), (7 : UInt8),
 (7 : UInt8), (7 : UInt8)] }
 (9 : Int) ==
 (6 : Int)) =
 true →
 ((r4E shownL
 (ByteArray.extract
 {
 data :=
 #[(1 : UInt8), (0 : UInt8), (1 : UInt8),
 (0 : UInt8), (1 : UInt8), (0 : UInt8),
 (7 : UInt8), (7 : UInt8), (7 : UInt8),
 (7 : UInt8)] }
 (Int.toNat (0 : Int)) (Int.toNat (8 : Int)))
 (8 : Int) ==
 (22 : Int)) =
 true →
 (r4P shownL
 (ByteArray.extract
 {
 data :=
 #[(1 : UInt8), (0 : UInt8), (1 : UInt8),
 (0 : UInt8), (1 : UInt8), (0 : UInt8),
 (7 : UInt8), (7 : UInt8), (7 : UInt8),
 (7 : UInt8)] }
 (Int.toNat (0 : Int)) (Int.toNat (8 : Int)))
 (8 : Int) ==
 (0 : Int)) =
 true) ∧
 ((r4E shownL
 (ByteArray.extract
 {
 data :=
 #[(1 : UInt8), (0 : UInt8), (1 : UInt8),
 (0 : UInt8), (1 : UInt8), (0 : UInt8),
 (7 : UInt8), (7 : UInt8), (7 : UInt8),
 (7 : UInt8)] }
 (Int.toNat (0 : Int)) (Int.toNat (8 : Int)))
 (8 : Int) ==
 (22 : Int)) =
 false →
 false = true)) ∧
 ((r4P shownL
 {
 data :=
 #[(1 : UInt8), (0 : UInt8), (1 : UInt8), (0 : UInt8),
 (1 : UInt8), (0 : UInt8), (7 : UInt8), (7 : UInt8),
 (7 : UInt8), (7 : UInt8)] }
 (9 : Int) ==
 (6 : Int)) =
 false →
 false = true)) ∧
 ((r4E shownL
 {
 data :=
 #[(1 : UInt8), (0 : UInt8), (1 : UInt8), (0 : UInt8),
 (1 : UInt8), (0 : UInt8), (7 : UInt8), (7 : UInt8),
 (7 : UInt8), (7 : UInt8)] }
 (9 : Int) ==
 (22 : Int)) =
 false →
 false = true)) ∧
 ((r4P shownL
 {
 data :=
 #[(1 : UInt8), (0 : UInt8), (1 : UInt8), (0 : UInt8), (1 : UInt8),
 (0 : UInt8), (7 : UInt8), (7 : UInt8), (7 : UInt8),
 (7 : UInt8)] }
 (8 : Int) ==
 (0 : Int)) =
 false →
 false = true)) ∧
 ((ByteArray.toList
 (r4O shownL
 {
 data :=
 #[(1 : UInt8), (0 : UInt8), (1 : UInt8), (0 : UInt8), (1 : UInt8),
 (0 : UInt8), (7 : UInt8), (7 : UInt8), (7 : UInt8), (7 : UInt8)] }
 (8 : Int)) ==
 ByteArray.toList
 {
 data :=
 #[(97 : UInt8), (97 : UInt8), (97 : UInt8), (97 : UInt8),
 (97 : UInt8), (97 : UInt8), (97 : UInt8), (97 : UInt8)] }) =
 false →
 false = true)) ∧
 ((r4E shownL
 {
 data :=
 #[(1 : UInt8), (0 : UInt8), (1 : UInt8), (0 : UInt8), (1 : UInt8),
 (0 : UInt8), (7 : UInt8), (7 : UInt8), (7 : UInt8), (7 : UInt8)] }
 (8 : Int) ==
 (0 : Int)) =
 false →
 false = true)) ∧
 ((w4E shownL
 {
 data :=
 #[(97 : UInt8), (97 : UInt8), (97 : UInt8), (97 : UInt8), (97 : UInt8)] } ==
 (20 : Int)) =
 false →
 false = true)) ∧
 ((szO shownL { data := #[(97 : UInt8), (98 : UInt8), (99 : UInt8)] } == (1 : Int)) = false →
 false = true)) ∧
 (true = false → false = true)) ∧
 ((ByteArray.toList
 (w4O shownL
 {
 data :=
 #[(97 : UInt8), (97 : UInt8), (97 : UInt8), (97 : UInt8), (97 : UInt8), (97 : UInt8),
 (97 : UInt8), (97 : UInt8)] }) ==
 ByteArray.toList
 {
 data :=
 #[(1 : UInt8), (0 : UInt8), (1 : UInt8), (0 : UInt8), (1 : UInt8), (0 : UInt8),
 (7 : UInt8), (7 : UInt8), (7 : UInt8), (7 : UInt8)] }) =
 false →
 (true = true →
 ((szO shownL { data := #[(97 : UInt8), (98 : UInt8), (99 : UInt8)] } == (1 : Int)) = true →
 false = true) ∧
 ((szO shownL { data := #[(97 : UInt8), (98 : UInt8), (99 : UInt8)] } == (1 : Int)) = false →
 false = true)) ∧
 (true = false → false = true))) ∧
 ((w4E shownL
 {
 data :=
 #[(97 : UInt8), (97 : UInt8), (97 : UInt8), (97 : UInt8), (97 : UInt8), (97 : UInt8),
 (97 : UInt8), (97 : UInt8)] } ==
 (0 : Int)) =
 false →
 (true = true →
 ((szO shownL { data := #[(97 : UInt8), (98 : UInt8), (99 : UInt8)] } == (1 : Int)) = true →
 false = true) ∧
 ((szO shownL { data := #[(97 : UInt8), (98 : UInt8), (99 : UInt8)] } == (1 : Int)) = false →
 false = true)) ∧
 (true = false → false = true))) ∧
 ((ptE (5 : Int) == (20 : Int)) = false →
 (true = true →
 ((szO shownL { data := #[(97 : UInt8), (98 : UInt8), (99 : UInt8)] } == (1 : Int)) = true →
 false = true) ∧
 ((szO shownL { data := #[(97 : UInt8), (98 : UInt8), (99 : UInt8)] } == (1 : Int)) = false →
 false = true)) ∧
 (true = false → false = true))) ∧
 ((ptV (6 : Int) == [(2 : Int), (2 : Int), (2 : Int), (0 : Int)]) = false →
 (true = true →
 ((szO shownL { data := #[(97 : UInt8), (98 : UInt8), (99 : UInt8)] } == (1 : Int)) = true → false = true) ∧
 ((szO shownL { data := #[(97 : UInt8), (98 : UInt8), (99 : UInt8)] } == (1 : Int)) = false →
 false = true)) ∧
 (true = false → false = true))) ∧
 ((ptE (6 : Int) == (0 : Int)) = false →
 (true = true →
 ((szO shownL { data := #[(97 : UInt8), (98 : UInt8), (99 : UInt8)] } == (1 : Int)) = true → false = true) ∧
 ((szO shownL { data := #[(97 : UInt8), (98 : UInt8), (99 : UInt8)] } == (1 : Int)) = false → false = true)) ∧
 (true = false → false = true))) ∧
 ((txE shownL { data := #[(97 : UInt8), (98 : UInt8), (99 : UInt8)] } == (0 : Int)) = false →
 ((ptE (6 : Int) == (0 : Int)) = true →
 (4 : Nat) = List.length (ptV (6 : Int)) ∧
 (4 : Nat) = List.length (ptV (6 : Int)) ∧
 (4 : Nat) = List.length [(2 : Int), (2 : Int), (2 : Int), (0 : Int)] ∧
 ((ptV (6 : Int) == [(2 : Int), (2 : Int), (2 : Int), (0 : Int)]) = true →
 ((ptE (5 : Int) == (20 : Int)) = true →
 ((w4E shownL
 {
 data :=
 #[(97 : UInt8), (97 : UInt8), (97 : UInt8), (97 : UInt8), (97 : UInt8), (97 : UInt8),
 (97 : UInt8), (97 : UInt8)] } ==
 (0 : Int)) =
 true →
 ((ByteArray.toList
 (w4O shownL
 {
 data :=
 #[(97 : UInt8), (97 : UInt8), (97 : UInt8), (97 : UInt8), (97 : UInt8), (97 : UInt8),
 (97 : UInt8), (97 : UInt8)] }) ==
 ByteArray.toList
 {
 data :=
 #[(1 : UInt8), (0 : UInt8), (1 : UInt8), (0 : UInt8), (1 : UInt8), (0 : UInt8),
 (7 : UInt8), (7 : UInt8), (7 : UInt8), (7 : UInt8)] }) =
 true →
 (true = true → false = true) ∧ (true = false → false = true)) ∧
 ((ByteArray.toList
 (w4O shownL
 {
 data :=
 #[(97 : UInt8), (97 : UInt8), (97 : UInt8), (97 : UInt8), (97 : UInt8), (97 : UInt8),
 (97 : UInt8), (97 : UInt8)] }) ==
 ByteArray.toList
 {
 data :=
 #[(1 : UInt8), (0 : UInt8), (1 : UInt8), (0 : UInt8), (1 : UInt8), (0 : UInt8),
 (7 : UInt8), (7 : UInt8), (7 : UInt8), (7 : UInt8)] }) =
 false →
 (true = true → false = true) ∧ (true = false → false = true))) ∧
 ((w4E shownL
 {
 data :=
 #[(97 : UInt8), (97 : UInt8), (97 : UInt8), (97 : UInt8), (97 : UInt8), (97 : UInt8),
 (97 : UInt8), (97 : UInt8)] } ==
 (0 : Int)) =
 false →
 (true = true → false = true) ∧ (true = false → false = true))) ∧
 ((ptE (5 : Int) == (20 : Int)) = false → (true = true → false = true) ∧ (true = false → false = true))) ∧
 ((ptV (6 : Int) == [(2 : Int), (2 : Int), (2 : Int), (0 : Int)]) = false →
 (true = true → false = true) ∧ (true = false → false = true))) ∧
 ((ptE (6 : Int) == (0 : Int)) = false → (true = true → false = true) ∧ (true = false → false = true)))) ∧
 (rdsB ByteArray.empty (0 : Int) ByteArray.empty (22 : Int) = false →
 ((ptE (6 : Int) == (0 : Int)) = true →
 (4 : Nat) = List.length (ptV (6 : Int)) ∧
 (4 : Nat) = List.length (ptV (6 : Int)) ∧
 (4 : Nat) = List.length [(2 : Int), (2 : Int), (2 : Int), (0 : Int)] ∧
 ((ptV (6 : Int) == [(2 : Int), (2 : Int), (2 : Int), (0 : Int)]) = true →
 ((ptE (5 : Int) == (20 : Int)) = true →
 ((w4E shownL
 {
 data :=
 #[(97 : UInt8), (97 : UInt8), (97 : UInt8), (97 : UInt8), (97 : UInt8), (97 : UInt8),
 (97 : UInt8), (97 : UInt8)] } ==
 (0 : Int)) =
 true →
 ((ByteArray.toList
 (w4O shownL
 {
 data :=
 #[(97 : UInt8), (97 : UInt8), (97 : UInt8), (97 : UInt8), (97 : UInt8), (97 : UInt8),
 (97 : UInt8), (97 : UInt8)] }) ==
 ByteArray.toList
 {
 data :=
 #[(1 : UInt8), (0 : UInt8), (1 : UInt8), (0 : UInt8), (1 : UInt8), (0 : UInt8), (7 : UInt8),
 (7 : UInt8), (7 : UInt8), (7 : UInt8)] }) =
 true →
 (true = true → false = true) ∧ (true = false → false = true)) ∧
 ((ByteArray.toList
 (w4O shownL
 {
 data :=
 #[(97 : UInt8), (97 : UInt8), (97 : UInt8), (97 : UInt8), (97 : UInt8), (97 : UInt8),
 (97 : UInt8), (97 : UInt8)] }) ==
 ByteArray.toList
 {
 data :=
 #[(1 : UInt8), (0 : UInt8), (1 : UInt8), (0 : UInt8), (1 : UInt8), (0 : UInt8), (7 : UInt8),
 (7 : UInt8), (7 : UInt8), (7 : UInt8)] }) =
 false →
 (true = true → false = true) ∧ (true = false → false = true))) ∧
 ((w4E shownL
 {
 data :=
 #[(97 : UInt8), (97 : UInt8), (97 : UInt8), (97 : UInt8), (97 : UInt8), (97 : UInt8),
 (97 : UInt8), (97 : UInt8)] } ==
 (0 : Int)) =
 false →
 (true = true → false = true) ∧ (true = false → false = true))) ∧
 ((ptE (5 : Int) == (20 : Int)) = false → (true = true → false = true) ∧ (true = false → false = true))) ∧
 ((ptV (6 : Int) == [(2 : Int), (2 : Int), (2 : Int), (0 : Int)]) = false →
 (true = true → false = true) ∧ (true = false → false = true))) ∧
 ((ptE (6 : Int) == (0 : Int)) = false → (true = true → false = true) ∧ (true = false → false = true)))) ∧
 (rdsB { data := #[(0 : UInt8)] } (0 : Int) ByteArray.empty (22 : Int) = false →
 ((ptE (6 : Int) == (0 : Int)) = true →
 (4 : Nat) = List.length (ptV (6 : Int)) ∧
 (4 : Nat) = List.length (ptV (6 : Int)) ∧
 (4 : Nat) = List.length [(2 : Int), (2 : Int), (2 : Int), (0 : Int)] ∧
 ((ptV (6 : Int) == [(2 : Int), (2 : Int), (2 : Int), (0 : Int)]) = true →
 ((ptE (5 : Int) == (20 : Int)) = true →
 ((w4E shownL
 {
 data :=
 #[(97 : UInt8), (97 : UInt8), (97 : UInt8), (97 : UInt8), (97 : UInt8), (97 : UInt8), (97 : UInt8),
 (97 : UInt8)] } ==
 (0 : Int)) =
 true →
 ((ByteArray.toList
 (w4O shownL
 {
 data :=
 #[(97 : UInt8), (97 : UInt8), (97 : UInt8), (97 : UInt8), (97 : UInt8), (97 : UInt8),
 (97 : UInt8), (97 : UInt8)] }) ==
 ByteArray.toList
 {
 data :=
 #[(1 : UInt8), (0 : UInt8), (1 : UInt8), (0 : UInt8), (1 : UInt8), (0 : UInt8), (7 : UInt8),
 (7 : UInt8), (7 : UInt8), (7 : UInt8)] }) =
 true →
 (true = true → false = true) ∧ (true = false → false = true)) ∧
 ((ByteArray.toList
 (w4O shownL
 {
 data :=
 #[(97 : UInt8), (97 : UInt8), (97 : UInt8), (97 : UInt8), (97 : UInt8), (97 : UInt8),
 (97 : UInt8), (97 : UInt8)] }) ==
 ByteArray.toList
 {
 data :=
 #[(1 : UInt8), (0 : UInt8), (1 : UInt8), (0 : UInt8), (1 : UInt8), (0 : UInt8), (7 : UInt8),
 (7 : UInt8), (7 : UInt8), (7 : UInt8)] }) =
 false →
 (true = true → false = true) ∧ (true = false → false = true))) ∧
 ((w4E shownL
 {
 data :=
 #[(97 : UInt8), (97 : UInt8), (97 : UInt8), (97 : UInt8), (97 : UInt8), (97 : UInt8), (97 : UInt8),
 (97 : UInt8)] } ==
 (0 : Int)) =
 false →
 (true = true → false = true) ∧ (true = false → false = true))) ∧
 ((ptE (5 : Int) == (20 : Int)) = false → (true = true → false = true) ∧ (true = false → false = true))) ∧
 ((ptV (6 : Int) == [(2 : Int), (2 : Int), (2 : Int), (0 : Int)]) = false →
 (true = true → false = true) ∧ (true = false → false = true))) ∧
 ((ptE (6 : Int) == (0 : Int)) = false → (true = true → false = true) ∧ (true = false → false = true)))) ∧
 (rdsB { data := #[(49 : UInt8)] } (4 : Int) ByteArray.empty (22 : Int) = false →
 ((ptE (6 : Int) == (0 : Int)) = true →
 (4 : Nat) = List.length (ptV (6 : Int)) ∧
 (4 : Nat) = List.length (ptV (6 : Int)) ∧
 (4 : Nat) = List.length [(2 : Int), (2 : Int), (2 : Int), (0 : Int)] ∧
 ((ptV (6 : Int) == [(2 : Int), (2 : Int), (2 : Int), (0 : Int)]) = true →
 ((ptE (5 : Int) == (20 : Int)) = true →
 ((w4E shownL
 {
 data :=
 #[(97 : UInt8), (97 : UInt8), (97 : UInt8), (97 : UInt8), (97 : UInt8), (97 : UInt8), (97 : UInt8),
 (97 : UInt8)] } ==
 (0 : Int)) =
 true →
 ((ByteArray.toList
 (w4O shownL
 {
 data :=
 #[(97 : UInt8), (97 : UInt8), (97 : UInt8), (97 : UInt8), (97 : UInt8), (97 : UInt8), (97 : UInt8),
 (97 : UInt8)] }) ==
 ByteArray.toList
 {
 data :=
 #[(1 : UInt8), (0 : UInt8), (1 : UInt8), (0 : UInt8), (1 : UInt8), (0 : UInt8), (7 : UInt8), (7 : UInt8),
 (7 : UInt8), (7 : UInt8)] }) =
 true →
 (true = true → false = true) ∧ (true = false → false = true)) ∧
 ((ByteArray.toList
 (w4O shownL
 {
 data :=
 #[(97 : UInt8), (97 : UInt8), (97 : UInt8), (97 : UInt8), (97 : UInt8), (97 : UInt8), (97 : UInt8),
 (97 : UInt8)] }) ==
 ByteArray.toList
 {
 data :=
 #[(1 : UInt8), (0 : UInt8), (1 : UInt8), (0 : UInt8), (1 : UInt8), (0 : UInt8), (7 : UInt8), (7 : UInt8),
 (7 : UInt8), (7 : UInt8)] }) =
 false →
 (true = true → false = true) ∧ (true = false → false = true))) ∧
 ((w4E shownL
 {
 data :=
 #[(97 : UInt8), (97 : UInt8), (97 : UInt8), (97 : UInt8), (97 : UInt8), (97 : UInt8), (97 : UInt8),
 (97 : UInt8)] } ==
 (0 : Int)) =
 false →
 (true = true → false = true) ∧ (true = false → false = true))) ∧
 ((ptE (5 : Int) == (20 : Int)) = false → (true = true → false = true) ∧ (true = false → false = true))) ∧
 ((ptV (6 : Int) == [(2 : Int), (2 : Int), (2 : Int), (0 : Int)]) = false →
 (true = true → false = true) ∧ (true = false → false = true))) ∧
 ((ptE (6 : Int) == (0 : Int)) = false → (true = true → false = true) ∧ (true = false → false = true)))) ∧
 ((txE shownL { data := #[(100 : UInt8)] } == (7 : Int)) = false →
 ((ptE (6 : Int) == (0 : Int)) = true →
 (4 : Nat) = List.length (ptV (6 : Int)) ∧
 (4 : Nat) = List.length (ptV (6 : Int)) ∧
 (4 : Nat) = List.length [(2 : Int), (2 : Int), (2 : Int), (0 : Int)] ∧
 ((ptV (6 : Int) == [(2 : Int), (2 : Int), (2 : Int), (0 : Int)]) = true →
 ((ptE (5 : Int) == (20 : Int)) = true →
 ((w4E shownL
 {
 data :=
 #[(97 : UInt8), (97 : UInt8), (97 : UInt8), (97 : UInt8), (97 : UInt8), (97 : UInt8), (97 : UInt8),
 (97 : UInt8)] } ==
 (0 : Int)) =
 true →
 ((ByteArray.toList
 (w4O shownL
 {
 data :=
 #[(97 : UInt8), (97 : UInt8), (97 : UInt8), (97 : UInt8), (97 : UInt8), (97 : UInt8), (97 : UInt8),
 (97 : UInt8)] }) ==
 ByteArray.toList
 {
 data :=
 #[(1 : UInt8), (0 : UInt8), (1 : UInt8), (0 : UInt8), (1 : UInt8), (0 : UInt8), (7 : UInt8), (7 : UInt8),
 (7 : UInt8), (7 : UInt8)] }) =
 true →
 (true = true → false = true) ∧ (true = false → false = true)) ∧
 ((ByteArray.toList
 (w4O shownL
 {
 data :=
 #[(97 : UInt8), (97 : UInt8), (97 : UInt8), (97 : UInt8), (97 : UInt8), (97 : UInt8), (97 : UInt8),
 (97 : UInt8)] }) ==
 ByteArray.toList
 {
 data :=
 #[(1 : UInt8), (0 : UInt8), (1 : UInt8), (0 : UInt8), (1 : UInt8), (0 : UInt8), (7 : UInt8), (7 : UInt8),
 (7 : UInt8), (7 : UInt8)] }) =
 false →
 (true = true → false = true) ∧ (true = false → false = true))) ∧
 ((w4E shownL
 {
 data :=
 #[(97 : UInt8), (97 : UInt8), (97 : UInt8), (97 : UInt8), (97 : UInt8), (97 : UInt8), (97 : UInt8),
 (97 : UInt8)] } ==
 (0 : Int)) =
 false →
 (true = true → false = true) ∧ (true = false → false = true))) ∧
 ((ptE (5 : Int) == (20 : Int)) = false → (true = true → false = true) ∧ (true = false → false = true))) ∧
 ((ptV (6 : Int) == [(2 : Int), (2 : Int), (2 : Int), (0 : Int)]) = false →
 (true = true → false = true) ∧ (true = false → false = true))) ∧
 ((ptE (6 : Int) == (0 : Int)) = false → (true = true → false = true) ∧ (true = false → false = true)))) ∧
 (wrsB { data := #[(97 : UInt8)] } { data := #[(3 : UInt8)] } = false →
 ((ptE (6 : Int) == (0 : Int)) = true →
 (4 : Nat) = List.length (ptV (6 : Int)) ∧
 (4 : Nat) = List.length (ptV (6 : Int)) ∧
 (4 : Nat) = List.length [(2 : Int), (2 : Int), (2 : Int), (0 : Int)] ∧
 ((ptV (6 : Int) == [(2 : Int), (2 : Int), (2 : Int), (0 : Int)]) = true →
 ((ptE (5 : Int) == (20 : Int)) = true →
 ((w4E shownL
 {
 data :=
 #[(97 : UInt8), (97 : UInt8), (97 : UInt8), (97 : UInt8), (97 : UInt8), (97 : UInt8), (97 : UInt8), (97 : UInt8)] } ==
 (0 : Int)) =
 true →
 ((ByteArray.toList
 (w4O shownL
 {
 data :=
 #[(97 : UInt8), (97 : UInt8), (97 : UInt8), (97 : UInt8), (97 : UInt8), (97 : UInt8), (97 : UInt8),
 (97 : UInt8)] }) ==
 ByteArray.toList
 {
 data :=
 #[(1 : UInt8), (0 : UInt8), (1 : UInt8), (0 : UInt8), (1 : UInt8), (0 : UInt8), (7 : UInt8), (7 : UInt8),
 (7 : UInt8), (7 : UInt8)] }) =
 true →
 (true = true → false = true) ∧ (true = false → false = true)) ∧
 ((ByteArray.toList
 (w4O shownL
 {
 data :=
 #[(97 : UInt8), (97 : UInt8), (97 : UInt8), (97 : UInt8), (97 : UInt8), (97 : UInt8), (97 : UInt8),
 (97 : UInt8)] }) ==
 ByteArray.toList
 {
 data :=
 #[(1 : UInt8), (0 : UInt8), (1 : UInt8), (0 : UInt8), (1 : UInt8), (0 : UInt8), (7 : UInt8), (7 : UInt8),
 (7 : UInt8), (7 : UInt8)] }) =
 false →
 (true = true → false = true) ∧ (true = false → false = true))) ∧
 ((w4E shownL
 {
 data :=
 #[(97 : UInt8), (97 : UInt8), (97 : UInt8), (97 : UInt8), (97 : UInt8), (97 : UInt8), (97 : UInt8), (97 : UInt8)] } ==
 (0 : Int)) =
 false →
 (true = true → false = true) ∧ (true = false → false = true))) ∧
 ((ptE (5 : Int) == (20 : Int)) = false → (true = true → false = true) ∧ (true = false → false = true))) ∧
 ((ptV (6 : Int) == [(2 : Int), (2 : Int), (2 : Int), (0 : Int)]) = false → (true = true → false = true) ∧ (true = false → false = true))) ∧
 ((ptE (6 : Int) == (0 : Int)) = false → (true = true → false = true) ∧ (true = false → false = true)))
theorem lawKnN_e  : lawKnN_t  = vcG Try.prog (Gof GUi) (fun _ => none) Try.f5 [] [] (.leaf ((.v (.bool true))) ([])) := by kernel_rfl
end Go.Proofs.Ytmdbliacaeokaaa
namespace Go.Proofs.Ytmdbliacaeokaaa
open Go Go.RowKit
set_option linter.unusedVariables false
set_option linter.unusedSimpArgs false
set_option maxRecDepth 100000
theorem fldJ_sound : Sound Try.prog 60 sFld2.ctr := sFld2.sound (by kernel_rfl) sFld2_enc fun n hc => by
  have h0 := hc _ (.head _)
  have h1 := hc _ (.tail _ (.head _))
  exact satG AllOk.nil mixed Try.func60 (fldJ_e n) (fldJ_v n h0 h1)
theorem rd16J_sound : Sound Try.prog 33 sRd16.ctr := sRd16.sound (by kernel_rfl) sRd16_enc fun ⟨b, i⟩ hc => by
  have h0 := hc _ (.head _)
  have h1 := hc _ (.tail _ (.head _))
  have h2 := hc _ (.tail _ (.tail _ (.head _)))
  exact satG AllOk.nil mixed Try.func33 (rd16J_e b i) (rd16J_v b i h0 h1 h2)
theorem ptlJ_sound : Sound Try.prog 34 sPtL.ctr := sPtL.sound (by kernel_rfl) sPtL_enc fun n hc => by
  have h0 := hc _ (.head _)
  have h1 := hc _ (.tail _ (.head _))
  exact satG AllOk.nil mixed Try.func34 (ptlJ_e n) (ptlJ_v n h0 h1)
theorem divJ_sound : Sound Try.prog 35 sDivd.ctr := sDivd.sound (by kernel_rfl) sDivd_enc fun ⟨s, p⟩ hc => by
  have h0 := hc _ (.head _)
  exact satG AllOk.nil mixed Try.func35 (divJ_e s p) (divJ_v s p h0)
theorem joinJ_sound : Sound Try.prog 42 sJoin.ctr := sJoin.sound (by kernel_rfl) sJoin_enc fun xs hc => by
  have h0 := hc _ (.head _)
  have h1 := hc _ (.tail _ (.head _))
  exact satG AllOk.nil mixed Try.func42 (joinJ_e xs) (joinJ_v xs h0 h1)
theorem wroJ_sound : Sound Try.prog 16 sWrO.ctr := sWrO.sound (by kernel_rfl) sWrO_enc fun ⟨l, s⟩ hc => by
  have h0 := hc _ (.head _)
  have h1 := hc _ (.tail _ (.head _))
  exact satG GUc_ok mixed Try.func16 (wroJ_e l s) (wroJ_v l s h0 h1)
theorem szoJ_sound : Sound Try.prog 20 sSzO.ctr := sSzO.sound (by kernel_rfl) sSzO_enc fun ⟨l, s⟩ hc => by
  have h0 := hc _ (.head _)
  have h1 := hc _ (.tail _ (.head _))
  exact satG GUc_ok mixed Try.func20 (szoJ_e l s) (szoJ_v l s h0 h1)
theorem rdoJ_sound : Sound Try.prog 11 sRdO.ctr := sRdO.sound (by kernel_rfl) sRdO_enc fun ⟨l, b, n⟩ hc => by
  have h0 := hc _ (.head _)
  have h1 := hc _ (.tail _ (.head _))
  exact satG GUc_ok mixed Try.func11 (rdoJ_e l b n) (rdoJ_v l b n h0 h1)
theorem GUd_ok : AllOk Try.prog GUd := .cons fldJ_sound <| .cons rd16J_sound <| .cons ptlJ_sound <| .cons divJ_sound <| .cons joinJ_sound <| .cons wroJ_sound <| .cons szoJ_sound <| .cons rdoJ_sound <| GUc_ok
theorem litJ_sound : Sound Try.prog 41 sLit2.ctr := sLit2.sound (by kernel_rfl) sLit2_enc fun n hc => by
  have h0 := hc _ (.head _)
  have h1 := hc _ (.tail _ (.head _))
  exact satG GUd_ok mixed Try.func41 (litJ_e n) (litJ_v n h0 h1)
theorem ptvJ_sound : Sound Try.prog 22 sPtV.ctr := sPtV.sound (by kernel_rfl) sPtV_enc fun n hc => by
  exact satG GUd_ok mixed Try.func22 (ptvJ_e n) (ptvJ_v n)
theorem r4J_sound : Sound Try.prog 13 sR4.ctr := sR4.sound (by kernel_rfl) sR4_enc fun ⟨l, b, n⟩ hc => by
  have h0 := hc _ (.head _)
  have h1 := hc _ (.tail _ (.head _))
  exact satG GUd_ok mixed Try.func13 (r4J_e l b n) (r4J_v l b n h0 h1)
theorem GUe_ok : AllOk Try.prog GUe := .cons litJ_sound <| .cons ptvJ_sound <| .cons r4J_sound <| GUd_ok
theorem w4J_sound : Sound Try.prog 18 sW4.ctr := sW4.sound (by kernel_rfl) sW4_enc fun ⟨l, s⟩ hc => by
  have h0 := hc _ (.head _)
  have h1 := hc _ (.tail _ (.head _))
  exact satG GUe_ok mixed Try.func18 (w4J_e l s) (w4J_v l s h0 h1)
theorem GUf_ok : AllOk Try.prog GUf := .cons w4J_sound <| GUe_ok
theorem shownN_v : shownN_t := by
  unfold shownN_t
  decide +kernel
theorem shownN_sound : Sound Try.prog 24 sShown.ctr := sShown.sound (by kernel_rfl) sShown_enc fun _ hc => by
  exact satG AllOk.nil mixed Try.func24 (shownN_e ) (shownN_v)
theorem GUg_ok : AllOk Try.prog GUg := .cons shownN_sound <| .cons of7_sound <| .cons md7_sound <| .cons at7_sound <| GUf_ok
theorem wrsN_v (s w : ByteArray) (h0 : s.size ≤ 40000) : wrsN_t s w := by
  unfold wrsN_t wrsB
  refine ⟨by decide, h0, fun h => ?_, fun h => ?_⟩
  · rw [h, Bool.true_and]
  · rw [h, Bool.false_and]
theorem rdsN_v (b : ByteArray) (n : Int) (w : ByteArray) (e : Int) (h0 : b.size ≤ 4294967296) : rdsN_t b n w e := by
  unfold rdsN_t rdsB
  refine ⟨by decide, h0, fun h => ?_, fun h => ?_⟩
  · rw [h, Bool.true_and]
  · rw [h, Bool.false_and]
theorem cmX_bd (nums : List Int) (i : Nat) : 1 ≤ cmX nums i ∧ cmX nums i ≤ 100 := by
  have := md_bd (x := atL nums i) (show (1 : Int) ≤ 100 by omega)
  unfold cmX
  omega
theorem cmN_bd (nums : List Int) : 2 ≤ cmN nums ∧ cmN nums ≤ 12 := by unfold cmN; omega
theorem cmP_len (nums : List Int) {i : Nat} (h : i ≤ 13) : (cmP nums i).length = 110 := by
  unfold cmP
  simp only [List.length_append, List.length_replicate, List.length_map, List.length_range]
  omega
theorem cmP_succ (nums : List Int) {i : Nat} (h : i < 13) : (cmP nums i).set (97 + i) (cmX nums i) = cmP nums (i + 1) := by
  unfold cmP
  rw [List.set_append_right _ _ (by rw [List.length_replicate]; omega), List.length_replicate, show 97 + i - 97 = i by omega, List.set_append_right _ _ (by simp), List.length_map, List.length_range, Nat.sub_self]
  obtain ⟨c, hc⟩ : ∃ c, 13 - i = c + 1 := ⟨12 - i, by omega⟩
  rw [hc, show List.replicate (c + 1) (0 : Int) = 0 :: List.replicate c 0 from rfl, List.set_cons_zero, show 13 - (i + 1) = c by omega, List.range_succ, List.map_append, List.append_assoc]
  rfl
theorem mem_cmP {nums : List Int} {i : Nat} {x : Int} (h : x ∈ cmP nums i) : 0 ≤ x ∧ x ≤ 100 := by
  unfold cmP at h
  rw [List.mem_append, List.mem_append] at h
  rcases h with h | h | h
  · have := List.eq_of_mem_replicate h; omega
  · obtain ⟨j, _, rfl⟩ := List.mem_map.1 h
    have := cmX_bd nums j
    omega
  · have := List.eq_of_mem_replicate h; omega
theorem cntP_app (a b : List Int) : cntP (a ++ b) = cntP a + cntP b := by
  induction b using snoc_ind' with
  | h0 =>
    rw [List.append_nil]
    show cntP a = cntP a + 0
    omega
  | h1 l z ih =>
    rw [← List.append_assoc, cntP_snoc, cntP_snoc, ih]
    cases decide (0 < z)
    · rw [cond_false, cond_false]
    · rw [cond_true, cond_true]; omega
theorem cntP_zero (n : Nat) : cntP (List.replicate n 0) = 0 := by
  induction n with
  | zero => rfl
  | succ n ih => rw [List.replicate_succ', cntP_app, ih]; rfl
theorem cntP_all : ∀ l : List Int, (∀ x ∈ l, 0 < x) → cntP l = l.length := by
  intro l
  induction l using snoc_ind' with
  | h0 => intro _; rfl
  | h1 l z ih =>
    intro h
    rw [cntP_snoc, decide_eq_true (h z (by simp)), cond_true, ih fun x hx => h x (by simp [hx]), List.length_append]
    rfl
theorem cmP_cnt (nums : List Int) (i : Nat) : cntP (cmP nums i) = i := by
  unfold cmP
  rw [cntP_app, cntP_app, cntP_zero, cntP_zero, cntP_all _ (fun x hx => by obtain ⟨j, _, rfl⟩ := List.mem_map.1 hx; have := cmX_bd nums j; omega), List.length_map, List.length_range]
  omega
theorem cm_leaves (nums : List Int) (i : Nat) : (leaves (cmP nums i)).length = i := by
  have := cntP_syms (cmP nums i)
  rw [leaves_len]
  rw [cmP_cnt] at this
  omega
theorem cm_cn (nums : List Int) {i : Nat} (h : i ≤ 13) : Cn (cmP nums i) where
  nn := fun x hx => (mem_cmP hx).1
  tot := by
    have hl := cmP_len nums h
    have : ∀ l : List Int, (∀ x ∈ l, x ≤ 100) → l.sum ≤ 100 * l.length := by
      intro l
      induction l with
      | nil => intro _; simp
      | cons x r ih =>
        intro h
        have := h x (by simp)
        have := ih (fun y hy => h y (by simp [hy]))
        simp only [List.sum_cons, List.length_cons]
        push_cast
        omega
    have := this _ (fun x hx => (mem_cmP (nums := nums) (i := i) hx).2)
    unfold sumL
    omega
structure MdOk (nums : List Int) : Prop where
  chk : chk (mdL nums) = 0
  len : (mdL nums).length = 110
  pos : posL (mdL nums) = posL (cmL nums)
theorem md_ok (nums : List Int) : MdOk nums := by
  have hb := cmN_bd nums
  have hl := cmP_len nums (show cmN nums ≤ 13 by omega)
  have hv := cm_leaves nums (cmN nums)
  obtain ⟨a, b, c⟩ := ofL_ok (l := cmL nums) (cm_cn nums (by omega)) (by show (cmP nums (cmN nums)).length ≤ 256; omega) (by show (leaves (cmP nums (cmN nums))).length ≤ 40; omega) (by show 2 ≤ (leaves (cmP nums (cmN nums))).length; omega)
  exact ⟨a, by show (ofL (cmL nums)).length = 110; rw [b]; exact hl, c⟩
theorem mdC_len (nums text : List Int) {i : Nat} (h : i ≤ text.length) : (mdC nums text i).length = i := by
  unfold mdC
  rw [List.length_map, List.length_take]
  omega
theorem mdC_succ (nums text : List Int) {i : Nat} (h : i < text.length) : mdC nums text (i + 1) = mdC nums text i ++ [97 + md (text.getD i 0) (cmN nums)] := by
  unfold mdC
  rw [take_succ text 0 h, List.map_append]
  rfl
theorem madeN_v (nums text : List Int) : madeN_t nums text := by
  unfold madeN_t
  have hb := cmN_bd nums
  have hstep : ∀ i : Nat, i < cmN nums → IntKind.wrap IntKind.i64 (97 + (i : Int)) = 97 + (i : Int) ∧ IntKind.wrap IntKind.i64 (1 + md (atL nums (i : Int)) 100) = cmX nums i ∧ (cmP nums i).set (Int.toNat (97 + (i : Int))) (cmX nums i) = cmP nums (i + 1) := fun i hi => by
    have hm := md_bd (x := atL nums i) (show (1 : Int) ≤ 100 by omega)
    refine ⟨wr (by omega) (by omega), wr (by omega) (by omega), ?_⟩
    rw [show Int.toNat (97 + (i : Int)) = 97 + i by omega]
    exact cmP_succ nums (by omega)
  have hlen : ∀ i : Nat, i ≤ 12 → Nat.succ (Nat.add (List.length (List.append (List.replicate 96 (0 : Int)) (List.map (cmX nums) (List.range i) ++ List.replicate (13 - i) (0 : Int)))) 0) = 110 := fun i hi => by
    show (List.length (List.append (List.replicate 96 (0 : Int)) (List.map (cmX nums) (List.range i) ++ List.replicate (13 - i) (0 : Int)))) + 1 = 110
    rw [List.append_eq, List.length_append, List.length_append, List.length_replicate, List.length_map, List.length_range, List.length_replicate]
    omega
  refine ⟨by omega, by omega, by decide, by omega, ⟨⟨0, Nat.zero_le _, (by first | rfl | trivial), (by first | rfl | trivial), (by first | rfl | trivial), rfl⟩, fun i hi => ⟨fun hlt => ?_, fun hge => ⟨fun h2 => ⟨fun h3 => ?_, fun h3 => ⟨(), trivial, (by first | rfl | trivial), (by first | rfl | trivial), ?_⟩⟩, fun h2 => ⟨(), trivial, (by first | rfl | trivial), (by first | rfl | trivial), ?_⟩⟩⟩⟩, fun _ _ => ?_⟩
  · rw [nle] at hi
    have hlt : (i : Int) < 2 := by simpa using hlt
    obtain ⟨e1, e2, e3⟩ := hstep i (by omega)
    rw [e1, e2, hlen i (by omega)]
    exact ⟨by omega, by omega, by omega, by omega, i + 1, by rw [nle]; omega, by show cmN nums - (i + 1) < cmN nums - i; omega, (by first | rfl | trivial), (by first | rfl | trivial), by rw [wr (by omega) (by omega)]; push_cast; rfl, e3⟩
  · rw [nle] at hi
    have h2 : (i : Int) < nums.length := by simpa using h2
    have h3 : (i : Int) < 12 := by simpa using h3
    have hi' : i < cmN nums := by unfold cmN; omega
    obtain ⟨e1, e2, e3⟩ := hstep i hi'
    rw [e1, e2, hlen i (by omega)]
    exact ⟨by omega, by omega, by omega, by omega, i + 1, by rw [nle]; omega, by show cmN nums - (i + 1) < cmN nums - i; omega, (by first | rfl | trivial), (by first | rfl | trivial), by rw [wr (by omega) (by omega)]; push_cast; rfl, e3⟩
  · rw [nle] at hi
    have h2 : (i : Int) < nums.length := by simpa using h2
    have h3 : ¬ (i : Int) < 12 := by simpa using h3
    have : i = cmN nums := by unfold cmN at *; omega
    rw [this]; rfl
  · rw [nle] at hi
    have hge : ¬ (i : Int) < 2 := by simpa using hge
    have h2 : ¬ (i : Int) < nums.length := by simpa using h2
    have : i = cmN nums := by unfold cmN at *; omega
    rw [this]; rfl
  · have hl := cmP_len nums (show cmN nums ≤ 13 by omega)
    have hv := cm_leaves nums (cmN nums)
    refine ⟨by show (cmP nums (cmN nums)).length ≤ 256; omega, by show (leaves (cmP nums (cmN nums))).length ≤ 40; omega, cn_iff.2 (cm_cn nums (by omega)), by show 2 ≤ (leaves (cmP nums (cmN nums))).length; omega, ⟨⟨0, Nat.zero_le _, (by first | rfl | trivial), (by first | rfl | trivial), by unfold cmN; omega, rfl, (by first | rfl | trivial), rfl⟩, fun i hi => ⟨fun hlt => ⟨fun hlt2 => ?_, fun hge => ⟨(), trivial, (by first | rfl | trivial), ?_, (by first | rfl | trivial)⟩⟩, fun hge => ⟨(), trivial, (by first | rfl | trivial), ?_, (by first | rfl | trivial)⟩⟩⟩, fun _ _ => ⟨(by first | rfl | trivial), (by first | rfl | trivial), (by first | rfl | trivial)⟩⟩
    · rw [nle] at hi
      have hlt : (i : Int) < text.length := by simpa using hlt
      have hlt2 : (i : Int) < 100 := by simpa using hlt2
      have hi' : i < text.length := by omega
      have hm := md_bd (x := text.getD i 0) (show (1 : Int) ≤ (cmN nums : Nat) by omega)
      have hcl := mdC_len nums text (show i ≤ text.length by omega)
      simp only [toNat_cast]
      rw [wr (n := 97 + md (text.getD i 0) (cmN nums)) (by omega) (by omega), wrap8, Int.emod_eq_of_lt (by omega) (by omega)]
      refine ⟨by omega, by omega, by omega, by rw [strOfNums_size, strOfNums_size, hcl]; show i + 1 ≤ _; omega, i + 1, by rw [nle]; omega, by show 100 - (i + 1) < 100 - i; omega, (by first | rfl | trivial), (by first | rfl | trivial), (by first | rfl | trivial), ?_, by rw [wr (by omega) (by omega)]; push_cast; rfl, (by first | rfl | trivial)⟩
      rw [mdC_succ nums text hi', str_app]
    · rw [nle] at hi
      have hge : ¬ (i : Int) < 100 := by simpa using hge
      unfold mdS
      rw [show i = min text.length 100 by omega]
    · rw [nle] at hi
      have hge : ¬ (i : Int) < text.length := by simpa using hge
      unfold mdS
      rw [show i = min text.length 100 by omega]
theorem wrsN_sound : Sound Try.prog 25 sWrs.ctr := sWrs.sound (by kernel_rfl) sWrs_enc fun ⟨s, w⟩ hc => by
  have h0 := hc _ (.head _)
  exact satG GUg_ok mixed Try.func25 (wrsN_e s w) (wrsN_v s w h0)
theorem rdsN_sound : Sound Try.prog 26 sRds.ctr := sRds.sound (by kernel_rfl) sRds_enc fun ⟨b, n, w, e⟩ hc => by
  have h0 := hc _ (.head _)
  exact satG GUg_ok mixed Try.func26 (rdsN_e b n w e) (rdsN_v b n w e h0)
theorem madeN_sound : Sound Try.prog 27 sMade.ctr := sMade.sound (by kernel_rfl) sMade_enc fun ⟨nums, text⟩ hc => by
  exact satG GUg_ok mixed Try.func27 (madeN_e nums text) (madeN_v nums text)
theorem GUh_ok : AllOk Try.prog GUh := .cons wrsN_sound <| .cons rdsN_sound <| .cons madeN_sound <| GUg_ok
end Go.Proofs.Ytmdbliacaeokaaa
namespace Go.Proofs.Ytmdbliacaeokaaa
open Go Go.RowKit
set_option linter.unusedVariables false
set_option linter.unusedSimpArgs false
set_option maxRecDepth 100000
theorem awakeN_v : awakeN_t := by
  unfold awakeN_t
  decide +kernel
theorem awakeN_sound : Sound Try.prog 9 sTrue.ctr := sTrue.sound (by kernel_rfl) sTrue_enc fun _ hc => by
  exact satG GUh_ok mixed Try.func9 (awakeN_e ) (awakeN_v)
theorem GUi_ok : AllOk Try.prog GUi := .cons awakeN_sound <| GUh_ok
end Go.Proofs.Ytmdbliacaeokaaa
namespace Go.Proofs.Ytmdbliacaeokaaa
open Go Go.RowKit
set_option linter.unusedVariables false
set_option linter.unusedSimpArgs false
set_option maxRecDepth 100000
set_option synthInstance.maxSize 100000 in
set_option synthInstance.maxHeartbeats 0 in
theorem lawKnN_v : lawKnN_t := by
  unfold lawKnN_t
  decide +kernel
theorem lawKnN_sound : Sound Try.prog 5 sTrue.ctr := sTrue.sound (by kernel_rfl) sTrue_enc fun _ hc => by
  exact satG GUi_ok mixed Try.func5 (lawKnN_e ) (lawKnN_v)
theorem GUj_ok : AllOk Try.prog GUj := .cons lawKnN_sound <| GUi_ok
end Go.Proofs.Ytmdbliacaeokaaa
namespace Go.Proofs.Ytmdbliacaeokaaa
open Go Go.RowKit
set_option linter.unusedVariables false
set_option linter.unusedSimpArgs false
set_option maxRecDepth 100000
theorem chk_lchk {l : List Int} (h : chk l = 0) : lchk l = 0 := by
  obtain ⟨h1, h2, h3, h4⟩ := chk_zero h
  rw [lchk_sum (room_ok h1 h2).1 (by omega), h4]
  rfl
theorem nu_ok {l : List Int} (h : chk l = 0) {n : Int} (h0 : 0 ≤ n) (h1 : n ≤ 131072) : nuE l n = 0 := by
  unfold nuE
  rw [chk_lchk h, decide_eq_false (by omega), decide_eq_false (by omega)]
  rfl
theorem lit2_bytes {n : Int} (h0 : 0 ≤ n) (h1 : n < 65536) : bytesN (lit2 n) = [n % 256, n / 256 % 256] := by
  unfold lit2
  refine bytesN_str fun x hx => ?_
  simp only [List.mem_cons, List.not_mem_nil, or_false] at hx
  rcases hx with rfl | rfl <;> omega
theorem jn3 (a b c : ByteArray) : jn [a, b, c] = a ++ b ++ c := by
  show ByteArray.empty ++ a ++ b ++ c = _
  rw [ByteArray.empty_append]
theorem jn4 (a b c d : ByteArray) : jn [a, b, c, d] = a ++ b ++ c ++ d := by
  show ByteArray.empty ++ a ++ b ++ c ++ d = _
  rw [ByteArray.empty_append]
theorem w4_bytes {l : List Int} {s : ByteArray} (hz : ∀ i, (stH l s i).size < 65536) : bytesN (w4H l s) =
    [((stH l s 0).size : Int) % 256, ((stH l s 0).size : Int) / 256 % 256, ((stH l s 1).size : Int) % 256, ((stH l s 1).size : Int) / 256 % 256, ((stH l s 2).size : Int) % 256, ((stH l s 2).size : Int) / 256 % 256] ++
    (bytesN (stH l s 0) ++ (bytesN (stH l s 1) ++ (bytesN (stH l s 2) ++ bytesN (stH l s 3)))) := by
  have h0 := hz 0
  have h1 := hz 1
  have h2 := hz 2
  have e1 : heads4 l s 4 = [lit2 (stH l s 0).size, lit2 (stH l s 1).size, lit2 (stH l s 2).size] := rfl
  have e2 : strs4 l s 4 = [stH l s 0, stH l s 1, stH l s 2, stH l s 3] := rfl
  unfold w4H
  rw [e1, e2, jn3, jn4]
  simp only [bytesN_app]
  rw [lit2_bytes (by omega) (by omega), lit2_bytes (by omega) (by omega), lit2_bytes (by omega) (by omega)]
  simp only [List.append_assoc, List.cons_append, List.nil_append]
theorem byI_of {b : ByteArray} {i : Nat} {v : Int} (h : (bytesN b)[i]? = some v) : byI b i = v := by
  have hl := bytes_len b
  have hi : i < b.size := by
    have := (List.getElem?_eq_some_iff.1 h).1
    omega
  rw [← (byte_at hi).1, List.getD_eq_getElem?_getD, h]
  rfl
structure W4 (l : List Int) (s : ByteArray) : Prop where
  q : Q4 (w4H l s)
  p : ∀ i, i < 4 → p4 (w4H l s) i = stH l s i
  z : ∀ i, i < 3 → z4 (w4H l s) i = (stH l s i).size
  sz : (w4H l s).size = 6 + ((stH l s 0).size + ((stH l s 1).size + ((stH l s 2).size + (stH l s 3).size)))
theorem w4_ok {l : List Int} {s : ByteArray} (hz : ∀ i, (stH l s i).size < 65536) : W4 l s := by
  have hb := w4_bytes hz
  have h0 := hz 0
  have h1 := hz 1
  have h2 := hz 2
  have l0 := bytes_len (stH l s 0)
  have l1 := bytes_len (stH l s 1)
  have l2 := bytes_len (stH l s 2)
  have l3 := bytes_len (stH l s 3)
  have hsz : (w4H l s).size = 6 + ((stH l s 0).size + ((stH l s 1).size + ((stH l s 2).size + (stH l s 3).size))) := by
    have := congrArg List.length hb
    rw [bytes_len] at this
    simp only [List.length_append, List.length_cons, List.length_nil, l0, l1, l2, l3] at this
    omega
  have hzz : ∀ i, i < 3 → z4 (w4H l s) i = (stH l s i).size := by
    intro i hi
    unfold z4 le16
    rcases three_cases hi with rfl | rfl | rfl
    · rw [byI_of (b := w4H l s) (i := 2 * 0) (v := ((stH l s 0).size : Int) % 256) (by rw [hb]; rfl), byI_of (b := w4H l s) (i := 2 * 0 + 1) (v := ((stH l s 0).size : Int) / 256 % 256) (by rw [hb]; rfl)]
      omega
    · rw [byI_of (b := w4H l s) (i := 2 * 1) (v := ((stH l s 1).size : Int) % 256) (by rw [hb]; rfl), byI_of (b := w4H l s) (i := 2 * 1 + 1) (v := ((stH l s 1).size : Int) / 256 % 256) (by rw [hb]; rfl)]
      omega
    · rw [byI_of (b := w4H l s) (i := 2 * 2) (v := ((stH l s 2).size : Int) % 256) (by rw [hb]; rfl), byI_of (b := w4H l s) (i := 2 * 2 + 1) (v := ((stH l s 2).size : Int) / 256 % 256) (by rw [hb]; rfl)]
      omega
  have z0 := hzz 0 (by omega)
  have z1 := hzz 1 (by omega)
  have z2 := hzz 2 (by omega)
  have hq : Q4 (w4H l s) := ⟨by omega, by rw [at4_3, z0, z1, z2, hsz]; push_cast; omega⟩
  refine ⟨hq, fun i hi => ?_, hzz, hsz⟩
  have g0 : (q4 (w4H l s)).getD 0 0 = (stH l s 0).size := z0
  have g1 : (q4 (w4H l s)).getD 1 0 = (stH l s 1).size := z1
  have g2 : (q4 (w4H l s)).getD 2 0 = (stH l s 2).size := z2
  have g3 : (q4 (w4H l s)).getD 3 0 = (stH l s 3).size := by
    rw [q4_3, at4_3, z0, z1, z2, hsz]; push_cast; omega
  obtain ⟨o1, o2, o3, o4⟩ := off4 (q4 (w4H l s))
  rw [g0, toNat_cast] at o1 o2 o3
  rw [g1, toNat_cast] at o2 o3
  rw [g2, toNat_cast] at o3
  have hR : bytesN ((w4H l s).extract 6 (w4H l s).size) = bytesN (stH l s 0) ++ (bytesN (stH l s 1) ++ (bytesN (stH l s 2) ++ bytesN (stH l s 3))) := by
    rw [ext_bytes, hb]
    simp only [List.cons_append, List.nil_append, List.drop_succ_cons, List.drop_zero]
    exact List.take_of_length_le (by simp only [List.length_append, l0, l1, l2, l3]; omega)
  apply bytes_inj
  unfold p4
  rw [pc_bytes, hR]
  have : i = 0 ∨ i = 1 ∨ i = 2 ∨ i = 3 := by omega
  rcases this with rfl | rfl | rfl | rfl
  · rw [g0, toNat_cast]
    show List.take _ (List.drop 0 _) = _
    rw [List.drop_zero, ← l0, List.take_left']
    rfl
  · rw [g1, toNat_cast, o1, ← l0, List.drop_left' rfl, ← l1, List.take_left' rfl]
  · rw [g2, toNat_cast, o2, ← l0, ← l1, List.drop_append, List.drop_of_length_le (by omega), List.nil_append, Nat.add_sub_cancel_left, List.drop_left' rfl, ← l2, List.take_left' rfl]
  · rw [g3, toNat_cast, o3, ← l0, ← l1, ← l2, List.drop_append, List.drop_of_length_le (by omega), List.nil_append, show (bytesN (stH l s 0)).length + (bytesN (stH l s 1)).length + (bytesN (stH l s 2)).length - (bytesN (stH l s 0)).length = (bytesN (stH l s 1)).length + (bytesN (stH l s 2)).length by omega, List.drop_append, List.drop_of_length_le (by omega), List.nil_append, Nat.add_sub_cancel_left, List.drop_left' rfl, List.take_of_length_le (by omega)]
theorem x4_wr {l : List Int} {s : ByteArray} (hg : Good l) (ht : txOk l s) (hs : s.size ≤ 40000) (h6 : 6 ≤ s.size) {n : Int} (hn : 6 ≤ n) {i : Nat} (hi : i < 4) :
    x4 l (w4H l s) n i = if (ptL n).getD i 0 = (ptL s.size).getD i 0 then some (bytesN (pcS s (ptL s.size) i)) else none := by
  have hz : ∀ j, (stH l s j).size < 65536 := fun j => by have := st_size hg ht hs j; omega
  have hw := w4_ok hz
  have hp := ptL_bd hn hi
  have hd := pt_dv (s := s) h6
  have ho := offP_le (p := ptL s.size) (show i + 1 ≤ 4 by omega)
  have h4 := pt_off (n := (s.size : Int)) (by omega)
  simp only [offP] at ho h4
  have hps := pc_size (s := s) (p := ptL s.size) (i := i) (by omega)
  have hd0 := (hd.2 i hi).1
  unfold x4
  rw [hw.p i hi]
  have hle := pc_le s (ptL s.size) i
  have := rd_wr hg (pc_ok ht (ptL s.size) i) (by omega) hp.1
  unfold stH
  rw [this]
  by_cases he : (ptL n).getD i 0 = (ptL s.size).getD i 0
  · rw [if_pos he, if_pos (by omega)]
  · rw [if_neg he, if_neg (by omega)]
theorem out_wr {l : List Int} {s : ByteArray} (hg : Good l) (ht : txOk l s) (hs : s.size ≤ 40000) (h6 : 6 ≤ s.size) : ∀ i, i ≤ 4 → ok4 l (w4H l s) s.size i = true ∧ bytesN (out4 l (w4H l s) s.size i) = (bytesN s).take (offP (ptL s.size) i)
  | 0, _ => ⟨rfl, rfl⟩
  | i + 1, hi => by
    obtain ⟨i1, i2⟩ := out_wr hg ht hs h6 i (by omega)
    have hx := x4_wr hg ht hs h6 (n := (s.size : Int)) (by omega) (i := i) (by omega)
    rw [if_pos rfl] at hx
    refine ⟨by rw [ok4_succ, i1, hx]; rfl, ?_⟩
    show bytesN (out4 l (w4H l s) s.size i ++ oS (x4 l (w4H l s) s.size i)) = _
    rw [bytesN_app, i2, hx]
    show _ ++ bytesN (strOfNums (bytesN (pcS s (ptL s.size) i))) = (bytesN s).take (offP (ptL s.size) i + ((ptL s.size).getD i 0).toNat)
    rw [str_bytes, pc_bytes, List.take_add]
theorem e4_wr {l : List Int} {s : ByteArray} (hc : chk l = 0) (hz : ∀ j, (stH l s j).size < 65536) {n : Int} (hn : 6 ≤ n) (hn2 : n ≤ 131072) : e4 l (w4H l s) n = 0 := by
  have hq := (w4_ok hz).q
  have h3 := q4_3 (w4H l s)
  have hf := hq.fit
  have h6 := hq.s6
  exact e4_ok (nu_ok hc (by omega) hn2) (by omega) (by omega) (by omega)
structure Bk4 (l : List Int) (s : ByteArray) : Prop where
  ok : w4E l s = 0
  w : w4O l s = w4H l s
  e : r4E l (w4H l s) s.size = 0
  o : r4O l (w4H l s) s.size = s
  p : r4P l (w4H l s) s.size = 0
  no : ∀ n : Int, 6 ≤ n → n ≤ 131072 → n ≠ s.size → r4E l (w4H l s) n = 22
theorem back4 {l : List Int} {s : ByteArray} (hc : chk l = 0) (ht : txOk l s) (hs : s.size ≤ 40000) (h6 : 6 ≤ s.size) : Bk4 l s := by
  have hg := good hc
  have hz : ∀ j, (stH l s j).size < 65536 := fun j => by have := st_size hg ht hs j; omega
  have hx : txE l s = 0 := ok_tx (chk_lchk hc) (by omega) ht
  obtain ⟨w1, w2⟩ := w4E_ok hx (show ¬ s.size < 6 by omega)
  have he := e4_wr hc hz (n := (s.size : Int)) (by omega) (by omega)
  obtain ⟨o1, o2⟩ := out_wr hg ht hs h6 4 (Nat.le_refl _)
  obtain ⟨r1, r2, r3⟩ := r4_all he o1
  refine ⟨w1, w2, r3.symm, ?_, r2.symm, fun n hn hn2 hne => ?_⟩
  · rw [← r1]
    apply bytes_inj
    rw [o2, pt_off (by omega), toNat_cast, List.take_of_length_le (by rw [bytes_len]; exact Nat.le_refl _)]
  · have he' := e4_wr (l := l) (s := s) hc hz hn hn2
    unfold r4E
    rw [he']
    have hno : ok4 l (w4H l s) n 4 = false := by
      rw [Bool.eq_false_iff]
      intro h4
      have all : ∀ i, i < 4 → (ptL n).getD i 0 = (ptL s.size).getD i 0 := fun i hi => by
        have h1 := ok4_mono (show i + 1 ≤ 4 by omega) h4
        rw [ok4_succ, x4_wr hg ht hs h6 hn hi] at h1
        by_cases he : (ptL n).getD i 0 = (ptL s.size).getD i 0
        · exact he
        · rw [if_neg he] at h1
          simp at h1
      have a0 := all 0 (by omega)
      have a3 := all 3 (by omega)
      rw [ptL_0, ptL_0] at a0
      rw [ptL_3, ptL_3] at a3
      omega
    rw [hno]
    rfl
end Go.Proofs.Ytmdbliacaeokaaa
namespace Go.Proofs.Ytmdbliacaeokaaa
open Go Go.RowKit
set_option linter.unusedVariables false
set_option linter.unusedSimpArgs false
set_option maxRecDepth 100000
def oBkH (l : List Int) (s b : ByteArray) (n : Int) : LoopInv := { ι := Nat, p := fun i => i ≤ s.size, tm := fun i => [(2, .v (.int .i64 n)), (7, .v (.bool true)), (8, .o 5000), (9, .v (.string s)), (11, .v (.string b)), (15, .v (.int .i64 (bitsP l s i))), (16, .v (.int .i64 (i : Nat)))], hp := fun _ => [(5000, .row 3 (.ints .i64 l))], μ := fun i => s.size - i }
end Go.Proofs.Ytmdbliacaeokaaa
namespace Go.Proofs.Ytmdbliacaeokaaa
open Go Go.RowKit
set_option linter.unusedVariables false
set_option maxRecDepth 100000
def lawBkR_t (nums text : List Int) (other : Int) : Prop :=
 List.length (mdL nums) ≤ (4294967296 : Nat) ∧
 ByteArray.size (mdS nums text) ≤ (40000 : Nat) ∧
 List.length (mdL nums) ≤ (4294967296 : Nat) ∧
 ByteArray.size (wrO (mdL nums) (mdS nums text)) ≤ (4294967296 : Nat) ∧
 ((!true) = true → false = true) ∧
 ((!true) = false →
 ((txE (mdL nums) (mdS nums text) != (0 : Int)) = true → false = true) ∧
 ((txE (mdL nums) (mdS nums text) != (0 : Int)) = false →
 ((rE (mdL nums) (wrO (mdL nums) (mdS nums text)) (↑(ByteArray.size (mdS nums text)) : Int) != (0 : Int)) = true → false = true) ∧
 ((rE (mdL nums) (wrO (mdL nums) (mdS nums text)) (↑(ByteArray.size (mdS nums text)) : Int) != (0 : Int)) = false →
 ((!ByteArray.toList (rO (mdL nums) (wrO (mdL nums) (mdS nums text)) (↑(ByteArray.size (mdS nums text)) : Int)) == ByteArray.toList (mdS nums text)) = true → false = true) ∧
 ((!ByteArray.toList (rO (mdL nums) (wrO (mdL nums) (mdS nums text)) (↑(ByteArray.size (mdS nums text)) : Int)) == ByteArray.toList (mdS nums text)) = false →
 (∃ (x0 : Nat),
 Nat.le x0 (ByteArray.size (mdS nums text)) ∧
 other = other ∧
 true = true ∧
 mdS nums text = mdS nums text ∧
 wrO (mdL nums) (mdS nums text) = wrO (mdL nums) (mdS nums text) ∧ (0 : Int) = bitsP (mdL nums) (mdS nums text) x0 ∧ (0 : Int) = (↑x0 : Int) ∧ mdL nums = mdL nums) ∧
 ∀ (x1 : Nat),
 Nat.le x1 (ByteArray.size (mdS nums text)) →
 (decide ((↑x1 : Int) < (↑(ByteArray.size (mdS nums text)) : Int)) = true →
 (0 : Int) ≤ (↑x1 : Int) ∧
 (↑x1 : Int) < (↑(ByteArray.size (mdS nums text)) : Int) ∧
 (0 : Int) ≤ (↑(UInt8.toNat (List.getD (mdS nums text).data.toList (Int.toNat (↑x1 : Int)) (0 : UInt8))) : Int) ∧
 (↑(UInt8.toNat (List.getD (mdS nums text).data.toList (Int.toNat (↑x1 : Int)) (0 : UInt8))) : Int) < (↑(List.length (mdL nums)) : Int) ∧
 Int.toNat (↑(UInt8.toNat (List.getD (mdS nums text).data.toList (Int.toNat (↑x1 : Int)) (0 : UInt8))) : Int) < List.length (mdL nums) ∧
 ∃ (y2 : Nat),
 Nat.le y2 (ByteArray.size (mdS nums text)) ∧
 Nat.sub (ByteArray.size (mdS nums text)) y2 < Nat.sub (ByteArray.size (mdS nums text)) x1 ∧
 other = other ∧
 true = true ∧
 mdS nums text = mdS nums text ∧
 wrO (mdL nums) (mdS nums text) = wrO (mdL nums) (mdS nums text) ∧
 IntKind.wrap IntKind.i64
 (bitsP (mdL nums) (mdS nums text) x1 +
 List.getD (mdL nums) (Int.toNat (↑(UInt8.toNat (List.getD (mdS nums text).data.toList (Int.toNat (↑x1 : Int)) (0 : UInt8))) : Int))
 (0 : Int)) =
 bitsP (mdL nums) (mdS nums text) y2 ∧
 IntKind.wrap IntKind.i64 ((↑x1 : Int) + (1 : Int)) = (↑y2 : Int) ∧ mdL nums = mdL nums) ∧
 (decide ((↑x1 : Int) < (↑(ByteArray.size (mdS nums text)) : Int)) = false →
 (120 : Int) ≤ (4611686018427387904 : Int) ∧
 List.length (mdL nums) ≤ (4294967296 : Nat) ∧
 ByteArray.size (wrO (mdL nums) (mdS nums text)) ≤ (4294967296 : Nat) ∧
 (8 : Int) ≠ (0 : Int) ∧
 (((↑(ByteArray.size (wrO (mdL nums) (mdS nums text))) : Int) !=
 IntKind.wrap IntKind.i64 (IntKind.wrap IntKind.i64 (Int.tdiv (bitsP (mdL nums) (mdS nums text) x1) (8 : Int)) + (1 : Int))) =
 true →
 false = true) ∧
 (((↑(ByteArray.size (wrO (mdL nums) (mdS nums text))) : Int) !=
 IntKind.wrap IntKind.i64 (IntKind.wrap IntKind.i64 (Int.tdiv (bitsP (mdL nums) (mdS nums text) x1) (8 : Int)) + (1 : Int))) =
 false →
 ((!(rE (mdL nums) (wrO (mdL nums) (mdS nums text)) (md other (120 : Int)) == (0 : Int)) ==
 (md other (120 : Int) == (↑(ByteArray.size (mdS nums text)) : Int))) =
 true →
 false = true) ∧
 ((!(rE (mdL nums) (wrO (mdL nums) (mdS nums text)) (md other (120 : Int)) == (0 : Int)) ==
 (md other (120 : Int) == (↑(ByteArray.size (mdS nums text)) : Int))) =
 false →
 (decide ((↑(ByteArray.size (mdS nums text)) : Int) < (6 : Int)) = true → true = true) ∧
 (decide ((↑(ByteArray.size (mdS nums text)) : Int) < (6 : Int)) = false →
 List.length (mdL nums) ≤ (4294967296 : Nat) ∧
 ByteArray.size (mdS nums text) ≤ (40000 : Nat) ∧
 List.length (mdL nums) ≤ (4294967296 : Nat) ∧
 ByteArray.size (w4O (mdL nums) (mdS nums text)) ≤ (4294967296 : Nat) ∧
 ((w4E (mdL nums) (mdS nums text) != (0 : Int)) = true →
 (true = true →
 ((w4E (mdL nums) (mdS nums text) == (0 : Int)) = true →
 ((r4E (mdL nums) (w4O (mdL nums) (mdS nums text)) (↑(ByteArray.size (mdS nums text)) : Int) == (0 : Int)) = true →
 (ByteArray.toList (r4O (mdL nums) (w4O (mdL nums) (mdS nums text)) (↑(ByteArray.size (mdS nums text)) : Int)) ==
 ByteArray.toList (mdS nums text)) =
 true) ∧
 ((r4E (mdL nums) (w4O (mdL nums) (mdS nums text)) (↑(ByteArray.size (mdS nums text)) : Int) == (0 : Int)) = false →
 false = true)) ∧
 ((w4E (mdL nums) (mdS nums text) == (0 : Int)) = false → false = true)) ∧
 (true = false → false = true)) ∧
 ((w4E (mdL nums) (mdS nums text) != (0 : Int)) = false →
 ((r4E (mdL nums) (w4O (mdL nums) (mdS nums text)) (↑(ByteArray.size (mdS nums text)) : Int) != (0 : Int)) = true →
 (true = true →
 ((w4E (mdL nums) (mdS nums text) == (0 : Int)) = true →
 ((r4E (mdL nums) (w4O (mdL nums) (mdS nums text)) (↑(ByteArray.size (mdS nums text)) : Int) == (0 : Int)) = true →
 (ByteArray.toList (r4O (mdL nums) (w4O (mdL nums) (mdS nums text)) (↑(ByteArray.size (mdS nums text)) : Int)) ==
 ByteArray.toList (mdS nums text)) =
 true) ∧
 ((r4E (mdL nums) (w4O (mdL nums) (mdS nums text)) (↑(ByteArray.size (mdS nums text)) : Int) == (0 : Int)) = false →
 false = true)) ∧
 ((w4E (mdL nums) (mdS nums text) == (0 : Int)) = false → false = true)) ∧
 (true = false → false = true)) ∧
 ((r4E (mdL nums) (w4O (mdL nums) (mdS nums text)) (↑(ByteArray.size (mdS nums text)) : Int) != (0 : Int)) = false →
 ((!ByteArray.toList (r4O (mdL nums) (w4O (mdL nums) (mdS nums text)) (↑(ByteArray.size (mdS nums text)) : Int)) ==
 ByteArray.toList (mdS nums text)) =
 true →
 (true = true →
 ((w4E (mdL nums) (mdS nums text) == (0 : Int)) = true →
 ((r4E (mdL nums) (w4O (mdL nums) (mdS nums text)) (↑(ByteArray.size (mdS nums text)) : Int) == (0 : Int)) = true →
 (ByteArray.toList (r4O (mdL nums) (w4O (mdL nums) (mdS nums text)) (↑(ByteArray.size (mdS nums text)) : Int)) ==
 ByteArray.toList (mdS nums text)) =
 true) ∧
 ((r4E (mdL nums) (w4O (mdL nums) (mdS nums text)) (↑(ByteArray.size (mdS nums text)) : Int) == (0 : Int)) = false →
 false = true)) ∧
 ((w4E (mdL nums) (mdS nums text) == (0 : Int)) = false → false = true)) ∧
 (true = false → false = true)) ∧
 ((!ByteArray.toList (r4O (mdL nums) (w4O (mdL nums) (mdS nums text)) (↑(ByteArray.size (mdS nums text)) : Int)) ==
 ByteArray.toList (mdS nums text)) =
 false →
 ((r4P (mdL nums) (w4O (mdL nums) (mdS nums text)) (↑(ByteArray.size (mdS nums text)) : Int) != (0 : Int)) = true →
 (true = true →
 ((w4E (mdL nums) (mdS nums text) == (0 : Int)) = true →
 ((r4E (mdL nums) (w4O (mdL nums) (mdS nums text)) (↑(ByteArray.size (mdS nums text)) : Int) == (0 : Int)) = true →
 (ByteArray.toList
 (r4O (mdL nums) (w4O (mdL nums) (mdS nums text)) (↑(ByteArray.size (mdS nums text)) : Int)) ==
 ByteArray.toList (mdS nums text)) =
 true) ∧
 ((r4E (mdL nums) (w4O (mdL nums) (mdS nums text)) (↑(ByteArray.size (mdS nums text)) : Int) == (0 : Int)) =
 false →
 false = true)) ∧
 ((w4E (mdL nums) (mdS nums text) == (0 : Int)) = false → false = true)) ∧
 (true = false → false = true)) ∧
 ((r4P (mdL nums) (w4O (mdL nums) (mdS nums text)) (↑(ByteArray.size (mdS nums text)) : Int) != (0 : Int)) = false →
 (decide (md other (120 : Int) < (6 : Int)) = true →
 (true = true →
 ((w4E (mdL nums) (mdS nums text) == (0 : Int)) = true →
 ((r4E (mdL nums) (w4O (mdL nums) (mdS nums text)) (↑(ByteArray.size (mdS nums text)) : Int) == (0 : Int)) =
 true →
 (ByteArray.toList
 (r4O (mdL nums) (w4O (mdL nums) (mdS nums text)) (↑(ByteArray.size (mdS nums text)) : Int)) ==
 ByteArray.toList (mdS nums text)) =
 true) ∧
 ((r4E (mdL nums) (w4O (mdL nums) (mdS nums text)) (↑(ByteArray.size (mdS nums text)) : Int) == (0 : Int)) =
 false →
 false = true)) ∧
 ((w4E (mdL nums) (mdS nums text) == (0 : Int)) = false → false = true)) ∧
 (true = false → false = true)) ∧
 (decide (md other (120 : Int) < (6 : Int)) = false →
 ((md other (120 : Int) == (↑(ByteArray.size (mdS nums text)) : Int)) = true →
 (true = true →
 ((w4E (mdL nums) (mdS nums text) == (0 : Int)) = true →
 ((r4E (mdL nums) (w4O (mdL nums) (mdS nums text)) (↑(ByteArray.size (mdS nums text)) : Int) ==
 (0 : Int)) =
 true →
 (ByteArray.toList
 (r4O (mdL nums) (w4O (mdL nums) (mdS nums text)) (↑(ByteArray.size (mdS nums text)) : Int)) ==
 ByteArray.toList (mdS nums text)) =
 true) ∧
 ((r4E (mdL nums) (w4O (mdL nums) (mdS nums text)) (↑(ByteArray.size (mdS nums text)) : Int) ==
 (0 : Int)) =
 false →
 false = true)) ∧
 ((w4E (mdL nums) (mdS nums text) == (0 : Int)) = false → false = true)) ∧
 (true = false → false = true)) ∧
 ((md other (120 : Int) == (↑(ByteArray.size (mdS nums text)) : Int)) = false →
 List.length (mdL nums) ≤ (4294967296 : Nat) ∧
 ByteArray.size (w4O (mdL nums) (mdS nums text)) ≤ (4294967296 : Nat) ∧
 (true = true →
 (r4E (mdL nums) (w4O (mdL nums) (mdS nums text)) (md other (120 : Int)) == (22 : Int)) = true) ∧
 (true = false → false = true)))))))))))))))
theorem lawBkR_e (nums text : List Int) (other : Int) : lawBkR_t nums text other = vcG Try.prog (Gof GUj) (one (oBkH (mdL nums) (mdS nums text) (wrO (mdL nums) (mdS nums text)) other)) Try.f6 [.dat (.ints .i64 nums), .dat (.ints .i64 text), .v (.int .i64 other)] [] (.leaf ((.v (.bool true))) ([])) := by kernel_rfl
end Go.Proofs.Ytmdbliacaeokaaa
namespace Go.Proofs.Ytmdbliacaeokaaa
open Go Go.RowKit
set_option linter.unusedVariables false
set_option linter.unusedSimpArgs false
set_option maxRecDepth 100000
theorem pos_of {l : List Int} {k : Nat} (hk : k < l.length) (h : 0 < l.getD k 0) : (k : Int) ∈ posL l := by
  obtain ⟨i, hi, e⟩ := ord_has hk h
  have hs := (sym_eq hi).1
  have hm : symI l i ∈ syms l := by
    refine (ordS_perm l).mem_iff.1 ?_
    unfold symI
    rw [List.getD_eq_getElem?_getD, List.getElem?_eq_getElem hi]
    exact List.getElem_mem hi
  unfold posL
  refine List.mem_map.2 ⟨symI l i, hm, ?_⟩
  rw [hs, e]
  rfl
theorem md_codd (nums : List Int) {j : Nat} (h : j < cmN nums) : codd (mdL nums) (97 + (j : Int)) := by
  obtain ⟨m1, m2, m3⟩ := md_ok nums
  have hb := cmN_bd nums
  have hl := cmP_len nums (show cmN nums ≤ 13 by omega)
  have hX := cmX_bd nums j
  have hg : (cmL nums).getD (97 + j) 0 = cmX nums j := by
    show (cmP nums (cmN nums)).getD (97 + j) 0 = _
    unfold cmP
    rw [List.getD_eq_getElem?_getD, List.getElem?_append_right (by rw [List.length_replicate]; omega), List.length_replicate, show 97 + j - 97 = j by omega, List.getElem?_append_left (by rw [List.length_map, List.length_range]; exact h), List.getElem?_map, List.getElem?_range h]
    rfl
  have hp : ((97 + j : Nat) : Int) ∈ posL (mdL nums) := by
    rw [m3]
    exact pos_of (l := cmL nums) (by show 97 + j < (cmP nums (cmN nums)).length; omega) (by rw [hg]; omega)
  obtain ⟨p1, p2, p3⟩ := posL_rng hp
  rw [toNat_cast] at p3
  refine ⟨by omega, by omega, ?_⟩
  rw [show (97 + (j : Int)).toNat = 97 + j by omega]
  exact p3
theorem mdC_mem {nums text : List Int} {i : Nat} {x : Int} (h : x ∈ mdC nums text i) : codd (mdL nums) x ∧ 0 ≤ x ∧ x < 256 := by
  unfold mdC at h
  obtain ⟨y, _, rfl⟩ := List.mem_map.1 h
  have hb := cmN_bd nums
  have hm := md_bd (x := y) (show (1 : Int) ≤ (cmN nums : Nat) by omega)
  obtain ⟨j, hj⟩ := Int.eq_ofNat_of_zero_le hm.1
  have := md_codd nums (j := j) (by omega)
  rw [hj]
  exact ⟨this, by omega, by omega⟩
structure MsOk (nums text : List Int) : Prop where
  c : chk (mdL nums) = 0
  len : (mdL nums).length = 110
  sz : (mdS nums text).size ≤ 100
  t : txOk (mdL nums) (mdS nums text)
theorem ms_ok (nums text : List Int) : MsOk nums text := by
  obtain ⟨m1, m2, m3⟩ := md_ok nums
  refine ⟨m1, m2, ?_, ?_⟩
  · unfold mdS
    rw [strOfNums_size, mdC_len nums text (by omega)]
    omega
  · unfold txOk mdS
    rw [bytesN_str fun x hx => (mdC_mem hx).2]
    exact fun x hx => (mdC_mem hx).1
theorem bits_l {l : List Int} (hg : Good l) : ∀ r : List Int, (∀ x ∈ r, codd l x) → (r.map fun x => l.getD x.toNat 0).sum = (lLn l r : Nat)
  | [], _ => rfl
  | x :: r, h => by
    have ih := bits_l hg r fun y hy => h y (List.mem_cons_of_mem _ hy)
    obtain ⟨x0, x1, x2⟩ := h x (by simp)
    obtain ⟨i, hc⟩ := cod_has (l := l) (k := x.toNat) (by omega) x2
    have hb := (cod_bd hg hc).b0
    simp only [List.map_cons, List.sum_cons, lLn]
    rw [ih, ← hc.len]
    push_cast
    omega
theorem bitsP_succ (l : List Int) {s : ByteArray} {i : Nat} (h : i < s.size) : bitsP l s (i + 1) = bitsP l s i + l.getD ((bytesN s).getD i 0).toNat 0 := by
  have hl := bytes_len s
  unfold bitsP
  rw [take_succ (bytesN s) 0 (by omega), List.map_append, List.sum_append]
  simp
theorem bitsP_bd {l : List Int} (hg : Good l) {s : ByteArray} (ht : txOk l s) (i : Nat) : 0 ≤ bitsP l s i ∧ bitsP l s i ≤ 11 * s.size := by
  have hh : ∀ x ∈ (bytesN s).take i, codd l x := fun x hx => ht x (List.mem_of_mem_take hx)
  have e := bits_l hg _ hh
  have hr := (vLn_rng hg _ hh).2.2.2
  rw [List.length_take] at hr
  have hl := bytes_len s
  unfold bitsP
  rw [e]
  omega
theorem toL_eq {a b : ByteArray} (h : a = b) : (a.toList == b.toList) = true := by rw [h]; simp
theorem rE_iff {l : List Int} {s : ByteArray} (hc : chk l = 0) (ht : txOk l s) (hs : s.size ≤ 100000) {n : Int} (h0 : 0 ≤ n) (h1 : n ≤ 131072) :
    rE l (wrH l s) n = (if n = s.size then 0 else 22) ∧ (n = s.size → rO l (wrH l s) n = s) := by
  have hr := rd_wr (good hc) ht hs h0
  obtain ⟨e1, e2⟩ := rO_ok (b := wrH l s) (nu_ok hc h0 h1)
  rw [e1, e2]
  unfold rdS rdE
  rw [hr]
  by_cases h : n = s.size
  · rw [if_pos h, if_pos h]
    exact ⟨rfl, fun _ => str_bytes s⟩
  · rw [if_neg h, if_neg h]
    exact ⟨rfl, fun h' => absurd h' h⟩
theorem lawBkR_v (nums text : List Int) (other : Int) : lawBkR_t nums text other := by
  unfold lawBkR_t
  obtain ⟨hc, hl, hs, ht⟩ := ms_ok nums text
  generalize mdL nums = l at hc hl ht ⊢
  generalize mdS nums text = s at hs ht ⊢
  have hg := good hc
  have hx : txE l s = 0 := ok_tx (chk_lchk hc) (by omega) ht
  have hw := (wrO_ok hx).1
  obtain ⟨w1, w2, w3, w4⟩ := wrt_ok hg ht
  have hws := wr_size hg ht (by omega)
  obtain ⟨r1, r2⟩ := rE_iff hc ht (by omega) (n := (s.size : Int)) (by omega) (by omega)
  rw [if_pos rfl] at r1
  have r2 := r2 rfl
  have hm := md_bd (x := other) (show (1 : Int) ≤ 120 by omega)
  rw [hx, hw, r1, r2]
  refine ⟨by omega, by omega, by omega, by omega, fun h => by simp at h, fun _ => ⟨fun h => by simp at h, fun _ => ⟨fun h => by simp at h, fun _ => ⟨fun h => by rw [toL_eq rfl] at h; simp at h, fun _ => ⟨⟨0, Nat.zero_le _, (by first | rfl | trivial), (by first | rfl | trivial), (by first | rfl | trivial), (by first | rfl | trivial), rfl, (by first | rfl | trivial), (by first | rfl | trivial)⟩, fun i hi => ⟨fun hlt => ?_, fun hge => ?_⟩⟩⟩⟩⟩⟩
  · rw [nle] at hi
    have hlt : (i : Int) < s.size := by simpa using hlt
    have hi' : i < s.size := by omega
    obtain ⟨b1, b2, b3⟩ := byte_at (s := s) (i := i) hi'
    simp only [toNat_cast]
    have e : ((s.data.toList.getD i 0).toNat : Int) = byI s i := rfl
    have e' : (s.data.toList.getD i 0).toNat = (byI s i).toNat := rfl
    have hl2 := bytes_len s
    have hmem := ht _ (getD_mem' (l := bytesN s) (i := i) (by omega))
    rw [b1] at hmem
    obtain ⟨c0, c1, c2⟩ := hmem
    rw [e, e']
    have q1 := bitsP_bd hg ht i
    have q2 := bitsP_bd hg ht (i + 1)
    have q3 := bitsP_succ l hi'
    rw [b1] at q3
    refine ⟨by omega, by omega, by omega, by omega, by omega, i + 1, by rw [nle]; omega, by show s.size - (i + 1) < s.size - i; omega, (by first | rfl | trivial), (by first | rfl | trivial), (by first | rfl | trivial), (by first | rfl | trivial), by rw [wr (by omega) (by omega), q3], by rw [wr (by omega) (by omega)]; push_cast; rfl, (by first | rfl | trivial)⟩
  · rw [nle] at hi
    have hge : ¬ (i : Int) < s.size := by simpa using hge
    have : i = s.size := by omega
    subst this
    have hbits : bitsP l s s.size = (lLn l (bytesN s) : Nat) := by
      unfold bitsP
      rw [List.take_of_length_le (by rw [bytes_len]; exact Nat.le_refl _)]
      exact bits_l hg _ ht
    have q1 := bitsP_bd hg ht s.size
    have hdiv : Int.tdiv (bitsP l s s.size) 8 = bitsP l s s.size / 8 := Int.tdiv_eq_ediv_of_nonneg q1.1
    have hsize : IntKind.wrap IntKind.i64 (IntKind.wrap IntKind.i64 (Int.tdiv (bitsP l s s.size) 8) + 1) = ((wrH l s).size : Int) := by
      rw [hdiv, wr (n := bitsP l s s.size / 8) (by omega) (by omega), wr (by omega) (by omega), w4, hbits]
      push_cast
      omega
    obtain ⟨o1, o2⟩ := rE_iff hc ht (by omega) (n := md other 120) (by omega) (by omega)
    rw [hsize, o1]
    refine ⟨by omega, by omega, by omega, by omega, fun h => by simp at h, fun _ => ⟨fun h => ?_, fun _ => ⟨fun _ => rfl, fun h6 => ?_⟩⟩⟩
    · by_cases he : md other 120 = s.size
      · rw [if_pos he, he] at h
        simp at h
      · rw [if_neg he, beq_eq_false_iff_ne.2 he] at h
        simp at h
    · have h6 : ¬ (s.size : Int) < 6 := by simpa using h6
      obtain ⟨k1, k2, k3, k4, k5, k6⟩ := back4 hc ht (by omega) (show 6 ≤ s.size by omega)
      have hz : ∀ j, (stH l s j).size < 65536 := fun j => by have := st_size hg ht (by omega) j; omega
      have hsz := (w4_ok hz).sz
      have z0 := hz 0
      have z1 := hz 1
      have z2 := hz 2
      have z3 := hz 3
      rw [k1, k2, k3, k4, k5, toL_eq rfl]
      refine ⟨by omega, by omega, by omega, by omega, fun h => by simp at h, fun _ => ⟨fun h => by simp at h, fun _ => ⟨fun h => by simp at h, fun _ => ⟨fun h => by simp at h, fun _ => ⟨fun _ => ⟨fun _ => ⟨fun _ => ⟨fun _ => rfl, fun h => by simp at h⟩, fun h => by simp at h⟩, fun h => by simp at h⟩, fun h7 => ⟨fun _ => ⟨fun _ => ⟨fun _ => ⟨fun _ => rfl, fun h => by simp at h⟩, fun h => by simp at h⟩, fun h => by simp at h⟩, fun h8 => ⟨by omega, by omega, fun _ => ?_, fun h => by simp at h⟩⟩⟩⟩⟩⟩⟩
      have h7 : ¬ md other 120 < 6 := by simpa using h7
      have h8 : md other 120 ≠ s.size := ne_of_beq_false h8
      rw [k6 _ (by omega) (by omega) h8]
      rfl
theorem hback_any (A : Option Addr) (k cap : Nat) (zs : List Int) (A2 : Option Addr) (k2 cap2 : Nat) (zs2 : List Int) (n : Int) (W : World) (hI : IntsIn W A k cap zs) (hI2 : IntsIn W A2 k2 cap2 zs2) (hn : InR n) :
    Calls Try.prog 6 #[.slice A k cap, .slice A2 k2 cap2, .int .i64 n] W fun e w' => e = .returned (.bool true) ∧ Below W.heap.size W w' := by
  refine law_true (us := [.slice A k cap, .slice A2 k2 cap2, .int .i64 n]) (satG GUj_ok mixed Try.func6 (lawBkR_e (zs.take k) (zs2.take k2) n) (lawBkR_v _ _ _)) (.inr rfl) ?_
  simp only [Reps]
  exact ⟨_, _, rfl, dat_ints hI, _, _, rfl, dat_ints hI2, _, _, rfl, rfl, rfl⟩
end Go.Proofs.Ytmdbliacaeokaaa

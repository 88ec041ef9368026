/-
  Texts joined: D8Ct, D8At, Nx, D8B, D8D, D8E, D8H, D8O, D8Q, D8Kt, D8It, In, Mod, Mul, Repeat, D8J, Br, D8L, D8R, D8T, Err, D8U, D8W, D8X, D8Z, D9A. Conditions: each theorem's own.
-/
import Derived.Test.YtafabheehkmfhaaK3
import Derived.WalkKit
import Derived.IntWalk
import Derived.Test.YtafabheehkmfhaaK2
import Derived.Lib.SmallJoins
import Derived.Laws.CopyOwn
import Derived.Deep.RegionLaw
import Derived.LaidEql
import Derived.Stop.Asserts
import Derived.RowKitTokens
import Derived.Lib.IfaceEq
/-
  The conditions of the functions told in the text before, and that they are the executor's. Conditions: none.
-/
namespace Go.Proofs.Ytafabheehkmfhaa
open Go Go.RowKit
set_option linter.unusedVariables false
set_option maxRecDepth 100000
def put1_t (k v : Int) (s : ByteArray) (p m : Int) : Prop :=
 (putT (s, p, m) (k, v).fst (k, v).snd).fst.fst = (putT (s, p, m) k v).fst.fst ∧
 (putT (s, p, m) (k, v).fst (k, v).snd).fst.snd.fst = (putT (s, p, m) k v).fst.snd.fst ∧ (putT (s, p, m) (k, v).fst (k, v).snd).fst.snd.snd = (putT (s, p, m) k v).fst.snd.snd
--end
theorem put1_e (k v : Int) (s : ByteArray) (p m : Int) : put1_t k v s p m = vcG Try.prog (Gof G8c) (fun _ => none) Try.f83 [.v (.int .i64 k), .v (.int .i64 v), .p 0 0 0] [(0, .cells 23 [.v (.string s), .v (.int .i64 p), .v (.int .i64 m)])] (.leaf ((.tu [])) ([(0, .cells 23 [.v (.string (putT (s, p, m) k v).1.1), .v (.int .i64 (putT (s, p, m) k v).1.2.1), .v (.int .i64 (putT (s, p, m) k v).1.2.2)])])) := by kernel_rfl
def written_t (g : Int) (l : List Int) : Prop :=
 (0 : Int) ≤ g ∧
 (∃ (x0 : Nat × W3),
 (x0.fst ≤ List.length l ∧ putAll x0.snd (de none (List.drop x0.fst l) (pts (List.drop x0.fst l))) = wrT g l) ∧
 IntKind.wrap IntKind.i64 ((1 : Int) * (2 : Int) ^ min (Int.toNat g) (IntKind.bits IntKind.i64)) = pts (List.drop x0.fst l) ∧
 (0 : Int) = (↑x0.fst : Int) ∧
 g = g ∧
 l = l ∧
 (putT ({ data := #[] }, (0 : Int), (0 : Int)) (4 : Int) (IntKind.wrap IntKind.i64 (g - (5 : Int)))).fst.fst = x0.snd.fst ∧
 (putT ({ data := #[] }, (0 : Int), (0 : Int)) (4 : Int) (IntKind.wrap IntKind.i64 (g - (5 : Int)))).fst.snd.fst = x0.snd.snd.fst ∧
 (putT ({ data := #[] }, (0 : Int), (0 : Int)) (4 : Int) (IntKind.wrap IntKind.i64 (g - (5 : Int)))).fst.snd.snd = x0.snd.snd.snd) ∧
 ∀ (x1 : Nat × W3),
 x1.fst ≤ List.length l ∧ putAll x1.snd (de none (List.drop x1.fst l) (pts (List.drop x1.fst l))) = wrT g l →
 (decide ((↑x1.fst : Int) < (↑(List.length l) : Int)) = true →
 (0 : Int) ≤ (↑x1.fst : Int) ∧
 (↑x1.fst : Int) < (↑(List.length l) : Int) ∧
 (0 : Int) ≤ pts (List.drop x1.fst l) ∧
 pts (List.drop x1.fst l) ≤ (1073741824 : Int) ∧
 ∃ (g2 : Nat),
 ((decide (IntKind.wrap IntKind.i64 (List.getD l (Int.toNat (↑x1.fst : Int)) (0 : Int) + (1 : Int)) < shT (pts (List.drop x1.fst l))) = true →
 ∃ (x3 : ByteArray × Int × Int),
 (g2 < List.length l ∧ putAll x3 (deP l g2) = wrT g l) ∧
 List.getD l (Int.toNat (↑x1.fst : Int)) (0 : Int) = List.getD l g2 (0 : Int) ∧
 pts (List.drop x1.fst l) = pts (List.drop g2 l) ∧
 (↑x1.fst : Int) = (↑g2 : Int) ∧
 g = g ∧
 l = l ∧
 (putT (x1.snd.fst, x1.snd.snd.fst, x1.snd.snd.snd) (IntKind.wrap IntKind.i64 (shB (pts (List.drop x1.fst l)) - (1 : Int)))
 (IntKind.wrap IntKind.i64 (List.getD l (Int.toNat (↑x1.fst : Int)) (0 : Int) + (1 : Int)))).fst.fst =
 x3.fst ∧
 (putT (x1.snd.fst, x1.snd.snd.fst, x1.snd.snd.snd) (IntKind.wrap IntKind.i64 (shB (pts (List.drop x1.fst l)) - (1 : Int)))
 (IntKind.wrap IntKind.i64 (List.getD l (Int.toNat (↑x1.fst : Int)) (0 : Int) + (1 : Int)))).fst.snd.fst =
 x3.snd.fst ∧
 (putT (x1.snd.fst, x1.snd.snd.fst, x1.snd.snd.snd) (IntKind.wrap IntKind.i64 (shB (pts (List.drop x1.fst l)) - (1 : Int)))
 (IntKind.wrap IntKind.i64 (List.getD l (Int.toNat (↑x1.fst : Int)) (0 : Int) + (1 : Int)))).fst.snd.snd =
 x3.snd.snd) ∧
 (decide (IntKind.wrap IntKind.i64 (List.getD l (Int.toNat (↑x1.fst : Int)) (0 : Int) + (1 : Int)) < shT (pts (List.drop x1.fst l))) = false →
 (0 : Int) ≤ IntKind.wrap IntKind.i64 (shB (pts (List.drop x1.fst l)) - (1 : Int)) ∧
 (decide
 (IntKind.wrap IntKind.i64 (List.getD l (Int.toNat (↑x1.fst : Int)) (0 : Int) + (1 : Int)) <
 IntKind.wrap IntKind.i64
 ((1 : Int) * (2 : Int) ^ min (Int.toNat (IntKind.wrap IntKind.i64 (shB (pts (List.drop x1.fst l)) - (1 : Int)))) (IntKind.bits IntKind.i64))) =
 true →
 ∃ (x4 : ByteArray × Int × Int),
 (g2 < List.length l ∧ putAll x4 (deP l g2) = wrT g l) ∧
 List.getD l (Int.toNat (↑x1.fst : Int)) (0 : Int) = List.getD l g2 (0 : Int) ∧
 pts (List.drop x1.fst l) = pts (List.drop g2 l) ∧
 (↑x1.fst : Int) = (↑g2 : Int) ∧
 g = g ∧
 l = l ∧
 (putT (x1.snd.fst, x1.snd.snd.fst, x1.snd.snd.snd) (shB (pts (List.drop x1.fst l)))
 (IntKind.wrap IntKind.i64 (List.getD l (Int.toNat (↑x1.fst : Int)) (0 : Int) + (1 : Int)))).fst.fst =
 x4.fst ∧
 (putT (x1.snd.fst, x1.snd.snd.fst, x1.snd.snd.snd) (shB (pts (List.drop x1.fst l)))
 (IntKind.wrap IntKind.i64 (List.getD l (Int.toNat (↑x1.fst : Int)) (0 : Int) + (1 : Int)))).fst.snd.fst =
 x4.snd.fst ∧
 (putT (x1.snd.fst, x1.snd.snd.fst, x1.snd.snd.snd) (shB (pts (List.drop x1.fst l)))
 (IntKind.wrap IntKind.i64 (List.getD l (Int.toNat (↑x1.fst : Int)) (0 : Int) + (1 : Int)))).fst.snd.snd =
 x4.snd.snd) ∧
 (decide
 (IntKind.wrap IntKind.i64 (List.getD l (Int.toNat (↑x1.fst : Int)) (0 : Int) + (1 : Int)) <
 IntKind.wrap IntKind.i64
 ((1 : Int) * (2 : Int) ^ min (Int.toNat (IntKind.wrap IntKind.i64 (shB (pts (List.drop x1.fst l)) - (1 : Int)))) (IntKind.bits IntKind.i64))) =
 false →
 ∃ (x5 : ByteArray × Int × Int),
 (g2 < List.length l ∧ putAll x5 (deP l g2) = wrT g l) ∧
 List.getD l (Int.toNat (↑x1.fst : Int)) (0 : Int) = List.getD l g2 (0 : Int) ∧
 pts (List.drop x1.fst l) = pts (List.drop g2 l) ∧
 (↑x1.fst : Int) = (↑g2 : Int) ∧
 g = g ∧
 l = l ∧
 (putT (x1.snd.fst, x1.snd.snd.fst, x1.snd.snd.snd) (shB (pts (List.drop x1.fst l)))
 (IntKind.wrap IntKind.i64
 (IntKind.wrap IntKind.i64 (List.getD l (Int.toNat (↑x1.fst : Int)) (0 : Int) + (1 : Int)) + shT (pts (List.drop x1.fst l))))).fst.fst =
 x5.fst ∧
 (putT (x1.snd.fst, x1.snd.snd.fst, x1.snd.snd.snd) (shB (pts (List.drop x1.fst l)))
 (IntKind.wrap IntKind.i64
 (IntKind.wrap IntKind.i64 (List.getD l (Int.toNat (↑x1.fst : Int)) (0 : Int) + (1 : Int)) +
 shT (pts (List.drop x1.fst l))))).fst.snd.fst =
 x5.snd.fst ∧
 (putT (x1.snd.fst, x1.snd.snd.fst, x1.snd.snd.snd) (shB (pts (List.drop x1.fst l)))
 (IntKind.wrap IntKind.i64
 (IntKind.wrap IntKind.i64 (List.getD l (Int.toNat (↑x1.fst : Int)) (0 : Int) + (1 : Int)) +
 shT (pts (List.drop x1.fst l))))).fst.snd.snd =
 x5.snd.snd))) ∧
 ∀ (x6 : ByteArray × Int × Int),
 g2 < List.length l ∧ putAll x6 (deP l g2) = wrT g l →
 ((List.getD l g2 (0 : Int) != (0 : Int)) = true →
 ∃ (y7 : Nat × W3),
 (y7.fst ≤ List.length l ∧ putAll y7.snd (de none (List.drop y7.fst l) (pts (List.drop y7.fst l))) = wrT g l) ∧
 Nat.sub (List.length l) y7.fst < Nat.sub (List.length l) x1.fst ∧
 IntKind.wrap IntKind.i64 (pts (List.drop g2 l) - max (List.getD l g2 (0 : Int)) (1 : Int)) = pts (List.drop y7.fst l) ∧
 IntKind.wrap IntKind.i64 ((↑g2 : Int) + (1 : Int)) = (↑y7.fst : Int) ∧
 g = g ∧ l = l ∧ x6.fst = y7.snd.fst ∧ x6.snd.fst = y7.snd.snd.fst ∧ x6.snd.snd = y7.snd.snd.snd) ∧
 ((List.getD l g2 (0 : Int) != (0 : Int)) = false →
 ∃ (g8 : Nat),
 (∃ (g9 : Nat),
 (∃ (x10 : Nat × Nat × W3),
 (g9 ≤ x10.fst ∧
 x10.fst < List.length l ∧
 x10.snd.fst ≤ x10.fst ∧
 putAll x10.snd.snd (de (some x10.snd.fst) (List.drop (x10.fst + (1 : Nat)) l) (pts (List.drop (x10.fst + (1 : Nat)) l))) = wrT g l) ∧
 (0 : Int) = (↑x10.snd.fst : Int) ∧
 pts (List.drop g2 l) = pts (List.drop (x10.fst + (1 : Nat)) l) ∧
 (↑g2 : Int) = (↑x10.fst : Int) ∧ g = g ∧ l = l ∧ x6.fst = x10.snd.snd.fst ∧ x6.snd.fst = x10.snd.snd.snd.fst ∧ x6.snd.snd = x10.snd.snd.snd.snd) ∧
 ∀ (x11 : Nat × Nat × W3),
 g9 ≤ x11.fst ∧
 x11.fst < List.length l ∧
 x11.snd.fst ≤ x11.fst ∧
 putAll x11.snd.snd (de (some x11.snd.fst) (List.drop (x11.fst + (1 : Nat)) l) (pts (List.drop (x11.fst + (1 : Nat)) l))) = wrT g l →
 (decide (IntKind.wrap IntKind.i64 ((↑x11.fst : Int) + (1 : Int)) < (↑(List.length l) : Int)) = true →
 (0 : Int) ≤ IntKind.wrap IntKind.i64 ((↑x11.fst : Int) + (1 : Int)) ∧
 IntKind.wrap IntKind.i64 ((↑x11.fst : Int) + (1 : Int)) < (↑(List.length l) : Int) ∧
 ((List.getD l (Int.toNat (IntKind.wrap IntKind.i64 ((↑x11.fst : Int) + (1 : Int)))) (0 : Int) == (0 : Int)) = true →
 ∃ (y12 : Nat × Nat × W3),
 (g9 ≤ y12.fst ∧
 y12.fst < List.length l ∧
 y12.snd.fst ≤ y12.fst ∧
 putAll y12.snd.snd (de (some y12.snd.fst) (List.drop (y12.fst + (1 : Nat)) l) (pts (List.drop (y12.fst + (1 : Nat)) l))) = wrT g l) ∧
 Nat.sub (List.length l) y12.fst < Nat.sub (List.length l) x11.fst ∧
 IntKind.wrap IntKind.i64 ((↑x11.snd.fst : Int) + (1 : Int)) = (↑y12.snd.fst : Int) ∧
 pts (List.drop (x11.fst + (1 : Nat)) l) = pts (List.drop (y12.fst + (1 : Nat)) l) ∧
 IntKind.wrap IntKind.i64 ((↑x11.fst : Int) + (1 : Int)) = (↑y12.fst : Int) ∧
 g = g ∧
 l = l ∧
 x11.snd.snd.fst = y12.snd.snd.fst ∧ x11.snd.snd.snd.fst = y12.snd.snd.snd.fst ∧ x11.snd.snd.snd.snd = y12.snd.snd.snd.snd) ∧
 ((List.getD l (Int.toNat (IntKind.wrap IntKind.i64 ((↑x11.fst : Int) + (1 : Int)))) (0 : Int) == (0 : Int)) = false →
 ∃ (x13 : Nat × Nat × W3),
 (g8 ≤ x13.fst ∧
 x13.fst < List.length l ∧
 x13.snd.fst ≤ x13.fst ∧
 putAll x13.snd.snd (zerosP x13.snd.fst ++ de none (List.drop (x13.fst + (1 : Nat)) l) (pts (List.drop (x13.fst + (1 : Nat)) l))) =
 wrT g l) ∧
 (↑x11.snd.fst : Int) = (↑x13.snd.fst : Int) ∧
 pts (List.drop (x11.fst + (1 : Nat)) l) = pts (List.drop (x13.fst + (1 : Nat)) l) ∧
 (↑x11.fst : Int) = (↑x13.fst : Int) ∧
 g = g ∧
 l = l ∧
 x11.snd.snd.fst = x13.snd.snd.fst ∧ x11.snd.snd.snd.fst = x13.snd.snd.snd.fst ∧ x11.snd.snd.snd.snd = x13.snd.snd.snd.snd)) ∧
 (decide (IntKind.wrap IntKind.i64 ((↑x11.fst : Int) + (1 : Int)) < (↑(List.length l) : Int)) = false →
 ∃ (x14 : Nat × Nat × W3),
 (g8 ≤ x14.fst ∧
 x14.fst < List.length l ∧
 x14.snd.fst ≤ x14.fst ∧
 putAll x14.snd.snd (zerosP x14.snd.fst ++ de none (List.drop (x14.fst + (1 : Nat)) l) (pts (List.drop (x14.fst + (1 : Nat)) l))) = wrT g l) ∧
 (↑x11.snd.fst : Int) = (↑x14.snd.fst : Int) ∧
 pts (List.drop (x11.fst + (1 : Nat)) l) = pts (List.drop (x14.fst + (1 : Nat)) l) ∧
 (↑x11.fst : Int) = (↑x14.fst : Int) ∧
 g = g ∧ l = l ∧ x11.snd.snd.fst = x14.snd.snd.fst ∧ x11.snd.snd.snd.fst = x14.snd.snd.snd.fst ∧ x11.snd.snd.snd.snd = x14.snd.snd.snd.snd)) ∧
 ∀ (x15 : Nat × Nat × W3),
 g8 ≤ x15.fst ∧
 x15.fst < List.length l ∧
 x15.snd.fst ≤ x15.fst ∧
 putAll x15.snd.snd (zerosP x15.snd.fst ++ de none (List.drop (x15.fst + (1 : Nat)) l) (pts (List.drop (x15.fst + (1 : Nat)) l))) = wrT g l →
 ∃ (g16 : Nat),
 (∃ (x17 : Nat × Nat × W3),
 (g16 ≤ x17.fst ∧
 x17.fst < List.length l ∧
 x17.snd.fst ≤ x17.fst ∧
 putAll x17.snd.snd (zerosP x17.snd.fst ++ de none (List.drop (x17.fst + (1 : Nat)) l) (pts (List.drop (x17.fst + (1 : Nat)) l))) = wrT g l) ∧
 (↑x15.snd.fst : Int) = (↑x17.snd.fst : Int) ∧
 pts (List.drop (x15.fst + (1 : Nat)) l) = pts (List.drop (x17.fst + (1 : Nat)) l) ∧
 (↑x15.fst : Int) = (↑x17.fst : Int) ∧
 g = g ∧ l = l ∧ x15.snd.snd.fst = x17.snd.snd.fst ∧ x15.snd.snd.snd.fst = x17.snd.snd.snd.fst ∧ x15.snd.snd.snd.snd = x17.snd.snd.snd.snd) ∧
 ∀ (x18 : Nat × Nat × W3),
 g16 ≤ x18.fst ∧
 x18.fst < List.length l ∧
 x18.snd.fst ≤ x18.fst ∧
 putAll x18.snd.snd (zerosP x18.snd.fst ++ de none (List.drop (x18.fst + (1 : Nat)) l) (pts (List.drop (x18.fst + (1 : Nat)) l))) = wrT g l →
 (decide ((↑x18.snd.fst : Int) ≥ (3 : Int)) = true →
 ∃ (y19 : Nat × Nat × W3),
 (g16 ≤ y19.fst ∧
 y19.fst < List.length l ∧
 y19.snd.fst ≤ y19.fst ∧
 putAll y19.snd.snd (zerosP y19.snd.fst ++ de none (List.drop (y19.fst + (1 : Nat)) l) (pts (List.drop (y19.fst + (1 : Nat)) l))) =
 wrT g l) ∧
 y19.snd.1 < x18.snd.1 ∧
 IntKind.wrap IntKind.i64 ((↑x18.snd.fst : Int) - (3 : Int)) = (↑y19.snd.fst : Int) ∧
 pts (List.drop (x18.fst + (1 : Nat)) l) = pts (List.drop (y19.fst + (1 : Nat)) l) ∧
 (↑x18.fst : Int) = (↑y19.fst : Int) ∧
 g = g ∧
 l = l ∧
 (putT (x18.snd.snd.fst, x18.snd.snd.snd.fst, x18.snd.snd.snd.snd) (2 : Int) (3 : Int)).fst.fst = y19.snd.snd.fst ∧
 (putT (x18.snd.snd.fst, x18.snd.snd.snd.fst, x18.snd.snd.snd.snd) (2 : Int) (3 : Int)).fst.snd.fst = y19.snd.snd.snd.fst ∧
 (putT (x18.snd.snd.fst, x18.snd.snd.snd.fst, x18.snd.snd.snd.snd) (2 : Int) (3 : Int)).fst.snd.snd = y19.snd.snd.snd.snd) ∧
 (decide ((↑x18.snd.fst : Int) ≥ (3 : Int)) = false →
 ∃ (y20 : Nat × W3),
 (y20.fst ≤ List.length l ∧ putAll y20.snd (de none (List.drop y20.fst l) (pts (List.drop y20.fst l))) = wrT g l) ∧
 Nat.sub (List.length l) y20.fst < Nat.sub (List.length l) x1.fst ∧
 pts (List.drop (x18.fst + (1 : Nat)) l) = pts (List.drop y20.fst l) ∧
 IntKind.wrap IntKind.i64 ((↑x18.fst : Int) + (1 : Int)) = (↑y20.fst : Int) ∧
 g = g ∧
 l = l ∧
 (putT (x18.snd.snd.fst, x18.snd.snd.snd.fst, x18.snd.snd.snd.snd) (2 : Int) (↑x18.snd.fst : Int)).fst.fst = y20.snd.fst ∧
 (putT (x18.snd.snd.fst, x18.snd.snd.snd.fst, x18.snd.snd.snd.snd) (2 : Int) (↑x18.snd.fst : Int)).fst.snd.fst = y20.snd.snd.fst ∧
 (putT (x18.snd.snd.fst, x18.snd.snd.snd.fst, x18.snd.snd.snd.snd) (2 : Int) (↑x18.snd.fst : Int)).fst.snd.snd =
 y20.snd.snd.snd))) ∧
 (decide ((↑x1.fst : Int) < (↑(List.length l) : Int)) = false → x1.snd.fst = (wrT g l).fst ∧ x1.snd.snd.fst = (wrT g l).snd.fst ∧ x1.snd.snd.snd = (wrT g l).snd.snd)
--end
theorem written_e (g : Int) (l : List Int) : written_t g l = vcG Try.prog (Gof G8d) (oWritten g l) Try.f71 [.ag [.v (.int .i64 g), .dat (.ints .i64 l)]] [] (.leaf ((.ag [.v (.string (wrT g l).1), .v (.int .i64 (wrT g l).2.1), .v (.int .i64 (wrT g l).2.2)])) ([])) := by kernel_rfl
def rwritten_t (g : Int) (l : List Int) : Prop :=
 (0 : Int) ≤ IntKind.wrap IntKind.u64 g ∧
 (∃ (x0 : Nat × W3 × Int),
 (x0.fst ≤ List.length l ∧
 (0 : Int) ≤ x0.snd.snd ∧
 putAll x0.snd.fst (de none (List.drop x0.fst l) (pts (List.drop x0.fst l))) = wrT g l ∧ x0.snd.snd + bsum (de none (List.drop x0.fst l) (pts (List.drop x0.fst l))) = wrN g l) ∧
 (4 : Int) = x0.snd.snd ∧
 IntKind.wrap IntKind.i64 ((1 : Int) * (2 : Int) ^ min (Int.toNat (IntKind.wrap IntKind.u64 g)) (IntKind.bits IntKind.i64)) = pts (List.drop x0.fst l) ∧
 (0 : Int) = (↑x0.fst : Int) ∧
 g = g ∧
 l = l ∧
 (putT ({ data := #[] }, (0 : Int), (0 : Int)) ((4 : Int), IntKind.wrap IntKind.i64 (g - (5 : Int))).fst ((4 : Int), IntKind.wrap IntKind.i64 (g - (5 : Int))).snd).fst.fst =
 x0.snd.fst.fst ∧
 (putT ({ data := #[] }, (0 : Int), (0 : Int)) ((4 : Int), IntKind.wrap IntKind.i64 (g - (5 : Int))).fst ((4 : Int), IntKind.wrap IntKind.i64 (g - (5 : Int))).snd).fst.snd.fst =
 x0.snd.fst.snd.fst ∧
 (putT ({ data := #[] }, (0 : Int), (0 : Int)) ((4 : Int), IntKind.wrap IntKind.i64 (g - (5 : Int))).fst ((4 : Int), IntKind.wrap IntKind.i64 (g - (5 : Int))).snd).fst.snd.snd =
 x0.snd.fst.snd.snd) ∧
 ∀ (x1 : Nat × W3 × Int),
 x1.fst ≤ List.length l ∧
 (0 : Int) ≤ x1.snd.snd ∧
 putAll x1.snd.fst (de none (List.drop x1.fst l) (pts (List.drop x1.fst l))) = wrT g l ∧ x1.snd.snd + bsum (de none (List.drop x1.fst l) (pts (List.drop x1.fst l))) = wrN g l →
 (decide ((↑x1.fst : Int) < (↑(List.length l) : Int)) = true →
 (0 : Int) ≤ (↑x1.fst : Int) ∧
 (↑x1.fst : Int) < (↑(List.length l) : Int) ∧
 IntKind.wrap IntKind.i64 (pts (List.drop x1.fst l) + (1 : Int)) ≤ (9223372036854775807 : Int) ∧
 (0 : Int) ≤ IntKind.wrap IntKind.u64 (hiI (IntKind.wrap IntKind.i64 (pts (List.drop x1.fst l) + (1 : Int))) + (1 : Int)) ∧
 ∃ (g2 : Nat × W3 × Int),
 ((decide
 (IntKind.wrap IntKind.i64 (List.getD l (Int.toNat (↑x1.fst : Int)) (0 : Int) + (1 : Int)) <
 IntKind.wrap IntKind.i64
 (IntKind.wrap IntKind.i64
 (IntKind.wrap IntKind.i64
 ((1 : Int) *
 (2 : Int) ^
 min (Int.toNat (IntKind.wrap IntKind.u64 (hiI (IntKind.wrap IntKind.i64 (pts (List.drop x1.fst l) + (1 : Int))) + (1 : Int))))
 (IntKind.bits IntKind.i64)) -
 (1 : Int)) -
 IntKind.wrap IntKind.i64 (pts (List.drop x1.fst l) + (1 : Int)))) =
 true →
 ∃ (x3 : Int × Int),
 (g2.fst < List.length l ∧
 (0 : Int) ≤ g2.snd.snd ∧
 putAll g2.snd.fst (de none (List.drop g2.fst l) (pts (List.drop g2.fst l))) = wrT g l ∧
 g2.snd.snd + bsum (de none (List.drop g2.fst l) (pts (List.drop g2.fst l))) = wrN g l ∧
 (x3.fst, x3.snd) = valP (pts (List.drop g2.fst l)) (List.getD l g2.fst (0 : Int))) ∧
 IntKind.wrap IntKind.i64 (List.getD l (Int.toNat (↑x1.fst : Int)) (0 : Int) + (1 : Int)) = x3.snd ∧
 IntKind.wrap IntKind.i64 (hiI (IntKind.wrap IntKind.i64 (pts (List.drop x1.fst l) + (1 : Int))) + (1 : Int) - (1 : Int)) = x3.fst ∧
 x1.snd.snd = g2.snd.snd ∧
 pts (List.drop x1.fst l) = pts (List.drop g2.fst l) ∧
 (↑x1.fst : Int) = (↑g2.fst : Int) ∧
 g = g ∧ l = l ∧ x1.snd.fst.fst = g2.snd.fst.fst ∧ x1.snd.fst.snd.fst = g2.snd.fst.snd.fst ∧ x1.snd.fst.snd.snd = g2.snd.fst.snd.snd) ∧
 (decide
 (IntKind.wrap IntKind.i64 (List.getD l (Int.toNat (↑x1.fst : Int)) (0 : Int) + (1 : Int)) <
 IntKind.wrap IntKind.i64
 (IntKind.wrap IntKind.i64
 (IntKind.wrap IntKind.i64
 ((1 : Int) *
 (2 : Int) ^
 min (Int.toNat (IntKind.wrap IntKind.u64 (hiI (IntKind.wrap IntKind.i64 (pts (List.drop x1.fst l) + (1 : Int))) + (1 : Int))))
 (IntKind.bits IntKind.i64)) -
 (1 : Int)) -
 IntKind.wrap IntKind.i64 (pts (List.drop x1.fst l) + (1 : Int)))) =
 false →
 (0 : Int) ≤ IntKind.wrap IntKind.u64 (IntKind.wrap IntKind.i64 (hiI (IntKind.wrap IntKind.i64 (pts (List.drop x1.fst l) + (1 : Int))) + (1 : Int) - (1 : Int))) ∧
 (decide
 (IntKind.wrap IntKind.i64 (List.getD l (Int.toNat (↑x1.fst : Int)) (0 : Int) + (1 : Int)) ≥
 IntKind.wrap IntKind.i64
 ((1 : Int) *
 (2 : Int) ^
 min
 (Int.toNat
 (IntKind.wrap IntKind.u64 (IntKind.wrap IntKind.i64 (hiI (IntKind.wrap IntKind.i64 (pts (List.drop x1.fst l) + (1 : Int))) + (1 : Int) - (1 : Int)))))
 (IntKind.bits IntKind.i64))) =
 true →
 ∃ (x4 : Int × Int),
 (g2.fst < List.length l ∧
 (0 : Int) ≤ g2.snd.snd ∧
 putAll g2.snd.fst (de none (List.drop g2.fst l) (pts (List.drop g2.fst l))) = wrT g l ∧
 g2.snd.snd + bsum (de none (List.drop g2.fst l) (pts (List.drop g2.fst l))) = wrN g l ∧
 (x4.fst, x4.snd) = valP (pts (List.drop g2.fst l)) (List.getD l g2.fst (0 : Int))) ∧
 IntKind.wrap IntKind.i64
 (IntKind.wrap IntKind.i64 (List.getD l (Int.toNat (↑x1.fst : Int)) (0 : Int) + (1 : Int)) +
 IntKind.wrap IntKind.i64
 (IntKind.wrap IntKind.i64
 (IntKind.wrap IntKind.i64
 ((1 : Int) *
 (2 : Int) ^
 min (Int.toNat (IntKind.wrap IntKind.u64 (hiI (IntKind.wrap IntKind.i64 (pts (List.drop x1.fst l) + (1 : Int))) + (1 : Int))))
 (IntKind.bits IntKind.i64)) -
 (1 : Int)) -
 IntKind.wrap IntKind.i64 (pts (List.drop x1.fst l) + (1 : Int)))) =
 x4.snd ∧
 hiI (IntKind.wrap IntKind.i64 (pts (List.drop x1.fst l) + (1 : Int))) + (1 : Int) = x4.fst ∧
 x1.snd.snd = g2.snd.snd ∧
 pts (List.drop x1.fst l) = pts (List.drop g2.fst l) ∧
 (↑x1.fst : Int) = (↑g2.fst : Int) ∧
 g = g ∧ l = l ∧ x1.snd.fst.fst = g2.snd.fst.fst ∧ x1.snd.fst.snd.fst = g2.snd.fst.snd.fst ∧ x1.snd.fst.snd.snd = g2.snd.fst.snd.snd) ∧
 (decide
 (IntKind.wrap IntKind.i64 (List.getD l (Int.toNat (↑x1.fst : Int)) (0 : Int) + (1 : Int)) ≥
 IntKind.wrap IntKind.i64
 ((1 : Int) *
 (2 : Int) ^
 min
 (Int.toNat
 (IntKind.wrap IntKind.u64 (IntKind.wrap IntKind.i64 (hiI (IntKind.wrap IntKind.i64 (pts (List.drop x1.fst l) + (1 : Int))) + (1 : Int) - (1 : Int)))))
 (IntKind.bits IntKind.i64))) =
 false →
 ∃ (x5 : Int × Int),
 (g2.fst < List.length l ∧
 (0 : Int) ≤ g2.snd.snd ∧
 putAll g2.snd.fst (de none (List.drop g2.fst l) (pts (List.drop g2.fst l))) = wrT g l ∧
 g2.snd.snd + bsum (de none (List.drop g2.fst l) (pts (List.drop g2.fst l))) = wrN g l ∧
 (x5.fst, x5.snd) = valP (pts (List.drop g2.fst l)) (List.getD l g2.fst (0 : Int))) ∧
 IntKind.wrap IntKind.i64 (List.getD l (Int.toNat (↑x1.fst : Int)) (0 : Int) + (1 : Int)) = x5.snd ∧
 hiI (IntKind.wrap IntKind.i64 (pts (List.drop x1.fst l) + (1 : Int))) + (1 : Int) = x5.fst ∧
 x1.snd.snd = g2.snd.snd ∧
 pts (List.drop x1.fst l) = pts (List.drop g2.fst l) ∧
 (↑x1.fst : Int) = (↑g2.fst : Int) ∧
 g = g ∧ l = l ∧ x1.snd.fst.fst = g2.snd.fst.fst ∧ x1.snd.fst.snd.fst = g2.snd.fst.snd.fst ∧ x1.snd.fst.snd.snd = g2.snd.fst.snd.snd))) ∧
 ∀ (x6 : Int × Int),
 g2.fst < List.length l ∧
 (0 : Int) ≤ g2.snd.snd ∧
 putAll g2.snd.fst (de none (List.drop g2.fst l) (pts (List.drop g2.fst l))) = wrT g l ∧
 g2.snd.snd + bsum (de none (List.drop g2.fst l) (pts (List.drop g2.fst l))) = wrN g l ∧
 (x6.fst, x6.snd) = valP (pts (List.drop g2.fst l)) (List.getD l g2.fst (0 : Int)) →
 (0 : Int) ≤ (↑g2.fst : Int) ∧
 (↑g2.fst : Int) ≤ IntKind.wrap IntKind.i64 ((↑g2.fst : Int) + (1 : Int)) ∧
 IntKind.wrap IntKind.i64 ((↑g2.fst : Int) + (1 : Int)) ≤ (↑(List.length l) : Int) ∧
 List.length (List.take (Int.toNat (IntKind.wrap IntKind.i64 ((↑g2.fst : Int) + (1 : Int))) - Int.toNat (↑g2.fst : Int)) (List.drop (Int.toNat (↑g2.fst : Int)) l)) ≤
 (65536 : Nat) ∧
 (List.all (List.take (Int.toNat (IntKind.wrap IntKind.i64 ((↑g2.fst : Int) + (1 : Int))) - Int.toNat (↑g2.fst : Int)) (List.drop (Int.toNat (↑g2.fst : Int)) l))
 fun (x : Int) => decide (x ≤ (65536 : Int))) =
 true ∧
 (0 : Int) ≤ (↑g2.fst : Int) ∧
 (↑g2.fst : Int) < (↑(List.length l) : Int) ∧
 ((List.getD l (Int.toNat (↑g2.fst : Int)) (0 : Int) != (0 : Int)) = true →
 ∃ (y7 : Nat × W3 × Int),
 (y7.fst ≤ List.length l ∧
 (0 : Int) ≤ y7.snd.snd ∧
 putAll y7.snd.fst (de none (List.drop y7.fst l) (pts (List.drop y7.fst l))) = wrT g l ∧
 y7.snd.snd + bsum (de none (List.drop y7.fst l) (pts (List.drop y7.fst l))) = wrN g l) ∧
 Nat.sub (List.length l) y7.fst < Nat.sub (List.length l) x1.fst ∧
 IntKind.wrap IntKind.i64 (g2.snd.snd + x6.fst) = y7.snd.snd ∧
 IntKind.wrap IntKind.i64
 (pts (List.drop g2.fst l) -
 pts
 (List.take (Int.toNat (IntKind.wrap IntKind.i64 ((↑g2.fst : Int) + (1 : Int))) - Int.toNat (↑g2.fst : Int))
 (List.drop (Int.toNat (↑g2.fst : Int)) l))) =
 pts (List.drop y7.fst l) ∧
 IntKind.wrap IntKind.i64 ((↑g2.fst : Int) + (1 : Int)) = (↑y7.fst : Int) ∧
 g = g ∧
 l = l ∧
 (putT (g2.snd.fst.fst, g2.snd.fst.snd.fst, g2.snd.fst.snd.snd) (x6.fst, x6.snd).fst (x6.fst, x6.snd).snd).fst.fst = y7.snd.fst.fst ∧
 (putT (g2.snd.fst.fst, g2.snd.fst.snd.fst, g2.snd.fst.snd.snd) (x6.fst, x6.snd).fst (x6.fst, x6.snd).snd).fst.snd.fst =
 y7.snd.fst.snd.fst ∧
 (putT (g2.snd.fst.fst, g2.snd.fst.snd.fst, g2.snd.fst.snd.snd) (x6.fst, x6.snd).fst (x6.fst, x6.snd).snd).fst.snd.snd =
 y7.snd.fst.snd.snd) ∧
 ((List.getD l (Int.toNat (↑g2.fst : Int)) (0 : Int) != (0 : Int)) = false →
 ∃ (g8 : Nat × W3 × Int),
 (∃ (g9 : Nat × W3 × Int),
 (∃ (x10 : Nat),
 (g9.fst + x10 < List.length l ∧
 (0 : Int) ≤ g9.snd.snd ∧
 putAll g9.snd.fst (de (some x10) (List.drop (g9.fst + (1 : Nat) + x10) l) (pts (List.drop (g9.fst + (1 : Nat) + x10) l))) = wrT g l ∧
 g9.snd.snd + bsum (de (some x10) (List.drop (g9.fst + (1 : Nat) + x10) l) (pts (List.drop (g9.fst + (1 : Nat) + x10) l))) = wrN g l) ∧
 (0 : Int) = (↑x10 : Int) ∧
 IntKind.wrap IntKind.i64 (g2.snd.snd + x6.fst) = g9.snd.snd ∧
 IntKind.wrap IntKind.i64
 (pts (List.drop g2.fst l) -
 pts
 (List.take (Int.toNat (IntKind.wrap IntKind.i64 ((↑g2.fst : Int) + (1 : Int))) - Int.toNat (↑g2.fst : Int))
 (List.drop (Int.toNat (↑g2.fst : Int)) l))) =
 pts (List.drop (g9.fst + (1 : Nat) + x10) l) ∧
 (↑g2.fst : Int) = (↑g9.fst : Int) ∧
 g = g ∧
 l = l ∧
 (putT (g2.snd.fst.fst, g2.snd.fst.snd.fst, g2.snd.fst.snd.snd) (x6.fst, x6.snd).fst (x6.fst, x6.snd).snd).fst.fst =
 g9.snd.fst.fst ∧
 (putT (g2.snd.fst.fst, g2.snd.fst.snd.fst, g2.snd.fst.snd.snd) (x6.fst, x6.snd).fst (x6.fst, x6.snd).snd).fst.snd.fst =
 g9.snd.fst.snd.fst ∧
 (putT (g2.snd.fst.fst, g2.snd.fst.snd.fst, g2.snd.fst.snd.snd) (x6.fst, x6.snd).fst (x6.fst, x6.snd).snd).fst.snd.snd =
 g9.snd.fst.snd.snd) ∧
 ∀ (x11 : Nat),
 g9.fst + x11 < List.length l ∧
 (0 : Int) ≤ g9.snd.snd ∧
 putAll g9.snd.fst (de (some x11) (List.drop (g9.fst + (1 : Nat) + x11) l) (pts (List.drop (g9.fst + (1 : Nat) + x11) l))) = wrT g l ∧
 g9.snd.snd + bsum (de (some x11) (List.drop (g9.fst + (1 : Nat) + x11) l) (pts (List.drop (g9.fst + (1 : Nat) + x11) l))) = wrN g l →
 (decide (IntKind.wrap IntKind.i64 (IntKind.wrap IntKind.i64 ((↑g9.fst : Int) + (1 : Int)) + (↑x11 : Int)) < (↑(List.length l) : Int)) = true →
 (0 : Int) ≤ IntKind.wrap IntKind.i64 (IntKind.wrap IntKind.i64 ((↑g9.fst : Int) + (1 : Int)) + (↑x11 : Int)) ∧
 IntKind.wrap IntKind.i64 (IntKind.wrap IntKind.i64 ((↑g9.fst : Int) + (1 : Int)) + (↑x11 : Int)) < (↑(List.length l) : Int) ∧
 ((List.getD l (Int.toNat (IntKind.wrap IntKind.i64 (IntKind.wrap IntKind.i64 ((↑g9.fst : Int) + (1 : Int)) + (↑x11 : Int))))
 (0 : Int) ==
 (0 : Int)) =
 true →
 ∃ (y12 : Nat),
 (g9.fst + y12 < List.length l ∧
 (0 : Int) ≤ g9.snd.snd ∧
 putAll g9.snd.fst
 (de (some y12) (List.drop (g9.fst + (1 : Nat) + y12) l) (pts (List.drop (g9.fst + (1 : Nat) + y12) l))) =
 wrT g l ∧
 g9.snd.snd +
 bsum (de (some y12) (List.drop (g9.fst + (1 : Nat) + y12) l) (pts (List.drop (g9.fst + (1 : Nat) + y12) l))) =
 wrN g l) ∧
 Nat.sub (List.length l) y12 < Nat.sub (List.length l) x11 ∧
 IntKind.wrap IntKind.i64 ((↑x11 : Int) + (1 : Int)) = (↑y12 : Int) ∧
 g9.snd.snd = g9.snd.snd ∧
 pts (List.drop (g9.fst + (1 : Nat) + x11) l) = pts (List.drop (g9.fst + (1 : Nat) + y12) l) ∧
 (↑g9.fst : Int) = (↑g9.fst : Int) ∧
 g = g ∧
 l = l ∧
 g9.snd.fst.fst = g9.snd.fst.fst ∧
 g9.snd.fst.snd.fst = g9.snd.fst.snd.fst ∧ g9.snd.fst.snd.snd = g9.snd.fst.snd.snd) ∧
 ((List.getD l (Int.toNat (IntKind.wrap IntKind.i64 (IntKind.wrap IntKind.i64 ((↑g9.fst : Int) + (1 : Int)) + (↑x11 : Int))))
 (0 : Int) ==
 (0 : Int)) =
 false →
 ∃ (x13 : Nat),
 (g8.fst + x13 < List.length l ∧
 (0 : Int) ≤ g8.snd.snd ∧
 putAll g8.snd.fst
 (zerosP x13 ++ de none (List.drop (g8.fst + (1 : Nat) + x13) l) (pts (List.drop (g8.fst + (1 : Nat) + x13) l))) =
 wrT g l ∧
 g8.snd.snd +
 bsum
 (zerosP x13 ++ de none (List.drop (g8.fst + (1 : Nat) + x13) l) (pts (List.drop (g8.fst + (1 : Nat) + x13) l))) =
 wrN g l) ∧
 (↑x11 : Int) = (↑x13 : Int) ∧
 g9.snd.snd = g8.snd.snd ∧
 pts (List.drop (g9.fst + (1 : Nat) + x11) l) = pts (List.drop (g8.fst + (1 : Nat) + x13) l) ∧
 (↑g9.fst : Int) = (↑g8.fst : Int) ∧
 g = g ∧
 l = l ∧
 g9.snd.fst.fst = g8.snd.fst.fst ∧
 g9.snd.fst.snd.fst = g8.snd.fst.snd.fst ∧ g9.snd.fst.snd.snd = g8.snd.fst.snd.snd)) ∧
 (decide (IntKind.wrap IntKind.i64 (IntKind.wrap IntKind.i64 ((↑g9.fst : Int) + (1 : Int)) + (↑x11 : Int)) < (↑(List.length l) : Int)) =
 false →
 ∃ (x14 : Nat),
 (g8.fst + x14 < List.length l ∧
 (0 : Int) ≤ g8.snd.snd ∧
 putAll g8.snd.fst
 (zerosP x14 ++ de none (List.drop (g8.fst + (1 : Nat) + x14) l) (pts (List.drop (g8.fst + (1 : Nat) + x14) l))) =
 wrT g l ∧
 g8.snd.snd +
 bsum (zerosP x14 ++ de none (List.drop (g8.fst + (1 : Nat) + x14) l) (pts (List.drop (g8.fst + (1 : Nat) + x14) l))) =
 wrN g l) ∧
 (↑x11 : Int) = (↑x14 : Int) ∧
 g9.snd.snd = g8.snd.snd ∧
 pts (List.drop (g9.fst + (1 : Nat) + x11) l) = pts (List.drop (g8.fst + (1 : Nat) + x14) l) ∧
 (↑g9.fst : Int) = (↑g8.fst : Int) ∧
 g = g ∧
 l = l ∧
 g9.snd.fst.fst = g8.snd.fst.fst ∧ g9.snd.fst.snd.fst = g8.snd.fst.snd.fst ∧ g9.snd.fst.snd.snd = g8.snd.fst.snd.snd)) ∧
 ∀ (x15 : Nat),
 g8.fst + x15 < List.length l ∧
 (0 : Int) ≤ g8.snd.snd ∧
 putAll g8.snd.fst (zerosP x15 ++ de none (List.drop (g8.fst + (1 : Nat) + x15) l) (pts (List.drop (g8.fst + (1 : Nat) + x15) l))) = wrT g l ∧
 g8.snd.snd + bsum (zerosP x15 ++ de none (List.drop (g8.fst + (1 : Nat) + x15) l) (pts (List.drop (g8.fst + (1 : Nat) + x15) l))) =
 wrN g l →
 ∃ (g16 : Nat),
 (∃ (x17 : Nat × Bool × W3 × Int),
 (g16 < List.length l ∧
 x17.fst ≤ List.length l ∧
 (0 : Int) ≤ x17.snd.snd.snd ∧
 putAll x17.snd.snd.fst
 ((bif x17.snd.fst then zerosP x17.fst else []) ++
 de none (List.drop (g16 + (1 : Nat)) l) (pts (List.drop (g16 + (1 : Nat)) l))) =
 wrT g l ∧
 x17.snd.snd.snd +
 bsum
 ((bif x17.snd.fst then zerosP x17.fst else []) ++
 de none (List.drop (g16 + (1 : Nat)) l) (pts (List.drop (g16 + (1 : Nat)) l))) =
 wrN g l) ∧
 (↑x15 : Int) = (↑x17.fst : Int) ∧
 true = x17.snd.fst ∧
 g8.snd.snd = x17.snd.snd.snd ∧
 pts (List.drop (g8.fst + (1 : Nat) + x15) l) = pts (List.drop (g16 + (1 : Nat)) l) ∧
 IntKind.wrap IntKind.i64 ((↑g8.fst : Int) + (↑x15 : Int)) = (↑g16 : Int) ∧
 g = g ∧
 l = l ∧
 g8.snd.fst.fst = x17.snd.snd.fst.fst ∧
 g8.snd.fst.snd.fst = x17.snd.snd.fst.snd.fst ∧ g8.snd.fst.snd.snd = x17.snd.snd.fst.snd.snd) ∧
 ∀ (x18 : Nat × Bool × W3 × Int),
 g16 < List.length l ∧
 x18.fst ≤ List.length l ∧
 (0 : Int) ≤ x18.snd.snd.snd ∧
 putAll x18.snd.snd.fst
 ((bif x18.snd.fst then zerosP x18.fst else []) ++
 de none (List.drop (g16 + (1 : Nat)) l) (pts (List.drop (g16 + (1 : Nat)) l))) =
 wrT g l ∧
 x18.snd.snd.snd +
 bsum
 ((bif x18.snd.fst then zerosP x18.fst else []) ++
 de none (List.drop (g16 + (1 : Nat)) l) (pts (List.drop (g16 + (1 : Nat)) l))) =
 wrN g l →
 (x18.snd.fst = true →
 ∃ (y19 : Nat × Bool × W3 × Int),
 (g16 < List.length l ∧
 y19.fst ≤ List.length l ∧
 (0 : Int) ≤ y19.snd.snd.snd ∧
 putAll y19.snd.snd.fst
 ((bif y19.snd.fst then zerosP y19.fst else []) ++
 de none (List.drop (g16 + (1 : Nat)) l) (pts (List.drop (g16 + (1 : Nat)) l))) =
 wrT g l ∧
 y19.snd.snd.snd +
 bsum
 ((bif y19.snd.fst then zerosP y19.fst else []) ++
 de none (List.drop (g16 + (1 : Nat)) l) (pts (List.drop (g16 + (1 : Nat)) l))) =
 wrN g l) ∧
 ((match y19.snd.fst with
 | true => y19.fst + (1 : Nat)
 | false => (0 : Nat)) <
 match x18.snd.fst with
 | true => x18.fst + (1 : Nat)
 | false => (0 : Nat)) ∧
 IntKind.wrap IntKind.i64 ((↑x18.fst : Int) - min (↑x18.fst : Int) (3 : Int)) = (↑y19.fst : Int) ∧
 (min (↑x18.fst : Int) (3 : Int) == (3 : Int)) = y19.snd.fst ∧
 IntKind.wrap IntKind.i64 (x18.snd.snd.snd + (2 : Int)) = y19.snd.snd.snd ∧
 pts (List.drop (g16 + (1 : Nat)) l) = pts (List.drop (g16 + (1 : Nat)) l) ∧
 (↑g16 : Int) = (↑g16 : Int) ∧
 g = g ∧
 l = l ∧
 (putT (x18.snd.snd.fst.fst, x18.snd.snd.fst.snd.fst, x18.snd.snd.fst.snd.snd)
 ((2 : Int), min (↑x18.fst : Int) (3 : Int)).fst
 ((2 : Int), min (↑x18.fst : Int) (3 : Int)).snd).fst.fst =
 y19.snd.snd.fst.fst ∧
 (putT (x18.snd.snd.fst.fst, x18.snd.snd.fst.snd.fst, x18.snd.snd.fst.snd.snd)
 ((2 : Int), min (↑x18.fst : Int) (3 : Int)).fst
 ((2 : Int), min (↑x18.fst : Int) (3 : Int)).snd).fst.snd.fst =
 y19.snd.snd.fst.snd.fst ∧
 (putT (x18.snd.snd.fst.fst, x18.snd.snd.fst.snd.fst, x18.snd.snd.fst.snd.snd)
 ((2 : Int), min (↑x18.fst : Int) (3 : Int)).fst
 ((2 : Int), min (↑x18.fst : Int) (3 : Int)).snd).fst.snd.snd =
 y19.snd.snd.fst.snd.snd) ∧
 (x18.snd.fst = false →
 ∃ (y20 : Nat × W3 × Int),
 (y20.fst ≤ List.length l ∧
 (0 : Int) ≤ y20.snd.snd ∧
 putAll y20.snd.fst (de none (List.drop y20.fst l) (pts (List.drop y20.fst l))) = wrT g l ∧
 y20.snd.snd + bsum (de none (List.drop y20.fst l) (pts (List.drop y20.fst l))) = wrN g l) ∧
 Nat.sub (List.length l) y20.fst < Nat.sub (List.length l) x1.fst ∧
 x18.snd.snd.snd = y20.snd.snd ∧
 pts (List.drop (g16 + (1 : Nat)) l) = pts (List.drop y20.fst l) ∧
 IntKind.wrap IntKind.i64 ((↑g16 : Int) + (1 : Int)) = (↑y20.fst : Int) ∧
 g = g ∧
 l = l ∧
 x18.snd.snd.fst.fst = y20.snd.fst.fst ∧
 x18.snd.snd.fst.snd.fst = y20.snd.fst.snd.fst ∧ x18.snd.snd.fst.snd.snd = y20.snd.fst.snd.snd))) ∧
 (decide ((↑x1.fst : Int) < (↑(List.length l) : Int)) = false →
 x1.snd.fst.fst = (wrT g l).fst ∧ x1.snd.fst.snd.fst = (wrT g l).snd.fst ∧ x1.snd.fst.snd.snd = (wrT g l).snd.snd ∧ x1.snd.snd = wrN g l)
--end
theorem rwritten_e (g : Int) (l : List Int) : rwritten_t g l = vcG Try.prog (Gof G8d) (oRwritten g l) Try.f72 [.ag [.v (.int .i64 g), .dat (.ints .i64 l)]] [] (.leaf ((.tu [.ag [.v (.string (wrT g l).1), .v (.int .i64 (wrT g l).2.1), .v (.int .i64 (wrT g l).2.2)], .v (.int .i64 (wrN g l))])) ([])) := by kernel_rfl
def write_t (g : Int) (l : List Int) : Prop :=
 List.length l ≤ (4294967296 : Nat) ∧
 ((dchk g l != (0 : Int)) = true → { data := #[] } = (writeF g l).fst ∧ dchk g l = (writeF g l).snd) ∧
 ((dchk g l != (0 : Int)) = false →
 dchk g l = (0 : Int) ∧
 (doneT ((wrT g l).fst, (wrT g l).snd.fst, (wrT g l).snd.snd)).fst = (writeF g l).fst ∧ (doneT ((wrT g l).fst, (wrT g l).snd.fst, (wrT g l).snd.snd)).snd = (writeF g l).snd)
--end
theorem write_e (g : Int) (l : List Int) : write_t g l = vcG Try.prog (Gof G8e) (fun _ => none) Try.f47 [.ag [.v (.int .i64 g), .dat (.ints .i64 l)]] [] (.leaf ((.tu [.v (.string (writeF g l).1), .v (.int .i64 (writeF g l).2)])) ([])) := by kernel_rfl
def rwrite_t (g : Int) (l : List Int) : Prop :=
 List.length l ≤ (4294967296 : Nat) ∧
 ((dchk g l != (0 : Int)) = true → { data := #[] } = (writeF g l).fst ∧ dchk g l = (writeF g l).snd) ∧
 ((dchk g l != (0 : Int)) = false →
 dchk g l = (0 : Int) ∧
 (doneT ((wrT g l).fst, (wrT g l).snd.fst, (wrT g l).snd.snd)).fst = (writeF g l).fst ∧ (doneT ((wrT g l).fst, (wrT g l).snd.fst, (wrT g l).snd.snd)).snd = (writeF g l).snd)
--end
theorem rwrite_e (g : Int) (l : List Int) : rwrite_t g l = vcG Try.prog (Gof G8e) (fun _ => none) Try.f48 [.ag [.v (.int .i64 g), .dat (.ints .i64 l)]] [] (.leaf ((.tu [.v (.string (writeF g l).1), .v (.int .i64 (writeF g l).2)])) ([])) := by kernel_rfl
def bitsD_t (g : Int) (l : List Int) : Prop :=
 List.length l ≤ (4294967296 : Nat) ∧
 ((dchk g l != (0 : Int)) = true → (0 : Int) = bitsF g l ∧ dchk g l = dchk g l) ∧
 ((dchk g l != (0 : Int)) = false →
 dchk g l = (0 : Int) ∧ IntKind.wrap IntKind.i64 (IntKind.wrap IntKind.i64 ((8 : Int) * (↑(ByteArray.size (wrT g l).fst) : Int)) + (wrT g l).snd.snd) = bitsF g l ∧ (0 : Int) = dchk g l)
--end
theorem bitsD_e (g : Int) (l : List Int) : bitsD_t g l = vcG Try.prog (Gof G8e) (fun _ => none) Try.f49 [.ag [.v (.int .i64 g), .dat (.ints .i64 l)]] [] (.leaf ((.tu [.v (.int .i64 (bitsF g l)), .v (.int .i64 (dchk g l))])) ([])) := by kernel_rfl
def rbitsD_t (g : Int) (l : List Int) : Prop :=
 List.length l ≤ (4294967296 : Nat) ∧
 ((dchk g l != (0 : Int)) = true → (0 : Int) = bitsF g l ∧ dchk g l = dchk g l) ∧ ((dchk g l != (0 : Int)) = false → dchk g l = (0 : Int) ∧ wrN g l = bitsF g l ∧ (0 : Int) = dchk g l)
--end
theorem rbitsD_e (g : Int) (l : List Int) : rbitsD_t g l = vcG Try.prog (Gof G8e) (fun _ => none) Try.f50 [.ag [.v (.int .i64 g), .dat (.ints .i64 l)]] [] (.leaf ((.tu [.v (.int .i64 (bitsF g l)), .v (.int .i64 (dchk g l))])) ([])) := by kernel_rfl
end Go.Proofs.Ytafabheehkmfhaa
/-
  The conditions of the functions told in the text before, and that they are the executor's. Conditions: none.
-/
namespace Go.Proofs.Ytafabheehkmfhaa
open Go Go.RowKit
set_option linter.unusedVariables false
set_option maxRecDepth 100000
def high_t (n : Int) : Prop :=
 (∃ (x0 : Nat), Nat.le x0 (63 : Nat) ∧ n = n ∧ (-1 : Int) = hiM n x0 ∧ (0 : Int) = (↑x0 : Int)) ∧
 ∀ (x1 : Nat),
 Nat.le x1 (63 : Nat) →
 (decide ((↑x1 : Int) < (63 : Int)) = true →
 (0 : Int) ≤ (↑x1 : Int) ∧
 (decide (Int.fdiv n ((2 : Int) ^ min (Int.toNat (↑x1 : Int)) (IntKind.bits IntKind.i64)) > (0 : Int)) = true →
 ∃ (y2 : Nat),
 Nat.le y2 (63 : Nat) ∧ Nat.sub (63 : Nat) y2 < Nat.sub (63 : Nat) x1 ∧ n = n ∧ (↑x1 : Int) = hiM n y2 ∧ IntKind.wrap IntKind.i64 ((↑x1 : Int) + (1 : Int)) = (↑y2 : Int)) ∧
 (decide (Int.fdiv n ((2 : Int) ^ min (Int.toNat (↑x1 : Int)) (IntKind.bits IntKind.i64)) > (0 : Int)) = false →
 ∃ (y3 : Nat), Nat.le y3 (63 : Nat) ∧ Nat.sub (63 : Nat) y3 < Nat.sub (63 : Nat) x1 ∧ n = n ∧ hiM n x1 = hiM n y3 ∧ IntKind.wrap IntKind.i64 ((↑x1 : Int) + (1 : Int)) = (↑y3 : Int))) ∧
 (decide ((↑x1 : Int) < (63 : Int)) = false → hiM n x1 = hiI n)
--end
theorem high_e (n : Int) : high_t n = vcG Try.prog (Gof G02) (one (oHigh n)) Try.f95 [.v (.int .i64 n)] [] (.leaf ((.v (.int .i64 (hiI n)))) ([])) := by kernel_rfl
def rhigh_t (n : Int) : Prop :=
 (∃ (x0 : Nat), (n ≤ (0 : Int) ∧ x0 = (0 : Nat) ∨ (0 : Int) < n ∧ x0 ≤ Nat.log2 (Int.toNat n) + (1 : Nat)) ∧ n = n / (2 : Int) ^ x0 ∧ (-1 : Int) = (↑x0 : Int) - (1 : Int)) ∧
 ∀ (x1 : Nat),
 n ≤ (0 : Int) ∧ x1 = (0 : Nat) ∨ (0 : Int) < n ∧ x1 ≤ Nat.log2 (Int.toNat n) + (1 : Nat) →
 (decide (n / (2 : Int) ^ x1 > (0 : Int)) = true →
 (2 : Int) ≠ (0 : Int) ∧
 ∃ (y2 : Nat),
 (n ≤ (0 : Int) ∧ y2 = (0 : Nat) ∨ (0 : Int) < n ∧ y2 ≤ Nat.log2 (Int.toNat n) + (1 : Nat)) ∧
 Nat.sub (63 : Nat) y2 < Nat.sub (63 : Nat) x1 ∧
 IntKind.wrap IntKind.i64 (Int.tdiv (n / (2 : Int) ^ x1) (2 : Int)) = n / (2 : Int) ^ y2 ∧ IntKind.wrap IntKind.i64 ((↑x1 : Int) - (1 : Int) + (1 : Int)) = (↑y2 : Int) - (1 : Int)) ∧
 (decide (n / (2 : Int) ^ x1 > (0 : Int)) = false → (↑x1 : Int) - (1 : Int) = hiI n)
--end
theorem rhigh_e (n : Int) : rhigh_t n = vcG Try.prog (Gof G02) (one (oRhigh n)) Try.f92 [.v (.int .i64 n)] [] (.leaf ((.v (.int .i64 (hiI n)))) ([])) := by kernel_rfl
def modK_t (x m : Int) : Prop :=
 (decide (m < (1 : Int)) = true → (0 : Int) = modI x m) ∧
 (decide (m < (1 : Int)) = false →
 m ≠ (0 : Int) ∧ (decide (Int.tmod x m < (0 : Int)) = true → IntKind.wrap IntKind.i64 (Int.tmod x m + m) = modI x m) ∧ (decide (Int.tmod x m < (0 : Int)) = false → Int.tmod x m = modI x m))
--end
theorem modK_e (x m : Int) : modK_t x m = vcG Try.prog (Gof G02) (fun _ => none) Try.f37 [.v (.int .i64 x), .v (.int .i64 m)] [] (.leaf ((.v (.int .i64 (modI x m)))) ([])) := by kernel_rfl
def atK_t (l : List Int) (i : Int) : Prop :=
 (decide (i < (0 : Int)) = true → (0 : Int) = atI l i) ∧
 (decide (i < (0 : Int)) = false →
 (decide (i ≥ (↑(List.length l) : Int)) = true → (0 : Int) = atI l i) ∧
 (decide (i ≥ (↑(List.length l) : Int)) = false → (0 : Int) ≤ i ∧ i < (↑(List.length l) : Int) ∧ List.getD l (Int.toNat i) (0 : Int) = atI l i))
--end
theorem atK_e (l : List Int) (i : Int) : atK_t l i = vcG Try.prog (Gof G02) (fun _ => none) Try.f79 [.dat (.ints .i64 l), .v (.int .i64 i)] [] (.leaf ((.v (.int .i64 (atI l i)))) ([])) := by kernel_rfl
def minK_t (l : List Int) : Prop :=
 (decide ((↑(List.length l) : Int) < (1 : Int)) = true → False) ∧
 (decide ((↑(List.length l) : Int) < (1 : Int)) = false →
 (0 : Int) ≤ (0 : Int) ∧
 (0 : Int) < (↑(List.length l) : Int) ∧
 (∃ (x0 : Nat), ((1 : Nat) ≤ x0 ∧ x0 ≤ List.length l) ∧ l = l ∧ List.getD l (Int.toNat (0 : Int)) (0 : Int) = minL (List.take x0 l) ∧ (1 : Int) = (↑x0 : Int)) ∧
 ∀ (x1 : Nat),
 (1 : Nat) ≤ x1 ∧ x1 ≤ List.length l →
 (decide ((↑x1 : Int) < (↑(List.length l) : Int)) = true →
 (0 : Int) ≤ (↑x1 : Int) ∧
 (↑x1 : Int) < (↑(List.length l) : Int) ∧
 ∃ (y2 : Nat),
 ((1 : Nat) ≤ y2 ∧ y2 ≤ List.length l) ∧
 Nat.sub (List.length l) y2 < Nat.sub (List.length l) x1 ∧
 l = l ∧
 min (minL (List.take x1 l)) (List.getD l (Int.toNat (↑x1 : Int)) (0 : Int)) = minL (List.take y2 l) ∧ IntKind.wrap IntKind.i64 ((↑x1 : Int) + (1 : Int)) = (↑y2 : Int)) ∧
 (decide ((↑x1 : Int) < (↑(List.length l) : Int)) = false → minL (List.take x1 l) = minL l))
--end
theorem minK_e (l : List Int) : minK_t l = vcG Try.prog (Gof G02) (one (oMin l)) Try.f66 [.dat (.ints .i64 l)] [] (.leaf ((.v (.int .i64 (minL l)))) ([])) := by kernel_rfl
def equal_t (a b : List Int) : Prop :=
 (((↑(List.length a) : Int) != (↑(List.length b) : Int)) = true → false = eqI a b) ∧
 (((↑(List.length a) : Int) != (↑(List.length b) : Int)) = false →
 (∃ (x0 : Nat), (x0 ≤ List.length a ∧ List.take x0 a = List.take x0 b) ∧ a = a ∧ b = b ∧ (0 : Int) = (↑x0 : Int) ∧ (↑(List.length a) : Int) = (↑(List.length a) : Int)) ∧
 ∀ (x1 : Nat),
 x1 ≤ List.length a ∧ List.take x1 a = List.take x1 b →
 (decide ((↑x1 : Int) < (↑(List.length a) : Int)) = true →
 (0 : Int) ≤ (↑x1 : Int) ∧
 (↑x1 : Int) < (↑(List.length a) : Int) ∧
 (0 : Int) ≤ (↑x1 : Int) ∧
 (↑x1 : Int) < (↑(List.length b) : Int) ∧
 ((List.getD a (Int.toNat (↑x1 : Int)) (0 : Int) != List.getD b (Int.toNat (↑x1 : Int)) (0 : Int)) = true → false = eqI a b) ∧
 ((List.getD a (Int.toNat (↑x1 : Int)) (0 : Int) != List.getD b (Int.toNat (↑x1 : Int)) (0 : Int)) = false →
 ∃ (y2 : Nat),
 (y2 ≤ List.length a ∧ List.take y2 a = List.take y2 b) ∧
 Nat.sub (List.length a) y2 < Nat.sub (List.length a) x1 ∧
 a = a ∧ b = b ∧ IntKind.wrap IntKind.i64 ((↑x1 : Int) + (1 : Int)) = (↑y2 : Int) ∧ (↑(List.length a) : Int) = (↑(List.length a) : Int))) ∧
 (decide ((↑x1 : Int) < (↑(List.length a) : Int)) = false → true = eqI a b))
--end
theorem equal_e (a b : List Int) : equal_t a b = vcG Try.prog (Gof G02) (one (oEq 13 12 [(12, .v (.int .i64 a.length))] a b)) Try.f70 [.dat (.ints .i64 a), .dat (.ints .i64 b)] [] (.leaf ((.v (.bool (eqI a b)))) ([])) := by kernel_rfl
def sameInts_t (a b : List Int) : Prop :=
 (((↑(List.length a) : Int) != (↑(List.length b) : Int)) = true → false = eqI a b) ∧
 (((↑(List.length a) : Int) != (↑(List.length b) : Int)) = false →
 (∃ (x0 : Nat), (x0 ≤ List.length a ∧ List.take x0 a = List.take x0 b) ∧ a = a ∧ b = b ∧ (0 : Int) = (↑x0 : Int)) ∧
 ∀ (x1 : Nat),
 x1 ≤ List.length a ∧ List.take x1 a = List.take x1 b →
 (decide ((↑x1 : Int) < (↑(List.length a) : Int)) = true →
 (0 : Int) ≤ (↑x1 : Int) ∧
 (↑x1 : Int) < (↑(List.length a) : Int) ∧
 (0 : Int) ≤ (↑x1 : Int) ∧
 (↑x1 : Int) < (↑(List.length b) : Int) ∧
 ((List.getD a (Int.toNat (↑x1 : Int)) (0 : Int) != List.getD b (Int.toNat (↑x1 : Int)) (0 : Int)) = true → false = eqI a b) ∧
 ((List.getD a (Int.toNat (↑x1 : Int)) (0 : Int) != List.getD b (Int.toNat (↑x1 : Int)) (0 : Int)) = false →
 ∃ (y2 : Nat),
 (y2 ≤ List.length a ∧ List.take y2 a = List.take y2 b) ∧
 Nat.sub (List.length a) y2 < Nat.sub (List.length a) x1 ∧ a = a ∧ b = b ∧ IntKind.wrap IntKind.i64 ((↑x1 : Int) + (1 : Int)) = (↑y2 : Int))) ∧
 (decide ((↑x1 : Int) < (↑(List.length a) : Int)) = false → true = eqI a b))
--end
theorem sameInts_e (a b : List Int) : sameInts_t a b = vcG Try.prog (Gof G02) (one (oEq 5 0 [] a b)) Try.f74 [.dat (.ints .i64 a), .dat (.ints .i64 b)] [] (.leaf ((.v (.bool (eqI a b)))) ([])) := by kernel_rfl
def ownInts_t (l : List Int) : Prop :=
 ((0 : Nat) + List.length l) * (8 : Nat) ≤ (140737488355328 : Nat) ∧ [] ++ l = l
--end
theorem ownInts_e (l : List Int) : ownInts_t l = vcG Try.prog (Gof G02) (fun _ => none) Try.f68 [.dat (.ints .i64 l)] [] (.leaf ((.o 2000)) ([(2000, .row 3 (.ints .i64 l))])) := by kernel_rfl
def rpoints_t (l : List Int) : Prop :=
 (∃ (x0 : Nat), Nat.le x0 (List.length l) ∧ l = l ∧ (0 : Int) = pts (List.take x0 l) ∧ (0 : Int) = (↑x0 : Int)) ∧
 ∀ (x1 : Nat),
 Nat.le x1 (List.length l) →
 (decide ((↑x1 : Int) < (↑(List.length l) : Int)) = true →
 (0 : Int) ≤ (↑x1 : Int) ∧
 (↑x1 : Int) < (↑(List.length l) : Int) ∧
 (decide (List.getD l (Int.toNat (↑x1 : Int)) (0 : Int) < (0 : Int)) = true →
 ∃ (y2 : Nat),
 Nat.le y2 (List.length l) ∧
 Nat.sub (List.length l) y2 < Nat.sub (List.length l) x1 ∧
 l = l ∧ IntKind.wrap IntKind.i64 (pts (List.take x1 l) + (1 : Int)) = pts (List.take y2 l) ∧ IntKind.wrap IntKind.i64 ((↑x1 : Int) + (1 : Int)) = (↑y2 : Int)) ∧
 (decide (List.getD l (Int.toNat (↑x1 : Int)) (0 : Int) < (0 : Int)) = false →
 (0 : Int) ≤ (↑x1 : Int) ∧
 (↑x1 : Int) < (↑(List.length l) : Int) ∧
 ∃ (y3 : Nat),
 Nat.le y3 (List.length l) ∧
 Nat.sub (List.length l) y3 < Nat.sub (List.length l) x1 ∧
 l = l ∧
 IntKind.wrap IntKind.i64 (pts (List.take x1 l) + List.getD l (Int.toNat (↑x1 : Int)) (0 : Int)) = pts (List.take y3 l) ∧
 IntKind.wrap IntKind.i64 ((↑x1 : Int) + (1 : Int)) = (↑y3 : Int))) ∧
 (decide ((↑x1 : Int) < (↑(List.length l) : Int)) = false → pts (List.take x1 l) = pts l)
--end
theorem rpoints_e (l : List Int) : rpoints_t l = vcG Try.prog (Gof G02) (one (oRpoints l)) Try.f69 [.dat (.ints .i64 l)] [] (.leaf ((.v (.int .i64 (pts l)))) ([])) := by kernel_rfl
def add_t (n s : Int) : Prop :=
 min (IntKind.wrap IntKind.i64 (s + n)) (1048576 : Int) = min (s + n) (1048576 : Int)
--end
theorem add_e (n s : Int) : add_t n s = vcG Try.prog (Gof G02) (fun _ => none) Try.f82 [.v (.int .i64 n), .p 0 0 0] [(0, .cells 3 [.v (.int .i64 s)])] (.leaf ((.tu [])) ([(0, .cells 3 [.v (.int .i64 (min (s + n) 1048576))])])) := by kernel_rfl
def bits_t (n : Int) : Prop :=
 n ≤ (9223372036854775807 : Int) ∧ IntKind.wrap IntKind.i64 (hiI n + (1 : Int)) = hiI n + (1 : Int)
--end
theorem bits_e (n : Int) : bits_t n = vcG Try.prog (Gof G8a) (fun _ => none) Try.f91 [.v (.int .i64 n)] [] (.leaf ((.v (.int .i64 (hiI n + 1)))) ([])) := by kernel_rfl
def rbits_t (n : Int) : Prop :=
 n ≤ (9223372036854775807 : Int) ∧ IntKind.wrap IntKind.i64 (hiI n + (1 : Int)) = hiI n + (1 : Int)
--end
theorem rbits_e (n : Int) : rbits_t n = vcG Try.prog (Gof G8a) (fun _ => none) Try.f85 [.v (.int .i64 n)] [] (.leaf ((.v (.int .i64 (hiI n + 1)))) ([])) := by kernel_rfl
def points_t (g : Int) (l : List Int) : Prop :=
 (∃ (x0 : Nat), Nat.le x0 (List.length l) ∧ l = l ∧ (↑(List.length l) : Int) = (↑(List.length l) : Int) ∧ (0 : Int) = (↑x0 : Int) ∧ (0 : Int) = min (pts (List.take x0 l)) (1048576 : Int)) ∧
 ∀ (x1 : Nat),
 Nat.le x1 (List.length l) →
 (decide ((↑x1 : Int) < (↑(List.length l) : Int)) = true →
 (0 : Int) ≤ (↑x1 : Int) ∧
 (↑x1 : Int) < (↑(List.length l) : Int) ∧
 (decide (List.getD l (Int.toNat (↑x1 : Int)) (0 : Int) < (0 : Int)) = true →
 (0 : Int) ≤ (1 : Int) ∧
 (1 : Int) ≤ (1048576 : Int) ∧
 (0 : Int) ≤ min (pts (List.take x1 l)) (1048576 : Int) ∧
 min (pts (List.take x1 l)) (1048576 : Int) ≤ (1048576 : Int) ∧
 ∃ (y2 : Nat),
 Nat.le y2 (List.length l) ∧
 Nat.sub (List.length l) y2 < Nat.sub (List.length l) x1 ∧
 l = l ∧
 (↑(List.length l) : Int) = (↑(List.length l) : Int) ∧
 IntKind.wrap IntKind.i64 ((↑x1 : Int) + (1 : Int)) = (↑y2 : Int) ∧
 min (min (pts (List.take x1 l)) (1048576 : Int) + (1 : Int)) (1048576 : Int) = min (pts (List.take y2 l)) (1048576 : Int)) ∧
 (decide (List.getD l (Int.toNat (↑x1 : Int)) (0 : Int) < (0 : Int)) = false →
 (0 : Int) ≤ min (List.getD l (Int.toNat (↑x1 : Int)) (0 : Int)) (1048576 : Int) ∧
 min (List.getD l (Int.toNat (↑x1 : Int)) (0 : Int)) (1048576 : Int) ≤ (1048576 : Int) ∧
 (0 : Int) ≤ min (pts (List.take x1 l)) (1048576 : Int) ∧
 min (pts (List.take x1 l)) (1048576 : Int) ≤ (1048576 : Int) ∧
 ∃ (y3 : Nat),
 Nat.le y3 (List.length l) ∧
 Nat.sub (List.length l) y3 < Nat.sub (List.length l) x1 ∧
 l = l ∧
 (↑(List.length l) : Int) = (↑(List.length l) : Int) ∧
 IntKind.wrap IntKind.i64 ((↑x1 : Int) + (1 : Int)) = (↑y3 : Int) ∧
 min (min (pts (List.take x1 l)) (1048576 : Int) + min (List.getD l (Int.toNat (↑x1 : Int)) (0 : Int)) (1048576 : Int)) (1048576 : Int) =
 min (pts (List.take y3 l)) (1048576 : Int))) ∧
 (decide ((↑x1 : Int) < (↑(List.length l) : Int)) = false → min (pts (List.take x1 l)) (1048576 : Int) = min (pts l) (1048576 : Int))
--end
theorem points_e (g : Int) (l : List Int) : points_t g l = vcG Try.prog (Gof G8a) (one (oPoints g l)) Try.f67 [.ag [.v (.int .i64 g), .dat (.ints .i64 l)]] [] (.leaf ((.v (.int .i64 (min (pts l) 1048576)))) ([])) := by kernel_rfl
def ownDist_t (g : Int) (l : List Int) : Prop :=
 List.length l ≤ (4294967296 : Nat) ∧ g = g ∧ l = l
--end
theorem ownDist_e (g : Int) (l : List Int) : ownDist_t g l = vcG Try.prog (Gof G8a) (fun _ => none) Try.f41 [.ag [.v (.int .i64 g), .dat (.ints .i64 l)]] [] (.leaf ((.ag [.v (.int .i64 g), .o 2000])) ([(2000, .row 3 (.ints .i64 l))])) := by kernel_rfl
def sameDist_t (a : Int) (x : List Int) (b : Int) (y : List Int) : Prop :=
 ((a == b) = true → List.length x ≤ (4294967296 : Nat) ∧ eqI x y = (a == b && eqI x y)) ∧ ((a == b) = false → false = (a == b && eqI x y))
--end
theorem sameDist_e (a : Int) (x : List Int) (b : Int) (y : List Int) : sameDist_t a x b y = vcG Try.prog (Gof G8a) (fun _ => none) Try.f52 [.ag [.v (.int .i64 a), .dat (.ints .i64 x)], .ag [.v (.int .i64 b), .dat (.ints .i64 y)]] [] (.leaf ((.v (.bool (a == b && eqI x y)))) ([])) := by kernel_rfl
def rcheck_t (g : Int) (l : List Int) : Prop :=
 (decide (g < (5 : Int)) = true → (31 : Int) = dchk g l) ∧
 (decide (g < (5 : Int)) = false →
 (decide (g > (12 : Int)) = true → (31 : Int) = dchk g l) ∧
 (decide (g > (12 : Int)) = false →
 (decide ((↑(List.length l) : Int) < (1 : Int)) = true → (23 : Int) = dchk g l) ∧
 (decide ((↑(List.length l) : Int) < (1 : Int)) = false →
 (decide ((↑(List.length l) : Int) > (256 : Int)) = true → (23 : Int) = dchk g l) ∧
 (decide ((↑(List.length l) : Int) > (256 : Int)) = false →
 (0 : Int) ≤ IntKind.wrap IntKind.i64 ((↑(List.length l) : Int) - (1 : Int)) ∧
 IntKind.wrap IntKind.i64 ((↑(List.length l) : Int) - (1 : Int)) < (↑(List.length l) : Int) ∧
 ((List.getD l (Int.toNat (IntKind.wrap IntKind.i64 ((↑(List.length l) : Int) - (1 : Int)))) (0 : Int) == (0 : Int)) = true → (23 : Int) = dchk g l) ∧
 ((List.getD l (Int.toNat (IntKind.wrap IntKind.i64 ((↑(List.length l) : Int) - (1 : Int)))) (0 : Int) == (0 : Int)) = false →
 (∃ (x0 : Nat), (x0 ≤ List.length l ∧ ∀ (x1 : Int), x1 ∈ List.take x0 l → (-1 : Int) ≤ x1 ∧ x1 ≤ (2 : Int) ^ Int.toNat g) ∧ (0 : Int) = (↑x0 : Int) ∧ g = g ∧ l = l) ∧
 ∀ (x2 : Nat),
 (x2 ≤ List.length l ∧ ∀ (x3 : Int), x3 ∈ List.take x2 l → (-1 : Int) ≤ x3 ∧ x3 ≤ (2 : Int) ^ Int.toNat g) →
 (decide ((↑x2 : Int) < (↑(List.length l) : Int)) = true →
 (0 : Int) ≤ (↑x2 : Int) ∧
 (↑x2 : Int) < (↑(List.length l) : Int) ∧
 (decide (List.getD l (Int.toNat (↑x2 : Int)) (0 : Int) < (-1 : Int)) = true → (23 : Int) = dchk g l) ∧
 (decide (List.getD l (Int.toNat (↑x2 : Int)) (0 : Int) < (-1 : Int)) = false →
 (0 : Int) ≤ (↑x2 : Int) ∧
 (↑x2 : Int) < (↑(List.length l) : Int) ∧
 (0 : Int) ≤ IntKind.wrap IntKind.u64 g ∧
 (decide
 (List.getD l (Int.toNat (↑x2 : Int)) (0 : Int) >
 IntKind.wrap IntKind.i64 ((1 : Int) * (2 : Int) ^ min (Int.toNat (IntKind.wrap IntKind.u64 g)) (IntKind.bits IntKind.i64))) =
 true →
 (23 : Int) = dchk g l) ∧
 (decide
 (List.getD l (Int.toNat (↑x2 : Int)) (0 : Int) >
 IntKind.wrap IntKind.i64 ((1 : Int) * (2 : Int) ^ min (Int.toNat (IntKind.wrap IntKind.u64 g)) (IntKind.bits IntKind.i64))) =
 false →
 ∃ (y4 : Nat),
 (y4 ≤ List.length l ∧ ∀ (x5 : Int), x5 ∈ List.take y4 l → (-1 : Int) ≤ x5 ∧ x5 ≤ (2 : Int) ^ Int.toNat g) ∧
 Nat.sub (List.length l) y4 < Nat.sub (List.length l) x2 ∧ IntKind.wrap IntKind.i64 ((↑x2 : Int) + (1 : Int)) = (↑y4 : Int) ∧ g = g ∧ l = l))) ∧
 (decide ((↑x2 : Int) < (↑(List.length l) : Int)) = false →
 List.length l ≤ (65536 : Nat) ∧
 (List.all l fun (x : Int) => decide (x ≤ (65536 : Int))) = true ∧
 (0 : Int) ≤ IntKind.wrap IntKind.u64 g ∧
 ((pts l != IntKind.wrap IntKind.i64 ((1 : Int) * (2 : Int) ^ min (Int.toNat (IntKind.wrap IntKind.u64 g)) (IntKind.bits IntKind.i64))) = true →
 (23 : Int) = dchk g l) ∧
 ((pts l != IntKind.wrap IntKind.i64 ((1 : Int) * (2 : Int) ^ min (Int.toNat (IntKind.wrap IntKind.u64 g)) (IntKind.bits IntKind.i64))) = false →
 (0 : Int) = dchk g l)))))))
--end
theorem rcheck_e (g : Int) (l : List Int) : rcheck_t g l = vcG Try.prog (Gof G8a) (one (oRcheck g l)) Try.f42 [.ag [.v (.int .i64 g), .dat (.ints .i64 l)]] [] (.leaf ((.v (.int .i64 (dchk g l)))) ([])) := by kernel_rfl
def same_t (a : Int) (x : List Int) (b : Int) (y : List Int) : Prop :=
 ((a == b) = true → List.length x ≤ (4294967296 : Nat) ∧ eqI x y = (a == b && eqI x y)) ∧ ((a == b) = false → false = (a == b && eqI x y))
--end
theorem same_e (a : Int) (x : List Int) (b : Int) (y : List Int) : same_t a x b y = vcG Try.prog (Gof G8a) (fun _ => none) Try.f45 [.ag [.v (.int .i64 a), .dat (.ints .i64 x)], .ag [.v (.int .i64 b), .dat (.ints .i64 y)]] [] (.leaf ((.v (.bool (a == b && eqI x y)))) ([])) := by kernel_rfl
def rsame_t (a : Int) (x : List Int) (b : Int) (y : List Int) : Prop :=
 ((a != b) = true → false = (a == b && eqI x y)) ∧
 ((a != b) = false →
 (((↑(List.length x) : Int) != (↑(List.length y) : Int)) = true → false = (a == b && eqI x y)) ∧
 (((↑(List.length x) : Int) != (↑(List.length y) : Int)) = false →
 (∃ (x0 : Nat), (x0 ≤ List.length x ∧ List.take x0 x = List.take x0 y) ∧ (0 : Int) = (↑x0 : Int) ∧ a = a ∧ x = x ∧ b = b ∧ y = y) ∧
 ∀ (x1 : Nat),
 x1 ≤ List.length x ∧ List.take x1 x = List.take x1 y →
 (decide ((↑x1 : Int) < (↑(List.length x) : Int)) = true →
 (0 : Int) ≤ (↑x1 : Int) ∧
 (↑x1 : Int) < (↑(List.length x) : Int) ∧
 (0 : Int) ≤ (↑x1 : Int) ∧
 (↑x1 : Int) < (↑(List.length y) : Int) ∧
 ((List.getD x (Int.toNat (↑x1 : Int)) (0 : Int) != List.getD y (Int.toNat (↑x1 : Int)) (0 : Int)) = true → false = (a == b && eqI x y)) ∧
 ((List.getD x (Int.toNat (↑x1 : Int)) (0 : Int) != List.getD y (Int.toNat (↑x1 : Int)) (0 : Int)) = false →
 ∃ (y2 : Nat),
 (y2 ≤ List.length x ∧ List.take y2 x = List.take y2 y) ∧
 Nat.sub (List.length x) y2 < Nat.sub (List.length x) x1 ∧ IntKind.wrap IntKind.i64 ((↑x1 : Int) + (1 : Int)) = (↑y2 : Int) ∧ a = a ∧ x = x ∧ b = b ∧ y = y)) ∧
 (decide ((↑x1 : Int) < (↑(List.length x) : Int)) = false → true = (a == b && eqI x y))))
--end
theorem rsame_e (a : Int) (x : List Int) (b : Int) (y : List Int) : rsame_t a x b y = vcG Try.prog (Gof G8a) (one (oRsame a b x y)) Try.f46 [.ag [.v (.int .i64 a), .dat (.ints .i64 x)], .ag [.v (.int .i64 b), .dat (.ints .i64 y)]] [] (.leaf ((.v (.bool (a == b && eqI x y)))) ([])) := by kernel_rfl
def size_t (g : Int) (l : List Int) : Prop :=
 (decide (g < (0 : Int)) = true → (0 : Int) = dsize g) ∧
 (decide (g < (0 : Int)) = false →
 (decide (g > (12 : Int)) = true → (0 : Int) = dsize g) ∧
 (decide (g > (12 : Int)) = false → (0 : Int) ≤ g ∧ IntKind.wrap IntKind.i64 ((1 : Int) * (2 : Int) ^ min (Int.toNat g) (IntKind.bits IntKind.i64)) = dsize g))
--end
theorem size_e (g : Int) (l : List Int) : size_t g l = vcG Try.prog (Gof G8a) (fun _ => none) Try.f43 [.ag [.v (.int .i64 g), .dat (.ints .i64 l)]] [] (.leaf ((.v (.int .i64 (dsize g)))) ([])) := by kernel_rfl
def rsize_t (g : Int) (l : List Int) : Prop :=
 (decide (g < (0 : Int)) = true → (0 : Int) = dsize g) ∧
 (decide (g < (0 : Int)) = false →
 (decide (g > (12 : Int)) = true → (0 : Int) = dsize g) ∧
 (decide (g > (12 : Int)) = false →
 (0 : Int) ≤ IntKind.wrap IntKind.u64 g ∧ IntKind.wrap IntKind.i64 ((1 : Int) * (2 : Int) ^ min (Int.toNat (IntKind.wrap IntKind.u64 g)) (IntKind.bits IntKind.i64)) = dsize g))
--end
theorem rsize_e (g : Int) (l : List Int) : rsize_t g l = vcG Try.prog (Gof G8a) (fun _ => none) Try.f44 [.ag [.v (.int .i64 g), .dat (.ints .i64 l)]] [] (.leaf ((.v (.int .i64 (dsize g)))) ([])) := by kernel_rfl
def check_t (g : Int) (l : List Int) : Prop :=
 (decide (g < (5 : Int)) = true → (31 : Int) = dchk g l) ∧
 (decide (g < (5 : Int)) = false →
 (decide (g > (12 : Int)) = true → (31 : Int) = dchk g l) ∧
 (decide (g > (12 : Int)) = false →
 (decide ((↑(List.length l) : Int) < (1 : Int)) = true → (23 : Int) = dchk g l) ∧
 (decide ((↑(List.length l) : Int) < (1 : Int)) = false →
 (decide ((↑(List.length l) : Int) > (256 : Int)) = true → (23 : Int) = dchk g l) ∧
 (decide ((↑(List.length l) : Int) > (256 : Int)) = false →
 (0 : Int) ≤ IntKind.wrap IntKind.i64 ((↑(List.length l) : Int) - (1 : Int)) ∧
 IntKind.wrap IntKind.i64 ((↑(List.length l) : Int) - (1 : Int)) < (↑(List.length l) : Int) ∧
 ((List.getD l (Int.toNat (IntKind.wrap IntKind.i64 ((↑(List.length l) : Int) - (1 : Int)))) (0 : Int) == (0 : Int)) = true → (23 : Int) = dchk g l) ∧
 ((List.getD l (Int.toNat (IntKind.wrap IntKind.i64 ((↑(List.length l) : Int) - (1 : Int)))) (0 : Int) == (0 : Int)) = false →
 (0 : Nat) < List.length l ∧
 List.length l ≤ (4294967296 : Nat) ∧
 (decide (minL l < (-1 : Int)) = true → (23 : Int) = dchk g l) ∧
 (decide (minL l < (-1 : Int)) = false →
 List.length l ≤ (4294967296 : Nat) ∧
 (0 : Int) ≤ g ∧
 ((min (pts l) (1048576 : Int) != IntKind.wrap IntKind.i64 ((1 : Int) * (2 : Int) ^ min (Int.toNat g) (IntKind.bits IntKind.i64))) = true → (23 : Int) = dchk g l) ∧
 ((min (pts l) (1048576 : Int) != IntKind.wrap IntKind.i64 ((1 : Int) * (2 : Int) ^ min (Int.toNat g) (IntKind.bits IntKind.i64))) = false →
 (0 : Int) = dchk g l)))))))
--end
theorem check_e (g : Int) (l : List Int) : check_t g l = vcG Try.prog (Gof G8b) (fun _ => none) Try.f39 [.ag [.v (.int .i64 g), .dat (.ints .i64 l)]] [] (.leaf ((.v (.int .i64 (dchk g l)))) ([])) := by kernel_rfl
def shape_t (n : Int) : Prop :=
 IntKind.wrap IntKind.i64 (n + (1 : Int)) ≤ (9223372036854775807 : Int) ∧
 (0 : Int) ≤ hiI (IntKind.wrap IntKind.i64 (n + (1 : Int))) + (1 : Int) ∧
 hiI (IntKind.wrap IntKind.i64 (n + (1 : Int))) + (1 : Int) = shB n ∧
 IntKind.wrap IntKind.i64
 (IntKind.wrap IntKind.i64
 (IntKind.wrap IntKind.i64 ((1 : Int) * (2 : Int) ^ min (Int.toNat (hiI (IntKind.wrap IntKind.i64 (n + (1 : Int))) + (1 : Int))) (IntKind.bits IntKind.i64)) - (1 : Int)) -
 IntKind.wrap IntKind.i64 (n + (1 : Int))) =
 shT n
--end
theorem shape_e (n : Int) : shape_t n = vcG Try.prog (Gof G8b) (fun _ => none) Try.f84 [.v (.int .i64 n)] [] (.leaf ((.tu [.v (.int .i64 (shB n)), .v (.int .i64 (shT n))])) ([])) := by kernel_rfl
def times_t (l : List Int) (n x : Int) : Prop :=
 (∃ (x0 : Nat), Nat.le x0 (Int.toNat n) ∧ n = n ∧ x = x ∧ (0 : Int) = (↑x0 : Int) ∧ l = l ++ List.replicate x0 x) ∧
 ∀ (x1 : Nat),
 Nat.le x1 (Int.toNat n) →
 (decide ((↑x1 : Int) < n) = true →
 (List.length (l ++ List.replicate x1 x) + (1 : Nat)) * (8 : Nat) ≤ (140737488355328 : Nat) ∧
 ∃ (y2 : Nat),
 Nat.le y2 (Int.toNat n) ∧
 Nat.sub (Int.toNat n) y2 < Nat.sub (Int.toNat n) x1 ∧
 n = n ∧ x = x ∧ IntKind.wrap IntKind.i64 ((↑x1 : Int) + (1 : Int)) = (↑y2 : Int) ∧ l ++ List.replicate x1 x ++ [x] = l ++ List.replicate y2 x) ∧
 (decide ((↑x1 : Int) < n) = false → l ++ List.replicate x1 x = l ++ List.replicate (Int.toNat n) x)
--end
theorem times_e (l : List Int) (n x : Int) : times_t l n x = vcG Try.prog (Gof G8a) (one (oTimes l n x)) Try.f73 [.o 0, .v (.int .i64 n), .v (.int .i64 x)] [(0, .row 3 (.ints .i64 l))] (.leaf ((.o 2000)) ([(2000, .row 3 (.ints .i64 (l ++ List.replicate n.toNat x)))])) := by kernel_rfl
def times0_t (n x : Int) : Prop :=
 (∃ (x0 : Nat), Nat.le x0 (Int.toNat n) ∧ n = n ∧ x = x ∧ (0 : Int) = (↑x0 : Int) ∧ List.length ([] ++ List.replicate x0 x) = (0 : Nat)) ∧
 ∀ (x1 : Nat),
 Nat.le x1 (Int.toNat n) →
 (decide ((↑x1 : Int) < n) = true →
 (List.length ([] ++ List.replicate x1 x) + (1 : Nat)) * (8 : Nat) ≤ (140737488355328 : Nat) ∧
 ∃ (y2 : Nat),
 Nat.le y2 (Int.toNat n) ∧
 Nat.sub (Int.toNat n) y2 < Nat.sub (Int.toNat n) x1 ∧
 n = n ∧ x = x ∧ IntKind.wrap IntKind.i64 ((↑x1 : Int) + (1 : Int)) = (↑y2 : Int) ∧ [] ++ List.replicate x1 x ++ [x] = [] ++ List.replicate y2 x) ∧
 (decide ((↑x1 : Int) < n) = false → [] ++ List.replicate x1 x = List.replicate (Int.toNat n) x)
--end
theorem times0_e (n x : Int) : times0_t n x = vcG Try.prog (Gof G8a) (one (oTimes [] n x)) Try.f73 [.v (.slice none 0 0), .v (.int .i64 n), .v (.int .i64 x)] [] (.leaf ((.o 2000)) ([(2000, .row 3 (.ints .i64 (List.replicate n.toNat x)))])) := by kernel_rfl
end Go.Proofs.Ytafabheehkmfhaa
/-
  Small facts on wraps, powers, lists, that the conditions' proofs share. Conditions: each theorem's own.
-/
namespace Go.Proofs.Ytafabheehkmfhaa
open Go
set_option linter.unusedVariables false
set_option linter.unusedSimpArgs false
theorem wr {n : Int} (h1 : -9223372036854775808 ≤ n) (h2 : n ≤ 9223372036854775807) : IntKind.wrap IntKind.i64 n = n := IntWalk.i64_in n ⟨h1, h2⟩
theorem wru {n : Int} (h1 : 0 ≤ n) (h2 : n ≤ 18446744073709551615) : IntKind.wrap IntKind.u64 n = n := IntWalk.u64_in n ⟨h1, h2⟩
theorem b64 : IntKind.bits IntKind.i64 = 64 := rfl
theorem bu64 : IntKind.bits IntKind.u64 = 64 := rfl
theorem pow_mono {a b : Nat} (h : a ≤ b) : (2 : Int) ^ a ≤ 2 ^ b := by
  have := Nat.pow_le_pow_right (n := 2) (by omega) h
  exact_mod_cast this
theorem pow_pos' (a : Nat) : (0 : Int) < 2 ^ a := by
  have := Nat.pow_pos (n := a) (show 0 < 2 by omega)
  exact_mod_cast this
theorem pow_cast (a : Nat) : (2 : Int) ^ a = ((2 ^ a : Nat) : Int) := by simp
theorem shl1 {g : Int} (h0 : 0 ≤ g) (h : g ≤ 62) : IntKind.wrap IntKind.i64 ((1 : Int) * (2 : Int) ^ min (Int.toNat g) (IntKind.bits IntKind.i64)) = 2 ^ g.toNat := by
  rw [b64, Nat.min_eq_left (by omega), Int.one_mul]
  have h1 := pow_mono (show g.toNat ≤ 62 by omega)
  have h2 := pow_pos' g.toNat
  exact wr (by omega) (by omega)
theorem take_succ {α : Type} (l : List α) (d : α) {i : Nat} (h : i < l.length) : l.take (i + 1) = l.take i ++ [l.getD i d] := by
  rw [List.take_add_one, List.getD_eq_getElem?_getD, List.getElem?_eq_getElem h]
  rfl
theorem toNat_cast (i : Nat) : (i : Int).toNat = i := Int.toNat_natCast i
theorem e00 : ((0 : Int) == 0) = true := rfl
theorem n00 : ((0 : Int) != 0) = false := rfl
theorem e31 : ((31 : Int) == 0) = false := rfl
theorem n31 : ((31 : Int) != 0) = true := rfl
theorem e23 : ((23 : Int) == 0) = false := rfl
theorem n23 : ((23 : Int) != 0) = true := rfl
theorem mk_eta {α β : Type} (p : α × β) : (p.1, p.2) = p := rfl
theorem nle {a b : Nat} : Nat.le a b ↔ a ≤ b := Iff.rfl
theorem getD_mem' {l : List Int} {i : Nat} (h : i < l.length) : l.getD i 0 ∈ l := by
  rw [List.getD_eq_getElem?_getD, List.getElem?_eq_getElem h]
  exact List.getElem_mem h
theorem tdiv2 {a : Int} (h : 0 ≤ a) : Int.tdiv a 2 = a / 2 := Int.tdiv_eq_ediv_of_nonneg h
theorem fdivp {a b : Int} (h : 0 ≤ b) : Int.fdiv a b = a / b := by
  rw [Int.fdiv_eq_ediv_of_nonneg _ h]
end Go.Proofs.Ytafabheehkmfhaa
/-
  Chapter 8: the small functions answer as they are said to. Conditions: each theorem's own.
-/
namespace Go.Proofs.Ytafabheehkmfhaa
open Go Go.RowKit
set_option linter.unusedVariables false
set_option linter.unusedSimpArgs false
set_option maxRecDepth 100000
theorem log2_lt63 {n : Int} (h : n ≤ 9223372036854775807) : Nat.log2 n.toNat ≤ 62 := by
  by_cases h0 : n.toNat = 0
  · rw [h0]; decide
  · have := (Nat.log2_lt h0 (k := 63)).2 (by omega)
    omega
theorem div_pos_iff {n : Int} (h : 0 < n) (i : Nat) : 0 < n / 2 ^ i ↔ i ≤ Nat.log2 n.toNat := by
  rw [Nat.le_log2 (by omega)]
  have h1 : 0 < n / 2 ^ i ↔ 1 * 2 ^ i ≤ n := by
    rw [← Int.le_ediv_iff_mul_le (pow_pos' i)]
    omega
  rw [h1, pow_cast]
  omega
theorem high_v (n : Int) (h0 : n ≤ 9223372036854775807) : high_t n := by
  unfold high_t
  have hl := log2_lt63 h0
  refine ⟨⟨0, by rw [nle]; omega, rfl, by unfold hiM; cases decide (n ≤ 0) <;> simp <;> omega, rfl⟩, fun i hi => ⟨fun hlt => ?_, fun hge => ?_⟩⟩
  · simp only [decide_eq_true_eq] at hlt
    rw [nle] at hi
    rw [b64, toNat_cast, Nat.min_eq_left (by omega), fdivp (by have := pow_pos' i; omega)]
    refine ⟨by omega, fun hp => ⟨i + 1, by rw [nle]; omega, by show 63 - (i+1) < 63 - i; omega, by trivial, ?_, by rw [wr (by omega) (by omega)]; simp⟩, fun hp => ⟨i + 1, by rw [nle]; omega, by show 63 - (i+1) < 63 - i; omega, by trivial, ?_, by rw [wr (by omega) (by omega)]; simp⟩⟩
    · simp only [gt_iff_lt, decide_eq_true_eq] at hp
      have hn : 0 < n := by
        rcases Int.lt_or_le 0 n with h | h
        · exact h
        · have := Int.ediv_nonpos_of_nonpos_of_neg h (pow_pos' i)
          omega
      have := (div_pos_iff hn i).1 hp
      unfold hiM
      rw [decide_eq_false (by omega)]
      simp only [cond_false]
      omega
    · simp only [gt_iff_lt, decide_eq_false_iff_not] at hp
      unfold hiM
      by_cases hn : 0 < n
      · have : ¬ i ≤ Nat.log2 n.toNat := fun h => hp ((div_pos_iff hn i).2 h)
        rw [decide_eq_false (by omega)]
        simp only [cond_false]
        omega
      · rw [decide_eq_true (by omega)]
        rfl
  · simp only [decide_eq_false_iff_not] at hge
    rw [nle] at hi
    unfold hiM hiI
    cases decide (n ≤ 0)
    · simp only [cond_false]; omega
    · rfl

theorem rhigh_v (n : Int) (h0 : n ≤ 9223372036854775807) : rhigh_t n := by
  unfold rhigh_t
  have hl := log2_lt63 h0
  refine ⟨⟨0, ?_, by simp, rfl⟩, fun i hi => ⟨fun hp => ?_, fun hp => ?_⟩⟩
  · by_cases h : n ≤ 0
    · exact .inl ⟨h, rfl⟩
    · exact .inr ⟨by omega, by omega⟩
  · simp only [gt_iff_lt, decide_eq_true_eq] at hp
    have hn : 0 < n := by
      rcases Int.lt_or_le 0 n with h | h
      · exact h
      · have := Int.ediv_nonpos_of_nonpos_of_neg h (pow_pos' i)
        omega
    have h1 := (div_pos_iff hn i).1 hp
    have hle := Int.ediv_le_self (2 ^ i) (Int.le_of_lt hn)
    refine ⟨by omega, i + 1, .inr ⟨hn, by omega⟩, ?_, ?_, ?_⟩
    · show 63 - (i + 1) < 63 - i
      omega
    · rw [tdiv2 (by omega), Int.pow_succ, ← Int.ediv_ediv_of_nonneg (Int.le_of_lt (pow_pos' i))]
      exact wr (by omega) (by omega)
    · rw [wr (by omega) (by omega)]; simp
  · simp only [gt_iff_lt, decide_eq_false_iff_not] at hp
    unfold hiI
    by_cases hn : 0 < n
    · have : ¬ i ≤ Nat.log2 n.toNat := fun h => hp ((div_pos_iff hn i).2 h)
      rw [decide_eq_false (by omega)]
      simp only [cond_false]
      omega
    · rw [decide_eq_true (by omega)]
      simp only [cond_true]
      omega
theorem tmod_pos {x m : Int} (hm : 0 < m) : (Int.tmod x m < 0 → Int.tmod x m + m = x % m) ∧ (¬ Int.tmod x m < 0 → Int.tmod x m = x % m) := by
  have h1 := Int.emod_nonneg x (show m ≠ 0 by omega)
  have h2 := Int.emod_lt_of_pos x hm
  have h3 := Int.tmod_eq_emod (a := x) (b := m)
  constructor
  · intro h
    split at h3 <;> omega
  · intro h
    split at h3 <;> omega
theorem mod_v (x m : Int) (hx : inW x = true) (hm : inW m = true) : modK_t x m := by
  unfold modK_t
  simp only [inW, Bool.and_eq_true, decide_eq_true_eq] at hx hm
  refine ⟨fun h => ?_, fun h => ⟨?_, fun h2 => ?_, fun h2 => ?_⟩⟩
  · unfold modI; rw [h]; rfl
  · simp only [decide_eq_false_iff_not] at h; omega
  · have h' := h
    simp only [decide_eq_false_iff_not, decide_eq_true_eq] at h h2
    have h1 := Int.emod_nonneg x (show m ≠ 0 by omega)
    have h3 := Int.emod_lt_of_pos x (show 0 < m by omega)
    have := (tmod_pos (x := x) (show 0 < m by omega)).1 h2
    rw [this, wr (by omega) (by omega)]
    unfold modI; rw [h']; rfl
  · have h' := h
    simp only [decide_eq_false_iff_not] at h h2
    rw [(tmod_pos (x := x) (show 0 < m by omega)).2 h2]
    unfold modI; rw [h']; rfl
theorem at_v (l : List Int) (i : Int) : atK_t l i := by
  unfold atK_t atI
  refine ⟨fun h => by rw [h]; rfl, fun h => ⟨fun h2 => ?_, fun h2 => ?_⟩⟩
  · simp only [ge_iff_le] at h2; rw [h, h2]; rfl
  · simp only [ge_iff_le] at h2
    rw [h, h2]
    simp only [decide_eq_false_iff_not] at h h2
    exact ⟨by omega, by omega, rfl⟩
theorem minL_snoc (l : List Int) (z : Int) (h : l ≠ []) : minL (l ++ [z]) = min (minL l) z := by
  cases l with
  | nil => exact absurd rfl h
  | cons x r => simp [minL, List.foldl_append]
theorem min_v (l : List Int) (h0 : 0 < l.length) (h1 : l.length ≤ 4294967296) : minK_t l := by
  unfold minK_t
  refine ⟨fun h => by simp only [decide_eq_true_eq] at h; omega, fun h => ⟨by omega, by omega, ⟨1, ⟨by omega, by omega⟩, rfl, ?_, rfl⟩, fun i hi => ⟨fun hlt => ?_, fun hge => ?_⟩⟩⟩
  · cases l with
    | nil => simp at h0
    | cons x r => simp [minL]
  · simp only [decide_eq_true_eq] at hlt
    have hlt' : i < l.length := by omega
    refine ⟨by omega, by omega, i + 1, ⟨by omega, by omega⟩, by show l.length - (i+1) < l.length - i; omega, by trivial, ?_, by rw [wr (by omega) (by omega)]; simp⟩
    rw [take_succ l 0 hlt', toNat_cast, minL_snoc]
    intro hn
    have := congrArg List.length hn
    simp only [List.length_take, List.length_nil] at this
    omega
  · simp only [decide_eq_false_iff_not] at hge
    rw [List.take_of_length_le (by omega)]
theorem eq_false_of_getD {a b : List Int} (h : a.length = b.length) {i : Nat} (hi : i < a.length) (hne : a.getD i 0 ≠ b.getD i 0) : eqI a b = false := by
  unfold eqI
  rw [beq_eq_false_iff_ne]
  rintro rfl
  exact hne rfl
theorem take_step {a b : List Int} {i : Nat} (ha : i < a.length) (hb : i < b.length) (h : a.take i = b.take i) (he : a.getD i 0 = b.getD i 0) : a.take (i + 1) = b.take (i + 1) := by
  rw [take_succ a 0 ha, take_succ b 0 hb, h, he]
theorem eq_true_of_take {a b : List Int} (h : a.length = b.length) {i : Nat} (hi : a.length ≤ i) (ht : a.take i = b.take i) : eqI a b = true := by
  rw [List.take_of_length_le hi, List.take_of_length_le (by omega)] at ht
  unfold eqI
  rw [ht]
  simp
theorem eq_len {a b : List Int} (h : ((a.length : Int) != (b.length : Int)) = true) : eqI a b = false := by
  unfold eqI
  rw [beq_eq_false_iff_ne]
  rintro rfl
  simp at h
theorem equal_v (a b : List Int) (h0 : a.length ≤ 4294967296) : equal_t a b := by
  unfold equal_t
  refine ⟨fun h => (eq_len h).symm, fun h => ?_⟩
  have hl : a.length = b.length := by have h' := h; simp at h'; omega
  refine ⟨⟨0, ⟨by omega, rfl⟩, rfl, rfl, rfl, rfl⟩, fun i hi => ⟨fun hlt => ?_, fun hge => ?_⟩⟩
  · simp only [decide_eq_true_eq] at hlt
    simp only [toNat_cast]
    refine ⟨by omega, by omega, by omega, by omega, fun hne => ?_, fun he => ?_⟩
    · exact (eq_false_of_getD hl (i := i) (by omega) (by simpa using hne)).symm
    · exact ⟨i + 1, ⟨by omega, take_step (by omega) (by omega) hi.2 (by simpa using he)⟩, by show a.length - (i+1) < a.length - i; omega, by trivial, by trivial, by rw [wr (by omega) (by omega)]; simp, by trivial⟩
  · simp only [decide_eq_false_iff_not] at hge
    exact (eq_true_of_take hl (by omega) hi.2).symm
theorem sameInts_v (a b : List Int) (h0 : a.length ≤ 4294967296) : sameInts_t a b := by
  unfold sameInts_t
  refine ⟨fun h => (eq_len h).symm, fun h => ?_⟩
  have hl : a.length = b.length := by have h' := h; simp at h'; omega
  refine ⟨⟨0, ⟨by omega, rfl⟩, rfl, rfl, rfl⟩, fun i hi => ⟨fun hlt => ?_, fun hge => ?_⟩⟩
  · simp only [decide_eq_true_eq] at hlt
    simp only [toNat_cast]
    refine ⟨by omega, by omega, by omega, by omega, fun hne => ?_, fun he => ?_⟩
    · exact (eq_false_of_getD hl (i := i) (by omega) (by simpa using hne)).symm
    · exact ⟨i + 1, ⟨by omega, take_step (by omega) (by omega) hi.2 (by simpa using he)⟩, by show a.length - (i+1) < a.length - i; omega, by trivial, by trivial, by rw [wr (by omega) (by omega)]; simp⟩
  · simp only [decide_eq_false_iff_not] at hge
    exact (eq_true_of_take hl (by omega) hi.2).symm
theorem pts_snoc (l : List Int) (p : Int) : pts (l ++ [p]) = pts l + pt p := by simp [pts, List.foldl_append]
theorem pt_nonneg (p : Int) : 0 ≤ pt p := by
  unfold pt
  by_cases h : p < 0
  · rw [decide_eq_true h]; simp
  · rw [decide_eq_false h]; simp only [cond_false]; omega
theorem snoc_ind {P : List Int → Prop} (h0 : P []) (h1 : ∀ l z, P l → P (l ++ [z])) (l : List Int) : P l := by
  have : P l.reverse.reverse := by
    induction l.reverse with
    | nil => exact h0
    | cons x r ih => rw [List.reverse_cons]; exact h1 _ _ ih
  rwa [List.reverse_reverse] at this
theorem pts_nonneg (l : List Int) : 0 ≤ pts l := by
  induction l using snoc_ind with
  | h0 => simp [pts]
  | h1 l z ih => rw [pts_snoc]; have := pt_nonneg z; omega
theorem pts_app (a b : List Int) : pts (a ++ b) = pts a + pts b := by
  induction b using snoc_ind with
  | h0 => simp [pts]
  | h1 b z ih => rw [← List.append_assoc, pts_snoc, ih, pts_snoc]; omega
theorem pts_take_le (l : List Int) (i : Nat) : pts (l.take i) ≤ pts l := by
  have h := pts_app (l.take i) (l.drop i)
  rw [List.take_append_drop] at h
  have := pts_nonneg (l.drop i)
  omega
theorem pts_le (l : List Int) (m : Int) (hm : 1 ≤ m) (h : ∀ x ∈ l, x ≤ m) : pts l ≤ m * l.length := by
  induction l using snoc_ind with
  | h0 => simp [pts]
  | h1 l z ih =>
    have hz : pt z ≤ m := by
      have := h z (by simp)
      unfold pt
      by_cases h : z < 0
      · rw [decide_eq_true h]; simpa using hm
      · rw [decide_eq_false h]; simpa using this
    have := ih (fun x hx => h x (by simp [hx]))
    rw [pts_snoc, List.length_append]
    simp only [List.length_cons, List.length_nil]
    have e : m * ((l.length + (0 + 1) : Nat) : Int) = m * l.length + m := by
      rw [Int.natCast_add, Int.mul_add]; simp
    omega
theorem pt_neg {p : Int} (h : decide (p < 0) = true) : pt p = 1 := by unfold pt; rw [h]; rfl
theorem pt_pos {p : Int} (h : decide (p < 0) = false) : pt p = p := by unfold pt; rw [h]; rfl
theorem rpoints_v (l : List Int) (h0 : l.length ≤ 65536) (h1 : l.all (fun x => decide (x ≤ 65536)) = true) : rpoints_t l := by
  unfold rpoints_t
  have hb : pts l ≤ 65536 * l.length := pts_le l 65536 (by omega) (fun x hx => by simpa using List.all_eq_true.1 h1 x hx)
  refine ⟨⟨0, by rw [nle]; omega, rfl, rfl, rfl⟩, fun i hi => ⟨fun hlt => ?_, fun hge => ?_⟩⟩
  · simp only [decide_eq_true_eq] at hlt
    rw [nle] at hi
    simp only [toNat_cast]
    have hlt' : i < l.length := by omega
    have hs : pts (l.take (i + 1)) = pts (l.take i) + pt (l.getD i 0) := by rw [take_succ l 0 hlt', pts_snoc]
    have b1 := pts_take_le l (i + 1)
    have b2 := pts_nonneg (l.take i)
    have b3 := pt_nonneg (l.getD i 0)
    refine ⟨by omega, by omega, fun hn => ?_, fun hn => ⟨by omega, by omega, ?_⟩⟩
    · have := pt_neg hn
      exact ⟨i + 1, by rw [nle]; omega, by show l.length - (i+1) < l.length - i; omega, by trivial, by rw [wr (by omega) (by omega)]; omega, by rw [wr (by omega) (by omega)]; simp⟩
    · have := pt_pos hn
      exact ⟨i + 1, by rw [nle]; omega, by show l.length - (i+1) < l.length - i; omega, by trivial, by rw [wr (by omega) (by omega)]; omega, by rw [wr (by omega) (by omega)]; simp⟩
  · simp only [decide_eq_false_iff_not] at hge
    rw [List.take_of_length_le (by omega)]
theorem add_v (n s : Int) (h0 : 0 ≤ n) (h1 : n ≤ 1048576) (h2 : 0 ≤ s) (h3 : s ≤ 1048576) : add_t n s := by
  unfold add_t
  rw [wr (by omega) (by omega)]
theorem bits_v (n : Int) (h : n ≤ 9223372036854775807) : bits_t n := by
  have := log2_lt63 h
  refine ⟨h, wr ?_ ?_⟩ <;> (unfold hiI; cases decide (n ≤ 0) <;> simp only [cond_true, cond_false] <;> omega)
theorem points_v (g : Int) (l : List Int) (h : l.length ≤ 4294967296) : points_t g l := by
  unfold points_t
  refine ⟨⟨0, by rw [nle]; omega, rfl, rfl, rfl, rfl⟩, fun i hi => ⟨fun hlt => ?_, fun hge => ?_⟩⟩
  · simp only [decide_eq_true_eq] at hlt
    rw [nle] at hi
    simp only [toNat_cast]
    have hlt' : i < l.length := by omega
    have hs : pts (l.take (i + 1)) = pts (l.take i) + pt (l.getD i 0) := by rw [take_succ l 0 hlt', pts_snoc]
    have b2 := pts_nonneg (l.take i)
    have b3 := pt_nonneg (l.getD i 0)
    refine ⟨by omega, by omega, fun hn => ?_, fun hn => ?_⟩
    · have := pt_neg hn
      exact ⟨by omega, by omega, by omega, by omega, i + 1, by rw [nle]; omega, by show l.length - (i+1) < l.length - i; omega, by trivial, by trivial, by rw [wr (by omega) (by omega)]; simp, by omega⟩
    · have := pt_pos hn
      exact ⟨by omega, by omega, by omega, by omega, i + 1, by rw [nle]; omega, by show l.length - (i+1) < l.length - i; omega, by trivial, by trivial, by rw [wr (by omega) (by omega)]; simp, by omega⟩
  · simp only [decide_eq_false_iff_not] at hge
    rw [List.take_of_length_le (by omega)]
theorem sameDist_v (a : Int) (x : List Int) (b : Int) (y : List Int) (h : x.length ≤ 4294967296) : sameDist_t a x b y :=
  ⟨fun e => ⟨h, by rw [e]; rfl⟩, fun e => by rw [e]; rfl⟩
theorem same_v (a : Int) (x : List Int) (b : Int) (y : List Int) (h : x.length ≤ 4294967296) : same_t a x b y :=
  ⟨fun e => ⟨h, by rw [e]; rfl⟩, fun e => by rw [e]; rfl⟩
theorem rsame_v (a : Int) (x : List Int) (b : Int) (y : List Int) (h : x.length ≤ 4294967296) : rsame_t a x b y := by
  unfold rsame_t
  refine ⟨fun e => ?_, fun e => ?_⟩
  · have : (a == b) = false := by simpa [bne] using e
    rw [this]; rfl
  · have : (a == b) = true := by simpa [bne] using e
    rw [this]
    simp only [Bool.true_and]
    refine ⟨fun h => (eq_len h).symm, fun h => ?_⟩
    have hl : x.length = y.length := by have h' := h; simp at h'; omega
    refine ⟨⟨0, ⟨by omega, by trivial⟩, by trivial, by trivial, by trivial, by trivial, by trivial⟩, fun i hi => ⟨fun hlt => ?_, fun hge => ?_⟩⟩
    · simp only [decide_eq_true_eq] at hlt
      simp only [toNat_cast]
      refine ⟨by omega, by omega, by omega, by omega, fun hne => ?_, fun he => ?_⟩
      · exact (eq_false_of_getD hl (i := i) (by omega) (by simpa using hne)).symm
      · exact ⟨i + 1, ⟨by omega, take_step (by omega) (by omega) hi.2 (by simpa using he)⟩, by show x.length - (i+1) < x.length - i; omega, by rw [wr (by omega) (by omega)]; simp, by trivial, by trivial, by trivial, by trivial⟩
    · simp only [decide_eq_false_iff_not] at hge
      exact (eq_true_of_take hl (by omega) hi.2).symm
theorem dsize_in {g : Int} (h1 : decide (g < 0) = false) (h2 : decide (12 < g) = false) : dsize g = 2 ^ g.toNat := by
  unfold dsize; rw [h1, h2]; rfl
theorem size_v (g : Int) (l : List Int) : size_t g l := by
  unfold size_t
  refine ⟨fun h => by unfold dsize; rw [h]; rfl, fun h => ⟨fun h2 => ?_, fun h2 => ?_⟩⟩
  · simp only [gt_iff_lt] at h2; unfold dsize; rw [h, h2]; rfl
  · simp only [gt_iff_lt] at h2
    rw [dsize_in h h2]
    simp only [decide_eq_false_iff_not] at h h2
    exact ⟨by omega, shl1 (by omega) (by omega)⟩
theorem rsize_v (g : Int) (l : List Int) : rsize_t g l := by
  unfold rsize_t
  refine ⟨fun h => by unfold dsize; rw [h]; rfl, fun h => ⟨fun h2 => ?_, fun h2 => ?_⟩⟩
  · simp only [gt_iff_lt] at h2; unfold dsize; rw [h, h2]; rfl
  · simp only [gt_iff_lt] at h2
    rw [dsize_in h h2]
    simp only [decide_eq_false_iff_not] at h h2
    rw [wru (by omega) (by omega)]
    exact ⟨by omega, shl1 (by omega) (by omega)⟩
theorem times_v (l : List Int) (n x : Int) (h0 : l.length ≤ 65536) (h1 : n ≤ 65536) : times_t l n x := by
  unfold times_t
  refine ⟨⟨0, by rw [nle]; omega, rfl, rfl, rfl, by simp⟩, fun i hi => ⟨fun hlt => ?_, fun hge => ?_⟩⟩
  · simp only [decide_eq_true_eq] at hlt
    rw [nle] at hi
    refine ⟨by simp; omega, i + 1, by rw [nle]; omega, by show n.toNat - (i+1) < n.toNat - i; omega, by trivial, by trivial, by rw [wr (by omega) (by omega)]; simp, ?_⟩
    rw [List.replicate_succ', List.append_assoc]
  · simp only [decide_eq_false_iff_not] at hge
    rw [nle] at hi
    rw [show i = n.toNat by omega]
theorem times0_v (n x : Int) (h1 : n ≤ 65536) : times0_t n x := by
  unfold times0_t
  refine ⟨⟨0, by rw [nle]; omega, rfl, rfl, rfl, by simp⟩, fun i hi => ⟨fun hlt => ?_, fun hge => ?_⟩⟩
  · simp only [decide_eq_true_eq] at hlt
    rw [nle] at hi
    refine ⟨by simp; omega, i + 1, by rw [nle]; omega, by show n.toNat - (i+1) < n.toNat - i; omega, by trivial, by trivial, by rw [wr (by omega) (by omega)]; simp, ?_⟩
    rw [List.replicate_succ', List.append_assoc]
  · simp only [decide_eq_false_iff_not] at hge
    rw [nle] at hi
    rw [show i = n.toNat by omega]
    simp
theorem shape_v (n : Int) (h0 : 0 ≤ n) (h1 : n ≤ 1073741824) : shape_t n := by
  unfold shape_t
  have hw : IntKind.wrap IntKind.i64 (n + 1) = n + 1 := wr (by omega) (by omega)
  simp only [hw]
  have hn : (n + 1).toNat ≠ 0 := by omega
  have hl := (Nat.log2_lt hn (k := 31)).2 (by omega)
  have hh : hiI (n + 1) = Nat.log2 (n + 1).toNat := by unfold hiI; rw [decide_eq_false (by omega)]; rfl
  have hb : shB n = (Nat.log2 (n + 1).toNat : Nat) + 1 := by unfold shB; rw [hh]
  refine ⟨by omega, by omega, rfl, ?_⟩
  rw [shl1 (by omega) (by omega)]
  unfold shT
  have e : (hiI (n + 1) + 1).toNat = (shB n).toNat := rfl
  rw [e]
  have hp := pow_mono (show (shB n).toNat ≤ 31 by omega)
  have hp2 := pow_pos' (shB n).toNat
  rw [wr (n := (2 : Int) ^ (shB n).toNat - 1) (by omega) (by omega), wr (by omega) (by omega)]

theorem pts_mem {l : List Int} {x : Int} (h : x ∈ l) : pt x ≤ pts l := by
  obtain ⟨a, b, rfl⟩ := List.append_of_mem h
  have h1 := pts_app a (x :: b)
  have h2 := pts_app [x] b
  have h3 := pts_nonneg a
  have h4 := pts_nonneg b
  have h5 : pts [x] = pt x := by simp [pts]
  have e : x :: b = [x] ++ b := rfl
  rw [e] at h1 ⊢
  omega
theorem dchk_out {g : Int} {l : List Int} (h : (decide (g < 5) || decide (12 < g)) = true) : dchk g l = 31 := by unfold dchk; rw [h]; rfl
theorem dchk_in {g : Int} {l : List Int} (h1 : decide (g < 5) = false) (h2 : decide (12 < g) = false) : dchk g l = cond (dbad g l) 23 0 := by unfold dchk; rw [h1, h2]; rfl
theorem dbad_iff (g : Int) (l : List Int) : dbad g l = true ↔ l.length < 1 ∨ 256 < l.length ∨ l.getD (l.length - 1) 0 = 0 ∨ (∃ x ∈ l, x < -1) ∨ pts l ≠ 2 ^ g.toNat := by
  unfold dbad
  simp only [Bool.or_eq_true, decide_eq_true_eq, beq_iff_eq, List.any_eq_true, Bool.not_eq_true', beq_eq_false_iff_ne, ne_eq]
  constructor
  · rintro ((((h | h) | h) | h) | h)
    · exact .inl h
    · exact .inr (.inl h)
    · exact .inr (.inr (.inl h))
    · exact .inr (.inr (.inr (.inl h)))
    · exact .inr (.inr (.inr (.inr h)))
  · rintro (h | h | h | h | h)
    · exact .inl (.inl (.inl (.inl h)))
    · exact .inl (.inl (.inl (.inr h)))
    · exact .inl (.inl (.inr h))
    · exact .inl (.inr h)
    · exact .inr h
theorem bad23 {g : Int} {l : List Int} (h1 : decide (g < 5) = false) (h2 : decide (12 < g) = false) (h : l.length < 1 ∨ 256 < l.length ∨ l.getD (l.length - 1) 0 = 0 ∨ (∃ x ∈ l, x < -1) ∨ pts l ≠ 2 ^ g.toNat) : (23 : Int) = dchk g l := by
  rw [dchk_in h1 h2, (dbad_iff g l).2 h]; rfl
theorem good0 {g : Int} {l : List Int} (h1 : decide (g < 5) = false) (h2 : decide (12 < g) = false) (h : ¬ (l.length < 1 ∨ 256 < l.length ∨ l.getD (l.length - 1) 0 = 0 ∨ (∃ x ∈ l, x < -1) ∨ pts l ≠ 2 ^ g.toNat)) : (0 : Int) = dchk g l := by
  have : dbad g l = false := by
    cases hb : dbad g l
    · rfl
    · exact absurd ((dbad_iff g l).1 hb) h
  rw [dchk_in h1 h2, this]; rfl
theorem minL_lt (l : List Int) (h : l ≠ []) (c : Int) : minL l < c ↔ ∃ x ∈ l, x < c := by
  induction l using snoc_ind with
  | h0 => exact absurd rfl h
  | h1 l z ih =>
    by_cases hl : l = []
    · subst hl; simp [minL]
    · rw [minL_snoc l z hl]
      have := ih hl
      constructor
      · intro h1
        by_cases hz : z < c
        · exact ⟨z, by simp, hz⟩
        · obtain ⟨x, hx, hxc⟩ := this.1 (by omega)
          exact ⟨x, by simp [hx], hxc⟩
      · rintro ⟨x, hx, hxc⟩
        simp only [List.mem_append, List.mem_singleton] at hx
        rcases hx with hx | rfl
        · have := this.2 ⟨x, hx, hxc⟩
          omega
        · omega
theorem pow12 {g : Int} (h2 : g ≤ 12) : (2 : Int) ^ g.toNat ≤ 4096 := by
  have := pow_mono (show g.toNat ≤ 12 by omega)
  omega
theorem rcheck_v (g : Int) (l : List Int) : rcheck_t g l := by
  unfold rcheck_t
  refine ⟨fun h => (dchk_out (by rw [h]; rfl)).symm, fun h5 => ⟨fun h => (dchk_out (by simp only [gt_iff_lt] at h; rw [h, Bool.or_true])).symm, fun h12 => ⟨fun h => bad23 h5 h12 (.inl (by simp only [decide_eq_true_eq] at h; omega)), fun h1 => ⟨fun h => bad23 h5 h12 (.inr (.inl (by simp at h; omega))), fun h2 => ?_⟩⟩⟩⟩
  simp only [decide_eq_false_iff_not, gt_iff_lt] at h1 h2
  have h5' := h5
  have h12' := h12
  simp only [decide_eq_false_iff_not, gt_iff_lt] at h5' h12'
  have hw : IntKind.wrap IntKind.i64 ((l.length : Int) - 1) = (l.length : Int) - 1 := wr (by omega) (by omega)
  have ht : ((l.length : Int) - 1).toNat = l.length - 1 := by omega
  have hg : IntKind.wrap IntKind.u64 g = g := wru (by omega) (by omega)
  simp only [hw, ht, hg, shl1 (show 0 ≤ g by omega) (show g ≤ 62 by omega), toNat_cast]
  have p12 := pow12 (show g ≤ 12 by omega)
  have p0 := pow_pos' g.toNat
  refine ⟨by omega, by omega, fun h => bad23 h5 h12 (.inr (.inr (.inl (by simpa using h)))), fun h3 => ⟨⟨0, ⟨by omega, fun x hx => by simp at hx⟩, by trivial, by trivial, by trivial⟩, fun i hi => ⟨fun hlt => ?_, fun hge => ?_⟩⟩⟩
  · simp only [decide_eq_true_eq] at hlt
    have hlt' : i < l.length := by omega
    refine ⟨by omega, by omega, fun hn => bad23 h5 h12 (.inr (.inr (.inr (.inl ⟨_, getD_mem' hlt', by simpa using hn⟩)))), fun hn => ⟨by omega, by omega, by omega, fun hb => bad23 h5 h12 (.inr (.inr (.inr (.inr ?_)))), fun hb => ?_⟩⟩
    · simp only [gt_iff_lt, decide_eq_true_eq] at hb
      have := pts_mem (getD_mem' hlt')
      have hp : pt (l.getD i 0) = l.getD i 0 := pt_pos (decide_eq_false (by omega))
      omega
    · simp only [gt_iff_lt, decide_eq_false_iff_not] at hn hb
      refine ⟨i + 1, ⟨by omega, fun x hx => ?_⟩, by show l.length - (i + 1) < l.length - i; omega, by rw [wr (by omega) (by omega)]; simp, by trivial, by trivial⟩
      rw [take_succ l 0 hlt', List.mem_append, List.mem_singleton] at hx
      rcases hx with hx | rfl
      · exact hi.2 x hx
      · omega
  · simp only [decide_eq_false_iff_not] at hge
    have hall := hi.2
    rw [List.take_of_length_le (by omega)] at hall
    refine ⟨by omega, List.all_eq_true.2 fun x hx => by have := hall x hx; simp only [decide_eq_true_eq]; omega, by omega, fun hb => bad23 h5 h12 (.inr (.inr (.inr (.inr (by simpa using hb))))), fun hb => good0 h5 h12 ?_⟩
    rintro (c | c | c | ⟨x, hx, hxc⟩ | c)
    · omega
    · omega
    · rw [c] at h3; simp at h3
    · have := hall x hx; omega
    · exact c (by simpa using hb)
theorem check_v (g : Int) (l : List Int) (h0 : l.length ≤ 4294967296) : check_t g l := by
  unfold check_t
  refine ⟨fun h => (dchk_out (by rw [h]; rfl)).symm, fun h5 => ⟨fun h => (dchk_out (by simp only [gt_iff_lt] at h; rw [h, Bool.or_true])).symm, fun h12 => ⟨fun h => bad23 h5 h12 (.inl (by simp only [decide_eq_true_eq] at h; omega)), fun h1 => ⟨fun h => bad23 h5 h12 (.inr (.inl (by simp at h; omega))), fun h2 => ?_⟩⟩⟩⟩
  simp only [decide_eq_false_iff_not, gt_iff_lt] at h1 h2
  have h5' := h5
  have h12' := h12
  simp only [decide_eq_false_iff_not, gt_iff_lt] at h5' h12'
  have hw : IntKind.wrap IntKind.i64 ((l.length : Int) - 1) = (l.length : Int) - 1 := wr (by omega) (by omega)
  have ht : ((l.length : Int) - 1).toNat = l.length - 1 := by omega
  simp only [hw, ht, shl1 (show 0 ≤ g by omega) (show g ≤ 62 by omega), toNat_cast]
  have p12 := pow12 (show g ≤ 12 by omega)
  have p0 := pow_pos' g.toNat
  have hne : l ≠ [] := by rintro rfl; simp at h1
  refine ⟨by omega, by omega, fun h => bad23 h5 h12 (.inr (.inr (.inl (by simpa using h)))), fun h3 => ⟨by omega, h0, fun hm => bad23 h5 h12 (.inr (.inr (.inr (.inl ((minL_lt l hne _).1 (by simpa using hm)))))), fun hm => ⟨h0, by omega, fun hb => bad23 h5 h12 (.inr (.inr (.inr (.inr ?_)))), fun hb => good0 h5 h12 ?_⟩⟩⟩
  · have : min (pts l) 1048576 ≠ 2 ^ g.toNat := by simpa using hb
    omega
  · have hb' : min (pts l) 1048576 = 2 ^ g.toNat := by simpa using hb
    rintro (c | c | c | c | c)
    · omega
    · omega
    · rw [c] at h3; simp at h3
    · have := (minL_lt l hne _).2 c
      simp only [decide_eq_false_iff_not] at hm
      omega
    · omega
theorem ownInts_v (l : List Int) (h : l.length ≤ 4294967296) : ownInts_t l := by
  refine ⟨by omega, rfl⟩
/-! ### tables -/
theorem high_sound : Sound Try.prog 95 sHigh.ctr := sHigh.sound (by kernel_rfl) sHigh_enc fun n hc => by
  have h0 := hc _ (.head _)
  exact satG G02_ok mixed Try.func95 (high_e n) (high_v n h0)
theorem rhigh_sound : Sound Try.prog 92 sHigh.ctr := sHigh.sound (by kernel_rfl) sHigh_enc fun n hc => by
  have h0 := hc _ (.head _)
  exact satG G02_ok mixed Try.func92 (rhigh_e n) (rhigh_v n h0)
theorem add_sound : Sound Try.prog 82 sAdd.ctr := sAdd.sound (by kernel_rfl) sAdd_enc fun ⟨n, s⟩ hc => by
  have h0 := hc _ (.head _)
  have h1 := hc _ (.tail _ (.head _))
  have h2 := hc _ (.tail _ (.tail _ (.head _)))
  have h3 := hc _ (.tail _ (.tail _ (.tail _ (.head _))))
  exact satG G02_ok mixed Try.func82 (add_e n s) (add_v n s h0 h1 h2 h3)
theorem minK_sound : Sound Try.prog 66 sMin.ctr := sMin.sound (by kernel_rfl) sMin_enc fun l hc => by
  have h0 := hc _ (.head _)
  have h1 := hc _ (.tail _ (.head _))
  exact satG G02_ok mixed Try.func66 (minK_e l) (min_v l h0 h1)
theorem equal_sound : Sound Try.prog 70 sEq.ctr := sEq.sound (by kernel_rfl) sEq_enc fun ⟨a, b⟩ hc => by
  have h0 := hc _ (.head _)
  exact satG G02_ok mixed Try.func70 (equal_e a b) (equal_v a b h0)
theorem sameInts_sound : Sound Try.prog 74 sEq.ctr := sEq.sound (by kernel_rfl) sEq_enc fun ⟨a, b⟩ hc => by
  have h0 := hc _ (.head _)
  exact satG G02_ok mixed Try.func74 (sameInts_e a b) (sameInts_v a b h0)
theorem ownInts_sound : Sound Try.prog 68 sOwn.ctr := sOwn.sound (by kernel_rfl) sOwn_enc fun l hc => by
  have h0 := hc _ (.head _)
  exact satG G02_ok mixed Try.func68 (ownInts_e l) (ownInts_v l h0)
theorem rpoints_sound : Sound Try.prog 69 sRpoints.ctr := sRpoints.sound (by kernel_rfl) sRpoints_enc fun l hc => by
  have h0 := hc _ (.head _)
  have h1 := hc _ (.tail _ (.head _))
  exact satG G02_ok mixed Try.func69 (rpoints_e l) (rpoints_v l h0 h1)
theorem modK_sound : Sound Try.prog 37 sMod.ctr := sMod.sound (by kernel_rfl) sMod_enc fun ⟨x, m⟩ hc => by
  have h0 := hc _ (.head _)
  have h1 := hc _ (.tail _ (.head _))
  exact satG G02_ok mixed Try.func37 (modK_e x m) (mod_v x m h0 h1)
theorem atK_sound : Sound Try.prog 79 sAt.ctr := sAt.sound (by kernel_rfl) sAt_enc fun ⟨l, i⟩ hc => by
  exact satG G02_ok mixed Try.func79 (atK_e l i) (at_v l i)
theorem G8a_ok : AllOk Try.prog G8a := .cons high_sound <| .cons rhigh_sound <| .cons add_sound <| .cons minK_sound <| .cons equal_sound <| .cons sameInts_sound <| .cons ownInts_sound <| .cons rpoints_sound <| .cons modK_sound <| .cons atK_sound G02_ok
theorem bits_sound : Sound Try.prog 91 sBits.ctr := sBits.sound (by kernel_rfl) sBits_enc fun n hc => by
  have h0 := hc _ (.head _)
  exact satG G8a_ok mixed Try.func91 (bits_e n) (bits_v n h0)
theorem rbits_sound : Sound Try.prog 85 sBits.ctr := sBits.sound (by kernel_rfl) sBits_enc fun n hc => by
  have h0 := hc _ (.head _)
  exact satG G8a_ok mixed Try.func85 (rbits_e n) (bits_v n h0)
theorem points_sound : Sound Try.prog 67 sPoints.ctr := sPoints.sound (by kernel_rfl) sPoints_enc fun ⟨g, l⟩ hc => by
  have h0 := hc _ (.head _)
  exact satG G8a_ok mixed Try.func67 (points_e g l) (points_v g l h0)
theorem ownDist_sound : Sound Try.prog 41 sOwnD.ctr := sOwnD.sound (by kernel_rfl) sOwnD_enc fun ⟨g, l⟩ hc => by
  have h0 := hc _ (.head _)
  exact satG G8a_ok mixed Try.func41 (ownDist_e g l) (⟨h0, rfl, rfl⟩)
theorem sameDist_sound : Sound Try.prog 52 sEqD.ctr := sEqD.sound (by kernel_rfl) sEqD_enc fun ⟨a, x, b, y⟩ hc => by
  have h0 := hc _ (.head _)
  exact satG G8a_ok mixed Try.func52 (sameDist_e a x b y) (sameDist_v a x b y h0)
theorem rcheck_sound : Sound Try.prog 42 sCheck.ctr := sCheck.sound (by kernel_rfl) sCheck_enc fun ⟨g, l⟩ hc => by
  have h0 := hc _ (.head _)
  exact satG G8a_ok mixed Try.func42 (rcheck_e g l) (rcheck_v g l)
theorem same_sound : Sound Try.prog 45 sEqD.ctr := sEqD.sound (by kernel_rfl) sEqD_enc fun ⟨a, x, b, y⟩ hc => by
  have h0 := hc _ (.head _)
  exact satG G8a_ok mixed Try.func45 (same_e a x b y) (same_v a x b y h0)
theorem rsame_sound : Sound Try.prog 46 sEqD.ctr := sEqD.sound (by kernel_rfl) sEqD_enc fun ⟨a, x, b, y⟩ hc => by
  have h0 := hc _ (.head _)
  exact satG G8a_ok mixed Try.func46 (rsame_e a x b y) (rsame_v a x b y h0)
theorem size_sound : Sound Try.prog 43 sSize.ctr := sSize.sound (by kernel_rfl) sSize_enc fun ⟨g, l⟩ hc => by
  exact satG G8a_ok mixed Try.func43 (size_e g l) (size_v g l)
theorem rsize_sound : Sound Try.prog 44 sSize.ctr := sSize.sound (by kernel_rfl) sSize_enc fun ⟨g, l⟩ hc => by
  exact satG G8a_ok mixed Try.func44 (rsize_e g l) (rsize_v g l)
theorem G8b_ok : AllOk Try.prog G8b := .cons bits_sound <| .cons rbits_sound <| .cons points_sound <| .cons ownDist_sound <| .cons sameDist_sound <| .cons rcheck_sound <| .cons same_sound <| .cons rsame_sound <| .cons size_sound <| .cons rsize_sound G8a_ok
theorem check_sound : Sound Try.prog 39 sCheck.ctr := sCheck.sound (by kernel_rfl) sCheck_enc fun ⟨g, l⟩ hc => by
  have h0 := hc _ (.head _)
  exact satG G8b_ok mixed Try.func39 (check_e g l) (check_v g l h0)
theorem shape_sound : Sound Try.prog 84 sShape.ctr := sShape.sound (by kernel_rfl) sShape_enc fun n hc => by
  have h0 := hc _ (.head _)
  have h1 := hc _ (.tail _ (.head _))
  exact satG G8b_ok mixed Try.func84 (shape_e n) (shape_v n h0 h1)
theorem G8c_ok : AllOk Try.prog G8c := .cons check_sound <| .cons shape_sound G8b_ok
end Go.Proofs.Ytafabheehkmfhaa
/-
  Chapter 8: what is written. Conditions: each theorem's own.
-/
namespace Go.Proofs.Ytafabheehkmfhaa
open Go Go.RowKit
set_option linter.unusedVariables false
set_option linter.unusedSimpArgs false
set_option maxRecDepth 100000
structure Valid (g : Int) (l : List Int) : Prop where
  g5 : 5 ≤ g
  g12 : g ≤ 12
  len1 : 1 ≤ l.length
  len2 : l.length ≤ 256
  last : l.getD (l.length - 1) 0 ≠ 0
  low : ∀ x ∈ l, -1 ≤ x
  sum : pts l = 2 ^ g.toNat
theorem Valid.of {g : Int} {l : List Int} (h : dchk g l = 0) : Valid g l := by
  cases h5 : decide (g < 5)
  · cases h12 : decide (12 < g)
    · cases hb : dbad g l
      · have := fun c => Bool.false_ne_true (hb ▸ (dbad_iff g l).2 c)
        simp only [decide_eq_false_iff_not] at h5 h12
        exact ⟨by omega, by omega, by have h1 : ¬ l.length < 1 := fun c => this (.inl c); omega, by have h1 : ¬ 256 < l.length := fun c => this (.inr (.inl c)); omega, fun c => this (.inr (.inr (.inl c))), fun x hx => by
          have h1 : ¬ x < -1 := fun c => this (.inr (.inr (.inr (.inl ⟨x, hx, c⟩))))
          omega, by
          have := fun c => this (.inr (.inr (.inr (.inr c))))
          exact Classical.byContradiction this⟩
      · rw [dchk_in h5 h12, hb] at h; cases h
    · rw [dchk_out (by rw [h12, Bool.or_true])] at h; cases h
  · rw [dchk_out (by rw [h5, Bool.true_or])] at h; cases h
theorem drop_cons {l : List Int} {i : Nat} (h : i < l.length) : l.drop i = l.getD i 0 :: l.drop (i + 1) := by
  rw [List.drop_eq_getElem_cons h, List.getD_eq_getElem?_getD, List.getElem?_eq_getElem h]
  rfl
theorem pts_cons (p : Int) (r : List Int) : pts (p :: r) = pt p + pts r := by
  have := pts_app [p] r
  have h5 : pts [p] = pt p := by simp [pts]
  rw [h5] at this
  exact this
theorem pts_drop_le (l : List Int) (i : Nat) : pts (l.drop i) ≤ pts l := by
  have h := pts_app (l.take i) (l.drop i)
  rw [List.take_append_drop] at h
  have := pts_nonneg (l.take i)
  omega
theorem pt_ge (p : Int) (h : -1 ≤ p) : p ≤ pt p ∧ (p ≠ 0 → pt p = max p 1) ∧ (p = 0 → pt p = 0) := by
  unfold pt
  by_cases h0 : p < 0
  · rw [decide_eq_true h0]; simp only [cond_true]; omega
  · rw [decide_eq_false h0]; simp only [cond_false]; omega
/-- bounds of a value's form -/
structure ShB (left : Int) : Prop where
  b1 : 1 ≤ shB left
  b2 : shB left ≤ 13
  lo : 2 ^ (shB left - 1).toNat ≤ left + 1
  hi : left + 1 < 2 ^ (shB left).toNat
  dbl : (2 : Int) ^ (shB left).toNat = 2 * 2 ^ (shB left - 1).toNat
theorem shB_ok {left : Int} (h0 : 0 ≤ left) (h1 : left ≤ 4096) : ShB left := by
  have hn : (left + 1).toNat ≠ 0 := by omega
  have hl := (Nat.log2_lt hn (k := 13)).2 (by omega)
  have hh : shB left = (Nat.log2 (left + 1).toNat : Nat) + 1 := by unfold shB hiI; rw [decide_eq_false (by omega)]; rfl
  have e1 : (shB left - 1).toNat = Nat.log2 (left + 1).toNat := by omega
  have e2 : (shB left).toNat = Nat.log2 (left + 1).toNat + 1 := by omega
  have p1 := (Nat.le_log2 hn (k := Nat.log2 (left + 1).toNat)).1 (Nat.le_refl _)
  have p2 := (Nat.log2_lt hn (k := Nat.log2 (left + 1).toNat + 1)).1 (by omega)
  refine ⟨by omega, by omega, ?_, ?_, ?_⟩
  · rw [e1, pow_cast]; omega
  · rw [e2, pow_cast]; omega
  · rw [e1, e2, Int.pow_succ]; omega
theorem shT_eq (left : Int) : shT left = 2 ^ (shB left).toNat - 1 - (left + 1) := rfl
theorem de_step {l : List Int} {i : Nat} (h : i < l.length) : de none (l.drop i) (pts (l.drop i)) = valP (pts (l.drop i)) (l.getD i 0) :: deP l i := by
  have e := drop_cons h
  unfold deP
  generalize hL : pts (l.drop i) = left
  rw [e]
  rfl
theorem putAll_cons (w : W3) (kv : Int × Int) (r : List (Int × Int)) : putAll w (kv :: r) = putAll (putT w kv.1 kv.2).1 r := rfl
theorem zerosP_ge {z : Nat} (h : 3 ≤ z) : zerosP z = (2, 3) :: zerosP (z - 3) := by
  unfold zerosP
  have e1 : z / 3 = (z - 3) / 3 + 1 := by omega
  have e2 : z % 3 = (z - 3) % 3 := by omega
  rw [e1, e2, List.replicate_succ, List.cons_append]
theorem zerosP_lt {z : Nat} (h : z < 3) : zerosP z = [(2, (z : Int))] := by
  unfold zerosP
  have e1 : z / 3 = 0 := by omega
  have e2 : z % 3 = z := by omega
  rw [e1, e2]
  rfl
/-- the run of zeros ends here -/
theorem de_end {l : List Int} {j z : Nat} {left : Int} (h : l.length ≤ j ∨ l.getD j 0 ≠ 0) : de (some z) (l.drop j) left = zerosP z ++ de none (l.drop j) left := by
  by_cases hj : j < l.length
  · have hne : l.getD j 0 ≠ 0 := by
      rcases h with h | h
      · omega
      · exact h
    rw [drop_cons hj]
    have hb : (l.getD j 0 == 0) = false := by simpa using hne
    simp only [de, hb, cond_false]
  · rw [List.drop_eq_nil_of_le (by omega)]
    simp only [de, List.append_nil]
theorem de_zero {l : List Int} {j z : Nat} {left : Int} (hj : j < l.length) (h : l.getD j 0 = 0) : de (some z) (l.drop j) left = de (some (z + 1)) (l.drop (j + 1)) left := by
  rw [drop_cons hj]
  have hb : (l.getD j 0 == 0) = true := by simpa using h
  simp only [de, hb, cond_true]
theorem pts_zero {l : List Int} {j : Nat} (hj : j < l.length) (h : l.getD j 0 = 0) : pts (l.drop j) = pts (l.drop (j + 1)) := by
  rw [drop_cons hj, pts_cons, h]
  have : pt 0 = 0 := rfl
  omega
theorem deP_zero {l : List Int} {i : Nat} (hi : i < l.length) (h : l.getD i 0 = 0) : deP l i = de (some 0) (l.drop (i + 1)) (pts (l.drop (i + 1))) := by
  unfold deP
  rw [h]
  simp only [beq_self_eq_true, cond_true]
  rw [pts_zero hi h]
theorem deP_not {l : List Int} {i : Nat} (hi : i < l.length) (h : l.getD i 0 ≠ 0) : deP l i = de none (l.drop (i + 1)) (pts (l.drop (i + 1))) := by
  unfold deP
  have hb : (l.getD i 0 == 0) = false := by simpa using h
  rw [hb]
  simp only [cond_false]
  have := pts_cons (l.getD i 0) (l.drop (i + 1))
  rw [← drop_cons hi] at this
  congr 1
  omega
structure At (l : List Int) (i : Nat) : Prop where
  lt : i < l.length
  p1 : -1 ≤ l.getD i 0
  p2 : l.getD i 0 ≤ pts (l.drop i)
  l0 : 0 ≤ pts (l.drop i)
  l1 : pts (l.drop i) ≤ 4096
  sh : ShB (pts (l.drop i))
  t0 : 0 ≤ shT (pts (l.drop i))
  t1 : shT (pts (l.drop i)) ≤ 8192
  sum : pts (l.drop i) = pt (l.getD i 0) + pts (l.drop (i + 1))
theorem Valid.at_ {g : Int} {l : List Int} (h : Valid g l) {i : Nat} (hi : i < l.length) : At l i := by
  have h4096 : pts l ≤ 4096 := by rw [h.sum]; exact pow12 h.g12
  have hle := pts_drop_le l i
  have h0 := pts_nonneg (l.drop i)
  have hs := shB_ok h0 (by omega)
  have hp := h.low _ (getD_mem' hi)
  have hsum : pts (l.drop i) = pt (l.getD i 0) + pts (l.drop (i + 1)) := by
    have := pts_cons (l.getD i 0) (l.drop (i + 1))
    rwa [← drop_cons hi] at this
  have h2 := pts_nonneg (l.drop (i + 1))
  have h3 := (pt_ge _ hp).1
  have e := shT_eq (pts (l.drop i))
  have m := pow_mono (show (shB (pts (l.drop i))).toNat ≤ 13 by have := hs.b2; omega)
  have := hs.hi
  exact ⟨hi, hp, by omega, h0, by omega, hs, by omega, by omega, hsum⟩
theorem written_v (g : Int) (l : List Int) (h : dchk g l = 0) : written_t g l := by
  have V := Valid.of h
  have hw5 : IntKind.wrap IntKind.i64 (g - 5) = g - 5 := wr (by have := V.g5; omega) (by have := V.g12; omega)
  have hg0 : 0 ≤ g := by have := V.g5; omega
  have hg1 : g ≤ 62 := by have := V.g12; omega
  have hlen := V.len2
  unfold written_t
  simp only [hw5, shl1 hg0 hg1, toNat_cast, eq_self, true_and, and_true, gt_iff_lt, ge_iff_le, decide_eq_true_eq, decide_eq_false_iff_not]
  refine ⟨hg0, ⟨(0, (putT zW 4 (g - 5)).1), ⟨by omega, ?_⟩, ?_⟩, ?_⟩
  · show putAll _ (de none l (pts l)) = _
    rw [V.sum]
    rfl
  · refine ⟨V.sum.symm, rfl, rfl, rfl, rfl⟩
  rintro ⟨i, w⟩ ⟨hi, hW⟩
  simp only at hi hW
  refine ⟨fun hlt => ?_, fun hge => ?_⟩
  · have hlt' : i < l.length := by simp only at hlt; omega
    have A := V.at_ hlt'
    rw [de_step hlt', putAll_cons] at hW
    have hA1 := A.p1
    have hA2 := A.p2
    have hA3 := A.l0
    have hA4 := A.l1
    have hA5 := A.sh.b1
    have hA6 := A.sh.b2
    have hA7 := A.t0
    have hA8 := A.t1
    have w1 : IntKind.wrap IntKind.i64 (l.getD i 0 + 1) = l.getD i 0 + 1 := wr (by omega) (by omega)
    have w2 : IntKind.wrap IntKind.i64 (shB (pts (l.drop i)) - 1) = shB (pts (l.drop i)) - 1 := wr (by omega) (by omega)
    have w3 : IntKind.wrap IntKind.i64 (l.getD i 0 + 1 + shT (pts (l.drop i))) = l.getD i 0 + 1 + shT (pts (l.drop i)) := wr (by omega) (by omega)
    simp only [w1, w2, w3, shl1 (show 0 ≤ shB (pts (l.drop i)) - 1 by omega) (show shB (pts (l.drop i)) - 1 ≤ 62 by omega)]
    refine ⟨by omega, by omega, by omega, by omega, i, ⟨fun c1 => ?_, fun c1 => ⟨by omega, fun c2 => ?_, fun c2 => ?_⟩⟩, ?_⟩
    · have e : valP (pts (l.drop i)) (l.getD i 0) = (shB (pts (l.drop i)) - 1, l.getD i 0 + 1) := by unfold valP; rw [decide_eq_true c1]; rfl
      rw [e] at hW
      exact ⟨_, ⟨hlt', hW⟩, rfl, rfl, rfl, rfl, rfl, rfl⟩
    · have e : valP (pts (l.drop i)) (l.getD i 0) = (shB (pts (l.drop i)), l.getD i 0 + 1) := by unfold valP; rw [decide_eq_false c1, decide_eq_true c2]; rfl
      rw [e] at hW
      exact ⟨_, ⟨hlt', hW⟩, rfl, rfl, rfl, rfl, rfl, rfl⟩
    · have e : valP (pts (l.drop i)) (l.getD i 0) = (shB (pts (l.drop i)), l.getD i 0 + 1 + shT (pts (l.drop i))) := by unfold valP; rw [decide_eq_false c1, decide_eq_false c2]; rfl
      rw [e] at hW
      exact ⟨_, ⟨hlt', hW⟩, rfl, rfl, rfl, rfl, rfl, rfl⟩
    · rintro w2 ⟨_, hW2⟩
      refine ⟨fun hne => ?_, fun he => ?_⟩
      · have hne' : l.getD i 0 ≠ 0 := by simpa using hne
        rw [deP_not hlt' hne'] at hW2
        have hm := (pt_ge _ A.p1).2.1 hne'
        have hs := A.sum
        refine ⟨(i + 1, w2), ⟨by omega, hW2⟩, by show l.length - (i + 1) < l.length - i; omega, ?_⟩
        simp only
        ((repeat' (refine And.intro ?_ ?_)) <;> first | rfl | exact True.intro | omega | (rw [wr (by omega) (by omega)]; done) | (rw [wr (by omega) (by omega)]; first | rfl | omega | (simp; done)))
      · have he' : l.getD i 0 = 0 := by simpa using he
        rw [deP_zero hlt' he'] at hW2
        have hz := pts_zero hlt' he'
        refine ⟨i, ⟨i, ⟨(i, 0, w2), ⟨by (try dsimp only); omega, hlt', by (try dsimp only); omega, hW2⟩, rfl, hz, rfl, rfl, rfl, rfl⟩, ?_⟩, ?_⟩
        · rintro ⟨j, z, w3⟩ ⟨j1, j2, j4, hW3⟩
          simp only at j1 j2 j4 hW3
          have wj : IntKind.wrap IntKind.i64 ((j : Int) + 1) = ((j + 1 : Nat) : Int) := by rw [wr (by omega) (by omega)]; simp
          simp only [wj, toNat_cast]
          refine ⟨fun hlt2 => ⟨by omega, by omega, fun h0 => ?_, fun h0 => ?_⟩, fun hge2 => ?_⟩
          · have h0' : l.getD (j + 1) 0 = 0 := by simpa using h0
            have j3 : j + 1 < l.length := by omega
            rw [de_zero j3 h0', pts_zero j3 h0'] at hW3
            have hz3 := pts_zero j3 h0'
            refine ⟨(j + 1, z + 1, w3), ⟨by (try dsimp only); omega, j3, by (try dsimp only); omega, hW3⟩, by show l.length - (j + 1) < l.length - j; omega, by (try dsimp only); first | (rw [wr (by omega) (by omega)]; done) | (rw [wr (by omega) (by omega)]; omega) | (rw [wr (by omega) (by omega)]; simp; done) | (rw [wr (by omega) (by omega)]; simp; omega), hz3, by trivial, rfl, rfl, rfl⟩
          · have h0' : l.getD (j + 1) 0 ≠ 0 := by simpa using h0
            rw [de_end (.inr h0')] at hW3
            exact ⟨(j, z, w3), ⟨by omega, j2, j4, hW3⟩, rfl, rfl, rfl, rfl, rfl, rfl⟩
          · rw [de_end (.inl (by omega))] at hW3
            exact ⟨(j, z, w3), ⟨by omega, j2, j4, hW3⟩, rfl, rfl, rfl, rfl, rfl, rfl⟩
        · rintro ⟨j, z, w3⟩ ⟨j1, j2, j4, hW3⟩
          simp only at j1 j2 j4 hW3
          refine ⟨i, ⟨(j, z, w3), ⟨j1, j2, j4, hW3⟩, rfl, rfl, rfl, rfl, rfl, rfl⟩, ?_⟩
          rintro ⟨j, z, w3⟩ ⟨j1, j2, j4, hW3⟩
          simp only at j1 j2 j4 hW3
          refine ⟨fun h3 => ?_, fun h3 => ?_⟩
          · simp only at h3
            rw [zerosP_ge (by omega), List.cons_append, putAll_cons] at hW3
            exact ⟨(j, z - 3, _), ⟨j1, j2, by (try dsimp only); omega, hW3⟩, by show z - 3 < z; omega, by (try dsimp only); first | (rw [wr (by omega) (by omega)]; done) | (rw [wr (by omega) (by omega)]; omega) | (rw [wr (by omega) (by omega)]; simp; done) | (rw [wr (by omega) (by omega)]; simp; omega), rfl, rfl, rfl, rfl, rfl⟩
          · simp only at h3
            rw [zerosP_lt (by omega), List.singleton_append, putAll_cons] at hW3
            exact ⟨(j + 1, _), ⟨by omega, hW3⟩, by show l.length - (j + 1) < l.length - i; omega, rfl, by rw [wr (by omega) (by omega)]; simp, rfl, rfl, rfl⟩
  · have e : l.drop i = [] := List.drop_eq_nil_of_le (by simp only at hge; omega)
    rw [e] at hW
    have hW' : w = wrT g l := hW
    rw [hW']
    exact ⟨rfl, rfl, rfl⟩
end Go.Proofs.Ytafabheehkmfhaa
/-
  Chapter 8: what the reference writes; how many bits there are. Conditions: each theorem's own.
-/
namespace Go.Proofs.Ytafabheehkmfhaa
open Go Go.RowKit
set_option linter.unusedVariables false
set_option linter.unusedSimpArgs false
set_option maxRecDepth 100000
theorem bsum_app (a b : List (Int × Int)) : bsum (a ++ b) = bsum a + bsum b := by
  induction a with
  | nil => simp [bsum]
  | cons x r ih => simp only [List.cons_append, bsum, ih]; omega
theorem bsum_zeros (z : Nat) : bsum (zerosP z) = 2 * ((z / 3 : Nat) + 1) := by
  unfold zerosP
  rw [bsum_app]
  have : ∀ n : Nat, bsum (List.replicate n ((2 : Int), (3 : Int))) = 2 * n := by
    intro n
    induction n with
    | zero => rfl
    | succ n ih => rw [List.replicate_succ, bsum, ih]; simp only; omega
  rw [this]
  simp only [bsum]
  omega
theorem valP_b {left p : Int} (h : ShB left) : 0 ≤ (valP left p).1 ∧ (valP left p).1 ≤ 13 := by
  have h1 := h.b1
  have h2 := h.b2
  unfold valP
  cases decide (p + 1 < shT left)
  · cases decide (p + 1 < 2 ^ (shB left - 1).toNat)
    · simp only [cond_false]; omega
    · simp only [cond_false, cond_true]; omega
  · simp only [cond_true]; omega
theorem bsum_de (l : List Int) : ∀ o : Option Nat, (∀ x ∈ l, -1 ≤ x) → pts l ≤ 4096 → 0 ≤ bsum (de o l (pts l)) ∧ bsum (de o l (pts l)) ≤ (match o with | none => 0 | some z => (z : Int) + 2) + 16 * l.length := by
  induction l with
  | nil =>
    intro o _ _
    cases o with
    | none => simp [de, bsum]
    | some z =>
      simp only [de, bsum_zeros, List.length_nil]
      omega
  | cons p r ih =>
    intro o hl hp
    have hs : ShB (pts (p :: r)) := shB_ok (pts_nonneg _) hp
    have hv := valP_b (p := p) hs
    have hc := pts_cons p r
    have hpn := pt_nonneg p
    have hr := pts_nonneg r
    have hl' : ∀ x ∈ r, -1 ≤ x := fun x hx => hl x (by simp [hx])
    cases hz : (p == 0)
    · have e : pts (p :: r) - pt p = pts r := by omega
      have h1 := ih none hl' (by omega)
      simp only at h1
      cases o with
      | none =>
        simp only [de, hz, cond_false, bsum, e, List.length_cons]
        omega
      | some z =>
        simp only [de, hz, cond_false, bsum_app, bsum, bsum_zeros, e, List.length_cons]
        omega
    · have hp0 : p = 0 := by simpa using hz
      have e : pts (p :: r) = pts r := by rw [hc, hp0]; simp [pt]
      cases o with
      | none =>
        have h1 := ih (some 0) hl' (by omega)
        simp only at h1
        simp only [de, hz, cond_true, bsum, List.length_cons]
        rw [e] at hv ⊢
        omega
      | some z =>
        have h1 := ih (some (z + 1)) hl' (by omega)
        simp only at h1
        simp only [de, hz, cond_true, List.length_cons]
        rw [e]
        omega
theorem Valid.drop {g : Int} {l : List Int} (V : Valid g l) (o : Option Nat) (j : Nat) : 0 ≤ bsum (de o (l.drop j) (pts (l.drop j))) := by
  refine (bsum_de (l.drop j) o (fun x hx => V.low x (List.mem_of_mem_drop hx)) ?_).1
  have h4096 : pts l ≤ 4096 := by rw [V.sum]; exact pow12 V.g12
  have := pts_drop_le l j
  omega
theorem Valid.wrN {g : Int} {l : List Int} (V : Valid g l) : wrN g l ≤ 5000 ∧ 4 ≤ wrN g l := by
  have h4096 : pts l ≤ 4096 := by rw [V.sum]; exact pow12 V.g12
  have := bsum_de l none V.low h4096
  have hl := V.len2
  unfold Proofs.Ytafabheehkmfhaa.wrN
  rw [← V.sum]
  simp only at this
  omega
theorem take1 {l : List Int} {i : Nat} (h : i < l.length) : (l.drop i).take 1 = [l.getD i 0] := by rw [drop_cons h]; rfl
theorem pts_one (p : Int) : pts [p] = pt p := by simp [pts]
theorem rwritten_v (g : Int) (l : List Int) (h : dchk g l = 0) : rwritten_t g l := by
  have V := Valid.of h
  have hw5 : IntKind.wrap IntKind.i64 (g - 5) = g - 5 := wr (by have := V.g5; omega) (by have := V.g12; omega)
  have hg0 : 0 ≤ g := by have := V.g5; omega
  have hg1 : g ≤ 62 := by have := V.g12; omega
  have hgu : IntKind.wrap IntKind.u64 g = g := wru hg0 (by omega)
  have hlen := V.len2
  have hN := V.wrN
  unfold rwritten_t
  simp only [hw5, hgu, shl1 hg0 hg1, toNat_cast, eq_self, true_and, and_true, gt_iff_lt, ge_iff_le, decide_eq_true_eq, decide_eq_false_iff_not]
  refine ⟨hg0, ⟨(0, (putT zW 4 (g - 5)).1, 4), ⟨by (try dsimp only); omega, by (try dsimp only); omega, ?_, ?_⟩, ?_⟩, ?_⟩
  · show putAll _ (de none l (pts l)) = _
    rw [V.sum]
    rfl
  · show 4 + bsum (de none l (pts l)) = _
    rw [V.sum]
    rfl
  · refine ⟨rfl, V.sum.symm, rfl, rfl, rfl, rfl⟩
  rintro ⟨i, w, n⟩ ⟨hi, hn, hW, hS⟩
  simp only at hi hn hW hS
  refine ⟨fun hlt => ?_, fun hge => ?_⟩
  · have hlt' : i < l.length := by simp only at hlt; omega
    have A := V.at_ hlt'
    have hW0 := hW
    have hS0 := hS
    have hA1 := A.p1
    have hA2 := A.p2
    have hA3 := A.l0
    have hA4 := A.l1
    have hA5 := A.sh.b1
    have hA6 := A.sh.b2
    have hA7 := A.t0
    have hA8 := A.t1
    have m13 := pow_mono (show (shB (pts (l.drop i))).toNat ≤ 13 by omega)
    have m0 := pow_pos' (shB (pts (l.drop i))).toNat
    have w0 : IntKind.wrap IntKind.i64 (pts (l.drop i) + 1) = pts (l.drop i) + 1 := wr (by omega) (by omega)
    have w1 : IntKind.wrap IntKind.i64 (l.getD i 0 + 1) = l.getD i 0 + 1 := wr (by omega) (by omega)
    have w2 : IntKind.wrap IntKind.i64 (shB (pts (l.drop i)) - 1) = shB (pts (l.drop i)) - 1 := wr (by omega) (by omega)
    have w3 : IntKind.wrap IntKind.i64 (l.getD i 0 + 1 + shT (pts (l.drop i))) = l.getD i 0 + 1 + shT (pts (l.drop i)) := wr (by omega) (by omega)
    have w4 : hiI (pts (l.drop i) + 1) + 1 = shB (pts (l.drop i)) := rfl
    have w5 : IntKind.wrap IntKind.u64 (shB (pts (l.drop i))) = shB (pts (l.drop i)) := wru (by omega) (by omega)
    have w6 : IntKind.wrap IntKind.u64 (shB (pts (l.drop i)) - 1) = shB (pts (l.drop i)) - 1 := wru (by omega) (by omega)
    have w7 : IntKind.wrap IntKind.i64 (2 ^ (shB (pts (l.drop i))).toNat - 1) = 2 ^ (shB (pts (l.drop i))).toNat - 1 := wr (by omega) (by omega)
    have w8 : IntKind.wrap IntKind.i64 (2 ^ (shB (pts (l.drop i))).toNat - 1 - (pts (l.drop i) + 1)) = shT (pts (l.drop i)) := wr (n := shT (pts (l.drop i))) (by omega) (by omega)
    simp only [w0, w1, w4, w2, w5, w6, shl1 (show 0 ≤ shB (pts (l.drop i)) by omega) (show shB (pts (l.drop i)) ≤ 62 by omega), w7, w8, w3, shl1 (show 0 ≤ shB (pts (l.drop i)) - 1 by omega) (show shB (pts (l.drop i)) - 1 ≤ 62 by omega)]
    refine ⟨by omega, by omega, by omega, by omega, (i, w, n), ⟨fun c1 => ?_, fun c1 => ⟨by omega, fun c2 => ?_, fun c2 => ?_⟩⟩, ?_⟩
    · have e : valP (pts (l.drop i)) (l.getD i 0) = (shB (pts (l.drop i)) - 1, l.getD i 0 + 1) := by unfold valP; rw [decide_eq_true c1]; rfl
      exact ⟨(_, _), ⟨hlt', hn, hW0, hS0, e.symm⟩, rfl, rfl, rfl, rfl, rfl, rfl, rfl, rfl⟩
    · have e : valP (pts (l.drop i)) (l.getD i 0) = (shB (pts (l.drop i)), l.getD i 0 + 1 + shT (pts (l.drop i))) := by unfold valP; rw [decide_eq_false c1, decide_eq_false (by omega)]; rfl
      exact ⟨(_, _), ⟨hlt', hn, hW0, hS0, e.symm⟩, rfl, rfl, rfl, rfl, rfl, rfl, rfl, rfl⟩
    · have e : valP (pts (l.drop i)) (l.getD i 0) = (shB (pts (l.drop i)), l.getD i 0 + 1) := by unfold valP; rw [decide_eq_false c1, decide_eq_true (by omega)]; rfl
      exact ⟨(_, _), ⟨hlt', hn, hW0, hS0, e.symm⟩, rfl, rfl, rfl, rfl, rfl, rfl, rfl, rfl⟩
    · rintro ⟨b, v⟩ ⟨_, _, _, _, hv⟩
      simp only at hv
      have hvb := valP_b (p := l.getD i 0) A.sh
      rw [← hv] at hvb
      simp only at hvb
      rw [de_step hlt', putAll_cons, ← hv] at hW
      rw [de_step hlt', bsum, ← hv] at hS
      simp only at hW hS
      have wi : IntKind.wrap IntKind.i64 ((i : Int) + 1) = ((i + 1 : Nat) : Int) := by rw [wr (by omega) (by omega)]; simp
      have t1 : (l.drop i).take (i + 1 - i) = [l.getD i 0] := by rw [show i + 1 - i = 1 by omega]; exact take1 hlt'
      have hsum := A.sum
      have hnn := pts_nonneg (l.drop (i + 1))
      have hpn := pt_nonneg (l.getD i 0)
      simp only [wi, toNat_cast, t1, pts_one]
      refine ⟨by omega, by omega, by omega, by simp, by simp only [List.all_cons, List.all_nil, Bool.and_true, decide_eq_true_eq]; omega, by omega, by omega, fun hne => ?_, fun he => ?_⟩
      · have hne' : l.getD i 0 ≠ 0 := by simpa using hne
        rw [deP_not hlt' hne'] at hW hS
        have hb := V.drop none (i + 1)
        exact ⟨(i + 1, (putT w b v).1, n + b), ⟨by (try dsimp only); omega, by (try dsimp only); omega, hW, by show n + b + bsum (de none (l.drop (i + 1)) (pts (l.drop (i + 1)))) = _; omega⟩, by show l.length - (i + 1) < l.length - i; omega, by (try dsimp only); first | (rw [wr (by omega) (by omega)]; done) | (rw [wr (by omega) (by omega)]; omega) | (rw [wr (by omega) (by omega)]; simp; done) | (rw [wr (by omega) (by omega)]; simp; omega), by (try dsimp only); first | (rw [wr (by omega) (by omega)]; done) | (rw [wr (by omega) (by omega)]; omega) | (rw [wr (by omega) (by omega)]; simp; done) | (rw [wr (by omega) (by omega)]; simp; omega), by trivial, rfl, rfl, rfl⟩
      · have he' : l.getD i 0 = 0 := by simpa using he
        rw [deP_zero hlt' he'] at hW hS
        have hz := pts_zero hlt' he'
        have hb := V.drop (some 0) (i + 1)
        have hpt : pt (l.getD i 0) = 0 := by rw [he']; rfl
        refine ⟨(i, (putT w b v).1, n + b), ⟨(i, (putT w b v).1, n + b), ⟨0, ⟨by (try dsimp only); omega, by (try dsimp only); omega, hW, by show n + b + bsum (de (some 0) (l.drop (i + 1)) (pts (l.drop (i + 1)))) = _; omega⟩, rfl, by (try dsimp only); first | (rw [wr (by omega) (by omega)]; done) | (rw [wr (by omega) (by omega)]; omega) | (rw [wr (by omega) (by omega)]; simp; done) | (rw [wr (by omega) (by omega)]; simp; omega), by show IntKind.wrap IntKind.i64 (pts (l.drop i) - pt (l.getD i 0)) = pts (l.drop (i + 1)); rw [wr (by omega) (by omega)]; omega, rfl, rfl, rfl, rfl⟩, ?_⟩, ?_⟩
        · rintro z ⟨z1, z2, hW3, hS3⟩
          dsimp only at z1 z2 hW3 hS3
          have wj : IntKind.wrap IntKind.i64 (((i + 1 : Nat) : Int) + (z : Int)) = ((i + 1 + z : Nat) : Int) := by rw [wr (by omega) (by omega)]; simp
          simp only [wi, wj, toNat_cast]
          refine ⟨fun hlt2 => ⟨by omega, by omega, fun h0 => ?_, fun h0 => ?_⟩, fun hge2 => ?_⟩
          · have h0' : l.getD (i + 1 + z) 0 = 0 := by simpa using h0
            have j3 : i + 1 + z < l.length := by omega
            rw [de_zero j3 h0', pts_zero j3 h0'] at hW3 hS3
            have hz3 := pts_zero j3 h0'
            exact ⟨z + 1, ⟨by (try dsimp only); omega, z2, hW3, hS3⟩, by show l.length - (z + 1) < l.length - z; omega, by (try dsimp only); first | (rw [wr (by omega) (by omega)]; done) | (rw [wr (by omega) (by omega)]; omega) | (rw [wr (by omega) (by omega)]; simp; done) | (rw [wr (by omega) (by omega)]; simp; omega), hz3⟩
          · have h0' : l.getD (i + 1 + z) 0 ≠ 0 := by simpa using h0
            rw [de_end (.inr h0')] at hW3 hS3
            exact ⟨z, ⟨z1, z2, hW3, hS3⟩, by ((repeat' (refine And.intro ?_ ?_)) <;> first | rfl | exact True.intro | omega | (rw [wr (by omega) (by omega)]; done) | (rw [wr (by omega) (by omega)]; first | rfl | omega | (simp; done)))⟩
          · rw [de_end (.inl (by omega))] at hW3 hS3
            exact ⟨z, ⟨z1, z2, hW3, hS3⟩, by ((repeat' (refine And.intro ?_ ?_)) <;> first | rfl | exact True.intro | omega | (rw [wr (by omega) (by omega)]; done) | (rw [wr (by omega) (by omega)]; first | rfl | omega | (simp; done)))⟩
        · rintro z ⟨z1, z2, hW3, hS3⟩
          dsimp only at z1 z2 hW3 hS3
          have e1 : i + z + 1 = i + 1 + z := by omega
          refine ⟨i + z, ⟨(z, true, (putT w b v).1, n + b), ⟨z1, by (try dsimp only); omega, z2, ?_, ?_⟩, ?_⟩, ?_⟩
          · rw [e1]; exact hW3
          · rw [e1]; exact hS3
          · rw [e1]
            ((repeat' (refine And.intro ?_ ?_)) <;> first | rfl | exact True.intro | omega | (rw [wr (by omega) (by omega)]; done) | (rw [wr (by omega) (by omega)]; first | rfl | omega | (simp; done)))
          rintro ⟨y, again, w4, m⟩ ⟨y1, y2, y3, hW4, hS4⟩
          dsimp only at y1 y2 y3 hW4 hS4
          have hb4 := V.drop none (i + z + 1)
          refine ⟨fun ha => ?_, fun ha => ?_⟩
          · dsimp only at ha
            subst ha
            simp only [cond_true] at hW4 hS4
            by_cases h3 : 3 ≤ y
            · have hm : min (y : Int) 3 = 3 := by omega
              rw [zerosP_ge h3, List.cons_append, putAll_cons] at hW4
              rw [zerosP_ge h3, List.cons_append, bsum, bsum_app, bsum_zeros] at hS4
              simp only [hm]
              refine ⟨(y - 3, true, (putT w4 2 3).1, m + 2), ⟨y1, by (try dsimp only); omega, by (try dsimp only); omega, hW4, ?_⟩, by show y - 3 + 1 < y + 1; omega, by ((repeat' (refine And.intro ?_ ?_)) <;> first | rfl | exact True.intro | omega | (rw [wr (by omega) (by omega)]; done) | (rw [wr (by omega) (by omega)]; first | rfl | omega | (simp; done)))⟩
              show m + 2 + bsum (zerosP (y - 3) ++ _) = _
              rw [bsum_app, bsum_zeros]
              dsimp only at hS4
              omega
            · have hm : min (y : Int) 3 = y := by omega
              rw [zerosP_lt (by omega), List.singleton_append, putAll_cons] at hW4
              rw [zerosP_lt (by omega), List.singleton_append, bsum] at hS4
              dsimp only at hS4
              have hb3 : ((y : Int) == 3) = false := by simp; omega
              simp only [hm, hb3]
              refine ⟨(0, false, (putT w4 2 y).1, m + 2), ⟨y1, by (try dsimp only); omega, by (try dsimp only); omega, hW4, ?_⟩, by show 0 < y + 1; omega, by ((repeat' (refine And.intro ?_ ?_)) <;> first | rfl | exact True.intro | omega | (rw [wr (by omega) (by omega)]; done) | (rw [wr (by omega) (by omega)]; first | rfl | omega | (simp; done)))⟩
              show m + 2 + bsum (de none (l.drop (i + z + 1)) (pts (l.drop (i + z + 1)))) = _
              omega
          · dsimp only at ha
            subst ha
            exact ⟨(i + z + 1, w4, m), ⟨by (try dsimp only); omega, y3, hW4, hS4⟩, by show l.length - (i + z + 1) < l.length - i; omega, by ((repeat' (refine And.intro ?_ ?_)) <;> first | rfl | exact True.intro | omega | (rw [wr (by omega) (by omega)]; done) | (rw [wr (by omega) (by omega)]; first | rfl | omega | (simp; done)))⟩
  · have e : l.drop i = [] := List.drop_eq_nil_of_le (by simp only at hge; omega)
    rw [e] at hW hS
    have hW' : w = wrT g l := hW
    have hS' : n + 0 = Proofs.Ytafabheehkmfhaa.wrN g l := hS
    rw [hW']
    exact ⟨rfl, rfl, rfl, by (try dsimp only); omega⟩
end Go.Proofs.Ytafabheehkmfhaa
/-
  Chapter 8: what is written has as many bits as are told; Write and Bits by contract. Conditions: each theorem's own.
-/
namespace Go.Proofs.Ytafabheehkmfhaa
open Go Go.RowKit
set_option linter.unusedVariables false
set_option linter.unusedSimpArgs false
set_option maxRecDepth 100000
/-- a writer with so many bits, and the number that they are -/
def wOf (L W : Nat) : W3 := (wS L W, ((wP L W : Nat) : Int), ((L % 8 : Nat) : Int))
theorem wOf_zero : zW = wOf 0 0 := rfl
def okKV (kv : Int × Int) : Prop := 0 ≤ kv.1 ∧ kv.1 ≤ 32 ∧ 0 ≤ kv.2 ∧ kv.2 < 2 ^ kv.1.toNat
theorem wOf_len (L W : Nat) : 8 * (wOf L W).1.size + (wOf L W).2.2.toNat = L := by
  unfold wOf
  simp only [wS_size, Int.toNat_natCast]
  omega
theorem wOf_num {L W : Nat} (h : W < 2 ^ L) : leN (wOf L W).1.data.toList + (wOf L W).2.1.toNat * 2 ^ (8 * (wOf L W).1.size) = W := by
  unfold wOf
  simp only [wS_size, Int.toNat_natCast]
  rw [wP_eq L W h]
  unfold wS
  simp only []
  rw [leN_toLE, pow256]
  have := Nat.div_add_mod W (2 ^ (8 * (L / 8)))
  rw [Nat.mul_comm] at this
  omega
theorem wOf_is {L W : Nat} (h : W < 2 ^ L) (hL : L ≤ 8388608) : IsW (wOf L W).1 (wOf L W).2.1 (wOf L W).2.2 L W := ⟨rfl, rfl, rfl, h, by omega⟩
theorem put_next_lt {L W k v : Nat} (hW : W < 2 ^ L) (hv : v < 2 ^ k) : W + v * 2 ^ L < 2 ^ (L + k) := by
  have := put_lt L W v k hW
  rwa [Nat.mod_eq_of_lt hv] at this
theorem put_ok {L W : Nat} {kv : Int × Int} (hW : W < 2 ^ L) (hL : L + 32 ≤ 8388600) (h : okKV kv) : putT (wOf L W) kv.1 kv.2 = (wOf (L + kv.1.toNat) (W + kv.2.toNat * 2 ^ L), 0) ∧ W + kv.2.toNat * 2 ^ L < 2 ^ (L + kv.1.toNat) := by
  obtain ⟨k, v⟩ := kv
  obtain ⟨h1, h2, h3, h4⟩ := h
  simp only at h1 h2 h3 h4 ⊢
  have hv : v.toNat < 2 ^ k.toNat := by
    rw [pow_cast] at h4
    omega
  refine ⟨?_, put_next_lt hW hv⟩
  unfold putT
  rw [if_pos (wOf_is hW (by omega)).chk, if_pos ⟨h1, h2, h3, h4⟩, wOf_len, wOf_num hW, if_neg (by omega)]
  rfl
def accKV (s : Nat × Nat) (l : List (Int × Int)) : Nat × Nat := l.foldl (fun s kv => (s.1 + kv.1.toNat, s.2 + kv.2.toNat * 2 ^ s.1)) s
theorem putAll_ok (l : List (Int × Int)) : ∀ (L W : Nat), W < 2 ^ L → (∀ kv ∈ l, okKV kv) → L + 32 * l.length ≤ 8388000 → putAll (wOf L W) l = wOf (accKV (L, W) l).1 (accKV (L, W) l).2 ∧ (accKV (L, W) l).2 < 2 ^ (accKV (L, W) l).1 ∧ ((accKV (L, W) l).1 : Int) = L + bsum l := by
  induction l with
  | nil => intro L W h _ _; exact ⟨rfl, h, by simp [accKV, bsum]⟩
  | cons kv r ih =>
    intro L W h hl hb
    simp only [List.length_cons] at hb
    have hkv := hl kv (by simp)
    obtain ⟨h1, h2⟩ := put_ok h (by omega) hkv
    have hk := hkv.1
    have hk2 := hkv.2.1
    obtain ⟨h3, h4, h5⟩ := ih _ _ h2 (fun x hx => hl x (by simp [hx])) (by omega)
    rw [putAll_cons, h1]
    refine ⟨h3, h4, ?_⟩
    have e : accKV (L, W) (kv :: r) = accKV (L + kv.1.toNat, W + kv.2.toNat * 2 ^ L) r := rfl
    rw [e, h5, bsum]
    omega
theorem valP_ok {left p : Int} (h : ShB left) (h1 : -1 ≤ p) (h2 : p ≤ left) : okKV (valP left p) := by
  have b1 := h.b1
  have b2 := h.b2
  have lo := h.lo
  have hi := h.hi
  have db := h.dbl
  have e := shT_eq left
  unfold valP okKV
  cases c : decide (p + 1 < shT left)
  · simp only [decide_eq_false_iff_not] at c
    cases c2 : decide (p + 1 < 2 ^ (shB left - 1).toNat)
    · simp only [cond_false]; omega
    · simp only [decide_eq_true_eq] at c2
      simp only [cond_false, cond_true]; omega
  · simp only [decide_eq_true_eq] at c
    simp only [cond_true]; omega
theorem zeros_ok (z : Nat) : ∀ kv ∈ zerosP z, okKV kv := by
  intro kv h
  unfold zerosP at h
  simp only [List.mem_append, List.mem_replicate, List.mem_singleton] at h
  rcases h with ⟨_, rfl⟩ | rfl
  · refine ⟨by decide, by decide, by decide, by decide⟩
  · refine ⟨by (try dsimp only); omega, by (try dsimp only); omega, by (try dsimp only); omega, ?_⟩
    show ((z % 3 : Nat) : Int) < 2 ^ 2
    omega
theorem zeros_len (z : Nat) : (zerosP z).length = z / 3 + 1 := by simp [zerosP]
theorem de_ok (l : List Int) : ∀ o : Option Nat, (∀ x ∈ l, -1 ≤ x) → pts l ≤ 4096 → (∀ kv ∈ de o l (pts l), okKV kv) ∧ (de o l (pts l)).length ≤ (match o with | none => 0 | some z => z + 1) + 3 * l.length := by
  induction l with
  | nil =>
    intro o _ _
    cases o with
    | none => exact ⟨fun kv h => by simp [de] at h, by simp [de]⟩
    | some z => exact ⟨fun kv h => zeros_ok z kv h, by simp only [de, zeros_len, List.length_nil]; omega⟩
  | cons p r ih =>
    intro o hl hp
    have hs : ShB (pts (p :: r)) := shB_ok (pts_nonneg _) hp
    have hc := pts_cons p r
    have hp1 := hl p (by simp)
    have hpn := (pt_ge p hp1).1
    have hp0 := pt_nonneg p
    have hr := pts_nonneg r
    have hv := valP_ok (p := p) hs hp1 (by omega)
    have hl' : ∀ x ∈ r, -1 ≤ x := fun x hx => hl x (by simp [hx])
    cases hz : (p == 0)
    · have e : pts (p :: r) - pt p = pts r := by omega
      obtain ⟨i1, i2⟩ := ih none hl' (by omega)
      simp only at i2
      cases o with
      | none =>
        simp only [de, hz, cond_false, e, List.length_cons]
        refine ⟨fun kv h => ?_, by omega⟩
        rcases List.mem_cons.1 h with rfl | h
        · exact hv
        · exact i1 kv h
      | some z =>
        simp only [de, hz, cond_false, e, List.length_cons, List.length_append, zeros_len]
        refine ⟨fun kv h => ?_, by omega⟩
        rcases List.mem_append.1 h with h | h
        · exact zeros_ok z kv h
        · rcases List.mem_cons.1 h with rfl | h
          · exact hv
          · exact i1 kv h
    · have hpz : p = 0 := by simpa using hz
      have e : pts (p :: r) = pts r := by rw [hc, hpz]; simp [pt]
      cases o with
      | none =>
        obtain ⟨i1, i2⟩ := ih (some 0) hl' (by omega)
        simp only at i2
        simp only [de, hz, cond_true, List.length_cons]
        rw [e] at hv ⊢
        refine ⟨fun kv h => ?_, by omega⟩
        rcases List.mem_cons.1 h with rfl | h
        · exact hv
        · exact i1 kv h
      | some z =>
        obtain ⟨i1, i2⟩ := ih (some (z + 1)) hl' (by omega)
        simp only at i2
        simp only [de, hz, cond_true, List.length_cons]
        rw [e]
        exact ⟨i1, by omega⟩
/-- all that is written: the accuracy, and the values -/
def deAll (g : Int) (l : List Int) : List (Int × Int) := (4, g - 5) :: de none l (2 ^ g.toNat)
theorem wrT_all (g : Int) (l : List Int) : wrT g l = putAll (wOf 0 0) (deAll g l) := rfl
theorem wrN_all (g : Int) (l : List Int) : wrN g l = bsum (deAll g l) := rfl
theorem Valid.all_ok {g : Int} {l : List Int} (V : Valid g l) : (∀ kv ∈ deAll g l, okKV kv) ∧ (deAll g l).length ≤ 1000 := by
  have h4096 : pts l ≤ 4096 := by rw [V.sum]; exact pow12 V.g12
  obtain ⟨h1, h2⟩ := de_ok l none V.low h4096
  rw [V.sum] at h1 h2
  have g5 := V.g5
  have g12 := V.g12
  have hl := V.len2
  unfold deAll
  refine ⟨fun kv h => ?_, by simp only at h2; simp only [List.length_cons]; omega⟩
  rcases List.mem_cons.1 h with rfl | h
  · refine ⟨by (try dsimp only); omega, by (try dsimp only); omega, by (try dsimp only); omega, ?_⟩
    show g - 5 < 2 ^ 4
    omega
  · exact h1 kv h
def accD (g : Int) (l : List Int) : Nat × Nat := accKV (0, 0) (deAll g l)
theorem Valid.form {g : Int} {l : List Int} (V : Valid g l) : wrT g l = wOf (accD g l).1 (accD g l).2 ∧ (accD g l).2 < 2 ^ (accD g l).1 ∧ ((accD g l).1 : Int) = Proofs.Ytafabheehkmfhaa.wrN g l := by
  obtain ⟨h1, h2⟩ := V.all_ok
  have := putAll_ok (deAll g l) 0 0 (by decide) h1 (by omega)
  rw [wrT_all, wrN_all]
  refine ⟨this.1, this.2.1, ?_⟩
  have h3 := this.2.2
  unfold accD
  omega
theorem write_v (g : Int) (l : List Int) (h : l.length ≤ 4294967296) : write_t g l := by
  unfold write_t
  refine ⟨h, fun e => ?_, fun e => ?_⟩
  · have hb : (dchk g l == 0) = false := by simpa [bne] using e
    unfold writeF; rw [hb]; exact ⟨rfl, rfl⟩
  · have hb : (dchk g l == 0) = true := by simpa [bne] using e
    unfold writeF; rw [hb]; exact ⟨by simpa using hb, rfl, rfl⟩
theorem rwrite_v (g : Int) (l : List Int) (h : l.length ≤ 4294967296) : rwrite_t g l := write_v g l h
theorem bitsD_v (g : Int) (l : List Int) (h : l.length ≤ 4294967296) : bitsD_t g l := by
  unfold bitsD_t
  refine ⟨h, fun e => ?_, fun e => ?_⟩
  · have hb : (dchk g l == 0) = false := by simpa [bne] using e
    unfold bitsF; rw [hb]; exact ⟨rfl, rfl⟩
  · have hb : (dchk g l == 0) = true := by simpa [bne] using e
    have h0 : dchk g l = 0 := by simpa using hb
    unfold bitsF; rw [hb]
    have V := Valid.of h0
    obtain ⟨h1, h2, h3⟩ := V.form
    have hN := V.wrN
    have hlen := wOf_len (accD g l).1 (accD g l).2
    rw [← h1] at hlen
    have hn : 0 ≤ (wrT g l).2.2 := by rw [h1]; unfold wOf; simp only; omega
    refine ⟨h0, ?_, h0.symm⟩
    rw [wr (n := 8 * _) (by omega) (by omega), wr (by omega) (by omega)]
    show _ = Proofs.Ytafabheehkmfhaa.wrN g l
    omega
theorem rbitsD_v (g : Int) (l : List Int) (h : l.length ≤ 4294967296) : rbitsD_t g l := by
  unfold rbitsD_t
  refine ⟨h, fun e => ?_, fun e => ?_⟩
  · have hb : (dchk g l == 0) = false := by simpa [bne] using e
    unfold bitsF; rw [hb]; exact ⟨rfl, rfl⟩
  · have hb : (dchk g l == 0) = true := by simpa [bne] using e
    have h0 : dchk g l = 0 := by simpa using hb
    unfold bitsF; rw [hb]
    exact ⟨h0, rfl, h0.symm⟩
/-! ### tables -/
theorem put1_sound : Sound Try.prog 83 sPut1.ctr := sPut1.sound (by kernel_rfl) sPut1_enc fun ⟨k, v, s, p, m⟩ hc => by
  exact satG G8c_ok mixed Try.func83 (put1_e k v s p m) (⟨rfl, rfl, rfl⟩)
theorem G8d_ok : AllOk Try.prog G8d := .cons put1_sound G8c_ok
theorem written_sound : Sound Try.prog 71 sWritten.ctr := sWritten.sound (by kernel_rfl) sWritten_enc fun ⟨g, l⟩ hc => by
  have h0 := hc _ (.head _)
  exact satG G8d_ok mixed Try.func71 (written_e g l) (written_v g l h0)
theorem rwritten_sound : Sound Try.prog 72 sRwritten.ctr := sRwritten.sound (by kernel_rfl) sRwritten_enc fun ⟨g, l⟩ hc => by
  have h0 := hc _ (.head _)
  exact satG G8d_ok mixed Try.func72 (rwritten_e g l) (rwritten_v g l h0)
theorem G8e_ok : AllOk Try.prog G8e := .cons written_sound <| .cons rwritten_sound G8d_ok
theorem write_sound : Sound Try.prog 47 sWrite.ctr := sWrite.sound (by kernel_rfl) sWrite_enc fun ⟨g, l⟩ hc => by
  have h0 := hc _ (.head _)
  exact satG G8e_ok mixed Try.func47 (write_e g l) (write_v g l h0)
theorem rwrite_sound : Sound Try.prog 48 sWrite.ctr := sWrite.sound (by kernel_rfl) sWrite_enc fun ⟨g, l⟩ hc => by
  have h0 := hc _ (.head _)
  exact satG G8e_ok mixed Try.func48 (rwrite_e g l) (rwrite_v g l h0)
theorem bitsD_sound : Sound Try.prog 49 sBitsD.ctr := sBitsD.sound (by kernel_rfl) sBitsD_enc fun ⟨g, l⟩ hc => by
  have h0 := hc _ (.head _)
  exact satG G8e_ok mixed Try.func49 (bitsD_e g l) (bitsD_v g l h0)
theorem rbitsD_sound : Sound Try.prog 50 sBitsD.ctr := sBitsD.sound (by kernel_rfl) sBitsD_enc fun ⟨g, l⟩ hc => by
  have h0 := hc _ (.head _)
  exact satG G8e_ok mixed Try.func50 (rbitsD_e g l) (rbitsD_v g l h0)
theorem G8f_ok : AllOk Try.prog G8f := .cons write_sound <| .cons rwrite_sound <| .cons bitsD_sound <| .cons rbitsD_sound G8e_ok
end Go.Proofs.Ytafabheehkmfhaa
/-
  Chapter 8: reading a description. Conditions: each theorem's own.
-/
namespace Go.Proofs.Ytafabheehkmfhaa
open Go Go.RowKit
set_option linter.unusedVariables false
set_option linter.unusedSimpArgs false
set_option maxRecDepth 100000
structure TkOk (r : R2) (n : Int) : Prop where
  rd : (takeT r n).1 = (r.1, r.2 + n)
  vl : (takeT r n).2.1 = ((peekN r.1 r.2.toNat n.toNat : Nat) : Int)
  n0 : 0 ≤ n
  n1 : n ≤ 32
  b0 : 0 ≤ r.2
  b1 : r.2 + n ≤ 8 * (r.1.size : Int)
  sz : r.1.size ≤ 1048576
  v0 : 0 ≤ (takeT r n).2.1
  v1 : (takeT r n).2.1 < 2 ^ n.toNat
theorem tk_ok {r : R2} {n : Int} (h : (takeT r n).2.2 = 0) : TkOk r n := by
  unfold takeT at h
  split at h
  · rename_i he
    have hT : takeT r n = ((r.1, r.2 + n), ((peekN r.1 r.2.toNat n.toNat : Nat) : Int), 0) := by unfold takeT; rw [if_pos he]
    have he' := he
    unfold takeE at he'
    have ha : askE r.1 r.2 n = 0 := by
      split at he'
      · omega
      · exact he'
    have hb : ¬ 8 * (r.1.size : Int) < r.2 + n := fun hc => by
      rw [if_pos ⟨ha, hc⟩] at he'
      omega
    have hr : rchk r.1 r.2 = 0 := by
      unfold askE at ha
      split at ha
      · assumption
      · exact ha
    have hn : ¬ (n < 0 ∨ 32 < n) := fun hc => by
      unfold askE at ha
      rw [if_pos hr, if_pos hc] at ha
      omega
    obtain ⟨q1, q2, q3⟩ := rchk_zero hr
    have hp := peekN_lt r.1 r.2.toNat n.toNat
    refine ⟨by rw [hT], by rw [hT], by omega, by omega, q2, by omega, q1, by rw [hT]; simp, ?_⟩
    rw [hT, pow_cast]
    simp only
    omega
  · rename_i he
    exact absurd h he
theorem tk_err (r : R2) (n : Int) : (takeT r n).2.2 = 0 ∨ (takeT r n).2.2 = 2 ∨ (takeT r n).2.2 = 4 ∨ (takeT r n).2.2 = 5 := by
  unfold takeT takeE askE rchk
  repeat' split
  all_goals first | (left; rfl) | (simp; done) | omega
theorem val_1 {r : R2} {left : Int} (h : (takeT r (shB left - 1)).2.2 ≠ 0) : valR r left = (r, 0, (takeT r (shB left - 1)).2.2) := by
  have hb : ((takeT r (shB left - 1)).2.2 == 0) = false := by simpa using h
  unfold valR; rw [hb]; rfl
theorem val_2 {r : R2} {left : Int} (h : (takeT r (shB left - 1)).2.2 = 0) (h2 : (takeT r (shB left - 1)).2.1 < shT left) : valR r left = ((takeT r (shB left - 1)).1, (takeT r (shB left - 1)).2.1, 0) := by
  have hb : ((takeT r (shB left - 1)).2.2 == 0) = true := by simpa using h
  unfold valR; rw [hb, decide_eq_true h2]
  simp only [cond_true]
  rw [← h]
theorem val_3 {r : R2} {left : Int} (h : (takeT r (shB left - 1)).2.2 = 0) (h2 : ¬ (takeT r (shB left - 1)).2.1 < shT left) (h3 : (takeT (takeT r (shB left - 1)).1 1).2.2 ≠ 0) : valR r left = (r, 0, (takeT (takeT r (shB left - 1)).1 1).2.2) := by
  have hb : ((takeT r (shB left - 1)).2.2 == 0) = true := by simpa using h
  have hb3 : ((takeT (takeT r (shB left - 1)).1 1).2.2 == 0) = false := by simpa using h3
  unfold valR; rw [hb, decide_eq_false h2, hb3]; rfl
theorem val_4 {r : R2} {left : Int} (h : (takeT r (shB left - 1)).2.2 = 0) (h2 : ¬ (takeT r (shB left - 1)).2.1 < shT left) (h3 : (takeT (takeT r (shB left - 1)).1 1).2.2 = 0) : valR r left = ((takeT (takeT r (shB left - 1)).1 1).1, fixV left ((takeT r (shB left - 1)).2.1 + (takeT (takeT r (shB left - 1)).1 1).2.1 * 2 ^ (shB left - 1).toNat), 0) := by
  have hb : ((takeT r (shB left - 1)).2.2 == 0) = true := by simpa using h
  have hb3 : ((takeT (takeT r (shB left - 1)).1 1).2.2 == 0) = true := by simpa using h3
  unfold valR; rw [hb, decide_eq_false h2, hb3]; rfl
/-- a value that was read -/
structure VlOk (r : R2) (left : Int) (r' : R2) (v : Int) : Prop where
  v0 : 0 ≤ v
  v1 : v ≤ left + 1
  st : r'.1 = r.1
  b0 : 0 ≤ r'.2
  b1 : r'.2 ≤ 8 * (r.1.size : Int)
  bs : r'.2 ≤ r.2 + 13
  bl : r.2 ≤ r'.2
  sz : r.1.size ≤ 1048576
theorem vl_ok {r r' : R2} {left v : Int} (h0 : 0 ≤ left) (h1 : left ≤ 4096) (h : valR r left = (r', v, 0)) : VlOk r left r' v := by
  have S := shB_ok h0 h1
  have s1 := S.b1
  have s2 := S.b2
  have lo := S.lo
  have hi := S.hi
  have db := S.dbl
  have et := shT_eq left
  by_cases e1 : (takeT r (shB left - 1)).2.2 = 0
  · have T1 := tk_ok e1
    have v10 := T1.v0
    have v11 := T1.v1
    have b0 := T1.b0
    have b1 := T1.b1
    by_cases c : (takeT r (shB left - 1)).2.1 < shT left
    · rw [val_2 e1 c] at h
      simp only [Prod.mk.injEq, and_true] at h
      obtain ⟨rfl, rfl⟩ := h
      rw [T1.rd]
      exact ⟨v10, by omega, rfl, by dsimp only; omega, by dsimp only; omega, by dsimp only; omega, by dsimp only; omega, T1.sz⟩
    · by_cases e2 : (takeT (takeT r (shB left - 1)).1 1).2.2 = 0
      · rw [val_4 e1 c e2] at h
        have T2 := tk_ok e2
        have v20 := T2.v0
        have v21 := T2.v1
        have c0 := T2.b0
        have c1 := T2.b1
        have r2 := T2.rd
        rw [T1.rd] at r2 c0 c1 v20 v21 h
        dsimp only at c0 c1
        rw [r2] at h
        simp only [Prod.mk.injEq, and_true] at h
        obtain ⟨h2, h3⟩ := h
        have hx : (takeT (r.1, r.2 + (shB left - 1)) 1).2.1 = 0 ∨ (takeT (r.1, r.2 + (shB left - 1)) 1).2.1 = 1 := by
          have : (2 : Int) ^ (1 : Int).toNat = 2 := rfl
          omega
        rw [← h2]
        have hv : 0 ≤ v ∧ v ≤ left + 1 := by
          rw [← h3]
          unfold fixV
          rcases hx with hx | hx
          · rw [hx, Int.zero_mul, Int.add_zero]
            rw [decide_eq_false (by omega)]
            simp only [cond_false]
            omega
          · rw [hx, Int.one_mul]
            rw [decide_eq_true (by omega)]
            simp only [cond_true]
            omega
        exact ⟨hv.1, hv.2, rfl, by dsimp only; omega, by dsimp only; omega, by dsimp only; omega, by dsimp only; omega, T1.sz⟩
      · rw [val_3 e1 c e2] at h
        simp only [Prod.mk.injEq] at h
        exact absurd h.2.2 e2
  · rw [val_1 e1] at h
    simp only [Prod.mk.injEq] at h
    exact absurd h.2.2 e1
/-! ### steps -/
theorem rd_end {y : Int} {f : Nat} {r : R2} {left : Int} {out : List Int} (h : ¬ 0 < left) : rdR y (f + 1) r left out = (r, out, 0) := by
  unfold rdR; rw [decide_eq_false h]; rfl
theorem rd_err {y : Int} {f : Nat} {r : R2} {left : Int} {out : List Int} (h : 0 < left) (e : (valR r left).2.2 ≠ 0) : rdR y (f + 1) r left out = (r, out, (valR r left).2.2) := by
  have hb : ((valR r left).2.2 == 0) = false := by simpa using e
  unfold rdR; rw [decide_eq_true h, hb]; rfl
theorem rd_full {y : Int} {f : Nat} {r r' : R2} {left v : Int} {out : List Int} (h : 0 < left) (e : valR r left = (r', v, 0)) (hl : ((out.length : Int) == y) = true) : rdR y (f + 1) r left out = (r, out, 23) := by
  unfold rdR; rw [decide_eq_true h, e, hl]; rfl
theorem rd_step {y : Int} {f : Nat} {r r' : R2} {left v : Int} {out : List Int} (h : 0 < left) (e : valR r left = (r', v, 0)) (hl : ((out.length : Int) == y) = false) (hv : v ≠ 1) : rdR y (f + 1) r left out = rdR y f r' (left - max (v - 1) 1) (out ++ [v - 1]) := by
  have hb : (v == 1) = false := by simpa using hv
  conv => lhs; unfold rdR
  rw [decide_eq_true h, e, hl]
  simp only [cond_true, cond_false, hb, beq_self_eq_true]
theorem rd_zero {y : Int} {f : Nat} {r r' : R2} {left : Int} {out : List Int} (h : 0 < left) (e : valR r left = (r', 1, 0)) (hl : ((out.length : Int) == y) = false) : rdR y (f + 1) r left out = contZ y f left (flR y (y.toNat + 1) r' (out ++ [1 - 1])) := by
  conv => lhs; unfold rdR
  rw [decide_eq_true h, e, hl]
  simp only [cond_true, cond_false, beq_self_eq_true]
  rfl
theorem fl_err {y : Int} {f : Nat} {r : R2} {out : List Int} (e : (takeT r 2).2.2 ≠ 0) : flR y (f + 1) r out = (r, out, (takeT r 2).2.2) := by
  have hb : ((takeT r 2).2.2 == 0) = false := by simpa using e
  unfold flR; rw [hb]; rfl
theorem fl_full {y : Int} {f : Nat} {r : R2} {out : List Int} (e : (takeT r 2).2.2 = 0) (h : y < out.length + (takeT r 2).2.1) : flR y (f + 1) r out = (r, out, 23) := by
  have hb : ((takeT r 2).2.2 == 0) = true := by simpa using e
  unfold flR; rw [hb, decide_eq_true h]; rfl
theorem fl_step {y : Int} {f : Nat} {r : R2} {out : List Int} (e : (takeT r 2).2.2 = 0) (h : ¬ y < out.length + (takeT r 2).2.1) : flR y (f + 1) r out = cond ((takeT r 2).2.1 == 3) (flR y f (takeT r 2).1 (out ++ List.replicate (takeT r 2).2.1.toNat 0)) ((takeT r 2).1, out ++ List.replicate (takeT r 2).2.1.toNat 0, 0) := by
  have hb : ((takeT r 2).2.2 == 0) = true := by simpa using e
  conv => lhs; unfold flR
  rw [hb, decide_eq_false h]
  rfl
theorem contZ_ok {y : Int} {f : Nat} {left : Int} {z : R2 × List Int × Int} (h : z.2.2 = 0) : contZ y f left z = rdR y f z.1 left z.2.1 := by
  have hb : (z.2.2 == 0) = true := by simpa using h
  unfold contZ; rw [hb]; rfl
theorem contZ_err {y : Int} {f : Nat} {left : Int} {z : R2 × List Int × Int} (h : z.2.2 ≠ 0) : contZ y f left z = z := by
  have hb : (z.2.2 == 0) = false := by simpa using h
  unfold contZ; rw [hb]; rfl
theorem dtake_v (n : Int) (s : ByteArray) (b : Int) (h : s.size ≤ 9223372036854775807) : dtake_t n s b := by
  unfold dtake_t
  refine ⟨h, fun e => ?_, fun e => ?_⟩
  · have e' : (takeT (s, b) n).2.2 ≠ 0 := by simpa using e
    exact ⟨fun h => absurd h e', fun _ => ⟨rfl, rfl, rfl, rfl⟩⟩
  · have e' : (takeT (s, b) n).2.2 = 0 := by simpa using e
    exact ⟨fun h => ⟨rfl, rfl, rfl, rfl⟩, fun h => absurd e' h⟩
theorem rtake_v (n : Int) (s : ByteArray) (b : Int) (h : s.size ≤ 9223372036854775807) : rtake8_t n s b := by
  unfold rtake8_t
  refine ⟨h, fun e => ?_, fun e => ?_⟩
  · have e' : (takeT (s, b) n).2.2 ≠ 0 := by simpa using e
    exact ⟨fun h => absurd h e', fun _ => ⟨rfl, rfl, rfl, rfl⟩⟩
  · have e' : (takeT (s, b) n).2.2 = 0 := by simpa using e
    exact ⟨fun h => ⟨rfl, rfl, rfl, rfl⟩, fun h => absurd e' h⟩
end Go.Proofs.Ytafabheehkmfhaa
/-
  Chapter 8: dist.read, and the reference's values. Conditions: each theorem's own.
-/
namespace Go.Proofs.Ytafabheehkmfhaa
open Go Go.RowKit
set_option linter.unusedVariables false
set_option linter.unusedSimpArgs false
set_option maxRecDepth 100000
theorem rdA_err {r : R2} {m y : Int} (h : (takeT r 4).2.2 ≠ 0) : rdA r m y = (r, [], (takeT r 4).2.2) := by
  have hb : ((takeT r 4).2.2 == 0) = false := by simpa using h
  unfold rdA; rw [hb]; rfl
theorem rdA_acc {r : R2} {m y : Int} (h : (takeT r 4).2.2 = 0) (h2 : m < logR r) : rdA r m y = (r, [], 31) := by
  have hb : ((takeT r 4).2.2 == 0) = true := by simpa using h
  unfold rdA; rw [hb, decide_eq_true h2]; rfl
theorem rdA_go {r : R2} {m y : Int} (h : (takeT r 4).2.2 = 0) (h2 : ¬ m < logR r) : rdA r m y = rdR y (y.toNat + 1) (takeT r 4).1 (2 ^ (logR r).toNat) [] := by
  have hb : ((takeT r 4).2.2 == 0) = true := by simpa using h
  unfold rdA; rw [hb, decide_eq_false h2]; rfl
theorem logR_in {r : R2} (h : (takeT r 4).2.2 = 0) : 5 ≤ logR r ∧ logR r ≤ 20 := by
  have T := tk_ok h
  have h0 := T.v0
  have h1 := T.v1
  have e : (2 : Int) ^ (4 : Int).toNat = 16 := rfl
  unfold logR
  omega
theorem dread_v (m y : Int) (s : ByteArray) (b : Int) (hm : m ≤ 12) (hy1 : 1 ≤ y) (hy2 : y ≤ 256) (hs : s.size ≤ 9223372036854775807) : dread_t m y s b := by
  unfold dread_t
  refine ⟨fun h0 => ⟨hs, ?_⟩, fun h0 => ⟨hs, by rw [rdA_err h0]; exact ⟨fun h => absurd h h0, fun _ => by ((repeat' (refine And.intro ?_ ?_)) <;> first | rfl | exact True.intro | omega | (rw [wr (by omega) (by omega)]; done) | (rw [wr (by omega) (by omega)]; first | rfl | omega | (simp; done)))⟩⟩⟩
  have hl := logR_in h0
  have hlw : IntKind.wrap IntKind.i64 ((takeT (s, b) 4).2.1 + 5) = logR (s, b) := wr (n := logR (s, b)) (by omega) (by omega)
  have T := tk_ok h0
  simp only [hlw, gt_iff_lt, decide_eq_true_eq, decide_eq_false_iff_not]
  refine ⟨fun hc => by rw [rdA_acc h0 hc]; exact ⟨fun h => absurd h (by show ¬ (31 : Int) = 0; decide), fun _ => by ((repeat' (refine And.intro ?_ ?_)) <;> first | rfl | exact True.intro | omega | (rw [wr (by omega) (by omega)]; done) | (rw [wr (by omega) (by omega)]; first | rfl | omega | (simp; done)))⟩, fun hc => ?_⟩
  have hA := rdA_go (y := y) h0 hc
  have hle : logR (s, b) ≤ 12 := by omega
  simp only [shl1 (show 0 ≤ logR (s, b) by omega) (show logR (s, b) ≤ 62 by omega)]
  have p12 := pow12 hle
  have p0 := pow_pos' (logR (s, b)).toNat
  generalize hfin : rdA (s, b) m y = fin at hA
  refine ⟨by omega, ⟨(y.toNat + 1, (takeT (s, b) 4).1, 2 ^ (logR (s, b)).toNat, []), ⟨hA.symm, by simp; omega, by simp; omega, by dsimp only; omega, p12, by dsimp only; rw [T.rd]; exact hs⟩, by ((repeat' (refine And.intro ?_ ?_)) <;> first | rfl | exact True.intro | omega | (rw [wr (by omega) (by omega)]; done) | (rw [wr (by omega) (by omega)]; first | rfl | omega | (simp; done)))⟩, ?_⟩
  rintro ⟨f, ⟨s1, b1⟩, left, out⟩ ⟨hR, hf, ho, hl0, hl1, hs1⟩
  dsimp only at hR hf ho hl0 hl1 hs1 ⊢
  refine ⟨fun hlt => ?_, fun hge => ?_⟩
  · obtain ⟨f, rfl⟩ : ∃ f', f = f' + 1 := ⟨f - 1, by omega⟩
    have S := shB_ok hl0 hl1
    have q1 := S.b1
    have q2 := S.b2
    have wB : IntKind.wrap IntKind.i64 (shB left - 1) = shB left - 1 := wr (by omega) (by omega)
    simp only [wB, shl1 (show 0 ≤ shB left - 1 by omega) (show shB left - 1 ≤ 62 by omega), mk_eta]
    refine ⟨by omega, by omega, fun e1 => ⟨hs1, (f + 1, (s1, b1), left, out), ⟨fun c1 => ⟨fun e2 => ?_, fun e2 => ?_⟩, fun c1 => ?_⟩, ?_⟩, fun e1 => ⟨hs1, ?_⟩⟩
    · have T1 := tk_ok e1
      have T2 : TkOk (takeT (s1, b1) (shB left - 1)).1 1 := tk_ok e2
      have a0 := T1.v0
      have a1 := T1.v1
      have c0 := T2.v0
      have c2 := T2.v1
      have db := S.dbl
      have lo := S.lo
      have hi := S.hi
      have et := shT_eq left
      have m12 := pow_mono (show (shB left - 1).toNat ≤ 12 by omega)
      have pp := pow_pos' (shB left - 1).toNat
      have hx : (takeT (takeT (s1, b1) (shB left - 1)).1 1).2.1 = 0 ∨ (takeT (takeT (s1, b1) (shB left - 1)).1 1).2.1 = 1 := by
        have : (2 : Int) ^ (1 : Int).toNat = 2 := rfl
        omega
      have hprod : 0 ≤ (takeT (takeT (s1, b1) (shB left - 1)).1 1).2.1 * 2 ^ (shB left - 1).toNat ∧ (takeT (takeT (s1, b1) (shB left - 1)).1 1).2.1 * 2 ^ (shB left - 1).toNat ≤ 4096 := by
        rcases hx with hx | hx <;> rw [hx] <;> omega
      have hmin : min (shB left - 1).toNat (IntKind.bits IntKind.i64) = (shB left - 1).toNat := by rw [b64]; omega
      have hc1 : ¬ (takeT (s1, b1) (shB left - 1)).2.1 < shT left := by omega
      have hv := val_4 e1 hc1 e2
      have w1 : IntKind.wrap IntKind.i64 ((takeT (takeT (s1, b1) (shB left - 1)).1 1).2.1 * 2 ^ (shB left - 1).toNat) = (takeT (takeT (s1, b1) (shB left - 1)).1 1).2.1 * 2 ^ (shB left - 1).toNat := wr (by omega) (by omega)
      have w2 : IntKind.wrap IntKind.i64 ((takeT (s1, b1) (shB left - 1)).2.1 + (takeT (takeT (s1, b1) (shB left - 1)).1 1).2.1 * 2 ^ (shB left - 1).toNat) = (takeT (s1, b1) (shB left - 1)).2.1 + (takeT (takeT (s1, b1) (shB left - 1)).1 1).2.1 * 2 ^ (shB left - 1).toNat := wr (by omega) (by omega)
      have w3 : IntKind.wrap IntKind.i64 ((takeT (s1, b1) (shB left - 1)).2.1 + (takeT (takeT (s1, b1) (shB left - 1)).1 1).2.1 * 2 ^ (shB left - 1).toNat - shT left) = (takeT (s1, b1) (shB left - 1)).2.1 + (takeT (takeT (s1, b1) (shB left - 1)).1 1).2.1 * 2 ^ (shB left - 1).toNat - shT left := wr (by omega) (by omega)
      have sz2 : (takeT (takeT (s1, b1) (shB left - 1)).1 1).1.1.size ≤ 9223372036854775807 := by rw [T2.rd, T1.rd]; exact hs1
      simp only [mk_eta, hmin, w1, w2, w3]
      refine ⟨by rw [T1.rd]; exact hs1, by omega, by omega, fun c2 => ?_, fun c2 => ?_⟩
      · have ef : fixV left ((takeT (s1, b1) (shB left - 1)).2.1 + (takeT (takeT (s1, b1) (shB left - 1)).1 1).2.1 * 2 ^ (shB left - 1).toNat) = (takeT (s1, b1) (shB left - 1)).2.1 + (takeT (takeT (s1, b1) (shB left - 1)).1 1).2.1 * 2 ^ (shB left - 1).toNat - shT left := by unfold fixV; rw [decide_eq_true (by omega)]; rfl
        rw [ef] at hv
        exact ⟨(_, _), ⟨hv, hR, hlt, hl1, sz2⟩, by ((repeat' (refine And.intro ?_ ?_)) <;> first | rfl | exact True.intro | omega | (rw [wr (by omega) (by omega)]; done) | (rw [wr (by omega) (by omega)]; first | rfl | omega | (simp; done)))⟩
      · have ef : fixV left ((takeT (s1, b1) (shB left - 1)).2.1 + (takeT (takeT (s1, b1) (shB left - 1)).1 1).2.1 * 2 ^ (shB left - 1).toNat) = (takeT (s1, b1) (shB left - 1)).2.1 + (takeT (takeT (s1, b1) (shB left - 1)).1 1).2.1 * 2 ^ (shB left - 1).toNat := by unfold fixV; rw [decide_eq_false (by omega)]; rfl
        rw [ef] at hv
        exact ⟨(_, _), ⟨hv, hR, hlt, hl1, sz2⟩, by ((repeat' (refine And.intro ?_ ?_)) <;> first | rfl | exact True.intro | omega | (rw [wr (by omega) (by omega)]; done) | (rw [wr (by omega) (by omega)]; first | rfl | omega | (simp; done)))⟩
    · have T1 := tk_ok e1
      have e2' : (takeT (takeT (s1, b1) (shB left - 1)).1 1).2.2 ≠ 0 := e2
      have hv := val_3 e1 (by omega) e2'
      refine ⟨by rw [T1.rd]; exact hs1, ?_⟩
      rw [← hR, rd_err hlt (by rw [hv]; exact e2'), hv]
      exact ⟨fun h => absurd h e2', fun _ => by ((repeat' (refine And.intro ?_ ?_)) <;> first | rfl | exact True.intro | omega | (rw [wr (by omega) (by omega)]; done) | (rw [wr (by omega) (by omega)]; first | rfl | omega | (simp; done)))⟩
    · have hc1 : (takeT (s1, b1) (shB left - 1)).2.1 < shT left := by omega
      have hv := val_2 e1 hc1
      have T1 := tk_ok e1
      exact ⟨((takeT (s1, b1) (shB left - 1)).1, (takeT (s1, b1) (shB left - 1)).2.1), ⟨hv, hR, hlt, hl1, by dsimp only; rw [T1.rd]; exact hs1⟩, by ((repeat' (refine And.intro ?_ ?_)) <;> first | rfl | exact True.intro | omega | (rw [wr (by omega) (by omega)]; done) | (rw [wr (by omega) (by omega)]; first | rfl | omega | (simp; done)))⟩
    · rintro ⟨r', v⟩ ⟨hv, _, _, _, hsz⟩
      dsimp only at hv hsz ⊢
      have VV := vl_ok hl0 hl1 hv
      have v0 := VV.v0
      have v1 := VV.v1
      have wv : IntKind.wrap IntKind.i64 (v - 1) = v - 1 := wr (by omega) (by omega)
      have wm : IntKind.wrap IntKind.i64 (left - max (v - 1) 1) = left - max (v - 1) 1 := wr (by omega) (by omega)
      simp only [wv, wm]
      refine ⟨fun hl => ?_, fun hl => ⟨by omega, fun hv1 => ?_, fun hv1 => ?_⟩⟩
      · rw [← hR, rd_full hlt hv hl]
        exact ⟨fun h => absurd h (by show ¬ (23 : Int) = 0; decide), fun _ => by ((repeat' (refine And.intro ?_ ?_)) <;> first | rfl | exact True.intro | omega | (rw [wr (by omega) (by omega)]; done) | (rw [wr (by omega) (by omega)]; first | rfl | omega | (simp; done)))⟩
      · have hv1' : v ≠ 1 := by simpa using hv1
        have hl' : (out.length : Int) ≠ y := by simpa using hl
        rw [rd_step hlt hv hl hv1'] at hR
        refine ⟨(f, r', left - max (v - 1) 1, out ++ [v - 1]), ⟨hR, ?_, ?_, by (try dsimp only); omega, by (try dsimp only); omega, hsz⟩, by show f < f + 1; omega, by ((repeat' (refine And.intro ?_ ?_)) <;> first | rfl | exact True.intro | omega | (rw [wr (by omega) (by omega)]; done) | (rw [wr (by omega) (by omega)]; first | rfl | omega | (simp; done)))⟩
        · simp only [List.length_append, List.length_singleton]; omega
        · simp only [List.length_append, List.length_singleton]; omega
      · have hv1' : v = 1 := by simpa using hv1
        have hl' : (out.length : Int) ≠ y := by simpa using hl
        subst hv1'
        rw [rd_zero hlt hv hl] at hR
        refine ⟨(f, left), ⟨(3, y.toNat + 1, r', out ++ [1 - 1]), ⟨hR, ?_, ?_, ?_, hsz⟩, by ((repeat' (refine And.intro ?_ ?_)) <;> first | rfl | exact True.intro | omega | (rw [wr (by omega) (by omega)]; done) | (rw [wr (by omega) (by omega)]; first | rfl | omega | (simp; done)))⟩, ?_⟩
        · intro _
          simp only [List.length_append, List.length_singleton]; omega
        · simp only [List.length_append, List.length_singleton]; omega
        · simp only [List.length_append, List.length_singleton]; omega
        rintro ⟨more, f2, r2, out2⟩ ⟨hZ, k1, k2, k3, k4⟩
        dsimp only at hZ k1 k2 k3 k4 ⊢
        refine ⟨fun h3 => ?_, fun h3 => ?_⟩
        · have h3' : more = 3 := by simpa using h3
          subst h3'
          obtain ⟨f2, rfl⟩ : ∃ f', f2 = f' + 1 := ⟨f2 - 1, by have := k1 rfl; omega⟩
          have hZ' : contZ y f left (flR y (f2 + 1) r2 out2) = fin := hZ
          try simp only [mk_eta]
          have k1 := k1 rfl
          refine ⟨fun e => ⟨k4, ?_⟩, fun e => ⟨k4, ?_⟩⟩
          · have T3 := tk_ok e
            have u0 := T3.v0
            have u1 := T3.v1
            have e4 : (2 : Int) ^ (2 : Int).toNat = 4 := rfl
            have wl : IntKind.wrap IntKind.i64 ((out2.length : Int) + (takeT r2 2).2.1) = (out2.length : Int) + (takeT r2 2).2.1 := wr (by omega) (by omega)
            simp only [wl, List.length_replicate]
            refine ⟨fun hc => ?_, fun hc => ⟨by omega, by omega, by omega, ?_⟩⟩
            · rw [fl_full e hc, contZ_err (by show ¬ (23 : Int) = 0; decide)] at hZ'
              rw [← hZ']
              exact ⟨fun h => absurd h (by show ¬ (23 : Int) = 0; decide), fun _ => by ((repeat' (refine And.intro ?_ ?_)) <;> first | rfl | exact True.intro | omega | (rw [wr (by omega) (by omega)]; done) | (rw [wr (by omega) (by omega)]; first | rfl | omega | (simp; done)))⟩
            · rw [fl_step e hc] at hZ'
              refine ⟨((takeT r2 2).2.1, f2, (takeT r2 2).1, out2 ++ List.replicate (takeT r2 2).2.1.toNat 0), ⟨hZ', ?_, ?_, ?_, by dsimp only; rw [T3.rd]; exact k4⟩, ?_, by ((repeat' (refine And.intro ?_ ?_)) <;> first | rfl | exact True.intro | omega | (rw [wr (by omega) (by omega)]; done) | (rw [wr (by omega) (by omega)]; first | rfl | omega | (simp; done)))⟩
              · dsimp only
                intro h3
                rw [h3]
                simp only [List.length_append, List.length_replicate]
                omega
              · simp only [List.length_append, List.length_replicate]; omega
              · simp only [List.length_append, List.length_replicate]; omega
              · show (cond ((takeT r2 2).2.1 == 3) (f2 + 1) 0) < f2 + 1 + 1
                cases (takeT r2 2).2.1 == 3
                · simp only [cond_false]; omega
                · simp only [cond_true]; omega
          · rw [fl_err e, contZ_err e] at hZ'
            rw [← hZ']
            exact ⟨fun h => absurd h e, fun _ => by ((repeat' (refine And.intro ?_ ?_)) <;> first | rfl | exact True.intro | omega | (rw [wr (by omega) (by omega)]; done) | (rw [wr (by omega) (by omega)]; first | rfl | omega | (simp; done)))⟩
        · have h3' : (more == 3) = false := h3
          rw [h3'] at hZ
          have hZ' : rdR y f r2 left out2 = fin := hZ
          exact ⟨(f, r2, left, out2), ⟨hZ', k2, k3, hl0, hl1, k4⟩, by show f < f + 1; omega, by ((repeat' (refine And.intro ?_ ?_)) <;> first | rfl | exact True.intro | omega | (rw [wr (by omega) (by omega)]; done) | (rw [wr (by omega) (by omega)]; first | rfl | omega | (simp; done)))⟩
    · have hv := val_1 e1
      rw [← hR, rd_err hlt (by rw [hv]; exact e1), hv]
      exact ⟨fun h => absurd h e1, fun _ => by ((repeat' (refine And.intro ?_ ?_)) <;> first | rfl | exact True.intro | omega | (rw [wr (by omega) (by omega)]; done) | (rw [wr (by omega) (by omega)]; first | rfl | omega | (simp; done)))⟩
  · obtain ⟨f, rfl⟩ : ∃ f', f = f' + 1 := ⟨f - 1, by omega⟩
    rw [rd_end hge] at hR
    rw [← hR]
    exact ⟨fun _ => by ((repeat' (refine And.intro ?_ ?_)) <;> first | rfl | exact True.intro | omega | (rw [wr (by omega) (by omega)]; done) | (rw [wr (by omega) (by omega)]; first | rfl | omega | (simp; done))), fun h => absurd rfl h⟩
end Go.Proofs.Ytafabheehkmfhaa
/-
  The conditions of the functions told in the text before, and that they are the executor's. Conditions: none.
-/
namespace Go.Proofs.Ytafabheehkmfhaa
open Go Go.RowKit
set_option linter.unusedVariables false
set_option maxRecDepth 100000
def awake8_t  : Prop :=
 List.length [(16 : Int), (16 : Int)] ≤ (4294967296 : Nat) ∧
 ((ByteArray.toList (writeF (5 : Int) [(16 : Int), (16 : Int)]).fst == ByteArray.toList { data := #[(16 : UInt8), (63 : UInt8)] }) = true →
 (((writeF (5 : Int) [(16 : Int), (16 : Int)]).snd == (0 : Int)) = true → List.length [(16 : Int)] ≤ (4294967296 : Nat) ∧ (dchk (4 : Int) [(16 : Int)] == (31 : Int)) = true) ∧
 (((writeF (5 : Int) [(16 : Int), (16 : Int)]).snd == (0 : Int)) = false → false = true)) ∧
 ((ByteArray.toList (writeF (5 : Int) [(16 : Int), (16 : Int)]).fst == ByteArray.toList { data := #[(16 : UInt8), (63 : UInt8)] }) = false → false = true)
--end
theorem awake8_e  : awake8_t  = vcG Try.prog (Gof G8i) (fun _ => none) Try.f40 [] [] (.leaf ((.v (.bool true))) ([])) := by kernel_rfl
def lawPre_t (k : Int) : Prop :=
 inW k = true ∧
 inW (3 : Int) = true ∧
 ((preE (modI k (3 : Int)) == (0 : Int)) = true →
 List.length (preP (modI k (3 : Int))) ≤ (4294967296 : Nat) ∧
 ((dchk (preL (modI k (3 : Int))) (preP (modI k (3 : Int))) == (0 : Int)) = true →
 (0 : Int) ≤ modI k (3 : Int) ∧
 modI k (3 : Int) < (↑((3 : Nat)) : Int) ∧
 Int.toNat (modI k (3 : Int)) < (3 : Nat) ∧
 (((↑(List.length (preP (modI k (3 : Int)))) : Int) == List.getD [(36 : Int), (29 : Int), (53 : Int)] (Int.toNat (modI k (3 : Int))) (0 : Int)) = true → true = true) ∧
 (((↑(List.length (preP (modI k (3 : Int)))) : Int) == List.getD [(36 : Int), (29 : Int), (53 : Int)] (Int.toNat (modI k (3 : Int))) (0 : Int)) = false → false = true)) ∧
 ((dchk (preL (modI k (3 : Int))) (preP (modI k (3 : Int))) == (0 : Int)) = false → false = true)) ∧
 ((preE (modI k (3 : Int)) == (0 : Int)) = false → false = true)
--end
theorem lawPre_e (k : Int) : lawPre_t k = vcG Try.prog (Gof G8j) (fun _ => none) Try.f8 [.v (.int .i64 k)] [] (.leaf ((.v (.bool true))) ([])) := by kernel_rfl
def lawWr_t (g : Int) (l : List Int) (g2 : Int) (l2 : List Int) (k : Int) : Prop :=
 (decide ((↑(List.length l) : Int) > (300 : Int)) = true → true = true) ∧
 (decide ((↑(List.length l) : Int) > (300 : Int)) = false →
 (decide ((↑(List.length l2) : Int) > (300 : Int)) = true → true = true) ∧
 (decide ((↑(List.length l2) : Int) > (300 : Int)) = false →
 List.length l ≤ (4294967296 : Nat) ∧
 List.length l ≤ (4294967296 : Nat) ∧
 List.length l ≤ (4294967296 : Nat) ∧
 ((dchk g l != dchk g l) = true → false = true) ∧
 ((dchk g l != dchk g l) = false →
 ((dsize g != dsize g) = true → false = true) ∧
 ((dsize g != dsize g) = false →
 List.length l ≤ (4294967296 : Nat) ∧
 List.length l ≤ (4294967296 : Nat) ∧
 ((!(g == g2 && eqI l l2) == (g == g2 && eqI l l2)) = true → false = true) ∧
 ((!(g == g2 && eqI l l2) == (g == g2 && eqI l l2)) = false →
 List.length l ≤ (4294967296 : Nat) ∧
 List.length l ≤ (4294967296 : Nat) ∧
 List.length l ≤ (4294967296 : Nat) ∧
 List.length l ≤ (4294967296 : Nat) ∧
 ((!ByteArray.toList (writeF g l).fst == ByteArray.toList (writeF g l).fst) = true → false = true) ∧
 ((!ByteArray.toList (writeF g l).fst == ByteArray.toList (writeF g l).fst) = false →
 (((writeF g l).snd != (writeF g l).snd) = true → false = true) ∧
 (((writeF g l).snd != (writeF g l).snd) = false →
 ((bitsF g l != bitsF g l) = true → false = true) ∧
 ((bitsF g l != bitsF g l) = false →
 ((dchk g l != dchk g l) = true → false = true) ∧
 ((dchk g l != dchk g l) = false →
 List.length (preP k) ≤ (4294967296 : Nat) ∧
 ((preL k == preL k && eqI (preP k) (preP k)) = true →
 ((preE k == preE k) = true →
 List.length l ≤ (4294967296 : Nat) ∧ ((g == g && eqI l l) = true → true = true) ∧ ((g == g && eqI l l) = false → false = true)) ∧
 ((preE k == preE k) = false → false = true)) ∧
 ((preL k == preL k && eqI (preP k) (preP k)) = false → false = true))))))))))
--end
theorem lawWr_e (g : Int) (l : List Int) (g2 : Int) (l2 : List Int) (k : Int) : lawWr_t g l g2 l2 k = vcG Try.prog (Gof G8j) (fun _ => none) Try.f9 [.ag [.v (.int .i64 g), .dat (.ints .i64 l)], .ag [.v (.int .i64 g2), .dat (.ints .i64 l2)], .v (.int .i64 k)] [] (.leaf ((.v (.bool true))) ([])) := by kernel_rfl
end Go.Proofs.Ytafabheehkmfhaa
/-
  The conditions of the functions told in the text before, and that they are the executor's. Conditions: none.
-/
namespace Go.Proofs.Ytafabheehkmfhaa
open Go Go.RowKit
set_option linter.unusedVariables false
set_option maxRecDepth 100000
def runs_t (l : List Int) : Prop :=
 (∃ (x0 : Nat × List Int),
 (x0.fst ≤ List.length l ∧ okRuns (List.drop x0.fst l) = true ∧ List.length x0.snd ≤ (64 : Nat) * x0.fst ∧ x0.snd ++ expandL (List.drop x0.fst l) = expandL l) ∧
 l = l ∧ (0 : Int) = (↑x0.fst : Int) ∧ List.length x0.snd = (0 : Nat)) ∧
 ∀ (x1 : Nat × List Int),
 x1.fst ≤ List.length l ∧ okRuns (List.drop x1.fst l) = true ∧ List.length x1.snd ≤ (64 : Nat) * x1.fst ∧ x1.snd ++ expandL (List.drop x1.fst l) = expandL l →
 (decide (IntKind.wrap IntKind.i64 ((↑x1.fst : Int) + (1 : Int)) < (↑(List.length l) : Int)) = true →
 (0 : Int) ≤ IntKind.wrap IntKind.i64 ((↑x1.fst : Int) + (1 : Int)) ∧
 IntKind.wrap IntKind.i64 ((↑x1.fst : Int) + (1 : Int)) < (↑(List.length l) : Int) ∧
 (0 : Int) ≤ (↑x1.fst : Int) ∧
 (↑x1.fst : Int) < (↑(List.length l) : Int) ∧
 (1 : Int) ≤ List.getD l (Int.toNat (↑x1.fst : Int)) (0 : Int) ∧
 List.getD l (Int.toNat (↑x1.fst : Int)) (0 : Int) ≤ (65536 : Int) ∧
 (List.length x1.snd +
 List.length
 (List.replicate (Int.toNat (List.getD l (Int.toNat (↑x1.fst : Int)) (0 : Int)))
 (List.getD l (Int.toNat (IntKind.wrap IntKind.i64 ((↑x1.fst : Int) + (1 : Int)))) (0 : Int)))) *
 (8 : Nat) ≤
 (140737488355328 : Nat) ∧
 ∃ (y2 : Nat × List Int),
 (y2.fst ≤ List.length l ∧ okRuns (List.drop y2.fst l) = true ∧ List.length y2.snd ≤ (64 : Nat) * y2.fst ∧ y2.snd ++ expandL (List.drop y2.fst l) = expandL l) ∧
 Nat.sub (List.length l) y2.fst < Nat.sub (List.length l) x1.fst ∧
 l = l ∧
 IntKind.wrap IntKind.i64 ((↑x1.fst : Int) + (2 : Int)) = (↑y2.fst : Int) ∧
 x1.snd ++
 List.replicate (Int.toNat (List.getD l (Int.toNat (↑x1.fst : Int)) (0 : Int)))
 (List.getD l (Int.toNat (IntKind.wrap IntKind.i64 ((↑x1.fst : Int) + (1 : Int)))) (0 : Int)) =
 y2.snd) ∧
 (decide (IntKind.wrap IntKind.i64 ((↑x1.fst : Int) + (1 : Int)) < (↑(List.length l) : Int)) = false → x1.snd = expandL l)
--end
theorem runs_e (l : List Int) : runs_t l = vcG Try.prog (Gof G8g) (one (oRuns l)) Try.f65 [.dat (.ints .i64 l)] [] (.leaf ((.o 2000)) ([(2000, .row 3 (.ints .i64 (expandL l)))])) := by kernel_rfl
def predef_t (k : Int) : Prop :=
 List.length
 [(1 : Int), (4 : Int), (1 : Int), (3 : Int), (11 : Int), (2 : Int), (3 : Int), (1 : Int), (9 : Int), (2 : Int), (1 : Int), (3 : Int), (1 : Int), (2 : Int), (5 : Int), (1 : Int), (4 : Int),
 (-1 : Int)] =
 List.length (List.replicate (18 : Nat) (0 : Int)) ∧
 List.length [(6 : Int), (1 : Int), (3 : Int), (2 : Int), (15 : Int), (1 : Int), (5 : Int), (-1 : Int)] = List.length (List.replicate (8 : Nat) (0 : Int)) ∧
 List.length [(1 : Int), (1 : Int), (1 : Int), (4 : Int), (1 : Int), (3 : Int), (6 : Int), (2 : Int), (37 : Int), (1 : Int), (7 : Int), (-1 : Int)] =
 List.length (List.replicate (12 : Nat) (0 : Int)) ∧
 (0 : Int) ≤ (0 : Int) ∧
 (0 : Int) ≤ (↑(12 : Nat) : Int) ∧
 (↑(12 : Nat) : Int) ≤ (↑(12 : Nat) : Int) ∧
 (12 : Nat) = (12 : Nat) ∧
 ((k == (1 : Int)) = true →
 (0 : Int) ≤ (0 : Int) ∧
 (0 : Int) ≤ (↑(8 : Nat) : Int) ∧
 (↑(8 : Nat) : Int) ≤ (↑(8 : Nat) : Int) ∧
 (8 : Nat) = (8 : Nat) ∧
 List.length
 (List.take (Int.toNat (↑(8 : Nat) : Int) - Int.toNat (0 : Int))
 (List.drop (Int.toNat (0 : Int)) [(6 : Int), (1 : Int), (3 : Int), (2 : Int), (15 : Int), (1 : Int), (5 : Int), (-1 : Int)])) ≤
 (64 : Nat) ∧
 okRuns
 (List.take (Int.toNat (↑(8 : Nat) : Int) - Int.toNat (0 : Int))
 (List.drop (Int.toNat (0 : Int)) [(6 : Int), (1 : Int), (3 : Int), (2 : Int), (15 : Int), (1 : Int), (5 : Int), (-1 : Int)])) =
 true ∧
 (5 : Int) = preL k ∧
 expandL
 (List.take (Int.toNat (↑(8 : Nat) : Int) - Int.toNat (0 : Int))
 (List.drop (Int.toNat (0 : Int)) [(6 : Int), (1 : Int), (3 : Int), (2 : Int), (15 : Int), (1 : Int), (5 : Int), (-1 : Int)])) =
 preP k ∧
 (0 : Int) = preE k) ∧
 ((k == (1 : Int)) = false →
 ((k == (2 : Int)) = true →
 List.length
 (List.take (Int.toNat (↑(12 : Nat) : Int) - Int.toNat (0 : Int))
 (List.drop (Int.toNat (0 : Int))
 [(1 : Int), (1 : Int), (1 : Int), (4 : Int), (1 : Int), (3 : Int), (6 : Int), (2 : Int), (37 : Int), (1 : Int), (7 : Int), (-1 : Int)])) ≤
 (64 : Nat) ∧
 okRuns
 (List.take (Int.toNat (↑(12 : Nat) : Int) - Int.toNat (0 : Int))
 (List.drop (Int.toNat (0 : Int))
 [(1 : Int), (1 : Int), (1 : Int), (4 : Int), (1 : Int), (3 : Int), (6 : Int), (2 : Int), (37 : Int), (1 : Int), (7 : Int), (-1 : Int)])) =
 true ∧
 (6 : Int) = preL k ∧
 expandL
 (List.take (Int.toNat (↑(12 : Nat) : Int) - Int.toNat (0 : Int))
 (List.drop (Int.toNat (0 : Int))
 [(1 : Int), (1 : Int), (1 : Int), (4 : Int), (1 : Int), (3 : Int), (6 : Int), (2 : Int), (37 : Int), (1 : Int), (7 : Int), (-1 : Int)])) =
 preP k ∧
 (0 : Int) = preE k) ∧
 ((k == (2 : Int)) = false →
 ((k == (0 : Int)) = true →
 (0 : Int) ≤ (0 : Int) ∧
 (0 : Int) ≤ (↑(18 : Nat) : Int) ∧
 (↑(18 : Nat) : Int) ≤ (↑(18 : Nat) : Int) ∧
 (18 : Nat) = (18 : Nat) ∧
 List.length
 (List.take (Int.toNat (↑(18 : Nat) : Int) - Int.toNat (0 : Int))
 (List.drop (Int.toNat (0 : Int))
 [(1 : Int), (4 : Int), (1 : Int), (3 : Int), (11 : Int), (2 : Int), (3 : Int), (1 : Int), (9 : Int), (2 : Int), (1 : Int), (3 : Int), (1 : Int), (2 : Int),
 (5 : Int), (1 : Int), (4 : Int), (-1 : Int)])) ≤
 (64 : Nat) ∧
 okRuns
 (List.take (Int.toNat (↑(18 : Nat) : Int) - Int.toNat (0 : Int))
 (List.drop (Int.toNat (0 : Int))
 [(1 : Int), (4 : Int), (1 : Int), (3 : Int), (11 : Int), (2 : Int), (3 : Int), (1 : Int), (9 : Int), (2 : Int), (1 : Int), (3 : Int), (1 : Int),
 (2 : Int), (5 : Int), (1 : Int), (4 : Int), (-1 : Int)])) =
 true ∧
 (6 : Int) = preL k ∧
 expandL
 (List.take (Int.toNat (↑(18 : Nat) : Int) - Int.toNat (0 : Int))
 (List.drop (Int.toNat (0 : Int))
 [(1 : Int), (4 : Int), (1 : Int), (3 : Int), (11 : Int), (2 : Int), (3 : Int), (1 : Int), (9 : Int), (2 : Int), (1 : Int), (3 : Int), (1 : Int),
 (2 : Int), (5 : Int), (1 : Int), (4 : Int), (-1 : Int)])) =
 preP k ∧
 (0 : Int) = preE k) ∧
 ((k == (0 : Int)) = false → (0 : Int) = preL k ∧ List.length (preP k) = (0 : Nat) ∧ (11 : Int) = preE k)))
--end
theorem predef_e (k : Int) : predef_t k = vcG Try.prog (Gof G8h) (fun _ => none) Try.f38 [.v (.int .i64 k)] [] (.leaf ((.tu [.ag [.v (.int .i64 (preL k)), .dat (.ints .i64 (preP k))], .v (.int .i64 (preE k))])) ([])) := by kernel_rfl
def rpredef_t (k : Int) : Prop :=
 ((k == (0 : Int)) = true →
 (2 : Nat) * (8 : Nat) ≤ (140737488355328 : Nat) ∧
 List.length [(4 : Int), (3 : Int)] ≤ (65536 : Nat) ∧
 (11 : Int) ≤ (65536 : Int) ∧
 (Nat.succ (Nat.add (List.length (List.append [(3 : Int)] (List.replicate (Int.toNat (11 : Int)) (2 : Int)))) ((0 : Nat))) + (3 : Nat)) * (8 : Nat) ≤ (140737488355328 : Nat) ∧
 List.length ([(4 : Int), (3 : Int)] ++ List.replicate (Int.toNat (11 : Int)) (2 : Int) ++ [(1 : Int), (1 : Int), (1 : Int)]) ≤ (65536 : Nat) ∧
 (9 : Int) ≤ (65536 : Int) ∧
 (Nat.succ
 (Nat.add
 (List.length
 (List.append (List.append (List.append [(3 : Int)] (List.replicate (Int.toNat (11 : Int)) (2 : Int))) [(1 : Int), (1 : Int), (1 : Int)])
 (List.replicate (Int.toNat (9 : Int)) (2 : Int))))
 ((0 : Nat))) +
 (2 : Nat)) *
 (8 : Nat) ≤
 (140737488355328 : Nat) ∧
 List.length
 ([(4 : Int), (3 : Int)] ++ List.replicate (Int.toNat (11 : Int)) (2 : Int) ++ [(1 : Int), (1 : Int), (1 : Int)] ++ List.replicate (Int.toNat (9 : Int)) (2 : Int) ++
 [(3 : Int), (2 : Int)]) ≤
 (65536 : Nat) ∧
 (5 : Int) ≤ (65536 : Int) ∧
 List.length
 ([(4 : Int), (3 : Int)] ++ List.replicate (Int.toNat (11 : Int)) (2 : Int) ++ [(1 : Int), (1 : Int), (1 : Int)] ++ List.replicate (Int.toNat (9 : Int)) (2 : Int) ++
 [(3 : Int), (2 : Int)] ++
 List.replicate (Int.toNat (5 : Int)) (1 : Int)) ≤
 (65536 : Nat) ∧
 (4 : Int) ≤ (65536 : Int) ∧
 (6 : Int) = preL k ∧
 [(4 : Int), (3 : Int)] ++ List.replicate (Int.toNat (11 : Int)) (2 : Int) ++ [(1 : Int), (1 : Int), (1 : Int)] ++ List.replicate (Int.toNat (9 : Int)) (2 : Int) ++
 [(3 : Int), (2 : Int)] ++
 List.replicate (Int.toNat (5 : Int)) (1 : Int) ++
 List.replicate (Int.toNat (4 : Int)) (-1 : Int) =
 preP k ∧
 (0 : Int) = preE k) ∧
 ((k == (0 : Int)) = false →
 ((k == (1 : Int)) = true →
 (6 : Int) ≤ (65536 : Int) ∧
 List.length (List.replicate (Int.toNat (6 : Int)) (1 : Int)) ≤ (65536 : Nat) ∧
 (3 : Int) ≤ (65536 : Int) ∧
 List.length (List.replicate (Int.toNat (6 : Int)) (1 : Int) ++ List.replicate (Int.toNat (3 : Int)) (2 : Int)) ≤ (65536 : Nat) ∧
 (15 : Int) ≤ (65536 : Int) ∧
 List.length (List.replicate (Int.toNat (6 : Int)) (1 : Int) ++ List.replicate (Int.toNat (3 : Int)) (2 : Int) ++ List.replicate (Int.toNat (15 : Int)) (1 : Int)) ≤ (65536 : Nat) ∧
 (5 : Int) ≤ (65536 : Int) ∧
 (5 : Int) = preL k ∧
 List.replicate (Int.toNat (6 : Int)) (1 : Int) ++ List.replicate (Int.toNat (3 : Int)) (2 : Int) ++ List.replicate (Int.toNat (15 : Int)) (1 : Int) ++
 List.replicate (Int.toNat (5 : Int)) (-1 : Int) =
 preP k ∧
 (0 : Int) = preE k) ∧
 ((k == (1 : Int)) = false →
 ((k == (2 : Int)) = true →
 (3 : Nat) * (8 : Nat) ≤ (140737488355328 : Nat) ∧
 List.length [(1 : Int), (4 : Int), (3 : Int)] ≤ (65536 : Nat) ∧
 (6 : Int) ≤ (65536 : Int) ∧
 List.length ([(1 : Int), (4 : Int), (3 : Int)] ++ List.replicate (Int.toNat (6 : Int)) (2 : Int)) ≤ (65536 : Nat) ∧
 (37 : Int) ≤ (65536 : Int) ∧
 List.length ([(1 : Int), (4 : Int), (3 : Int)] ++ List.replicate (Int.toNat (6 : Int)) (2 : Int) ++ List.replicate (Int.toNat (37 : Int)) (1 : Int)) ≤ (65536 : Nat) ∧
 (7 : Int) ≤ (65536 : Int) ∧
 (6 : Int) = preL k ∧
 [(1 : Int), (4 : Int), (3 : Int)] ++ List.replicate (Int.toNat (6 : Int)) (2 : Int) ++ List.replicate (Int.toNat (37 : Int)) (1 : Int) ++
 List.replicate (Int.toNat (7 : Int)) (-1 : Int) =
 preP k ∧
 (0 : Int) = preE k) ∧
 ((k == (2 : Int)) = false → (0 : Int) = preL k ∧ List.length (preP k) = (0 : Nat) ∧ (11 : Int) = preE k)))
--end
theorem rpredef_e (k : Int) : rpredef_t k = vcG Try.prog (Gof G8h) (fun _ => none) Try.f51 [.v (.int .i64 k)] [] (.leaf ((.tu [.ag [.v (.int .i64 (preL k)), .dat (.ints .i64 (preP k))], .v (.int .i64 (preE k))])) ([])) := by kernel_rfl
end Go.Proofs.Ytafabheehkmfhaa
/-
  What a slice of ints that came in is, for the walks. Conditions: none.
-/
namespace Go.Proofs.Ytafabheehkmfhaa
open Go.ChangeShapes Go.WideShapes Go.ChangeAt Go.RowKit
set_option linter.unusedVariables false

/-- A slice of ints that came in: the numbers zs up to its capacity, the first n of which are its elements. -/
structure IntsIn (w : World) (A : Option Addr) (n cap : Nat) (zs : List Int) : Prop where
  le : n ≤ cap
  max : cap ≤ 9223372036854775807
  len : zs.length = cap
  nil : A = none → cap = 0
  at_ : 0 < cap → ∃ b off, A = some ⟨b, off, none⟩ ∧ b < w.heap.size ∧ ∀ i, i < zs.length → w.cell? ⟨b, off + i, none⟩ = some (.int .i64 (zs.getD i 0))
  rng : ∀ z ∈ zs, -9223372036854775808 ≤ z ∧ z ≤ 9223372036854775807

theorem IntsIn.opens1 {H : Type} {enc : TypeId × Value → H} {w : World} {held : Bool} {fuel : Nat} {v : Value} {x : DataW H × List MemPlace}
    (h : DataW.trod enc Try.prog w 0 (fun _ => true) held fuel 44 [v] = some x) :
    ∃ A n cap zs, [v] = [.slice A n cap] ∧ IntsIn w A n cap zs := by
  rcases open_ints Try.underlying44 Try.underlying3 (by kernel_rfl) h with ⟨hcs, _⟩ | ⟨a, l, c, zs, hcs, _, hl, hm, hz, _, hcell, hwz⟩
  · exact ⟨none, 0, 0, [], hcs, ⟨Nat.le_refl _, by omega, rfl, fun _ => rfl, fun h => by omega, fun z hz => by cases hz⟩⟩
  · refine ⟨some a, l, c, zs, hcs, ⟨hl, hm, by simpa using hz, (fun h => by cases h), fun hpos => ?_, fun z hz => Go.bounds_i64 (hwz z hz)⟩⟩
    obtain ⟨b, off, rfl, hc⟩ := ints_at hcell (by have : zs.length = c := by simpa using hz
                                                  omega)
    refine ⟨b, off, rfl, ?_, hc⟩
    exact World.block_lt_of_cell? w _ (hc 0 (by have : zs.length = c := by simpa using hz
                                                omega))
theorem IntsIn.opens {H : Type} {enc : TypeId × Value → H} {w : World} {held : Bool} {fuel : Nat} {A : Option Addr} {n cap : Nat} {x : DataW H × List MemPlace}
    (h : DataW.trod enc Try.prog w 0 (fun _ => true) held fuel 44 [.slice A n cap] = some x) : ∃ zs, IntsIn w A n cap zs := by
  obtain ⟨A', n', cap', zs, e, hI⟩ := IntsIn.opens1 h
  simp only [List.cons.injEq, Value.slice.injEq, and_true] at e
  obtain ⟨rfl, rfl, rfl⟩ := e
  exact ⟨zs, hI⟩
/-- the slice as my walks read it: its elements as a list of values -/
theorem IntsIn.reads {w : World} {A : Option Addr} {n cap : Nat} {zs : List Int} (h : IntsIn w A n cap zs) : Reads w w.heap.size 1 A n ((zs.take n).map fun z => Value.int .i64 z) := by
  have hl := h.len
  have hle := h.le
  refine ⟨by simp; omega, fun hn => ?_⟩
  obtain ⟨b, off, rfl, hb, hc⟩ := h.at_ (by omega)
  refine ⟨_, rfl, hb, fun j u hu => ?_⟩
  simp only [List.getElem?_map, List.getElem?_take, Option.map_eq_some_iff] at hu
  obtain ⟨z, hz, rfl⟩ := hu
  split at hz
  · rw [show (⟨b, off, none⟩ : Addr).add j = ⟨b, off + j, none⟩ from by unfold Addr.add; split <;> simp_all]
    rw [hc j (by have := (List.getElem?_eq_some_iff.1 hz).1; omega)]
    simp [List.getD, hz]
  · cases hz
end Go.Proofs.Ytafabheehkmfhaa
/-
  cheesepresskit.Mod: the remainder from 0 on. Conditions: numbers of int's range.
-/
namespace Go.Proofs.Ytafabheehkmfhaa
open Go.RowKit
set_option linter.unusedVariables false
theorem ret_int' {k : IntKind} {a b : Int} (h : a = b) : Ending.returned (.int k a) = .returned (.int k b) := by rw [h]
theorem tmod_emod (n m : Int) : n.tmod m % m = n % m := by
  have h := Int.tmod_add_mul_tdiv n m
  have h2 := Int.add_mul_emod_self_left (n.tmod m) m (n.tdiv m)
  rw [h] at h2
  exact h2.symm
theorem tmod_neg_fix (n m : Int) (hm : 1 ≤ m) (h : n.tmod m < 0) : n.tmod m + m = n % m := by
  rw [← tmod_emod n m, ← Int.add_emod_right]
  have := Int.lt_tmod_of_pos n (show 0 < m by omega)
  exact (Int.emod_eq_of_lt (by omega) (by omega)).symm
theorem tmod_pos_fix (n m : Int) (hm : 1 ≤ m) (h : 0 ≤ n.tmod m) : n.tmod m = n % m := by
  rw [← tmod_emod n m]
  have := Int.tmod_lt_of_pos n (show 0 < m by omega)
  exact (Int.emod_eq_of_lt h (by omega)).symm
set_option maxHeartbeats 400000 in
theorem mod_pos (n m : Int) (hn : -9223372036854775808 ≤ n ∧ n ≤ 9223372036854775807) (hm : 1 ≤ m ∧ m ≤ 9223372036854775807) (w : World) :
    Calls Try.prog 37 #[.int .i64 n, .int .i64 m] w fun e w' => e = .returned (.int .i64 (n % m)) ∧ w = w' := by
  obtain ⟨h1, h2⟩ := hn
  obtain ⟨h3, h4⟩ := hm
  have hlo := Int.lt_tmod_of_pos n (show 0 < m by omega)
  have hhi := Int.tmod_lt_of_pos n (show 0 < m by omega)
  go_enter Try.func37, Try.ntmps37
  go_wp2
  all_goals
    go_ret
    refine ⟨?_, rfl⟩
    first
      | exact ret_int' (tmod_pos_fix n m h3 (by assumption))
      | exact ret_int' ((IntWalk.wrap64_in _ ⟨by omega, by omega⟩).trans (tmod_neg_fix n m h3 (by assumption)))
      | exact ret_int' (tmod_neg_fix n m h3 (by assumption))
end Go.Proofs.Ytafabheehkmfhaa
/-
  math/bits.Mul at 1. Conditions: a number of at most 65,536.
-/
namespace Go.Proofs.Ytafabheehkmfhaa
open Go.RowKit
set_option linter.unusedVariables false
set_option linter.unusedSimpArgs false
theorem u64_and_mask (c : Nat) (hc : c ≤ 65536) : bits .and .u64 (c : Int) 4294967295 = (c : Int) := by
  have hx : ∀ a : Nat, a ≤ 4294967295 → (BitVec.ofInt 64 (a : Int)).toNat = a := fun a ha => by
    rw [BitVec.ofInt_natCast, BitVec.toNat_ofNat]; exact Nat.mod_eq_of_lt (by omega)
  show IntKind.u64.wrap ((BitVec.ofInt 64 (c : Int) &&& BitVec.ofInt 64 ((4294967295 : Nat) : Int)).toNat : Int) = _
  rw [BitVec.toNat_and, hx c (by omega), hx 4294967295 (by omega), show (4294967295 : Nat) = 2 ^ 32 - 1 from rfl, Nat.and_two_pow_sub_one_eq_mod, IntKind.wrap_u64]
  omega
set_option maxHeartbeats 1000000 in
theorem mul1 (c : Nat) (hc : c ≤ 65536) (w : World) :
    Calls Try.prog 90 #[.int .u64 1, .int .u64 c] w fun e w' => e = .returned (.tuple #[.int .u64 0, .int .u64 c]) ∧ w = w' := by
  have h1 : bits .and .u64 1 4294967295 = 1 := u64_and_mask 1 (by omega)
  have h0 : bits .and .u64 0 4294967295 = 0 := u64_and_mask 0 (by omega)
  have hw : IntKind.u64.wrap (c : Int) = c := IntWalk.u64_in _ ⟨by omega, by omega⟩
  have hw0 : IntKind.u64.wrap 0 = 0 := IntWalk.u64_in _ ⟨by omega, by omega⟩
  have h2 := u64_and_mask c hc
  have h3 : (c : Int) / 4294967296 = 0 := by omega
  go_enter Try.func90, Try.ntmps90
  go_wp2
  go_ret2
  exact ⟨rfl, rfl⟩
end Go.Proofs.Ytafabheehkmfhaa
/-
  slices.Repeat at a slice of one int. Conditions: at most 65,536 times.
-/
namespace Go.Proofs.Ytafabheehkmfhaa
open Go.RowKit
set_option linter.unusedVariables false
set_option linter.unusedSimpArgs false

def RepRel (w : World) (v : Int) (c : Nat) (nv : Value) (wr : World) : Prop :=
  ∃ (k : Nat) (rest : List Value), 1 ≤ k ∧ k ≤ c ∧ nv = .int .i64 k ∧ rest.length = c - k ∧ wr.heap[w.heap.size]? = some (.cells (List.replicate k (Value.int .i64 v) ++ rest).toArray 3 (0, 0)) ∧ Below w.heap.size w wr
theorem cells_info3 : (Try.prog.info? 3).map (·.size) = some 1 := by kernel_rfl
/-- the copy of a row onto its own rest -/
theorem copy_rep (w : World) (g k c : Nat) (v : Int) (rest : List Value) (hk : k < c) (hr : rest.length = c - k)
    (hg : w.heap[g]? = some (.cells (List.replicate k (Value.int .i64 v) ++ rest).toArray 3 (0, 0))) :
    ∃ w3, (Builtin.copy_ #[44, 44] 3 #[.slice (some ⟨g, k, none⟩) (c - k) (c - k), .slice (some ⟨g, 0, none⟩) k c]).run Try.prog w = .ok (.int .i64 ((min k (c - k) : Nat) : Int)) w3 ∧
      w3.heap[g]? = some (.cells (List.replicate (k + min k (c - k)) (Value.int .i64 v) ++ rest.drop (min k (c - k))).toArray 3 (0, 0)) ∧ ∀ B w0, Below B w0 w → B ≤ g → Below B w0 w3 := by
  have hB : Blk w g 3 (List.replicate k (Value.int .i64 v) ++ rest).toArray := hg
  have hsrc : ∀ j u, (List.replicate (min k (c - k)) (Value.int .i64 v))[j]? = some u → w.cell? ((⟨g, 0, none⟩ : Addr).add j) = some u := by
    intro j u hj
    rw [List.getElem?_replicate] at hj
    split at hj
    · rename_i hjk
      have e : (⟨g, 0, none⟩ : Addr).add j = ⟨g, j, none⟩ := by unfold Addr.add; split <;> simp_all
      rw [e]
      have := hB.cell j
      rw [List.getElem?_toArray, List.getElem?_append_left (by simp; omega), List.getElem?_replicate, if_pos (by omega)] at this
      rw [← hj]
      exact this
    · cases hj
  have hrun := run_copy_row (P := Try.prog) w 44 44 3 3 g k (c - k) (c - k) ⟨g, 0, none⟩ k c (List.replicate k (Value.int .i64 v) ++ rest).toArray 3 (List.replicate (min k (c - k)) (Value.int .i64 v)) Try.underlying44 cells_info3 hg (by rw [List.length_replicate]; try rfl) hsrc (by first | (simp; done) | (simp; omega)) (fun u hu => by obtain ⟨_, rfl⟩ := List.mem_replicate.1 hu; rfl)
  have hL : List.take k (List.replicate k (Value.int .i64 v) ++ rest).toArray.toList ++ List.replicate (min k (c - k)) (Value.int .i64 v) ++ List.drop (k + (List.replicate (min k (c - k)) (Value.int .i64 v)).length) (List.replicate k (Value.int .i64 v) ++ rest).toArray.toList = List.replicate (k + min k (c - k)) (Value.int .i64 v) ++ rest.drop (min k (c - k)) := by
    simp only [List.length_replicate]
    have h1 : List.take k (List.replicate k (Value.int IntKind.i64 v) ++ rest) = List.replicate k (Value.int IntKind.i64 v) := by
      rw [List.take_append_of_le_length (by simp), List.take_of_length_le (by simp)]
    have h2 : List.drop (k + min k (c - k)) (List.replicate k (Value.int IntKind.i64 v) ++ rest) = rest.drop (min k (c - k)) := by
      rw [List.drop_append, List.length_replicate, List.drop_eq_nil_of_le (by simp), List.nil_append, Nat.add_sub_cancel_left]
    show List.take k (List.replicate k (Value.int IntKind.i64 v) ++ rest) ++ _ ++ List.drop (k + min k (c - k)) (List.replicate k (Value.int IntKind.i64 v) ++ rest) = _
    rw [h1, h2, List.replicate_append_replicate]
  rw [hL] at hrun
  refine ⟨w.setRow g (List.replicate (k + min k (c - k)) (Value.int .i64 v) ++ rest.drop (min k (c - k))).toArray, ?_, ?_, ?_⟩
  · rw [hrun]
    simp [goInt]
  · exact setRow_heap w g _ _ 3 _ hg
  · intro B w0 hb hle
    exact below_setRow hb hle _
set_option maxHeartbeats 2000000 in
theorem repeat_pos (bx capx c : Nat) (v : Int) (w : World) (hc : c ≤ 65536) (hc1 : 1 ≤ c) (hb : bx < w.heap.size) (hx : w.cell? ⟨bx, 0, none⟩ = some (.int .i64 v)) :
    Calls Try.prog 81 #[.slice (some ⟨bx, 0, none⟩) 1 capx, .int .i64 c] w fun e w' => e = .returned (.slice (some ⟨w.heap.size, 0, none⟩) c c) ∧
      w'.heap[w.heap.size]? = some (.cells (List.replicate c (Value.int .i64 v)).toArray 3 (0, 0)) ∧ Below w.heap.size w w' := by
  have hmk := mk_ints c (by omega)
  have hu : IntKind.u64.wrap (c : Int) = c := IntWalk.u64_in _ ⟨by omega, by omega⟩
  go_enter Try.func81, Try.ntmps81
  go_wp2_with fail
  refine (mul1 c hc _).mono ?_
  rintro e w' ⟨rfl, rfl⟩
  have hz0 : (w.alloc (.cells (zcells c) 3)).heap[w.heap.size]? = some (.cells (List.replicate c (Value.int .i64 0)).toArray 3 (0, 0)) := by
    have := Blk.new w 3 (zcells c)
    unfold Blk at this
    rw [this]
    congr 2
    rw [← toList_madeCells_one]
    simp [zcells]
  have hb0 : Below w.heap.size w (w.alloc (.cells (zcells c) 3)) := by go_grown
  have hxx : (w.alloc (.cells (zcells c) 3)).cell? ⟨bx, 0, none⟩ = some (.int .i64 v) := (World.cell?_alloc_lt w _ ⟨bx, 0, none⟩ hb).trans hx
  have Hz0 := Lib.hid hz0
  have Hb0 := Lib.hid hb0
  have Hxx := Lib.hid hxx
  clear hz0 hb0 hxx
  go_wp2_with (refine wpList_copy_splice rfl (.tmp 31) (.tmp 32) 44 44 rfl 3 Try.underlying44 cells_info3 (some ⟨w.heap.size, 0, none⟩) (some ⟨bx, 0, none⟩) c c 1 capx rfl rfl w.heap.size 0 (List.replicate c (.int .i64 0)) 3 Hz0.out [.int .i64 v] ?c1 ?c2 ?c3 ?c4 w.heap.size w Hb0.out (Nat.le_refl _) ?c5)
  case c1 => exact (Nat.min_eq_left hc1).symm
  case c2 =>
    intro j u hj
    match j, hj with
    | 0, hj =>
      simp at hj
      subst hj
      exact hx
  case c3 => simp; omega
  case c4 => simp [Value.oneCell']
  case c5 =>
    intro w2 hw2 hb2
    have hw3 : w2.heap[w.heap.size]? = some (.cells (List.replicate 1 (Value.int .i64 v) ++ List.replicate (c - 1) (Value.int .i64 0)).toArray 3 (0, 0)) := by
      rw [hw2.out]
      simp [splice]
    have Hw3 := Lib.hid hw3
    have HW2 := Lib.hid hb2
    clear hw2 hb2 hw3 hmk hu
    go_wp2
    go_loopw [8] (fun nv wr => RepRel w v c nv wr) (fun nv _ => c - (intOf nv).toNat)
    case atStart => exact ⟨1, _, Nat.le_refl _, hc1, rfl, by simp, Hw3.out, HW2.out⟩
    case round =>
      obtain ⟨k, rest, hk1, hk, rfl, hr, hh, hW⟩ := hrel
      have Hh := Lib.hid hh
      have HW := Lib.hid hW
      have Hr := Lib.hid hr
      clear hh hW hr
      by_cases hlt : k < c
      · have hk0 : (0 : Int) ≤ (k : Int) := by omega
        have hkc : (k : Int) ≤ (c : Int) := by omega
        have hcc : ¬ c = k := by omega
        have hws : IntKind.i64.wrap ((k : Int) + ((min k (c - k) : Nat) : Int)) = ((k + min k (c - k) : Nat) : Int) := by
          rw [show (k : Int) + ((min k (c - k) : Nat) : Int) = ((k + min k (c - k) : Nat) : Int) by simp]
          exact IntWalk.i64_in _ (by omega)
        go_wp2_with fail
        obtain ⟨w3, hrun, hset, hbel⟩ := copy_rep wr.drew w.heap.size k c v rest hlt Hr.out Hh.out
        obtain ⟨m, hm⟩ : ∃ m, min k (c - k) = m := ⟨_, rfl⟩
        rw [hm] at hrun hws hset
        have Hm := Lib.hid hm
        have Hset := Lib.hid hset
        have Hbel := Lib.hid (hbel _ _ HW.out.drew (Nat.le_refl _))
        clear hm hset hbel
        go_region
        go_wp2
        go_roundw
        case rel =>
          have hm1 := Hm.out
          refine ⟨k + m, rest.drop m, by omega, by omega, by first | go_num | rw [hws], by rw [List.length_drop, Hr.out]; omega, Hset.out, Hbel.out⟩
        case measure =>
          have hm1 := Hm.out
          try rw [hws]
          simp [intOf]
          omega
      · have hkc : k = c := by omega
        subst hkc
        go_wp2
        go_ret
        refine ⟨rfl, ?_, HW.out⟩
        have h0 : rest = [] := List.eq_nil_of_length_eq_zero (by rw [Hr.out]; omega)
        have := Hh.out
        rw [h0, List.append_nil] at this
        exact this
end Go.Proofs.Ytafabheehkmfhaa
/-
  Chapter 8: the predefined distributions. Conditions: each theorem's own.
-/
namespace Go.Proofs.Ytafabheehkmfhaa
open Go Go.RowKit
set_option linter.unusedVariables false
set_option linter.unusedSimpArgs false
set_option maxRecDepth 100000
theorem repeat_sat (v c : Int) (h1 : 1 ≤ c) (h2 : c ≤ 65536) : Sat Try.prog 81 [.o 0, .v (.int .i64 c)] [(0, .row 3 (.ints .i64 [v]))] (.dat (.ints .i64 (List.replicate c.toNat v))) [(0, .row 3 (.ints .i64 [v]))] := by
  intro D β w us hargs hhp hD hβ
  simp only [Reps, Rep] at hargs
  obtain ⟨_, _, rfl, ⟨L, hL, rfl⟩, _, _, rfl, rfl, rfl⟩ := hargs
  obtain ⟨L', hL', hB, hO⟩ := hhp.1 0 _ (List.mem_singleton.2 rfl)
  rw [hL] at hL'
  cases hL'
  obtain ⟨hw, hlen, hB⟩ := hB
  simp only [Dat.len, Dat.wd, List.length_singleton] at hw hlen hB
  rcases hB with ⟨_, h0⟩ | ⟨hnil, hcap, hmax, cs, hg, hcl, hcs⟩
  · omega
  obtain ⟨hnD, hlt⟩ := hO hnil
  obtain ⟨x, hx, hok⟩ := hcs 0 0 (by omega) (by omega)
  simp only [Dat.ok] at hok
  subst hok
  have hcell : w.cell? ⟨L.g, 0, none⟩ = some (.int .i64 v) := by
    rw [cell_of_row w L.g 0 cs.toArray _ _ hg, List.getElem?_toArray]
    simpa using hx
  obtain ⟨C, hC⟩ : ∃ C : Nat, c = C := ⟨c.toNat, by omega⟩
  subst hC
  have hval : L.val = .slice (some ⟨L.g, 0, none⟩) 1 L.cap := by unfold Loc.val; rw [hnil, hlen]; rfl
  rw [hval]
  refine (repeat_pos L.g L.cap C v w (by omega) (by omega) hlt hcell).mono ?_
  rintro e w' ⟨rfl, hnew, hb⟩
  have hsz : w.heap.size < w'.heap.size := by
    rcases Nat.lt_or_ge w.heap.size w'.heap.size with h | h
    · exact h
    · rw [Array.getElem?_eq_none h] at hnew; cases hnew
  refine ⟨_, fun g => D g ∨ g = w.heap.size, β, rfl, ?_⟩
  exact {
    grows := ⟨fun _ h => .inl h, fun g hg => hb.block g (hD g hg), fun _ _ h => h⟩
    ret := by
      simp only [Rep, RepDat, SliceAt, Dat.len, Dat.wd, List.length_replicate, Int.toNat_natCast]
      refine ⟨_, _, rfl, Nat.le_refl _, fun _ => ⟨w.heap.size, 0, rfl, .inr rfl, fun i j hi hj => ?_⟩⟩
      have j0 : j = 0 := by omega
      subst j0
      refine ⟨.int .i64 v, ?_, ?_⟩
      · rw [cell_of_row w' w.heap.size _ _ _ _ hnew, List.getElem?_toArray, List.getElem?_replicate, if_pos (by omega)]
      · simp [Dat.ok, List.getD_eq_getElem?_getD, List.getElem?_replicate, hi]
    hps := by
      refine ⟨fun l b hl => ?_, fun l l' b b' L1 L2 hl hl' _ _ _ _ _ => ?_⟩
      · obtain ⟨rfl, rfl⟩ := Prod.mk.inj (List.mem_singleton.1 hl)
        refine ⟨L, hL, ⟨hw, hlen, .inr ⟨hnil, hcap, hmax, cs, (hb.block L.g hlt).trans hg, hcl, fun i j hi hj => ?_⟩⟩, fun _ => ⟨fun h => ?_, by have := hb.size; omega⟩⟩
        · simp only [Dat.len, Dat.wd, List.length_singleton] at hi hj ⊢
          have i0 : i = 0 := by omega
          have j0 : j = 0 := by omega
          subst i0 j0
          exact ⟨_, hx, rfl⟩
        · rcases h with h | h
          · exact hnD h
          · omega
      · obtain ⟨rfl, rfl⟩ := Prod.mk.inj (List.mem_singleton.1 hl)
        obtain ⟨rfl, rfl⟩ := Prod.mk.inj (List.mem_singleton.1 hl')
        rfl
    d := fun g hg => by
      rcases hg with hg | rfl
      · exact ⟨.inl hg, by have := hD g hg; omega⟩
      · exact ⟨.inr (.inl (Nat.le_refl _)), hsz⟩
    dom := fun l L hL => .inl hL
    own := fun l b L1 hl hL1 hni => by
      obtain ⟨rfl, rfl⟩ := Prod.mk.inj (List.mem_singleton.1 hl)
      exact .inr ⟨0, _, L1, List.mem_singleton.2 rfl, hL1, hni, rfl⟩
    os := hb.os, tape := hb.tape, output := hb.output, size := hb.size
    block := fun g hg _ => hb.block g hg }
theorem repeat_sound : Sound Try.prog 81 sRepeat.ctr := sRepeat.sound (by kernel_rfl) sRepeat_enc fun ⟨v, c⟩ hc => by
  have h0 := hc _ (.head _)
  have h1 := hc _ (.tail _ (.head _))
  exact repeat_sat v c h0 h1
theorem expand_step {l : List Int} {i : Nat} (h : i + 1 < l.length) : expandL (l.drop i) = List.replicate (l.getD i 0).toNat (l.getD (i + 1) 0) ++ expandL (l.drop (i + 2)) := by
  rw [drop_cons (by omega), drop_cons h]
  rfl
theorem okRuns_step {l : List Int} {i : Nat} (h : i + 1 < l.length) (ho : okRuns (l.drop i) = true) : 1 ≤ l.getD i 0 ∧ l.getD i 0 ≤ 64 ∧ okRuns (l.drop (i + 2)) = true := by
  rw [drop_cons (by omega), drop_cons h] at ho
  simp only [okRuns, Bool.and_eq_true, decide_eq_true_eq] at ho
  exact ⟨ho.1.1, ho.1.2, ho.2⟩
theorem expand_end {l : List Int} {i : Nat} (h : ¬ i + 1 < l.length) : expandL (l.drop i) = [] := by
  by_cases h2 : i < l.length
  · rw [drop_cons h2, List.drop_eq_nil_of_le (by omega)]; rfl
  · rw [List.drop_eq_nil_of_le (by omega)]; rfl
theorem runs_v (l : List Int) (h0 : l.length ≤ 64) (h1 : okRuns l = true) : runs_t l := by
  unfold runs_t
  refine ⟨⟨(0, []), ⟨by (try dsimp only); omega, h1, by simp, rfl⟩, by ((repeat' (refine And.intro ?_ ?_)) <;> first | rfl | exact True.intro | omega | (rw [wr (by omega) (by omega)]; done) | (rw [wr (by omega) (by omega)]; first | rfl | omega | (simp; done)))⟩, ?_⟩
  rintro ⟨i, out⟩ ⟨hi, ho, hl, he⟩
  dsimp only at hi ho hl he
  have wi : IntKind.wrap IntKind.i64 ((i : Int) + 1) = ((i + 1 : Nat) : Int) := by rw [wr (by omega) (by omega)]; simp
  simp only [wi, toNat_cast, List.length_replicate]
  refine ⟨fun hlt => ?_, fun hge => ?_⟩
  · simp only [decide_eq_true_eq] at hlt
    have hlt' : i + 1 < l.length := by omega
    obtain ⟨o1, o2, o3⟩ := okRuns_step hlt' ho
    rw [expand_step hlt', ← List.append_assoc] at he
    refine ⟨by omega, by omega, by omega, by omega, o1, by omega, by omega, (i + 2, out ++ List.replicate (l.getD i 0).toNat (l.getD (i + 1) 0)), ⟨by (try dsimp only); omega, o3, ?_, he⟩, by show l.length - (i + 2) < l.length - i; omega, by ((repeat' (refine And.intro ?_ ?_)) <;> first | rfl | exact True.intro | omega | (rw [wr (by omega) (by omega)]; done) | (rw [wr (by omega) (by omega)]; first | rfl | omega | (simp; done)))⟩
    show (out ++ List.replicate (l.getD i 0).toNat (l.getD (i + 1) 0)).length ≤ 64 * (i + 2)
    rw [List.length_append, List.length_replicate]
    omega
  · simp only [decide_eq_false_iff_not] at hge
    rw [expand_end (by omega), List.append_nil] at he
    exact he
theorem preL0 : preL 0 = 6 ∧ preP 0 = pLits ∧ preE 0 = 0 := by decide
theorem preL1 : preL 1 = 5 ∧ preP 1 = pOffset ∧ preE 1 = 0 := by decide
theorem preL2 : preL 2 = 6 ∧ preP 2 = pMatch ∧ preE 2 = 0 := by decide
theorem preLn {k : Int} (h0 : (k == 0) = false) (h1 : (k == 1) = false) (h2 : (k == 2) = false) : preL k = 0 ∧ preP k = [] ∧ preE k = 11 := by
  unfold preL preP preE; rw [h0, h1, h2]; exact ⟨rfl, rfl, rfl⟩
theorem rpredef_v (k : Int) : rpredef_t k := by
  unfold rpredef_t
  refine ⟨fun h => ?_, fun h0 => ⟨fun h => ?_, fun h1 => ⟨fun h => ?_, fun h2 => ?_⟩⟩⟩
  · have e : k = 0 := by simpa using h
    subst e
    decide +kernel
  · have e : k = 1 := by simpa using h
    subst e
    decide +kernel
  · have e : k = 2 := by simpa using h
    subst e
    decide +kernel
  · obtain ⟨e1, e2, e3⟩ := preLn h0 h1 h2
    rw [e1, e2, e3]
    exact ⟨rfl, rfl, rfl⟩
theorem predef_v (k : Int) : predef_t k := by
  unfold predef_t
  refine ⟨by decide, by decide, by decide, by decide, by decide, by decide, by decide, fun h => ?_, fun h1 => ⟨fun h => ?_, fun h2 => ⟨fun h => ?_, fun h0 => ?_⟩⟩⟩
  · have e : k = 1 := by simpa using h
    subst e
    decide +kernel
  · have e : k = 2 := by simpa using h
    subst e
    decide +kernel
  · have e : k = 0 := by simpa using h
    subst e
    decide +kernel
  · obtain ⟨e1, e2, e3⟩ := preLn h0 h1 h2
    rw [e1, e2, e3]
    exact ⟨rfl, rfl, rfl⟩
/-! ### tables -/
theorem times_sound : Sound Try.prog 73 sTimes.ctr := sTimes.sound (by kernel_rfl) sTimes_enc fun ⟨l, n, x⟩ hc => by
  have h0 := hc _ (.head _)
  have h1 := hc _ (.tail _ (.head _))
  exact satG G8a_ok mixed Try.func73 (times_e l n x) (times_v l n x h0 h1)
theorem times0_sound : Sound Try.prog 73 sTimes0.ctr := sTimes0.sound (by kernel_rfl) sTimes0_enc fun ⟨n, x⟩ hc => by
  have h0 := hc _ (.head _)
  exact satG G8a_ok mixed Try.func73 (times0_e n x) (times0_v n x h0)
theorem G8g_ok : AllOk Try.prog G8g := .cons repeat_sound <| .cons (orC_sound times0_sound times_sound) G8f_ok
theorem runs_sound : Sound Try.prog 65 sRuns.ctr := sRuns.sound (by kernel_rfl) sRuns_enc fun l hc => by
  have h0 := hc _ (.head _)
  have h1 := hc _ (.tail _ (.head _))
  exact satG G8g_ok mixed Try.func65 (runs_e l) (runs_v l h0 h1)
theorem G8h_ok : AllOk Try.prog G8h := .cons runs_sound G8g_ok
theorem predef_sound : Sound Try.prog 38 sPredef.ctr := sPredef.sound (by kernel_rfl) sPredef_enc fun k hc => by
  exact satG G8h_ok mixed Try.func38 (predef_e k) (predef_v k)
theorem rpredef_sound : Sound Try.prog 51 sPredef.ctr := sPredef.sound (by kernel_rfl) sPredef_enc fun k hc => by
  exact satG G8h_ok mixed Try.func51 (rpredef_e k) (rpredef_v k)
theorem G8i_ok : AllOk Try.prog G8i := .cons predef_sound <| .cons rpredef_sound G8h_ok
end Go.Proofs.Ytafabheehkmfhaa
/-
  From the executor's word on a law to the row's frame: it returns true and leaves what was there as it was. Conditions: each theorem's own.
-/
namespace Go.Proofs.Ytafabheehkmfhaa
open Go.RowKit
set_option linter.unusedVariables false
set_option linter.unusedSimpArgs false
/-- what was there at the call -/
def Old (W : World) : Nat → Prop := fun g => g < W.heap.size
def NoLoc : Nat → Option Loc := fun _ => none
theorem calls_of_sat {P : Program} {f : FuncId} {args : List SV} {us : List Value} {ret : SV} {hp' : List (Nat × SBlk)} {W : World} (h : Sat P f args [] ret hp') (ha : Reps (Old W) W NoLoc args us) :
    Calls P f us.toArray W fun e w' => ∃ v D' β', e = .returned v ∧ Rep D' w' β' ret v ∧ Below W.heap.size W w' := by
  refine (h (Old W) NoLoc W us ha ⟨fun l b hl => (by cases hl), fun l l' b b' L L' hl => (by cases hl)⟩ (fun g hg => hg) (fun l hl => absurd rfl hl)).mono ?_
  rintro e w' ⟨v, D', β', he, ha⟩
  refine ⟨v, D', β', he, ha.ret, ha.os, ha.tape, ha.output, ha.size, fun k hk => ha.block k hk ?_⟩
  rintro ⟨l, b, L, hl, _⟩
  cases hl
theorem law_true {P : Program} {f : FuncId} {args : List SV} {us : List Value} {ret : SV} {hp' : List (Nat × SBlk)} {W : World} (h : Sat P f args [] ret hp') (hr : ret = .bl true ∨ ret = .v (.bool true)) (ha : Reps (Old W) W NoLoc args us) :
    Calls P f us.toArray W fun e w' => e = .returned (.bool true) ∧ Below W.heap.size W w' := by
  refine (calls_of_sat h ha).mono ?_
  rintro e w' ⟨v, D', β', he, hv, hb⟩
  rcases hr with rfl | rfl <;> (simp only [Rep] at hv; subst hv; exact ⟨he, hb⟩)
theorem runs_true {P : Program} {Γ : FuncId → Option Ctr} (hm : P.follows .mixedOrders = true) {lim k : Nat} (hΓ : ∀ f c, Γ f = some c → Sound P f c) {f : FuncId} (h : runs P Γ lim k f = true) (W : World) :
    Calls P f #[] W fun e w' => e = .returned (.bool true) ∧ Below W.heap.size W w' := by
  obtain ⟨ret, hp', hs, hr⟩ := runs_ok hm hΓ h
  exact law_true (us := []) hs hr (by simp only [Reps])
theorem dat_ints {W : World} {β : Nat → Option Loc} {A : Option Addr} {n cap : Nat} {zs : List Int} (h : IntsIn W A n cap zs) : Rep (Old W) W β (.dat (.ints .i64 (zs.take n))) (.slice A n cap) := by
  have hl := h.len
  have hle := h.le
  have hlen : (zs.take n).length = n := by simp; omega
  simp only [Rep, RepDat, SliceAt, Dat.len, Dat.wd, hlen]
  refine ⟨A, cap, rfl, hle, fun hn => ?_⟩
  obtain ⟨b, off, hA, hb, hc⟩ := h.at_ (by omega)
  refine ⟨b, off, hA, hb, fun i j hi hj => ?_⟩
  obtain rfl : j = 0 := by omega
  refine ⟨_, by simpa using hc i (by omega), ?_⟩
  simp only [Dat.ok, List.getD_eq_getElem?_getD, List.getElem?_take, hi, if_true]
end Go.Proofs.Ytafabheehkmfhaa
/-
  Chapter 8: the laws on what is written and predefined hold. Conditions: each theorem's own.
-/
namespace Go.Proofs.Ytafabheehkmfhaa
open Go Go.RowKit
set_option linter.unusedVariables false
set_option linter.unusedSimpArgs false
set_option maxRecDepth 100000
theorem preP_len (k : Int) : (preP k).length ≤ 256 := by
  unfold preP
  cases k == 0
  · cases k == 1
    · cases k == 2
      · show [].length ≤ 256
        decide
      · show pMatch.length ≤ 256
        decide
    · show pOffset.length ≤ 256
      decide
  · show pLits.length ≤ 256
    decide
theorem awake8_v : awake8_t := by
  unfold awake8_t
  decide +kernel
theorem lawPre_v (k : Int) (hk : inW k = true) : lawPre_t k := by
  unfold lawPre_t
  have h : modI k 3 = 0 ∨ modI k 3 = 1 ∨ modI k 3 = 2 := by
    unfold modI
    have h1 := Int.emod_nonneg k (show (3 : Int) ≠ 0 by omega)
    have h2 := Int.emod_lt_of_pos k (show (0 : Int) < 3 by omega)
    simp only [show decide ((3 : Int) < 1) = false from rfl, cond_false]
    omega
  refine ⟨hk, by decide, ?_⟩
  rcases h with h | h | h <;> (rw [h]; decide +kernel)
theorem eqI_refl (l : List Int) : eqI l l = true := by unfold eqI; simp
theorem lawWr_v (g : Int) (l : List Int) (g2 : Int) (l2 : List Int) (k : Int) : lawWr_t g l g2 l2 k := by
  unfold lawWr_t
  refine ⟨fun _ => rfl, fun h => ⟨fun _ => rfl, fun h2 => ?_⟩⟩
  simp only [gt_iff_lt, decide_eq_false_iff_not] at h h2
  have hl : l.length ≤ 4294967296 := by omega
  have hp : (preP k).length ≤ 4294967296 := by have := preP_len k; omega
  simp [hl, hp, eqI_refl]
/-! ### the laws -/
theorem awake8_sound : Sound Try.prog 40 sAwake.ctr := sAwake.sound (by kernel_rfl) sAwake_enc fun _ hc => satG G8i_ok mixed Try.func40 awake8_e awake8_v
theorem G8j_ok : AllOk Try.prog G8j := .cons awake8_sound G8i_ok
theorem pre_any (k : Int) (W : World) (hk : InR k) : Calls Try.prog 8 #[.int .i64 k] W fun e w' => e = .returned (.bool true) ∧ Below W.heap.size W w' :=
  law_true (us := [.int .i64 k]) (satG G8j_ok mixed Try.func8 (lawPre_e k) (lawPre_v k (by unfold InR at hk; simp [inW]; omega))) (.inr rfl) (by simp [Reps, Rep])
theorem wr_any (g : Int) (A : Option Addr) (n cap : Nat) (zs : List Int) (g2 : Int) (A2 : Option Addr) (n2 cap2 : Nat) (zs2 : List Int) (k : Int) (W : World) (hg : InR g) (hI : IntsIn W A n cap zs) (hg2 : InR g2) (hI2 : IntsIn W A2 n2 cap2 zs2) (hk : InR k) :
    Calls Try.prog 9 #[.agg #[.int .i64 g, .slice A n cap], .agg #[.int .i64 g2, .slice A2 n2 cap2], .int .i64 k] W fun e w' => e = .returned (.bool true) ∧ Below W.heap.size W w' := by
  refine law_true (us := [.agg #[.int .i64 g, .slice A n cap], .agg #[.int .i64 g2, .slice A2 n2 cap2], .int .i64 k]) (satG G8j_ok mixed Try.func9 (lawWr_e g (zs.take n) g2 (zs2.take n2) k) (lawWr_v g _ g2 _ k)) (.inr rfl) ?_
  simp only [Reps]
  exact ⟨_, _, rfl, ⟨[_, _], rfl, _, _, rfl, rfl, _, _, rfl, dat_ints hI, rfl⟩, _, _, rfl, ⟨[_, _], rfl, _, _, rfl, rfl, _, _, rfl, dat_ints hI2, rfl⟩, _, _, rfl, rfl, rfl⟩
end Go.Proofs.Ytafabheehkmfhaa
/-
  Chapter 8: a value read by the reference. Conditions: each theorem's own.
-/
namespace Go.Proofs.Ytafabheehkmfhaa
open Go Go.RowKit
set_option linter.unusedVariables false
set_option linter.unusedSimpArgs false
set_option maxRecDepth 100000
theorem peekN_join (s : ByteArray) (b n m : Nat) : peekN s b (n + m) = peekN s b n + peekN s (b + n) m * 2 ^ n := by
  unfold peekN
  rw [Nat.pow_add 2 n m, Nat.mod_mul, Nat.div_div_eq_div_mul, ← Nat.pow_add, Nat.mul_comm (2 ^ n)]
theorem rchk_mk {s : ByteArray} {b : Int} (h1 : s.size ≤ 1048576) (h2 : 0 ≤ b) (h3 : b ≤ 8 * (s.size : Int)) : rchk s b = 0 := by
  unfold rchk
  rw [if_neg (by omega), if_neg (by omega)]
theorem tk_mk {r : R2} {n : Int} (h1 : r.1.size ≤ 1048576) (h2 : 0 ≤ r.2) (h3 : 0 ≤ n) (h4 : n ≤ 32) (h5 : r.2 + n ≤ 8 * (r.1.size : Int)) : takeT r n = ((r.1, r.2 + n), ((peekN r.1 r.2.toNat n.toNat : Nat) : Int), 0) := by
  have ha : askE r.1 r.2 n = 0 := by unfold askE; rw [if_pos (rchk_mk h1 h2 (by omega)), if_neg (by omega)]
  unfold takeT
  rw [if_pos (by unfold takeE; rw [if_neg (by omega)]; exact ha)]
theorem tk_short {r : R2} {n : Int} (h1 : r.1.size ≤ 1048576) (h2 : 0 ≤ r.2) (h3 : 0 ≤ n) (h4 : n ≤ 32) (h6 : r.2 ≤ 8 * (r.1.size : Int)) (h5 : 8 * (r.1.size : Int) < r.2 + n) : takeT r n = ((⟨#[]⟩, 0), 0, 5) := by
  have ha : askE r.1 r.2 n = 0 := by unfold askE; rw [if_pos (rchk_mk h1 h2 h6), if_neg (by omega)]
  have he : takeE r.1 r.2 n = 5 := by unfold takeE; rw [if_pos ⟨ha, h5⟩]
  unfold takeT
  rw [if_neg (by omega), he]
/-- a value's bits in one go -/
theorem tk_join {r : R2} {B : Int} (hB1 : 1 ≤ B) (hB2 : B ≤ 13) (e1 : (takeT r (B - 1)).2.2 = 0) :
    ((takeT (takeT r (B - 1)).1 1).2.2 = 0 ∧ takeT r B = ((takeT (takeT r (B - 1)).1 1).1, (takeT r (B - 1)).2.1 + (takeT (takeT r (B - 1)).1 1).2.1 * 2 ^ (B - 1).toNat, 0)) ∨
    ((takeT (takeT r (B - 1)).1 1).2.2 ≠ 0 ∧ (takeT r B).2.2 ≠ 0) := by
  have T := tk_ok e1
  have b0 := T.b0
  have b1 := T.b1
  have sz := T.sz
  rw [T.rd]
  by_cases h : r.2 + B ≤ 8 * (r.1.size : Int)
  · left
    have h2 : takeT (r.1, r.2 + (B - 1)) 1 = _ := tk_mk (r := (r.1, r.2 + (B - 1))) sz (by dsimp only; omega) (by omega) (by omega) (by dsimp only; omega)
    have h1 : takeT r B = _ := tk_mk sz b0 (by omega) (by omega) h
    rw [h1, h2, T.vl]
    refine ⟨rfl, ?_⟩
    have e : B.toNat = (B - 1).toNat + 1 := by omega
    have e2 : (r.2 + (B - 1)).toNat = r.2.toNat + (B - 1).toNat := by omega
    rw [e, peekN_join, e2]
    dsimp only
    rw [show r.2 + (B - 1) + 1 = r.2 + B by omega]
    congr 2
  · right
    rw [tk_short (r := (r.1, r.2 + (B - 1))) sz (by dsimp only; omega) (by omega) (by omega) (by dsimp only; omega) (by dsimp only; omega), tk_short sz b0 (by omega) (by omega) (by omega) (by omega)]
    exact ⟨by show ¬ (5 : Int) = 0; decide, by show ¬ (5 : Int) = 0; decide⟩
theorem rval_v (g : Int) (s : ByteArray) (b : Int) (hs : s.size ≤ 9223372036854775807) (g0 : 0 ≤ g) (g1 : g ≤ 4096) : rval_t g s b := by
  have S := shB_ok g0 g1
  have hA5 := S.b1
  have hA6 := S.b2
  have lo := S.lo
  have hi := S.hi
  have db := S.dbl
  have et := shT_eq g
  have m13 := pow_mono (show (shB g).toNat ≤ 13 by omega)
  have m0 := pow_pos' (shB g - 1).toNat
  have w0 : IntKind.wrap IntKind.i64 (g + 1) = g + 1 := wr (by omega) (by omega)
  have w2 : IntKind.wrap IntKind.i64 (shB g - 1) = shB g - 1 := wr (by omega) (by omega)
  have w4 : hiI (g + 1) + 1 = shB g := rfl
  have w5 : IntKind.wrap IntKind.u64 (shB g) = shB g := wru (by omega) (by omega)
  have w6 : IntKind.wrap IntKind.u64 (shB g - 1) = shB g - 1 := wru (by omega) (by omega)
  have w7 : IntKind.wrap IntKind.i64 (2 ^ (shB g).toNat - 1) = 2 ^ (shB g).toNat - 1 := wr (by omega) (by omega)
  have w8 : IntKind.wrap IntKind.i64 (2 ^ (shB g).toNat - 1 - (g + 1)) = shT g := wr (n := shT g) (by omega) (by omega)
  unfold rval_t
  simp only [w0, w4, w2, w5, w6, shl1 (show 0 ≤ shB g by omega) (show shB g ≤ 62 by omega), w7, w8, shl1 (show 0 ≤ shB g - 1 by omega) (show shB g - 1 ≤ 62 by omega), decide_eq_true_eq, decide_eq_false_iff_not, ge_iff_le]
  have no : ((0 : Int) != 0) = false := rfl
  have yes : ((23 : Int) != 0) = true := rfl
  refine ⟨by omega, by omega, fun e1 => ⟨hs, fun h => absurd (no ▸ h) (by decide), fun _ => ⟨fun c => ?_, fun c => ⟨fun e2 => ⟨hs, by omega, fun d => ?_, fun d => ?_⟩, fun e2 => ⟨hs, by omega, fun d => ?_, fun d => ?_⟩⟩⟩⟩, fun e1 => ⟨hs, fun _ => ?_, fun h => absurd (yes ▸ h) (by decide)⟩⟩
  · rw [val_2 e1 c]
    exact ⟨fun _ => by ((repeat' (refine And.intro ?_ ?_)) <;> first | rfl | exact True.intro | omega | (rw [wr (by omega) (by omega)]; done) | (rw [wr (by omega) (by omega)]; first | rfl | omega | (simp; done))), fun h => absurd rfl h⟩
  · rcases tk_join hA5 hA6 e1 with ⟨k1, k2⟩ | ⟨k1, k2⟩
    · rw [k2] at d ⊢
      rw [val_4 e1 c k1]
      have ef : fixV g ((takeT (s, b) (shB g - 1)).2.1 + (takeT (takeT (s, b) (shB g - 1)).1 1).2.1 * 2 ^ (shB g - 1).toNat) = (takeT (s, b) (shB g - 1)).2.1 + (takeT (takeT (s, b) (shB g - 1)).1 1).2.1 * 2 ^ (shB g - 1).toNat - shT g := by unfold fixV; rw [decide_eq_true d]; rfl
      rw [ef]
      have T := tk_ok (r := (s, b)) (n := shB g) e2
      have v1 := T.v1
      rw [k2] at v1
      dsimp only at d v1 ⊢
      rw [wr (by omega) (by omega)]
      exact ⟨fun _ => by ((repeat' (refine And.intro ?_ ?_)) <;> first | rfl | exact True.intro | omega | (rw [wr (by omega) (by omega)]; done) | (rw [wr (by omega) (by omega)]; first | rfl | omega | (simp; done))), fun h => absurd rfl h⟩
    · exact absurd e2 k2
  · rcases tk_join hA5 hA6 e1 with ⟨k1, k2⟩ | ⟨k1, k2⟩
    · rw [k2] at d ⊢
      rw [val_4 e1 c k1]
      have ef : fixV g ((takeT (s, b) (shB g - 1)).2.1 + (takeT (takeT (s, b) (shB g - 1)).1 1).2.1 * 2 ^ (shB g - 1).toNat) = (takeT (s, b) (shB g - 1)).2.1 + (takeT (takeT (s, b) (shB g - 1)).1 1).2.1 * 2 ^ (shB g - 1).toNat := by unfold fixV; rw [decide_eq_false d]; rfl
      rw [ef]
      exact ⟨fun _ => by ((repeat' (refine And.intro ?_ ?_)) <;> first | rfl | exact True.intro | omega | (rw [wr (by omega) (by omega)]; done) | (rw [wr (by omega) (by omega)]; first | rfl | omega | (simp; done))), fun h => absurd rfl h⟩
    · exact absurd e2 k2
  · omega
  · rcases tk_join hA5 hA6 e1 with ⟨k1, k2⟩ | ⟨k1, k2⟩
    · exact absurd (by rw [k2]) e2
    · rw [val_3 e1 c k1]
      exact ⟨fun h => absurd h k1, fun _ => by ((repeat' (refine And.intro ?_ ?_)) <;> first | rfl | exact True.intro | omega | (rw [wr (by omega) (by omega)]; done) | (rw [wr (by omega) (by omega)]; first | rfl | omega | (simp; done)))⟩
  · rw [val_1 e1]
    exact ⟨fun h => absurd h e1, fun _ => by ((repeat' (refine And.intro ?_ ?_)) <;> first | rfl | exact True.intro | omega | (rw [wr (by omega) (by omega)]; done) | (rw [wr (by omega) (by omega)]; first | rfl | omega | (simp; done)))⟩
/-! ### tables -/
theorem dtake_sound : Sound Try.prog 86 sDTake.ctr := sDTake.sound (by kernel_rfl) sDTake_enc fun ⟨n, s, b⟩ hc => by
  have h0 := hc _ (.head _)
  exact satG G8j_ok mixed Try.func86 (dtake_e n s b) (dtake_v n s b h0)
theorem rtake8_sound : Sound Try.prog 77 sRTake.ctr := sRTake.sound (by kernel_rfl) sRTake_enc fun ⟨n, s, b⟩ hc => by
  have h0 := hc _ (.head _)
  exact satG G8j_ok mixed Try.func77 (rtake8_e n s b) (rtake_v n s b h0)
theorem G8k_ok : AllOk Try.prog G8k := .cons dtake_sound <| .cons rtake8_sound G8j_ok
theorem dread_sound : Sound Try.prog 75 sDRead.ctr := sDRead.sound (by kernel_rfl) sDRead_enc fun ⟨m, y, s, b⟩ hc => by
  have h0 := hc _ (.head _)
  have h1 := hc _ (.tail _ (.head _))
  have h2 := hc _ (.tail _ (.tail _ (.head _)))
  have h3 := hc _ (.tail _ (.tail _ (.tail _ (.head _))))
  exact satG G8k_ok mixed Try.func75 (dread_e m y s b) (dread_v m y s b h0 h1 h2 h3)
theorem rval_sound : Sound Try.prog 89 sRVal.ctr := sRVal.sound (by kernel_rfl) sRVal_enc fun ⟨g, s, b⟩ hc => by
  have h0 := hc _ (.head _)
  have h1 := hc _ (.tail _ (.head _))
  have h2 := hc _ (.tail _ (.tail _ (.head _)))
  exact satG G8k_ok mixed Try.func89 (rval_e g s b) (rval_v g s b h0 h1 h2)
theorem G8l_ok : AllOk Try.prog G8l := .cons dread_sound <| .cons rval_sound G8k_ok
end Go.Proofs.Ytafabheehkmfhaa
/-
  Chapter 8: the reference's probabilities; Read. Conditions: each theorem's own.
-/
namespace Go.Proofs.Ytafabheehkmfhaa
open Go Go.RowKit
set_option linter.unusedVariables false
set_option linter.unusedSimpArgs false
set_option maxRecDepth 100000
theorem rprobs_v (g y : Int) (s : ByteArray) (b : Int) (hs : s.size ≤ 9223372036854775807) (g0 : 0 ≤ g) (g1 : g ≤ 4096) (hy1 : 1 ≤ y) (hy2 : y ≤ 256) (hb0 : 0 ≤ b) (hb1 : b ≤ 8388608) : rprobs_t g y s b := by
  unfold rprobs_t
  generalize hfin : rdR y (y.toNat + 1) (s, b) g [] = fin
  simp only [e00, n00, e23, n23, e31, n31, Bool.true_eq_false, Bool.false_eq_true, true_implies, false_implies, eq_self, true_and, and_true, and_self, gt_iff_lt, ge_iff_le, decide_eq_true_eq, decide_eq_false_iff_not, toNat_cast]
  refine ⟨⟨(y.toNat + 1, (s, b), g, []), ⟨hfin, by simp; omega, by simp; omega, g0, g1, hs, hb0, hb1⟩, by ((repeat' (refine And.intro ?_ ?_)) <;> first | rfl | exact True.intro | omega | (rw [wr (by omega) (by omega)]; done) | (rw [wr (by omega) (by omega)]; first | rfl | omega | (simp; done)))⟩, ?_⟩
  rintro ⟨f, ⟨s1, b1⟩, left, out⟩ ⟨hR, hf, ho, hl0, hl1, hs1, hb2, hb3⟩
  dsimp only at hR hf ho hl0 hl1 hs1 hb2 hb3 ⊢
  obtain ⟨f, rfl⟩ : ∃ f', f = f' + 1 := ⟨f - 1, by omega⟩
  refine ⟨fun hlt => ⟨fun e1 => ⟨hs1, hl0, hl1, hb2, by omega, fun hl => ?_, fun hl => ?_⟩, fun e1 => ?_⟩, fun hge => ?_⟩
  · have hv : valR (s1, b1) left = ((valR (s1, b1) left).1, (valR (s1, b1) left).2.1, 0) := by rw [← e1]
    rw [← hR, rd_full hlt hv hl]
    exact ⟨fun h => absurd h (by show ¬ (23 : Int) = 0; decide), fun _ => by trivial⟩
  · have hv0 : valR (s1, b1) left = ((valR (s1, b1) left).1, (valR (s1, b1) left).2.1, 0) := by rw [← e1]
    obtain ⟨r', v, hv⟩ : ∃ r' v, valR (s1, b1) left = (r', v, 0) := ⟨_, _, hv0⟩
    clear hv0 e1
    have VV := vl_ok hl0 hl1 hv
    have v0 := VV.v0
    have v1 := VV.v1
    have vb0 := VV.b0
    have vb1 := VV.b1
    have vsz := VV.sz
    have vst := VV.st
    dsimp only at vb1 vsz vst
    have hl' : (out.length : Int) ≠ y := by simpa using hl
    have wv : IntKind.wrap IntKind.i64 (v - 1) = v - 1 := wr (by omega) (by omega)
    have hpt := pt_ge (v - 1) (by omega)
    have hpt0 := pt_nonneg (v - 1)
    have wm : IntKind.wrap IntKind.i64 (left - pt (v - 1)) = left - pt (v - 1) := wr (by omega) (by omega)
    have hstr : r'.1.size ≤ 9223372036854775807 := by rw [vst]; exact hs1
    simp only [hv, wv, pts_one, wm]
    refine ⟨by omega, by simp, by simp only [List.all_cons, List.all_nil, Bool.and_true, decide_eq_true_eq]; omega, (f, left - pt (v - 1)), ⟨(v - 1 == 0, y.toNat + 1, r', out ++ [v - 1]), ⟨?_, ?_, ?_, ?_, hstr, vb0, by (try dsimp only); omega⟩, by ((repeat' (refine And.intro ?_ ?_)) <;> first | rfl | exact True.intro | omega | (rw [wr (by omega) (by omega)]; done) | (rw [wr (by omega) (by omega)]; first | rfl | omega | (simp; done)))⟩, ?_⟩
    · dsimp only
      cases hz : (v - 1 == 0)
      · have hv1 : v ≠ 1 := by have : v - 1 ≠ 0 := by simpa using hz
                               omega
        rw [rd_step hlt hv hl hv1] at hR
        rw [← hpt.2.1 (by omega)] at hR
        exact hR
      · have hv1 : v - 1 = 0 := by simpa using hz
        have hv2 : v = 1 := by omega
        subst hv2
        rw [rd_zero hlt hv hl] at hR
        have : pt (1 - 1) = 0 := rfl
        rw [this, Int.sub_zero]
        exact hR
    · intro _
      simp only [List.length_append, List.length_singleton]; omega
    · simp only [List.length_append, List.length_singleton]; omega
    · simp only [List.length_append, List.length_singleton]; omega
    · rintro ⟨again, f2, r2, out2⟩ ⟨hZ, k1, k2, k3, k4, k5, k6⟩
      dsimp only at hZ k1 k2 k3 k4 k5 k6 ⊢
      refine ⟨fun ha => ⟨fun e => ?_, fun e => ?_⟩, fun ha => ?_⟩
      · subst ha
        have k1 := k1 rfl
        obtain ⟨f2, rfl⟩ : ∃ f', f2 = f' + 1 := ⟨f2 - 1, by omega⟩
        have hZ' : contZ y f (left - pt (v - 1)) (flR y (f2 + 1) r2 out2) = fin := hZ
        have e : (takeT r2 2).2.2 = 0 := e
        have T3 := tk_ok e
        have u0 := T3.v0
        have u1 := T3.v1
        have ub0 := T3.b0
        have ub1 := T3.b1
        have usz := T3.sz
        have e4 : (2 : Int) ^ (2 : Int).toNat = 4 := rfl
        have wl : IntKind.wrap IntKind.i64 ((out2.length : Int) + (takeT r2 2).2.1) = (out2.length : Int) + (takeT r2 2).2.1 := wr (by omega) (by omega)
        simp only [wl]
        refine ⟨k4, fun hc => ?_, fun hc => ⟨by omega, by show (takeT r2 2).2.1 ≤ 65536; omega, ?_⟩⟩
        · rw [fl_full e hc, contZ_err (by show ¬ (23 : Int) = 0; decide)] at hZ'
          rw [← hZ']
          exact ⟨fun h => absurd h (by show ¬ (23 : Int) = 0; decide), fun _ => by trivial⟩
        · rw [fl_step e hc] at hZ'
          refine ⟨((takeT r2 2).2.1 == 3, f2, (takeT r2 2).1, out2 ++ List.replicate (takeT r2 2).2.1.toNat 0), ⟨hZ', ?_, ?_, ?_, by dsimp only; rw [T3.rd]; exact k4, by dsimp only; rw [T3.rd]; dsimp only; omega, by dsimp only; rw [T3.rd]; dsimp only; omega⟩, ?_, by ((repeat' (refine And.intro ?_ ?_)) <;> first | rfl | exact True.intro | omega | (rw [wr (by omega) (by omega)]; done) | (rw [wr (by omega) (by omega)]; first | rfl | omega | (simp; done)))⟩
          · dsimp only
            intro h3
            have h3' : (takeT r2 2).2.1 = 3 := by simpa using h3
            rw [h3']
            simp only [List.length_append, List.length_replicate]
            omega
          · simp only [List.length_append, List.length_replicate]; omega
          · simp only [List.length_append, List.length_replicate]; omega
          · show (cond ((takeT r2 2).2.1 == 3) (f2 + 1) 0) < f2 + 1 + 1
            cases (takeT r2 2).2.1 == 3
            · simp only [cond_false]; omega
            · simp only [cond_true]; omega
      · subst ha
        have k1 := k1 rfl
        obtain ⟨f2, rfl⟩ : ∃ f', f2 = f' + 1 := ⟨f2 - 1, by omega⟩
        have hZ' : contZ y f (left - pt (v - 1)) (flR y (f2 + 1) r2 out2) = fin := hZ
        have e : (takeT r2 2).2.2 ≠ 0 := e
        rw [fl_err e, contZ_err e] at hZ'
        rw [← hZ']
        exact ⟨k4, fun h => absurd h e, fun _ => by trivial⟩
      · subst ha
        have hZ' : rdR y f r2 (left - pt (v - 1)) out2 = fin := hZ
        exact ⟨(f, r2, left - pt (v - 1), out2), ⟨hZ', k2, k3, by (try dsimp only); omega, by (try dsimp only); omega, k4, k5, k6⟩, by show f < f + 1; omega, by ((repeat' (refine And.intro ?_ ?_)) <;> first | rfl | exact True.intro | omega | (rw [wr (by omega) (by omega)]; done) | (rw [wr (by omega) (by omega)]; first | rfl | omega | (simp; done)))⟩
  · rw [← hR, rd_err hlt e1]
    exact ⟨hs1, hl0, hl1, hb2, by omega, fun h => absurd h e1, fun _ => by trivial⟩
  · rw [rd_end hge] at hR
    rw [← hR]
    exact ⟨fun _ => by ((repeat' (refine And.intro ?_ ?_)) <;> first | rfl | exact True.intro | omega | (rw [wr (by omega) (by omega)]; done) | (rw [wr (by omega) (by omega)]; first | rfl | omega | (simp; done))), fun h => absurd rfl h⟩
end Go.Proofs.Ytafabheehkmfhaa
/-
  errors.Is at nil and at a broken error, against an Errno. Conditions: none.
-/
namespace Go.Proofs.Ytafabheehkmfhaa
open Go.RowKit Go.Extern.Stop Go.Stop Go.Extern
set_option linter.unusedVariables false
set_option linter.unusedSimpArgs false
theorem isTypeOf (v : Value) (w : World) : (Extern.ReflectliteType.typeOf #[.iface 25 v]).run Try.prog w = .ok (.iface 118 (.agg #[.pointer (some ⟨0, 25, none⟩)])) w := by kernel_rfl
def compFn : Array Value → Sem Value := Extern.ReflectliteType.method fun t => do Go.Extern.Rtype.noPackHeld "Comparable" t; pure (.bool (← typeInfo t).comparable)
theorem isComparable (w : World) : (compFn #[.agg #[.pointer (some ⟨0, 25, none⟩)]]).run Try.prog w = .ok (.bool true) w := by kernel_rfl
theorem isMethodComparable (v : Value) (w : World) : (Go.method 112 118 v "Comparable").run Try.prog w = .ok (116, v) w := by kernel_rfl
theorem noIsB (v : Value) (w : World) : (Instr.typeAssert (.iface 110 v) 92 120 true).run Try.prog w = .ok (.tuple #[.nilIface, .bool false]) w := run_typeAssert_lacksB Try.underlying120 (by kernel_rfl) (by kernel_rfl) v _ w
theorem noIsE (v : Value) (w : World) : (Instr.typeAssert (.iface 25 v) 92 120 true).run Try.prog w = .ok (.tuple #[.nilIface, .bool false]) w := run_typeAssert_lacksB Try.underlying120 (by kernel_rfl) (by kernel_rfl) v _ w
theorem noUnE (v : Value) (w : World) : (Instr.typeAssert (.iface 25 v) 92 123 true).run Try.prog w = .ok (.tuple #[.nilIface, .bool false]) w := run_typeAssert_lacksB Try.underlying123 (by kernel_rfl) (by kernel_rfl) v _ w
theorem noUnsE (v : Value) (w : World) : (Instr.typeAssert (.iface 25 v) 92 125 true).run Try.prog w = .ok (.tuple #[.nilIface, .bool false]) w := run_typeAssert_lacksB Try.underlying125 (by kernel_rfl) (by kernel_rfl) v _ w
theorem hasUnB (v : Value) (w : World) : (Instr.typeAssert (.iface 110 v) 92 123 true).run Try.prog w = .ok (.tuple #[.iface 110 v, .bool true]) w := run_typeAssert_hasB Try.underlying123 (by kernel_rfl) v _ w
theorem methodUn (v : Value) (w : World) : (Go.method 123 110 v "Unwrap").run Try.prog w = .ok (112, v) w := by kernel_rfl
theorem eqE (a b : Int) (w : World) : (binOp .eql 92 (.iface 25 (.int .i64 a)) (.iface 25 (.int .i64 b))).run Try.prog w = .ok (.bool (a == b)) w := Lib.run_eql_iface_int w a b Try.underlying92 (by kernel_rfl) Try.underlying25
theorem is_nil (k : Int) (w : World) : Calls Try.prog 76 #[.nilIface, .iface 25 (.int .i64 k)] w fun e w' => e = .returned (.bool false) ∧ w' = w := by
  have hn := run_eql_iface_nil_left (P := Try.prog) w 25 (.int .i64 k) Try.underlying92
  go_enter Try.func76, Try.ntmps76
  go_wp2
  go_ret
  exact ⟨rfl, rfl⟩
theorem is_broken (e k : Int) (w : World) : Calls Try.prog 76 #[.iface 110 (.agg #[.iface 25 (.int .i64 e)]), .iface 25 (.int .i64 k)] w fun x w' => x = .returned (.bool (e == k)) ∧ Below w.heap.size w w' := by
  have h8 := @run_callFunc_extern Try.prog 87 _ Extern.ReflectliteType.typeOf Try.func87 (by kernel_rfl) (by kernel_rfl) (by kernel_rfl) (by kernel_rfl)
  have h32 := @run_callFunc_extern Try.prog 116 _ compFn Try.func116 (by kernel_rfl) (by kernel_rfl) (by kernel_rfl) (by kernel_rfl)
  have tT := isTypeOf
  have cT := isComparable
  have mR := isMethodComparable
  have n1 := noIsB
  have n2 := noIsE
  have n3 := noUnE
  have n4 := noUnsE
  have n5 := hasUnB
  have n6 := methodUn
  have hq := eqE e k
  have hty := run_eql_iface_types (P := Try.prog) 110 25 (.agg #[.iface 25 (.int .i64 e)]) (.int .i64 k) Try.underlying92 (by decide)
  cases hb : (e == k)
  · rw [hb] at hq
    go_enter Try.func76, Try.ntmps76
    go_wp2
    refine wp_loop_rounds 2 ?_
    rw [rounds_succ]
    go_wp2
    rw [rounds_succ]
    go_wp2
    go_ret
    exact ⟨rfl, by go_grown⟩
  · rw [hb] at hq
    go_enter Try.func76, Try.ntmps76
    go_wp2
    refine wp_loop_rounds 2 ?_
    rw [rounds_succ]
    go_wp2
    rw [rounds_succ]
    go_wp2
    go_ret
    exact ⟨rfl, by go_grown⟩
end Go.Proofs.Ytafabheehkmfhaa
/-
  Chapter 8: Read. Conditions: each theorem's own.
-/
namespace Go.Proofs.Ytafabheehkmfhaa
open Go Go.RowKit
set_option linter.unusedVariables false
set_option linter.unusedSimpArgs false
set_option maxRecDepth 100000
/-- where a reader stands behind what was read -/
structure Stp (r r' : R2) : Prop where
  st : r'.1 = r.1
  lo : r.2 ≤ r'.2
  hi : r'.2 ≤ 8 * (r.1.size : Int)
theorem fl_st {y : Int} : ∀ (f : Nat) (r : R2) (out : List Int), (flR y f r out).2.2 = 0 → Stp r (flR y f r out).1
  | 0, r, out, h => by simp [flR] at h
  | f + 1, r, out, h => by
    by_cases e : (takeT r 2).2.2 = 0
    · have T := tk_ok e
      have b0 := T.b0
      have b1 := T.b1
      by_cases hc : y < out.length + (takeT r 2).2.1
      · rw [fl_full e hc] at h; exact absurd h (by show ¬ (23 : Int) = 0; decide)
      · rw [fl_step e hc] at h ⊢
        cases h3 : (takeT r 2).2.1 == 3
        · rw [h3] at h
          simp only [cond_false]
          rw [T.rd]
          exact ⟨rfl, by dsimp only; omega, b1⟩
        · rw [h3] at h
          simp only [cond_true] at h ⊢
          obtain ⟨q1, q2, q3⟩ := fl_st f _ _ h
          rw [T.rd] at q1 q2 q3
          dsimp only at q1 q2 q3
          rw [T.rd]
          exact ⟨q1, by omega, q3⟩
    · rw [fl_err e] at h; exact absurd h e
theorem rd_st {y : Int} : ∀ (f : Nat) (r : R2) (left : Int) (out : List Int), 0 ≤ left → left ≤ 4096 → r.2 ≤ 8 * (r.1.size : Int) → (rdR y f r left out).2.2 = 0 → Stp r (rdR y f r left out).1
  | 0, r, left, out, h0, h1, hb, h => by simp [rdR] at h
  | f + 1, r, left, out, h0, h1, hb, h => by
    by_cases hl : 0 < left
    · by_cases e : (valR r left).2.2 = 0
      · obtain ⟨r', v, hv⟩ : ∃ r' v, valR r left = (r', v, 0) := ⟨_, _, by rw [← e]⟩
        have VV := vl_ok h0 h1 hv
        have v0 := VV.v0
        have v1 := VV.v1
        have vs := VV.st
        have vb := VV.b1
        have vl := VV.bl
        cases hy : ((out.length : Int) == y)
        · by_cases hv1 : v = 1
          · subst hv1
            rw [rd_zero hl hv hy] at h ⊢
            by_cases hz : (flR y (y.toNat + 1) r' (out ++ [1 - 1])).2.2 = 0
            · rw [contZ_ok hz] at h ⊢
              obtain ⟨q1, q2, q3⟩ := fl_st _ _ _ hz
              rw [vs] at q1 q3
              obtain ⟨p1, p2, p3⟩ := rd_st f _ _ _ h0 h1 (by rw [q1]; exact q3) h
              rw [q1] at p1 p3
              exact ⟨p1, by omega, p3⟩
            · rw [contZ_err hz] at h; exact absurd h hz
          · rw [rd_step hl hv hy hv1] at h ⊢
            obtain ⟨p1, p2, p3⟩ := rd_st f _ _ _ (by omega) (by omega) (by rw [vs]; exact vb) h
            rw [vs] at p1 p3
            exact ⟨p1, by omega, p3⟩
        · rw [rd_full hl hv hy] at h; exact absurd h (by show ¬ (23 : Int) = 0; decide)
      · rw [rd_err hl e] at h; exact absurd h e
    · rw [rd_end hl]
      exact ⟨rfl, Int.le_refl _, hb⟩
theorem rdA_st {r : R2} {m y : Int} (hm : m ≤ 12) (h : (rdA r m y).2.2 = 0) : Stp r (rdA r m y).1 ∧ 0 ≤ r.2 ∧ r.1.size ≤ 1048576 := by
  by_cases e : (takeT r 4).2.2 = 0
  · have T := tk_ok e
    have b0 := T.b0
    have b1 := T.b1
    have hl := logR_in e
    by_cases hc : m < logR r
    · rw [rdA_acc e hc] at h; exact absurd h (by show ¬ (31 : Int) = 0; decide)
    · rw [rdA_go e hc] at h ⊢
      have p12 := pow12 (g := logR r) (by omega)
      have p0 := pow_pos' (logR r).toNat
      obtain ⟨q1, q2, q3⟩ := rd_st _ _ _ _ (by omega) p12 (by rw [T.rd]; exact b1) h
      rw [T.rd] at q1 q2 q3
      dsimp only at q1 q2 q3
      rw [T.rd]
      exact ⟨⟨q1, by omega, q3⟩, b0, T.sz⟩
  · rw [rdA_err e] at h; exact absurd h e
theorem next_in {r r' : R2} (h : Stp r r') (h0 : 0 ≤ r.2) (h1 : r.1.size ≤ 1048576) : 0 ≤ (nextT r').1 ∧ (nextT r').1 ≤ 1048577 := by
  have s := h.st
  have l := h.lo
  have i := h.hi
  unfold nextT
  rw [if_pos (by unfold rchk; rw [s, if_neg (by omega), if_neg (by omega)])]
  dsimp only
  omega
theorem readF_bad {w : Int} {s : ByteArray} {a m y : Int} (h : rngE s a m y = true) : readF w s a m y = ((0, []), 0, 2, 0) := by unfold readF; rw [h]; rfl
theorem readF_ok {w : Int} {s : ByteArray} {a m y : Int} (h : rngE s a m y = false) (h2 : (rdA (win s a w, 0) m y).2.2 = 0) : readF w s a m y = ((logR (win s a w, 0), (rdA (win s a w, 0) m y).2.1), a + (nextT (rdA (win s a w, 0) m y).1).1, 0, 0) := by
  have hb : ((rdA (win s a w, 0) m y).2.2 == 0) = true := by simpa using h2
  unfold readF; rw [h, hb]; rfl
theorem readF_err {w : Int} {s : ByteArray} {a m y : Int} (h : rngE s a m y = false) (h2 : (rdA (win s a w, 0) m y).2.2 ≠ 0) : readF w s a m y = ((0, []), 0, cond ((rdA (win s a w, 0) m y).2.2 == 31) 31 23, a) := by
  have hb : ((rdA (win s a w, 0) m y).2.2 == 0) = false := by simpa using h2
  unfold readF; rw [h, hb]; rfl
theorem rng_in {s : ByteArray} {a m y : Int} (h1 : ¬ a < 0) (h2 : ¬ (s.size : Int) < a) (h3 : ¬ m < 5) (h4 : ¬ 12 < m) (h5 : ¬ y < 1) (h6 : ¬ 256 < y) : rngE s a m y = false := by
  unfold rngE
  rw [decide_eq_false h1, decide_eq_false h2, decide_eq_false h3, decide_eq_false h4, decide_eq_false h5, decide_eq_false h6]; rfl
theorem rng_out {s : ByteArray} {a m y : Int} (h : a < 0 ∨ (s.size : Int) < a ∨ m < 5 ∨ 12 < m ∨ y < 1 ∨ 256 < y) : rngE s a m y = true := by
  unfold rngE
  simp only [Bool.or_eq_true, decide_eq_true_eq]
  omega
theorem win_size (s : ByteArray) (a w : Int) (h : 0 ≤ a) : (win s a w).size ≤ s.size := by
  unfold win
  rw [ByteArray.size_extract]
  omega
theorem readP_v (s : ByteArray) (a m y : Int) (hs : s.size ≤ 1000000) : readP_t s a m y := by
  unfold readP_t
  simp only [e00, n00, e23, n23, e31, n31, Bool.true_eq_false, Bool.false_eq_true, true_implies, false_implies, eq_self, true_and, and_true, and_self, gt_iff_lt, ge_iff_le, decide_eq_true_eq, decide_eq_false_iff_not, toNat_cast]
  refine ⟨fun h => by rw [readF_bad (rng_out (.inl h))]; ((repeat' (refine And.intro ?_ ?_)) <;> first | rfl | exact True.intro | omega | (rw [wr (by omega) (by omega)]; done) | (rw [wr (by omega) (by omega)]; first | rfl | omega | (simp; done))), fun h1 => ⟨fun h => by rw [readF_bad (rng_out (.inr (.inl h)))]; ((repeat' (refine And.intro ?_ ?_)) <;> first | rfl | exact True.intro | omega | (rw [wr (by omega) (by omega)]; done) | (rw [wr (by omega) (by omega)]; first | rfl | omega | (simp; done))), fun h2 => ⟨fun h => by rw [readF_bad (rng_out (.inr (.inr (.inl h))))]; ((repeat' (refine And.intro ?_ ?_)) <;> first | rfl | exact True.intro | omega | (rw [wr (by omega) (by omega)]; done) | (rw [wr (by omega) (by omega)]; first | rfl | omega | (simp; done))), fun h3 => ⟨fun h => by rw [readF_bad (rng_out (.inr (.inr (.inr (.inl h)))))]; ((repeat' (refine And.intro ?_ ?_)) <;> first | rfl | exact True.intro | omega | (rw [wr (by omega) (by omega)]; done) | (rw [wr (by omega) (by omega)]; first | rfl | omega | (simp; done))), fun h4 => ⟨fun h => by rw [readF_bad (rng_out (.inr (.inr (.inr (.inr (.inl h))))))]; ((repeat' (refine And.intro ?_ ?_)) <;> first | rfl | exact True.intro | omega | (rw [wr (by omega) (by omega)]; done) | (rw [wr (by omega) (by omega)]; first | rfl | omega | (simp; done))), fun h5 => ⟨fun h => by rw [readF_bad (rng_out (.inr (.inr (.inr (.inr (.inr h))))))]; ((repeat' (refine And.intro ?_ ?_)) <;> first | rfl | exact True.intro | omega | (rw [wr (by omega) (by omega)]; done) | (rw [wr (by omega) (by omega)]; first | rfl | omega | (simp; done))), fun h6 => ?_⟩⟩⟩⟩⟩⟩
  have hr := rng_in h1 h2 h3 h4 h5 h6
  have hw : IntKind.wrap IntKind.i64 (a + 2000) = a + 2000 := wr (by omega) (by omega)
  have hsz := win_size s a 2000 (by omega)
  have hWin : s.extract a.toNat (min (s.size : Int) (a + 2000)).toNat = win s a 2000 := rfl
  simp only [hw, hWin]
  refine ⟨by omega, by omega, by omega, fun e => ⟨by omega, by omega, by omega, by omega, ?_⟩, fun e => ⟨by omega, by omega, by omega, by omega, fun e31 => ?_, fun e31 => ?_⟩⟩
  · rw [readF_ok hr e]
    obtain ⟨S, b0, sz⟩ := rdA_st (by omega) e
    have hn := next_in S b0 sz
    refine ⟨by rw [S.st]; dsimp only; omega, ?_⟩
    have hwn : IntKind.wrap IntKind.i64 (a + (nextT (rdA (win s a 2000, 0) m y).1).1) = a + (nextT (rdA (win s a 2000, 0) m y).1).1 := wr (by omega) (by omega)
    exact ⟨rfl, rfl, hwn, rfl, rfl⟩
  · rw [readF_err hr e, e31]
    exact ⟨rfl, rfl, rfl, rfl, rfl⟩
  · rw [readF_err hr e, e31]
    exact ⟨rfl, rfl, rfl, rfl, rfl⟩
theorem tk_n31 (r : R2) (n : Int) : (takeT r n).2.2 ≠ 31 := by
  have h : takeE r.1 r.2 n ≠ 31 := by
    unfold takeE askE rchk
    repeat' split
    all_goals omega
  unfold takeT
  split
  · show (0 : Int) ≠ 31; decide
  · exact h
theorem val_n31 (r : R2) (left : Int) : (valR r left).2.2 ≠ 31 := by
  unfold valR
  cases ((takeT r (shB left - 1)).2.2 == 0)
  · exact tk_n31 _ _
  · cases decide ((takeT r (shB left - 1)).2.1 < shT left)
    · cases ((takeT (takeT r (shB left - 1)).1 1).2.2 == 0)
      · exact tk_n31 _ _
      · show (0 : Int) ≠ 31; decide
    · exact tk_n31 _ _
theorem fl_n31 {y : Int} : ∀ (f : Nat) (r : R2) (out : List Int), (flR y f r out).2.2 ≠ 31
  | 0, r, out => by simp [flR]
  | f + 1, r, out => by
    unfold flR
    cases ((takeT r 2).2.2 == 0)
    · exact tk_n31 _ _
    · cases decide (y < out.length + (takeT r 2).2.1)
      · cases ((takeT r 2).2.1 == 3)
        · simp
        · exact fl_n31 f _ _
      · simp
theorem rd_n31 {y : Int} : ∀ (f : Nat) (r : R2) (left : Int) (out : List Int), (rdR y f r left out).2.2 ≠ 31
  | 0, r, left, out => by simp [rdR]
  | f + 1, r, left, out => by
    unfold rdR
    cases decide (0 < left)
    · simp
    · cases ((valR r left).2.2 == 0)
      · exact val_n31 _ _
      · cases ((out.length : Int) == y)
        · cases ((valR r left).2.1 == 1)
          · exact rd_n31 f _ _ _
          · cases h : ((flR y (y.toNat + 1) (valR r left).1 (out ++ [(valR r left).2.1 - 1])).2.2 == 0)
            · exact fl_n31 _ _ _
            · exact rd_n31 f _ _ _
        · simp
theorem readR_v (s : ByteArray) (a m y : Int) (hs : s.size ≤ 1000000) : readR_t s a m y := by
  unfold readR_t
  simp only [e00, n00, e23, n23, e31, n31, Bool.true_eq_false, Bool.false_eq_true, true_implies, false_implies, eq_self, true_and, and_true, and_self, gt_iff_lt, ge_iff_le, decide_eq_true_eq, decide_eq_false_iff_not, toNat_cast]
  refine ⟨fun h => by rw [readF_bad (rng_out (.inl h))]; ((repeat' (refine And.intro ?_ ?_)) <;> first | rfl | exact True.intro | omega | (rw [wr (by omega) (by omega)]; done) | (rw [wr (by omega) (by omega)]; first | rfl | omega | (simp; done))), fun h1 => ⟨fun h => by rw [readF_bad (rng_out (.inr (.inl h)))]; ((repeat' (refine And.intro ?_ ?_)) <;> first | rfl | exact True.intro | omega | (rw [wr (by omega) (by omega)]; done) | (rw [wr (by omega) (by omega)]; first | rfl | omega | (simp; done))), fun h2 => ⟨fun h => by rw [readF_bad (rng_out (.inr (.inr (.inl h))))]; ((repeat' (refine And.intro ?_ ?_)) <;> first | rfl | exact True.intro | omega | (rw [wr (by omega) (by omega)]; done) | (rw [wr (by omega) (by omega)]; first | rfl | omega | (simp; done))), fun h3 => ⟨fun h => by rw [readF_bad (rng_out (.inr (.inr (.inr (.inl h)))))]; ((repeat' (refine And.intro ?_ ?_)) <;> first | rfl | exact True.intro | omega | (rw [wr (by omega) (by omega)]; done) | (rw [wr (by omega) (by omega)]; first | rfl | omega | (simp; done))), fun h4 => ⟨fun h => by rw [readF_bad (rng_out (.inr (.inr (.inr (.inr (.inl h))))))]; ((repeat' (refine And.intro ?_ ?_)) <;> first | rfl | exact True.intro | omega | (rw [wr (by omega) (by omega)]; done) | (rw [wr (by omega) (by omega)]; first | rfl | omega | (simp; done))), fun h5 => ⟨fun h => by rw [readF_bad (rng_out (.inr (.inr (.inr (.inr (.inr h))))))]; ((repeat' (refine And.intro ?_ ?_)) <;> first | rfl | exact True.intro | omega | (rw [wr (by omega) (by omega)]; done) | (rw [wr (by omega) (by omega)]; first | rfl | omega | (simp; done))), fun h6 => ?_⟩⟩⟩⟩⟩⟩
  have hr := rng_in h1 h2 h3 h4 h5 h6
  have hw : IntKind.wrap IntKind.i64 (a + 600) = a + 600 := wr (by omega) (by omega)
  have hsz := win_size s a 600 (by omega)
  have hWin : s.extract a.toNat (min (s.size : Int) (a + 600)).toNat = win s a 600 := rfl
  simp only [hw, hWin]
  refine ⟨by omega, by omega, by omega, fun e => ⟨by omega, ?_⟩, fun e => ⟨by omega, ?_⟩⟩
  · have hl := logR_in e
    have hlw : IntKind.wrap IntKind.i64 (5 + (takeT (win s a 600, 0) 4).2.1) = logR (win s a 600, 0) := by
      rw [Int.add_comm]
      exact wr (n := logR (win s a 600, 0)) (by omega) (by omega)
    simp only [hlw]
    refine ⟨fun hc => ?_, fun hc => ?_⟩
    · have ha := rdA_acc (y := y) e hc
      rw [readF_err hr (by rw [ha]; show (31 : Int) ≠ 0; decide), ha]
      exact ⟨rfl, rfl, rfl, rfl, rfl⟩
    · have ha := rdA_go (y := y) e hc
      have hu : IntKind.wrap IntKind.u64 (logR (win s a 600, 0)) = logR (win s a 600, 0) := wru (by omega) (by omega)
      simp only [hu, shl1 (g := logR (win s a 600, 0)) (by omega) (by omega), mk_eta]
      have T := tk_ok e
      have t1 : (takeT (win s a 600, 0) 4).1.1 = win s a 600 := by rw [T.rd]
      have t2 : (takeT (win s a 600, 0) 4).1.2 = 4 := by rw [T.rd]; rfl
      have p12 := pow12 (g := logR (win s a 600, 0)) (by omega)
      have p0 := pow_pos' (logR (win s a 600, 0)).toNat
      refine ⟨by omega, fun h0 => ⟨by rw [t1]; omega, by omega, by omega, by omega, by omega, by omega, by omega, ?_⟩, fun h0 => ⟨by rw [t1]; omega, by omega, by omega, by omega, by omega, by omega, by omega, ?_⟩⟩
      · rw [← ha] at h0 ⊢
        rw [readF_ok hr h0]
        obtain ⟨S, b0, sz⟩ := rdA_st (by omega) h0
        have hn := next_in S b0 sz
        refine ⟨by rw [S.st]; dsimp only; omega, ?_⟩
        have hwn : IntKind.wrap IntKind.i64 (a + (nextT (rdA (win s a 600, 0) m y).1).1) = a + (nextT (rdA (win s a 600, 0) m y).1).1 := wr (by omega) (by omega)
        exact ⟨rfl, rfl, hwn, rfl, rfl⟩
      · have h31 : ((rdA (win s a 600, 0) m y).2.2 == 31) = false := by rw [ha]; simpa using rd_n31 _ _ _ _
        rw [← ha] at h0
        rw [readF_err hr h0, h31]
        exact ⟨rfl, rfl, rfl, rfl, rfl⟩
  · have ha := rdA_err (m := m) (y := y) e
    have h31 : ((rdA (win s a 600, 0) m y).2.2 == 31) = false := by rw [ha]; simpa using tk_n31 _ _
    rw [readF_err hr (by rw [ha]; exact e), h31]
    exact ⟨rfl, rfl, rfl, rfl, rfl⟩
end Go.Proofs.Ytafabheehkmfhaa
/-
  Chapter 8: the laws on what is known and read hold. Conditions: each theorem's own.
-/
namespace Go.Proofs.Ytafabheehkmfhaa
open Go Go.RowKit
set_option linter.unusedVariables false
set_option linter.unusedSimpArgs false
set_option maxRecDepth 100000
/-! ### tables -/
theorem is0_sound : Sound Try.prog 76 sIs0.ctr := sIs0.sound (by kernel_rfl) sIs0_enc fun k _ => sat_of_calls (fun w => (is_nil k w).mono fun e w' h => by
  obtain ⟨h, rfl⟩ := h
  exact ⟨h, Below.refl _ _⟩) rfl rfl
theorem is1_sound : Sound Try.prog 76 sIs1.ctr := sIs1.sound (by kernel_rfl) sIs1_enc fun ⟨e, k⟩ _ => sat_of_calls (fun w => is_broken e k w) rfl rfl
theorem rprobs_sound : Sound Try.prog 78 sRProbs.ctr := sRProbs.sound (by kernel_rfl) sRProbs_enc fun ⟨g, y, s, b⟩ hc => by
  have h0 := hc _ (.head _)
  have h1 := hc _ (.tail _ (.head _))
  have h2 := hc _ (.tail _ (.tail _ (.head _)))
  have h3 := hc _ (.tail _ (.tail _ (.tail _ (.head _))))
  have h4 := hc _ (.tail _ (.tail _ (.tail _ (.tail _ (.head _)))))
  have h5 := hc _ (.tail _ (.tail _ (.tail _ (.tail _ (.tail _ (.head _))))))
  have h6 := hc _ (.tail _ (.tail _ (.tail _ (.tail _ (.tail _ (.tail _ (.head _)))))))
  exact satG G8l_ok mixed Try.func78 (rprobs_e g y s b) (rprobs_v g y s b h0 h1 h2 h3 h4 h5 h6)
theorem G8m_ok : AllOk Try.prog G8m := .cons (orC_sound is0_sound is1_sound) <| .cons rprobs_sound G8l_ok
theorem readP_sound : Sound Try.prog 53 sReadP.ctr := sReadP.sound (by kernel_rfl) sReadP_enc fun ⟨s, a, m, y⟩ hc => by
  have h0 := hc _ (.head _)
  exact satG G8m_ok mixed Try.func53 (readP_e s a m y) (readP_v s a m y h0)
theorem readR_sound : Sound Try.prog 54 sReadR.ctr := sReadR.sound (by kernel_rfl) sReadR_enc fun ⟨s, a, m, y⟩ hc => by
  have h0 := hc _ (.head _)
  exact satG G8m_ok mixed Try.func54 (readR_e s a m y) (readR_v s a m y h0)
theorem G8n_ok : AllOk Try.prog G8n := .cons readP_sound <| .cons readR_sound G8m_ok
theorem sizeN_v (g : Int) : sizeN_t g := by
  unfold sizeN_t
  refine ⟨fun h => by unfold dsize; rw [h]; rfl, fun h => ⟨fun h2 => ?_, fun h2 => ?_⟩⟩
  · simp only [gt_iff_lt] at h2; unfold dsize; rw [h, h2]; rfl
  · simp only [gt_iff_lt] at h2
    rw [dsize_in h h2]
    simp only [decide_eq_false_iff_not] at h h2
    exact ⟨by omega, shl1 (by omega) (by omega)⟩
theorem sizeN_sound : Sound Try.prog 43 sSizeN.ctr := sSizeN.sound (by kernel_rfl) sSizeN_enc fun g hc => by
  exact satG G8a_ok mixed Try.func43 (sizeN_e g) (sizeN_v g)
theorem G8o_ok : AllOk Try.prog G8o := .cons (orC_sound sizeN_sound size_sound) G8n_ok
/-! ### DistKnown -/
set_option synthInstance.maxHeartbeats 0 in
set_option synthInstance.maxSize 100000 in
theorem lawKn_v : lawKn_t := by
  unfold lawKn_t
  decide +kernel
theorem known_any (W : World) : Calls Try.prog 13 #[] W fun e w' => e = .returned (.bool true) ∧ Below W.heap.size W w' :=
  law_true (us := []) (satG G8o_ok mixed Try.func13 lawKn_e lawKn_v) (.inr rfl) (by simp [Reps])
end Go.Proofs.Ytafabheehkmfhaa
/-
  Chapter 8: Read looks at the same bytes in both readings. Conditions: each theorem's own.
-/
namespace Go.Proofs.Ytafabheehkmfhaa
open Go Go.RowKit
set_option linter.unusedVariables false
set_option linter.unusedSimpArgs false
set_option maxRecDepth 100000
/-- T is what S begins with -/
structure Pfx (T S : ByteArray) : Prop where
  bs : ∃ l : List UInt8, S.data.toList = T.data.toList ++ l
  sz : S.size ≤ 1048576
  le : T.size ≤ S.size
theorem size_dl (T : ByteArray) : T.data.toList.length = T.size := by cases T; rfl
theorem peek_pfx {T S : ByteArray} (h : Pfx T S) {b n : Nat} (hb : b + n ≤ 8 * T.size) : peekN S b n = peekN T b n := by
  obtain ⟨l, hl⟩ := h.bs
  unfold peekN
  rw [hl, leN_append, size_dl]
  have e : (256 : Nat) ^ T.size = 2 ^ b * (2 ^ n * 2 ^ (8 * T.size - b - n)) := by
    rw [← Nat.pow_add, ← Nat.pow_add, show b + (n + (8 * T.size - b - n)) = 8 * T.size by omega, Nat.pow_mul]
  rw [e, Nat.mul_assoc, Nat.add_mul_div_left _ _ (Nat.two_pow_pos b), Nat.mul_assoc, Nat.add_mul_mod_self_left]
theorem tk_pfx {T S : ByteArray} (h : Pfx T S) {b n : Int} (h0 : 0 ≤ b) (h1 : 0 ≤ n) (h2 : n ≤ 32) (h3 : b + n ≤ 8 * (T.size : Int)) :
    takeT (S, b) n = ((S, b + n), ((peekN T b.toNat n.toNat : Nat) : Int), 0) ∧ takeT (T, b) n = ((T, b + n), ((peekN T b.toNat n.toNat : Nat) : Int), 0) := by
  have hs := h.sz
  have hl := h.le
  constructor
  · rw [tk_mk (r := (S, b)) hs h0 h1 h2 (by dsimp only; omega)]
    dsimp only
    rw [peek_pfx h (by omega)]
  · exact tk_mk (r := (T, b)) (by dsimp only; omega) h0 h1 h2 h3
theorem val_pfx {T S : ByteArray} (h : Pfx T S) {b left : Int} (h0 : 0 ≤ b) (l0 : 0 ≤ left) (l1 : left ≤ 4096) (h3 : b + 13 ≤ 8 * (T.size : Int)) :
    ∃ b' v, valR (S, b) left = ((S, b'), v, 0) ∧ valR (T, b) left = ((T, b'), v, 0) ∧ b ≤ b' ∧ b' ≤ b + 13 ∧ 0 ≤ v ∧ v ≤ left + 1 := by
  have H := shB_ok l0 l1
  have s1 := H.b1
  have s2 := H.b2
  obtain ⟨t1, t2⟩ := tk_pfx h h0 (n := shB left - 1) (by omega) (by omega) (by omega)
  obtain ⟨u1, u2⟩ := tk_pfx h (b := b + (shB left - 1)) (n := 1) (by omega) (by omega) (by omega) (by omega)
  have a1 : (takeT (S, b) (shB left - 1)).2.2 = 0 := by rw [t1]
  have a2 : (takeT (T, b) (shB left - 1)).2.2 = 0 := by rw [t2]
  by_cases c : ((peekN T b.toNat (shB left - 1).toNat : Nat) : Int) < shT left
  · have e1 := val_2 (r := (S, b)) a1 (by rw [t1]; exact c)
    have e2 := val_2 (r := (T, b)) a2 (by rw [t2]; exact c)
    rw [t1] at e1
    rw [t2] at e2
    have V := vl_ok l0 l1 e1
    have V0 := V.v0
    have V1 := V.v1
    exact ⟨_, _, e1, e2, by omega, by omega, V0, V1⟩
  · have e1 := val_4 (r := (S, b)) a1 (by rw [t1]; exact c) (by rw [t1]; dsimp only; rw [u1])
    have e2 := val_4 (r := (T, b)) a2 (by rw [t2]; exact c) (by rw [t2]; dsimp only; rw [u2])
    rw [t1] at e1
    rw [t2] at e2
    dsimp only at e1 e2
    rw [u1] at e1
    rw [u2] at e2
    have V := vl_ok l0 l1 e1
    have V0 := V.v0
    have V1 := V.v1
    exact ⟨_, _, e1, e2, by omega, by omega, V0, V1⟩
theorem fl_pfx {T S : ByteArray} (h : Pfx T S) (hT : 500 ≤ T.size) {y : Int} (hy : y ≤ 256) : ∀ (f : Nat) (b : Int) (out : List Int), 0 ≤ b → b + 2 ≤ 4 + 15 * (out.length : Int) → (out.length : Int) ≤ y →
    ∃ b' out' e, flR y f (S, b) out = ((S, b'), out', e) ∧ flR y f (T, b) out = ((T, b'), out', e) ∧ (e = 0 → 0 ≤ b' ∧ b' ≤ 4 + 15 * (out'.length : Int) ∧ (out'.length : Int) ≤ y ∧ out.length ≤ out'.length)
  | 0, b, out, h0, hb, hl => ⟨b, out, 23, rfl, rfl, fun e => absurd e (by decide)⟩
  | f + 1, b, out, h0, hb, hl => by
    obtain ⟨t1, t2⟩ := tk_pfx h h0 (n := 2) (by omega) (by omega) (by omega)
    have pl := peekN_lt T b.toNat (2 : Int).toNat
    have p2 : (2 : Nat) ^ (2 : Int).toNat = 4 := rfl
    have a1 : (takeT (S, b) 2).2.2 = 0 := by rw [t1]
    have a2 : (takeT (T, b) 2).2.2 = 0 := by rw [t2]
    generalize hv : peekN T b.toNat (2 : Int).toNat = v at t1 t2 pl
    by_cases c : y < out.length + (v : Int)
    · exact ⟨b, out, 23, fl_full a1 (by rw [t1]; exact c), fl_full a2 (by rw [t2]; exact c), fun e => absurd e (by decide)⟩
    · have e1 := fl_step (f := f) a1 (by rw [t1]; exact c)
      have e2 := fl_step (f := f) a2 (by rw [t2]; exact c)
      rw [t1] at e1
      rw [t2] at e2
      dsimp only at e1 e2
      have hlen : ((out ++ List.replicate (v : Int).toNat 0).length : Int) = out.length + v := by simp
      cases h3 : ((v : Int) == 3)
      · rw [h3] at e1 e2
        exact ⟨b + 2, _, 0, e1, e2, fun _ => ⟨by omega, by omega, by omega, by simp⟩⟩
      · rw [h3] at e1 e2
        have v3 : v = 3 := by have := eq_of_beq h3; omega
        obtain ⟨b', out', e, q1, q2, q3⟩ := fl_pfx h hT hy f (b + 2) (out ++ List.replicate (v : Int).toNat 0) (by omega) (by omega) (by omega)
        refine ⟨b', out', e, by rw [e1]; exact q1, by rw [e2]; exact q2, fun e0 => ?_⟩
        obtain ⟨k1, k2, k3, k4⟩ := q3 e0
        exact ⟨k1, k2, k3, by omega⟩
theorem rd_pfx {T S : ByteArray} (h : Pfx T S) (hT : 600 ≤ T.size) {y : Int} (hy : y ≤ 256) : ∀ (f : Nat) (b left : Int) (out : List Int), 0 ≤ b → b ≤ 4 + 15 * (out.length : Int) → (out.length : Int) ≤ y → 0 ≤ left → left ≤ 4096 →
    ∃ b' out' e, rdR y f (S, b) left out = ((S, b'), out', e) ∧ rdR y f (T, b) left out = ((T, b'), out', e) ∧ (e = 0 → 0 ≤ b' ∧ b' ≤ 4 + 15 * (out'.length : Int) ∧ (out'.length : Int) ≤ y)
  | 0, b, left, out, h0, hb, hl, l0, l1 => ⟨b, out, 23, rfl, rfl, fun e => absurd e (by decide)⟩
  | f + 1, b, left, out, h0, hb, hl, l0, l1 => by
    by_cases hp : 0 < left
    · obtain ⟨b1, v, e1, e2, b2, b3, v0, v1⟩ := val_pfx h h0 l0 l1 (by omega)
      cases hy1 : ((out.length : Int) == y)
      · have hne : (out.length : Int) ≠ y := by simpa using hy1
        have hlen : ((out ++ [v - 1]).length : Int) = out.length + 1 := by simp
        by_cases hv1 : v = 1
        · subst hv1
          rw [rd_zero hp e1 hy1, rd_zero hp e2 hy1]
          obtain ⟨b', out', e, q1, q2, q3⟩ := fl_pfx h (by omega) hy (y.toNat + 1) b1 (out ++ [1 - 1]) (by omega) (by omega) (by omega)
          rw [q1, q2]
          by_cases e0 : e = 0
          · obtain ⟨k1, k2, k3, k4⟩ := q3 e0
            rw [contZ_ok (by exact e0), contZ_ok (by exact e0)]
            exact rd_pfx h hT hy f b' left out' k1 k2 k3 l0 l1
          · rw [contZ_err (by exact e0), contZ_err (by exact e0)]
            exact ⟨b', out', e, rfl, rfl, fun e1 => absurd e1 e0⟩
        · rw [rd_step hp e1 hy1 hv1, rd_step hp e2 hy1 hv1]
          exact rd_pfx h hT hy f b1 (left - max (v - 1) 1) (out ++ [v - 1]) (by omega) (by omega) (by omega) (by omega) (by omega)
      · rw [rd_full hp e1 hy1, rd_full hp e2 hy1]
        exact ⟨b, out, 23, rfl, rfl, fun e => absurd e (by decide)⟩
    · rw [rd_end hp, rd_end hp]
      exact ⟨b, out, 0, rfl, rfl, fun _ => ⟨h0, hb, hl⟩⟩
theorem rdA_pfx {T S : ByteArray} (h : Pfx T S) (hT : 600 ≤ T.size) {m y : Int} (hm : m ≤ 12) (hy1 : 1 ≤ y) (hy : y ≤ 256) :
    logR (S, 0) = logR (T, 0) ∧ ∃ b' out' e, rdA (S, 0) m y = ((S, b'), out', e) ∧ rdA (T, 0) m y = ((T, b'), out', e) ∧ (e = 0 → 0 ≤ b' ∧ b' ≤ 4800) := by
  obtain ⟨t1, t2⟩ := tk_pfx h (b := 0) (n := 4) (by omega) (by omega) (by omega) (by omega)
  have a1 : (takeT (S, 0) 4).2.2 = 0 := by rw [t1]
  have a2 : (takeT (T, 0) 4).2.2 = 0 := by rw [t2]
  have hl : logR (S, 0) = logR (T, 0) := by unfold logR; rw [t1, t2]
  refine ⟨hl, ?_⟩
  by_cases c : m < logR (S, 0)
  · exact ⟨0, [], 31, rdA_acc a1 c, rdA_acc a2 (by rw [← hl]; exact c), fun e => absurd e (by decide)⟩
  · rw [rdA_go a1 c, rdA_go a2 (by rw [← hl]; exact c), ← hl, t1, t2]
    have p12 := pow12 (g := logR (S, 0)) (by omega)
    have p0 := pow_pos' (logR (S, 0)).toNat
    obtain ⟨b', out', e, q1, q2, q3⟩ := rd_pfx h hT hy (y.toNat + 1) (0 + 4) (2 ^ (logR (S, 0)).toNat) [] (by omega) (by simp) (by simpa using (by omega : (0 : Int) ≤ y)) (by omega) p12
    refine ⟨b', out', e, q1, q2, fun e0 => ?_⟩
    obtain ⟨k1, k2, k3⟩ := q3 e0
    exact ⟨k1, by omega⟩
theorem next_pfx {T S : ByteArray} (h : Pfx T S) (hT : 600 ≤ T.size) {b : Int} (h0 : 0 ≤ b) (h1 : b ≤ 4800) : nextT (S, b) = nextT (T, b) := by
  have hs := h.sz
  have hl := h.le
  unfold nextT
  have r1 : rchk S b = 0 := rchk_mk hs h0 (by omega)
  have r2 : rchk T b = 0 := rchk_mk (by omega) h0 (by omega)
  dsimp only
  rw [if_pos r1, if_pos r2]
theorem win_pfx (s : ByteArray) (a : Int) (hs : s.size ≤ 700) (h0 : 0 ≤ a) (h1 : a ≤ s.size) : win s a 2000 = win s a 600 ∨ (Pfx (win s a 600) (win s a 2000) ∧ 600 ≤ (win s a 600).size) := by
  by_cases c : (s.size : Int) ≤ a + 600
  · left
    unfold win
    rw [Int.min_eq_left c, Int.min_eq_left (by omega)]
  · right
    have z1 : (win s a 600).size = 600 := by
      unfold win
      rw [ByteArray.size_extract]
      omega
    have z2 : (win s a 2000).size = s.size - a.toNat := by
      unfold win
      rw [ByteArray.size_extract]
      omega
    refine ⟨⟨?_, by omega, by omega⟩, by omega⟩
    refine ⟨(s.extract (a.toNat + 600) s.size).data.toList, ?_⟩
    have e1 : (min (s.size : Int) (a + 2000)).toNat = s.size := by omega
    have e2 : (min (s.size : Int) (a + 600)).toNat = a.toNat + 600 := by omega
    unfold win
    rw [e1, e2, ← Array.toList_append, ← ByteArray.data_append, ByteArray.extract_append_extract]
    rw [Nat.min_eq_left (by omega), Nat.max_eq_right (by omega)]
theorem readF_win (s : ByteArray) (a m y : Int) (hs : s.size ≤ 700) : readF 2000 s a m y = readF 600 s a m y := by
  cases hr : rngE s a m y
  · have hr' := hr
    unfold rngE at hr'
    simp only [Bool.or_eq_false_iff, decide_eq_false_iff_not] at hr'
    obtain ⟨⟨⟨⟨⟨h1, h2⟩, h3⟩, h4⟩, h5⟩, h6⟩ := hr'
    rcases win_pfx s a hs (by omega) (by omega) with hw | ⟨hp, hT⟩
    · unfold readF
      rw [hw]
    · obtain ⟨hl, b', out', e, q1, q2, q3⟩ := rdA_pfx hp hT (m := m) (y := y) (by omega) (by omega) (by omega)
      by_cases e0 : e = 0
      · obtain ⟨k1, k2⟩ := q3 e0
        rw [readF_ok hr (by rw [q1]; exact e0), readF_ok hr (by rw [q2]; exact e0), q1, q2, hl, next_pfx hp hT k1 k2]
      · rw [readF_err hr (by rw [q1]; exact e0), readF_err hr (by rw [q2]; exact e0), q1, q2]
  · rw [readF_bad hr, readF_bad hr]
/-! ### DistReads -/
theorem fl_len {y : Int} : ∀ (f : Nat) (r : R2) (out : List Int), (flR y f r out).2.2 = 0 → ((flR y f r out).2.1.length : Int) ≤ y
  | 0, r, out, h => by simp [flR] at h
  | f + 1, r, out, h => by
    by_cases e : (takeT r 2).2.2 = 0
    · have v0 := (tk_ok e).v0
      by_cases hc : y < out.length + (takeT r 2).2.1
      · rw [fl_full e hc] at h; exact absurd h (by show ¬ (23 : Int) = 0; decide)
      · rw [fl_step e hc] at h ⊢
        cases h3 : (takeT r 2).2.1 == 3
        · simp only [cond_false, List.length_append, List.length_replicate]
          omega
        · rw [h3] at h
          exact fl_len f _ _ h
    · rw [fl_err e] at h; exact absurd h e
theorem rd_len {y : Int} : ∀ (f : Nat) (r : R2) (left : Int) (out : List Int), 0 ≤ left → left ≤ 4096 → (out.length : Int) ≤ y → (rdR y f r left out).2.2 = 0 → ((rdR y f r left out).2.1.length : Int) ≤ y
  | 0, r, left, out, l0, l1, ho, h => by simp [rdR] at h
  | f + 1, r, left, out, l0, l1, ho, h => by
    by_cases hl : 0 < left
    · by_cases e : (valR r left).2.2 = 0
      · obtain ⟨r', v, hv⟩ : ∃ r' v, valR r left = (r', v, 0) := ⟨_, _, by rw [← e]⟩
        have VV := vl_ok l0 l1 hv
        have v0 := VV.v0
        have v1 := VV.v1
        cases hy : ((out.length : Int) == y)
        · have hne : (out.length : Int) ≠ y := by simpa using hy
          by_cases hv1 : v = 1
          · subst hv1
            rw [rd_zero hl hv hy] at h ⊢
            by_cases hz : (flR y (y.toNat + 1) r' (out ++ [1 - 1])).2.2 = 0
            · rw [contZ_ok hz] at h ⊢
              exact rd_len f _ _ _ l0 l1 (fl_len _ _ _ hz) h
            · rw [contZ_err hz] at h; exact absurd h hz
          · rw [rd_step hl hv hy hv1] at h ⊢
            exact rd_len f _ _ _ (by omega) (by omega) (by simp only [List.length_append, List.length_singleton]; omega) h
        · rw [rd_full hl hv hy] at h; exact absurd h (by show ¬ (23 : Int) = 0; decide)
      · rw [rd_err hl e] at h; exact absurd h e
    · rw [rd_end hl]; exact ho
theorem rdA_len {r : R2} {m y : Int} (hm : m ≤ 12) (hy : 1 ≤ y) (h : (rdA r m y).2.2 = 0) : ((rdA r m y).2.1.length : Int) ≤ y := by
  by_cases e : (takeT r 4).2.2 = 0
  · by_cases hc : m < logR r
    · rw [rdA_acc e hc] at h; exact absurd h (by show ¬ (31 : Int) = 0; decide)
    · rw [rdA_go e hc] at h ⊢
      have hl := logR_in e
      have p12 := pow12 (g := logR r) (by omega)
      have p0 := pow_pos' (logR r).toNat
      exact rd_len _ _ _ _ (by omega) p12 (by simpa using (by omega : (0 : Int) ≤ y)) h
  · rw [rdA_err e] at h; exact absurd h e

theorem readF_len (w : Int) (s : ByteArray) (a m y : Int) : (readF w s a m y).1.2.length ≤ 4294967296 := by
  cases hr : rngE s a m y
  · have hr' := hr
    unfold rngE at hr'
    simp only [Bool.or_eq_false_iff, decide_eq_false_iff_not] at hr'
    obtain ⟨⟨⟨⟨⟨h1, h2⟩, h3⟩, h4⟩, h5⟩, h6⟩ := hr'
    by_cases e : (rdA (win s a w, 0) m y).2.2 = 0
    · rw [readF_ok hr e]
      have := rdA_len (by omega) (by omega) e
      dsimp only
      omega
    · rw [readF_err hr e]
      simp
  · rw [readF_bad hr]
    simp
theorem lawRd_v (s : ByteArray) (a m y : Int) : lawRd_t s a m y := by
  unfold lawRd_t
  refine ⟨fun _ => rfl, fun h => ?_⟩
  simp only [gt_iff_lt, decide_eq_false_iff_not] at h
  rw [readF_win s a m y (by omega)]
  refine ⟨by omega, by omega, readF_len _ _ _ _ _, ?_⟩
  simp [eqI_refl]
theorem reads8_any (s : ByteArray) (a m y : Int) (W : World) (hs : (s.size : Int) ≤ 9223372036854775807) (ha : InR a) (hm : InR m) (hy : InR y) : Calls Try.prog 10 #[.string s, .int .i64 a, .int .i64 m, .int .i64 y] W fun e w' => e = .returned (.bool true) ∧ Below W.heap.size W w' :=
  law_true (us := [.string s, .int .i64 a, .int .i64 m, .int .i64 y]) (satG G8o_ok mixed Try.func10 (lawRd_e s a m y) (lawRd_v s a m y)) (.inr rfl) (by simp [Reps, Rep])
end Go.Proofs.Ytafabheehkmfhaa
/-
  Chapter 8: kit.Dist. Conditions: each theorem's own.
-/
namespace Go.Proofs.Ytafabheehkmfhaa
open Go Go.RowKit
set_option linter.unusedVariables false
set_option linter.unusedSimpArgs false
set_option maxRecDepth 100000
theorem mod20 (x : Int) : 0 ≤ modI x 1048576 ∧ modI x 1048576 < 1048576 := by
  unfold modI
  simp only [show decide ((1048576 : Int) < 1) = false from rfl, cond_false]
  omega
theorem kdG_in (l : List Int) : 5 ≤ kdG l ∧ kdG l ≤ 8 := by
  unfold kdG modI
  simp only [show decide ((4 : Int) < 1) = false from rfl, cond_false]
  omega
theorem kd_one {r : List Int} {left : Int} {out : List Int} (h : ¬ 1 < left) : kdL r left out = (out, left) := by
  cases r
  · rfl
  · unfold kdL; rw [decide_eq_false h]; rfl
theorem kd_stop {x : Int} {r : List Int} {left v : Int} {out : List Int} (h : 1 < left) (hv : stepV x left = v) (h2 : left ≤ v) : kdL (x :: r) left out = (out, left) := by
  unfold kdL; rw [decide_eq_true h, hv, decide_eq_true h2]; rfl
theorem kd_step {x : Int} {r : List Int} {left v : Int} {out : List Int} (h : 1 < left) (hv : stepV x left = v) (h2 : ¬ left ≤ v) : kdL (x :: r) left out = kdL r (left - cond (decide (v < 0)) 1 v) (out ++ [v]) := by
  conv => lhs; unfold kdL
  rw [decide_eq_true h, hv, decide_eq_false h2]; rfl
theorem take_drop_cons {l : List Int} {i : Nat} (h : i < l.length) (h2 : i < 30) : (l.take 30).drop i = l.getD i 0 :: (l.take 30).drop (i + 1) := by
  have h3 : i < (l.take 30).length := by simp; omega
  rw [List.drop_eq_getElem_cons h3]
  simp [List.getD_eq_getElem?_getD, List.getElem?_eq_getElem h]
theorem take_drop_nil {l : List Int} {i : Nat} (h : l.length ≤ i ∨ 30 ≤ i) : (l.take 30).drop i = [] := by
  apply List.drop_eq_nil_of_le
  simp
  omega
theorem inW_get {l : List Int} (h : l.all inW = true) (i : Nat) : inW (l.getD i 0) = true := by
  by_cases c : i < l.length
  · rw [List.getD_eq_getElem?_getD, List.getElem?_eq_getElem c]
    exact List.all_eq_true.1 h _ (List.getElem_mem c)
  · rw [List.getD_eq_getElem?_getD, List.getElem?_eq_none (by omega)]
    decide
theorem kd_v (l : List Int) (hl : l.all inW = true) : kd_t l := by
  unfold kd_t
  simp only [e00, n00, e23, n23, e31, n31, Bool.true_eq_false, Bool.false_eq_true, true_implies, false_implies, eq_self, true_and, and_true, and_self, gt_iff_lt, ge_iff_le, decide_eq_true_eq, decide_eq_false_iff_not, toNat_cast]
  have hg := kdG_in l
  have hw : IntKind.wrap IntKind.i64 (5 + modI (atI l 0) 4) = kdG l := wr (n := kdG l) (by omega) (by omega)
  have hu : IntKind.wrap IntKind.u64 (kdG l) = kdG l := wru (by omega) (by omega)
  simp only [hw, hu, shl1 (g := kdG l) (by omega) (by omega)]
  have hpw : (1 : Int) ≤ 2 ^ (kdG l).toNat ∧ (2 : Int) ^ (kdG l).toNat ≤ 256 := by
    have : (kdG l).toNat = 5 ∨ (kdG l).toNat = 6 ∨ (kdG l).toNat = 7 ∨ (kdG l).toNat = 8 := by omega
    rcases this with h | h | h | h <;> rw [h] <;> decide
  refine ⟨?_, by decide, by omega, ⟨(1, 2 ^ (kdG l).toNat, []), ⟨rfl, (by omega : 1 ≤ 1), (by omega : 1 ≤ 30), hpw.1, hpw.2, (by omega : 0 ≤ 1)⟩, rfl, rfl, trivial, rfl⟩, fun ⟨i, left, out⟩ ⟨hp, i1, i2, l1, l2, ol⟩ => ?_⟩
  · unfold atI
    cases decide ((0 : Int) < 0) || decide ((l.length : Int) ≤ 0)
    · exact inW_get hl _
    · show inW 0 = true; decide
  dsimp only at hp i1 i2 l1 l2 ol ⊢
  have fin : kdL ((l.take 30).drop i) left out = (out, left) → (out.length + 1) * 8 ≤ 140737488355328 ∧ out ++ [left] = kdP l := fun h => by
    rw [h] at hp
    exact ⟨by omega, by unfold kdP; rw [← hp]⟩
  refine ⟨fun hlen => ⟨fun h30 => ⟨fun hgt => ⟨by omega, by omega, inW_get hl _, by decide, by decide, ?_⟩, fun hle => fin (kd_one (by omega))⟩, fun h30 => fin (by rw [take_drop_nil (.inr (by omega))]; rfl)⟩, fun hlen => fin (by rw [take_drop_nil (.inl (by omega))]; rfl)⟩
  have hc := take_drop_cons (l := l) (i := i) (by omega) (by omega)
  rw [hc] at hp fin
  generalize hx : l.getD i 0 = x at hp fin ⊢
  have hV := mod20 x
  have e1 : (modI x 1048576).tmod 4 = modI x 1048576 % 4 := Int.tmod_eq_emod_of_nonneg hV.1
  have e2 : (modI x 1048576).tdiv 4 = modI x 1048576 / 4 := Int.tdiv_eq_ediv_of_nonneg hV.1
  have e3 : IntKind.wrap IntKind.i64 (modI x 1048576 / 4) = modI x 1048576 / 4 := wr (by omega) (by omega)
  have e4 : (modI x 1048576 / 4).tmod (min left 40) = modI x 1048576 / 4 % min left 40 := Int.tmod_eq_emod_of_nonneg (by omega)
  have m0 := Int.emod_nonneg (modI x 1048576 / 4) (show min left 40 ≠ 0 by omega)
  have m1 := Int.emod_lt_of_pos (modI x 1048576 / 4) (show 0 < min left 40 by omega)
  have e5 : IntKind.wrap IntKind.i64 (1 + modI x 1048576 / 4 % min left 40) = 1 + modI x 1048576 / 4 % min left 40 := wr (by omega) (by omega)
  have wi : IntKind.wrap IntKind.i64 ((i : Int) + 1) = ((i + 1 : Nat) : Int) := by rw [wr (by omega) (by omega)]; simp
  simp only [e1, e2, e3, e4, e5, wi]
  have nx : ∀ v : Int, stepV x left = v → ¬ left ≤ v → -1 ≤ v → ∀ u, u = cond (decide (v < 0)) 1 v → 0 ≤ u → u < left →
      ∃ y : Nat × Int × List Int, (kdL (List.drop y.1 (List.take 30 l)) y.2.1 y.2.2 = kdF l ∧ 1 ≤ y.1 ∧ y.1 ≤ 30 ∧ 1 ≤ y.2.1 ∧ y.2.1 ≤ 256 ∧ y.2.2.length ≤ y.1) ∧ Nat.sub 30 y.1 < Nat.sub 30 i ∧ IntKind.wrap IntKind.i64 (left - u) = y.2.1 ∧ ((i + 1 : Nat) : Int) = (y.1 : Int) ∧ out ++ [v] = y.2.2 := fun v hv h1 h2 u hu u0 u1 => by
    rw [kd_step hgt hv h1, ← hu] at hp
    refine ⟨(i + 1, left - u, out ++ [v]), ⟨hp, by dsimp only; omega, by dsimp only; omega, by dsimp only; omega, by dsimp only; omega, by simp; omega⟩, ?_, wr (by omega) (by omega), rfl, rfl⟩
    show 30 - (i + 1) < 30 - i
    omega
  refine ⟨fun h0 => ?_, fun h0 => ⟨fun h1 => ?_, fun h1 => ?_⟩⟩
  · have hv : stepV x left = -1 := by unfold stepV; rw [h0]; rfl
    exact ⟨fun h => by omega, fun h => ⟨by omega, fun _ => nx _ hv (by omega) (by omega) 1 rfl (by omega) (by omega), fun h => absurd h (by decide)⟩⟩
  · have hv : stepV x left = 0 := by unfold stepV; rw [h0, h1]; rfl
    exact ⟨fun h => by omega, fun h => ⟨by omega, fun h => absurd h (by decide), fun _ => nx _ hv (by omega) (by omega) 0 rfl (by omega) (by omega)⟩⟩
  · have hv : stepV x left = 1 + modI x 1048576 / 4 % min left 40 := by unfold stepV; rw [h0, h1]; rfl
    refine ⟨by decide, by omega, fun h => fin (kd_stop hgt hv h), fun h => ⟨by omega, fun h2 => by omega, fun h2 => nx _ hv (by omega) (by omega) _ (by rw [decide_eq_false h2]; rfl) (by omega) (by omega)⟩⟩
end Go.Proofs.Ytafabheehkmfhaa
/-
  Chapter 8: what was written is read back. Conditions: each theorem's own.
-/
namespace Go.Proofs.Ytafabheehkmfhaa
open Go Go.RowKit
set_option linter.unusedVariables false
set_option linter.unusedSimpArgs false
set_option maxRecDepth 100000
/-- how many bits -/
def blen : List (Int × Int) → Nat
  | [] => 0
  | kv :: r => kv.1.toNat + blen r
/-- the number that they are -/
def numKV : List (Int × Int) → Nat
  | [] => 0
  | kv :: r => kv.2.toNat + 2 ^ kv.1.toNat * numKV r
theorem acc_num (l : List (Int × Int)) : ∀ L W, accKV (L, W) l = (L + blen l, W + 2 ^ L * numKV l) := by
  induction l with
  | nil => intro L W; simp [accKV, blen, numKV]
  | cons kv r ih =>
    intro L W
    have e : accKV (L, W) (kv :: r) = accKV (L + kv.1.toNat, W + kv.2.toNat * 2 ^ L) r := rfl
    rw [e, ih, blen, numKV, Nat.add_assoc, Nat.pow_add, Nat.mul_add, Nat.add_assoc, Nat.mul_comm kv.2.toNat, Nat.mul_assoc]
/-- at bit b of S these stand -/
def RdBits (S : ByteArray) : Nat → List (Int × Int) → Prop
  | _, [] => True
  | b, kv :: r => ((peekN S b kv.1.toNat : Nat) : Int) = kv.2 ∧ RdBits S (b + kv.1.toNat) r
theorem reads_of {S : ByteArray} (Y : Nat) (l : List (Int × Int)) : ∀ b, (∀ kv ∈ l, okKV kv) → leN S.data.toList / 2 ^ b = numKV l + 2 ^ blen l * Y → RdBits S b l := by
  induction l with
  | nil => intro b _ _; trivial
  | cons kv r ih =>
    intro b hk h
    obtain ⟨k0, k1, v0, v1⟩ := hk kv (by simp)
    have hv : kv.2.toNat < 2 ^ kv.1.toNat := by
      rw [pow_cast] at v1
      omega
    rw [numKV, blen, Nat.pow_add, Nat.mul_assoc, Nat.add_assoc, ← Nat.mul_add] at h
    refine ⟨?_, ih _ (fun x hx => hk x (by simp [hx])) ?_⟩
    · unfold peekN
      rw [h, Nat.add_mul_mod_self_left, Nat.mod_eq_of_lt hv]
      omega
    · rw [Nat.pow_add, ← Nat.div_div_eq_div_mul, h, Nat.add_mul_div_left _ _ (Nat.two_pow_pos _), Nat.div_eq_of_lt hv, Nat.zero_add]
theorem blen_app (l r : List (Int × Int)) : blen (l ++ r) = blen l + blen r := by
  induction l with
  | nil => simp [blen]
  | cons kv l ih => simp only [List.cons_append, blen, ih]; omega
theorem reads_app {S : ByteArray} (l r : List (Int × Int)) : ∀ b, RdBits S b (l ++ r) → RdBits S b l ∧ RdBits S (b + blen l) r := by
  induction l with
  | nil => intro b h; exact ⟨trivial, h⟩
  | cons kv l ih =>
    intro b h
    obtain ⟨h1, h2⟩ := h
    obtain ⟨i1, i2⟩ := ih _ h2
    exact ⟨⟨h1, i1⟩, by rw [blen, ← Nat.add_assoc]; exact i2⟩
theorem tk_back {S : ByteArray} (hs : S.size ≤ 1048576) {b : Nat} {n v : Int} (h1 : 0 ≤ n) (h2 : n ≤ 32) (h3 : b + n.toNat ≤ 8 * S.size) (hv : ((peekN S b n.toNat : Nat) : Int) = v) : takeT (S, (b : Int)) n = ((S, ((b + n.toNat : Nat) : Int)), v, 0) := by
  rw [tk_mk (r := (S, (b : Int))) hs (by dsimp only; omega) h1 h2 (by dsimp only; omega)]
  dsimp only
  rw [Int.toNat_natCast, hv]
  have e : ((b + n.toNat : Nat) : Int) = (b : Int) + n := by omega
  rw [e]
theorem val_back {S : ByteArray} (hs : S.size ≤ 1048576) {b : Nat} {left p : Int} (l0 : 0 ≤ left) (l1 : left ≤ 4096) (p0 : -1 ≤ p) (p1 : p ≤ left) (h3 : b + (valP left p).1.toNat ≤ 8 * S.size) (hv : ((peekN S b (valP left p).1.toNat : Nat) : Int) = (valP left p).2) :
    valR (S, (b : Int)) left = ((S, ((b + (valP left p).1.toNat : Nat) : Int)), p + 1, 0) := by
  have H := shB_ok l0 l1
  have b1 := H.b1
  have b2 := H.b2
  have lo := H.lo
  have hi := H.hi
  have db := H.dbl
  have e := shT_eq left
  cases c : decide (p + 1 < shT left)
  · simp only [decide_eq_false_iff_not] at c
    -- the long form
    have hk : (valP left p).1 = shB left := by
      unfold valP
      rw [decide_eq_false c]
      cases decide (p + 1 < 2 ^ (shB left - 1).toNat) <;> rfl
    rw [hk] at hv h3 ⊢
    have t := tk_back hs (n := shB left) (by omega) (by omega) h3 hv
    have t1 : takeT (S, (b : Int)) (shB left - 1) = _ := tk_back hs (n := shB left - 1) (by omega) (by omega) (by omega) rfl
    have a1 : (takeT (S, (b : Int)) (shB left - 1)).2.2 = 0 := by rw [t1]
    have T1 := tk_ok a1
    have v10 := T1.v0
    have v11 := T1.v1
    rcases tk_join b1 b2 a1 with ⟨j1, j2⟩ | ⟨j1, j2⟩
    · have T2 := tk_ok j1
      have v20 := T2.v0
      have v21 : (takeT (takeT (S, (b : Int)) (shB left - 1)).1 1).2.1 < 2 := T2.v1
      rw [t] at j2
      simp only [Prod.mk.injEq, and_true] at j2
      obtain ⟨q1, q2⟩ := j2
      have hx : (takeT (takeT (S, (b : Int)) (shB left - 1)).1 1).2.1 = 0 ∨ (takeT (takeT (S, (b : Int)) (shB left - 1)).1 1).2.1 = 1 := by omega
      cases c2 : decide (p + 1 < 2 ^ (shB left - 1).toNat)
      · have hv2 : (valP left p).2 = p + 1 + shT left := by unfold valP; rw [decide_eq_false c, c2]; rfl
        simp only [decide_eq_false_iff_not] at c2
        rw [hv2] at q2
        rcases hx with hx | hx
        · rw [hx, Int.zero_mul, Int.add_zero] at q2
          omega
        · have hx1 : (takeT (takeT (S, (b : Int)) (shB left - 1)).1 1).2.1 * 2 ^ (shB left - 1).toNat = 2 ^ (shB left - 1).toNat := by rw [hx, Int.one_mul]
          rw [hx1] at q2
          rw [val_4 a1 (by omega) j1, ← q1, hx1, ← q2]
          unfold fixV
          rw [decide_eq_true (by omega)]
          simp only [cond_true]
          rw [show p + 1 + shT left - shT left = p + 1 by omega]
      · have hv2 : (valP left p).2 = p + 1 := by unfold valP; rw [decide_eq_false c, c2]; rfl
        simp only [decide_eq_true_eq] at c2
        rw [hv2] at q2
        rcases hx with hx | hx
        · rw [hx, Int.zero_mul, Int.add_zero] at q2
          have hx1 : (takeT (takeT (S, (b : Int)) (shB left - 1)).1 1).2.1 * 2 ^ (shB left - 1).toNat = 0 := by rw [hx, Int.zero_mul]
          rw [val_4 a1 (by omega) j1, ← q1, hx1, Int.add_zero, ← q2]
          unfold fixV
          rw [decide_eq_false (by omega)]
          rfl
        · have hx1 : (takeT (takeT (S, (b : Int)) (shB left - 1)).1 1).2.1 * 2 ^ (shB left - 1).toNat = 2 ^ (shB left - 1).toNat := by rw [hx, Int.one_mul]
          rw [hx1] at q2
          omega
    · exact absurd (by rw [t]) j2
  · simp only [decide_eq_true_eq] at c
    have hp : valP left p = (shB left - 1, p + 1) := by unfold valP; rw [decide_eq_true c]; rfl
    rw [hp] at hv h3 ⊢
    dsimp only at hv h3 ⊢
    have t := tk_back hs (n := shB left - 1) (by omega) (by omega) h3 hv
    rw [val_2 (by rw [t]) (by rw [t]; exact c), t]
end Go.Proofs.Ytafabheehkmfhaa

/-
  Texts joined: Bkt, Bl, FrF, Fr, Frt, Fs, SkF, Sk, Skt, Sl, DcF, Dc, Dct, Dd, DfF, Df, Dft, Dg, Dh, Dht, Di, DjF, Dj, Djt, Dk, DlF, Dl, Dlt, Dm, Dn. Conditions: each theorem's own.
-/
import Derived.Test.YthfhkiejcpnalaaGreatK4
import Derived.Test.YthfhkiejcpnalaaGreatK3
namespace Go.Proofs.YthfhkiejcpnalaaGreat
open Go Go.RowKit
set_option linter.unusedVariables false
set_option maxRecDepth 100000
def bkCk_t  : Prop :=
 ((((0 : Int) == (0 : Int)) = true →
 (decide ((0 : Int) > (0 : Int)) = true →
 False ∧
 ∃ (x0 : Unit),
 True ∧
 False ∧
 (1 : Int) = (1 : Int) ∧
 (4 : Int) = (4 : Int) ∧
 (8 : Int) = (8 : Int) ∧
 Value.slice none (0 : Nat) (0 : Nat) = Value.slice none (0 : Nat) (0 : Nat) ∧
 (-1 : Int) = (-1 : Int) ∧
 (0 : Int) = (0 : Int) ∧
 (0 : Int) = (0 : Int) ∧
 Value.slice none (0 : Nat) (0 : Nat) = Value.slice none (0 : Nat) (0 : Nat) ∧
 (-1 : Int) = (-1 : Int) ∧
 (0 : Int) = (0 : Int) ∧
 (0 : Int) = (0 : Int) ∧
 Value.slice none (0 : Nat) (0 : Nat) = Value.slice none (0 : Nat) (0 : Nat) ∧
 (-1 : Int) = (-1 : Int) ∧ (0 : Int) = (0 : Int) ∧ (0 : Int) = (0 : Int) ∧ Value.slice none (0 : Nat) (0 : Nat) = Value.slice none (0 : Nat) (0 : Nat)) ∧
 (decide ((0 : Int) > (0 : Int)) = false →
 ∃ (x1 : Unit),
 True ∧
 (0 : Int) = (0 : Int) ∧
 (1 : Int) = (1 : Int) ∧
 (4 : Int) = (4 : Int) ∧
 (8 : Int) = (8 : Int) ∧
 Value.slice none (0 : Nat) (0 : Nat) = Value.slice none (0 : Nat) (0 : Nat) ∧
 (-1 : Int) = (-1 : Int) ∧
 (0 : Int) = (0 : Int) ∧
 (0 : Int) = (0 : Int) ∧
 Value.slice none (0 : Nat) (0 : Nat) = Value.slice none (0 : Nat) (0 : Nat) ∧
 (-1 : Int) = (-1 : Int) ∧
 (0 : Int) = (0 : Int) ∧
 (0 : Int) = (0 : Int) ∧
 Value.slice none (0 : Nat) (0 : Nat) = Value.slice none (0 : Nat) (0 : Nat) ∧
 (-1 : Int) = (-1 : Int) ∧ (0 : Int) = (0 : Int) ∧ (0 : Int) = (0 : Int) ∧ Value.slice none (0 : Nat) (0 : Nat) = Value.slice none (0 : Nat) (0 : Nat))) ∧
 (((0 : Int) == (0 : Int)) = false →
 ∃ (x2 : Unit),
 True ∧
 (0 : Int) = (0 : Int) ∧
 (1 : Int) = (1 : Int) ∧
 (4 : Int) = (4 : Int) ∧
 (8 : Int) = (8 : Int) ∧
 Value.slice none (0 : Nat) (0 : Nat) = Value.slice none (0 : Nat) (0 : Nat) ∧
 (-1 : Int) = (-1 : Int) ∧
 (0 : Int) = (0 : Int) ∧
 (0 : Int) = (0 : Int) ∧
 Value.slice none (0 : Nat) (0 : Nat) = Value.slice none (0 : Nat) (0 : Nat) ∧
 (-1 : Int) = (-1 : Int) ∧
 (0 : Int) = (0 : Int) ∧
 (0 : Int) = (0 : Int) ∧
 Value.slice none (0 : Nat) (0 : Nat) = Value.slice none (0 : Nat) (0 : Nat) ∧
 (-1 : Int) = (-1 : Int) ∧ (0 : Int) = (0 : Int) ∧ (0 : Int) = (0 : Int) ∧ Value.slice none (0 : Nat) (0 : Nat) = Value.slice none (0 : Nat) (0 : Nat))) ∧
 ∀ (x3 : Unit),
 True →
 (decide ((0 : Int) < (3 : Int)) = true →
 (0 : Int) ≤ (0 : Int) ∧
 (0 : Int) < (↑(3 : Nat) : Int) ∧
 (((0 : Int) == (0 : Int)) = true →
 (0 : Int) ≤ (0 : Int) ∧
 (0 : Int) ≤ (2 : Int) ∧
 (decide (IntKind.wrap IntKind.i64 ((0 : Int) + (1 : Int)) < (3 : Int)) = true →
 (0 : Int) ≤ IntKind.wrap IntKind.i64 ((0 : Int) + (1 : Int)) ∧
 IntKind.wrap IntKind.i64 ((0 : Int) + (1 : Int)) < (↑(3 : Nat) : Int) ∧
 (((0 : Int) == (0 : Int)) = true →
 (0 : Int) ≤ IntKind.wrap IntKind.i64 ((0 : Int) + (1 : Int)) ∧
 IntKind.wrap IntKind.i64 ((0 : Int) + (1 : Int)) ≤ (2 : Int) ∧
 (decide (IntKind.wrap IntKind.i64 (IntKind.wrap IntKind.i64 ((0 : Int) + (1 : Int)) + (1 : Int)) < (3 : Int)) = true →
 (0 : Int) ≤ IntKind.wrap IntKind.i64 (IntKind.wrap IntKind.i64 ((0 : Int) + (1 : Int)) + (1 : Int)) ∧
 IntKind.wrap IntKind.i64 (IntKind.wrap IntKind.i64 ((0 : Int) + (1 : Int)) + (1 : Int)) < (↑(3 : Nat) : Int) ∧
 (((0 : Int) == (0 : Int)) = true →
 (0 : Int) ≤ IntKind.wrap IntKind.i64 (IntKind.wrap IntKind.i64 ((0 : Int) + (1 : Int)) + (1 : Int)) ∧
 IntKind.wrap IntKind.i64 (IntKind.wrap IntKind.i64 ((0 : Int) + (1 : Int)) + (1 : Int)) ≤ (2 : Int) ∧
 (decide
 (IntKind.wrap IntKind.i64 (IntKind.wrap IntKind.i64 (IntKind.wrap IntKind.i64 ((0 : Int) + (1 : Int)) + (1 : Int)) + (1 : Int)) <
 (3 : Int)) =
 true →
 (0 : Int) ≤ IntKind.wrap IntKind.i64 (IntKind.wrap IntKind.i64 (IntKind.wrap IntKind.i64 ((0 : Int) + (1 : Int)) + (1 : Int)) + (1 : Int)) ∧
 IntKind.wrap IntKind.i64 (IntKind.wrap IntKind.i64 (IntKind.wrap IntKind.i64 ((0 : Int) + (1 : Int)) + (1 : Int)) + (1 : Int)) <
 (↑(3 : Nat) : Int) ∧
 False ∧ False ∧ (((0 : Int) == (0 : Int)) = true → False ∧ False) ∧ (((0 : Int) == (0 : Int)) = false → False)) ∧
 (decide
 (IntKind.wrap IntKind.i64 (IntKind.wrap IntKind.i64 (IntKind.wrap IntKind.i64 ((0 : Int) + (1 : Int)) + (1 : Int)) + (1 : Int)) <
 (3 : Int)) =
 false →
 (0 : Int) = (0 : Int))) ∧
 (((0 : Int) == (0 : Int)) = false →
 (decide (IntKind.wrap IntKind.i64 (IntKind.wrap IntKind.i64 (IntKind.wrap IntKind.i64 ((0 : Int) + (1 : Int)) + (1 : Int)) + (1 : Int)) < (3 : Int)) =
 true →
 (0 : Int) ≤ IntKind.wrap IntKind.i64 (IntKind.wrap IntKind.i64 (IntKind.wrap IntKind.i64 ((0 : Int) + (1 : Int)) + (1 : Int)) + (1 : Int)) ∧
 IntKind.wrap IntKind.i64 (IntKind.wrap IntKind.i64 (IntKind.wrap IntKind.i64 ((0 : Int) + (1 : Int)) + (1 : Int)) + (1 : Int)) <
 (↑(3 : Nat) : Int) ∧
 False ∧ False ∧ (((0 : Int) == (0 : Int)) = true → False ∧ False) ∧ (((0 : Int) == (0 : Int)) = false → False)) ∧
 (decide
 (IntKind.wrap IntKind.i64 (IntKind.wrap IntKind.i64 (IntKind.wrap IntKind.i64 ((0 : Int) + (1 : Int)) + (1 : Int)) + (1 : Int)) < (3 : Int)) =
 false →
 (0 : Int) = (0 : Int)))) ∧
 (decide (IntKind.wrap IntKind.i64 (IntKind.wrap IntKind.i64 ((0 : Int) + (1 : Int)) + (1 : Int)) < (3 : Int)) = false → (0 : Int) = (0 : Int))) ∧
 (((0 : Int) == (0 : Int)) = false →
 (decide (IntKind.wrap IntKind.i64 (IntKind.wrap IntKind.i64 ((0 : Int) + (1 : Int)) + (1 : Int)) < (3 : Int)) = true →
 (0 : Int) ≤ IntKind.wrap IntKind.i64 (IntKind.wrap IntKind.i64 ((0 : Int) + (1 : Int)) + (1 : Int)) ∧
 IntKind.wrap IntKind.i64 (IntKind.wrap IntKind.i64 ((0 : Int) + (1 : Int)) + (1 : Int)) < (↑(3 : Nat) : Int) ∧
 (((0 : Int) == (0 : Int)) = true →
 (0 : Int) ≤ IntKind.wrap IntKind.i64 (IntKind.wrap IntKind.i64 ((0 : Int) + (1 : Int)) + (1 : Int)) ∧
 IntKind.wrap IntKind.i64 (IntKind.wrap IntKind.i64 ((0 : Int) + (1 : Int)) + (1 : Int)) ≤ (2 : Int) ∧
 (decide (IntKind.wrap IntKind.i64 (IntKind.wrap IntKind.i64 (IntKind.wrap IntKind.i64 ((0 : Int) + (1 : Int)) + (1 : Int)) + (1 : Int)) < (3 : Int)) =
 true →
 (0 : Int) ≤ IntKind.wrap IntKind.i64 (IntKind.wrap IntKind.i64 (IntKind.wrap IntKind.i64 ((0 : Int) + (1 : Int)) + (1 : Int)) + (1 : Int)) ∧
 IntKind.wrap IntKind.i64 (IntKind.wrap IntKind.i64 (IntKind.wrap IntKind.i64 ((0 : Int) + (1 : Int)) + (1 : Int)) + (1 : Int)) <
 (↑(3 : Nat) : Int) ∧
 False ∧ False ∧ (((0 : Int) == (0 : Int)) = true → False ∧ False) ∧ (((0 : Int) == (0 : Int)) = false → False)) ∧
 (decide
 (IntKind.wrap IntKind.i64 (IntKind.wrap IntKind.i64 (IntKind.wrap IntKind.i64 ((0 : Int) + (1 : Int)) + (1 : Int)) + (1 : Int)) < (3 : Int)) =
 false →
 (0 : Int) = (0 : Int))) ∧
 (((0 : Int) == (0 : Int)) = false →
 (decide (IntKind.wrap IntKind.i64 (IntKind.wrap IntKind.i64 (IntKind.wrap IntKind.i64 ((0 : Int) + (1 : Int)) + (1 : Int)) + (1 : Int)) < (3 : Int)) =
 true →
 (0 : Int) ≤ IntKind.wrap IntKind.i64 (IntKind.wrap IntKind.i64 (IntKind.wrap IntKind.i64 ((0 : Int) + (1 : Int)) + (1 : Int)) + (1 : Int)) ∧
 IntKind.wrap IntKind.i64 (IntKind.wrap IntKind.i64 (IntKind.wrap IntKind.i64 ((0 : Int) + (1 : Int)) + (1 : Int)) + (1 : Int)) <
 (↑(3 : Nat) : Int) ∧
 False ∧ False ∧ (((0 : Int) == (0 : Int)) = true → False ∧ False) ∧ (((0 : Int) == (0 : Int)) = false → False)) ∧
 (decide (IntKind.wrap IntKind.i64 (IntKind.wrap IntKind.i64 (IntKind.wrap IntKind.i64 ((0 : Int) + (1 : Int)) + (1 : Int)) + (1 : Int)) < (3 : Int)) =
 false →
 (0 : Int) = (0 : Int)))) ∧
 (decide (IntKind.wrap IntKind.i64 (IntKind.wrap IntKind.i64 ((0 : Int) + (1 : Int)) + (1 : Int)) < (3 : Int)) = false → (0 : Int) = (0 : Int)))) ∧
 (decide (IntKind.wrap IntKind.i64 ((0 : Int) + (1 : Int)) < (3 : Int)) = false → (0 : Int) = (0 : Int))) ∧
 (((0 : Int) == (0 : Int)) = false →
 (decide (IntKind.wrap IntKind.i64 ((0 : Int) + (1 : Int)) < (3 : Int)) = true →
 (0 : Int) ≤ IntKind.wrap IntKind.i64 ((0 : Int) + (1 : Int)) ∧
 IntKind.wrap IntKind.i64 ((0 : Int) + (1 : Int)) < (↑(3 : Nat) : Int) ∧
 (((0 : Int) == (0 : Int)) = true →
 (0 : Int) ≤ IntKind.wrap IntKind.i64 ((0 : Int) + (1 : Int)) ∧
 IntKind.wrap IntKind.i64 ((0 : Int) + (1 : Int)) ≤ (2 : Int) ∧
 (decide (IntKind.wrap IntKind.i64 (IntKind.wrap IntKind.i64 ((0 : Int) + (1 : Int)) + (1 : Int)) < (3 : Int)) = true →
 (0 : Int) ≤ IntKind.wrap IntKind.i64 (IntKind.wrap IntKind.i64 ((0 : Int) + (1 : Int)) + (1 : Int)) ∧
 IntKind.wrap IntKind.i64 (IntKind.wrap IntKind.i64 ((0 : Int) + (1 : Int)) + (1 : Int)) < (↑(3 : Nat) : Int) ∧
 (((0 : Int) == (0 : Int)) = true →
 (0 : Int) ≤ IntKind.wrap IntKind.i64 (IntKind.wrap IntKind.i64 ((0 : Int) + (1 : Int)) + (1 : Int)) ∧
 IntKind.wrap IntKind.i64 (IntKind.wrap IntKind.i64 ((0 : Int) + (1 : Int)) + (1 : Int)) ≤ (2 : Int) ∧
 (decide (IntKind.wrap IntKind.i64 (IntKind.wrap IntKind.i64 (IntKind.wrap IntKind.i64 ((0 : Int) + (1 : Int)) + (1 : Int)) + (1 : Int)) < (3 : Int)) =
 true →
 (0 : Int) ≤ IntKind.wrap IntKind.i64 (IntKind.wrap IntKind.i64 (IntKind.wrap IntKind.i64 ((0 : Int) + (1 : Int)) + (1 : Int)) + (1 : Int)) ∧
 IntKind.wrap IntKind.i64 (IntKind.wrap IntKind.i64 (IntKind.wrap IntKind.i64 ((0 : Int) + (1 : Int)) + (1 : Int)) + (1 : Int)) <
 (↑(3 : Nat) : Int) ∧
 False ∧ False ∧ (((0 : Int) == (0 : Int)) = true → False ∧ False) ∧ (((0 : Int) == (0 : Int)) = false → False)) ∧
 (decide
 (IntKind.wrap IntKind.i64 (IntKind.wrap IntKind.i64 (IntKind.wrap IntKind.i64 ((0 : Int) + (1 : Int)) + (1 : Int)) + (1 : Int)) < (3 : Int)) =
 false →
 (0 : Int) = (0 : Int))) ∧
 (((0 : Int) == (0 : Int)) = false →
 (decide (IntKind.wrap IntKind.i64 (IntKind.wrap IntKind.i64 (IntKind.wrap IntKind.i64 ((0 : Int) + (1 : Int)) + (1 : Int)) + (1 : Int)) < (3 : Int)) =
 true →
 (0 : Int) ≤ IntKind.wrap IntKind.i64 (IntKind.wrap IntKind.i64 (IntKind.wrap IntKind.i64 ((0 : Int) + (1 : Int)) + (1 : Int)) + (1 : Int)) ∧
 IntKind.wrap IntKind.i64 (IntKind.wrap IntKind.i64 (IntKind.wrap IntKind.i64 ((0 : Int) + (1 : Int)) + (1 : Int)) + (1 : Int)) <
 (↑(3 : Nat) : Int) ∧
 False ∧ False ∧ (((0 : Int) == (0 : Int)) = true → False ∧ False) ∧ (((0 : Int) == (0 : Int)) = false → False)) ∧
 (decide (IntKind.wrap IntKind.i64 (IntKind.wrap IntKind.i64 (IntKind.wrap IntKind.i64 ((0 : Int) + (1 : Int)) + (1 : Int)) + (1 : Int)) < (3 : Int)) =
 false →
 (0 : Int) = (0 : Int)))) ∧
 (decide (IntKind.wrap IntKind.i64 (IntKind.wrap IntKind.i64 ((0 : Int) + (1 : Int)) + (1 : Int)) < (3 : Int)) = false → (0 : Int) = (0 : Int))) ∧
 (((0 : Int) == (0 : Int)) = false →
 (decide (IntKind.wrap IntKind.i64 (IntKind.wrap IntKind.i64 ((0 : Int) + (1 : Int)) + (1 : Int)) < (3 : Int)) = true →
 (0 : Int) ≤ IntKind.wrap IntKind.i64 (IntKind.wrap IntKind.i64 ((0 : Int) + (1 : Int)) + (1 : Int)) ∧
 IntKind.wrap IntKind.i64 (IntKind.wrap IntKind.i64 ((0 : Int) + (1 : Int)) + (1 : Int)) < (↑(3 : Nat) : Int) ∧
 (((0 : Int) == (0 : Int)) = true →
 (0 : Int) ≤ IntKind.wrap IntKind.i64 (IntKind.wrap IntKind.i64 ((0 : Int) + (1 : Int)) + (1 : Int)) ∧
 IntKind.wrap IntKind.i64 (IntKind.wrap IntKind.i64 ((0 : Int) + (1 : Int)) + (1 : Int)) ≤ (2 : Int) ∧
 (decide (IntKind.wrap IntKind.i64 (IntKind.wrap IntKind.i64 (IntKind.wrap IntKind.i64 ((0 : Int) + (1 : Int)) + (1 : Int)) + (1 : Int)) < (3 : Int)) =
 true →
 (0 : Int) ≤ IntKind.wrap IntKind.i64 (IntKind.wrap IntKind.i64 (IntKind.wrap IntKind.i64 ((0 : Int) + (1 : Int)) + (1 : Int)) + (1 : Int)) ∧
 IntKind.wrap IntKind.i64 (IntKind.wrap IntKind.i64 (IntKind.wrap IntKind.i64 ((0 : Int) + (1 : Int)) + (1 : Int)) + (1 : Int)) <
 (↑(3 : Nat) : Int) ∧
 False ∧ False ∧ (((0 : Int) == (0 : Int)) = true → False ∧ False) ∧ (((0 : Int) == (0 : Int)) = false → False)) ∧
 (decide (IntKind.wrap IntKind.i64 (IntKind.wrap IntKind.i64 (IntKind.wrap IntKind.i64 ((0 : Int) + (1 : Int)) + (1 : Int)) + (1 : Int)) < (3 : Int)) =
 false →
 (0 : Int) = (0 : Int))) ∧
 (((0 : Int) == (0 : Int)) = false →
 (decide (IntKind.wrap IntKind.i64 (IntKind.wrap IntKind.i64 (IntKind.wrap IntKind.i64 ((0 : Int) + (1 : Int)) + (1 : Int)) + (1 : Int)) < (3 : Int)) = true →
 (0 : Int) ≤ IntKind.wrap IntKind.i64 (IntKind.wrap IntKind.i64 (IntKind.wrap IntKind.i64 ((0 : Int) + (1 : Int)) + (1 : Int)) + (1 : Int)) ∧
 IntKind.wrap IntKind.i64 (IntKind.wrap IntKind.i64 (IntKind.wrap IntKind.i64 ((0 : Int) + (1 : Int)) + (1 : Int)) + (1 : Int)) < (↑(3 : Nat) : Int) ∧
 False ∧ False ∧ (((0 : Int) == (0 : Int)) = true → False ∧ False) ∧ (((0 : Int) == (0 : Int)) = false → False)) ∧
 (decide (IntKind.wrap IntKind.i64 (IntKind.wrap IntKind.i64 (IntKind.wrap IntKind.i64 ((0 : Int) + (1 : Int)) + (1 : Int)) + (1 : Int)) < (3 : Int)) =
 false →
 (0 : Int) = (0 : Int)))) ∧
 (decide (IntKind.wrap IntKind.i64 (IntKind.wrap IntKind.i64 ((0 : Int) + (1 : Int)) + (1 : Int)) < (3 : Int)) = false → (0 : Int) = (0 : Int)))) ∧
 (decide (IntKind.wrap IntKind.i64 ((0 : Int) + (1 : Int)) < (3 : Int)) = false → (0 : Int) = (0 : Int)))) ∧
 (decide ((0 : Int) < (3 : Int)) = false → (0 : Int) = (0 : Int))
theorem bkCk_e  : bkCk_t  = vcG Tryz.prog (Gof GBd) (lay3u) Tryz.f84 [.ag frV] [] (.leaf ((.v (.int .i64 0))) ([])) := by kernel_rfl
def bkFi_t  : Prop :=
 List.length [(1 : Int), (4 : Int), (8 : Int)] = List.length (List.replicate (3 : Nat) (0 : Int)) ∧ (3 : Nat) = (3 : Nat) ∧ [(1 : Int), (4 : Int), (8 : Int)] = [(1 : Int), (4 : Int), (8 : Int)]
theorem bkFi_e  : bkFi_t  = vcG Tryz.prog (Gof GHdd) (fun _ => none) Tryz.f83 [] [] (.leaf (.av (.ints .i64 [1, 4, 8])) ([])) := by kernel_rfl
def bkUn_t  : Prop :=
 (decide ((0 : Int) < (3 : Int)) = true →
 (0 : Int) ≤ (0 : Int) ∧
 (0 : Int) < (↑(3 : Nat) : Int) ∧
 (decide (IntKind.wrap IntKind.i64 ((0 : Int) + (1 : Int)) < (3 : Int)) = true →
 (0 : Int) ≤ IntKind.wrap IntKind.i64 ((0 : Int) + (1 : Int)) ∧
 IntKind.wrap IntKind.i64 ((0 : Int) + (1 : Int)) < (↑(3 : Nat) : Int) ∧
 (decide (IntKind.wrap IntKind.i64 (IntKind.wrap IntKind.i64 ((0 : Int) + (1 : Int)) + (1 : Int)) < (3 : Int)) = true →
 (0 : Int) ≤ IntKind.wrap IntKind.i64 (IntKind.wrap IntKind.i64 ((0 : Int) + (1 : Int)) + (1 : Int)) ∧
 IntKind.wrap IntKind.i64 (IntKind.wrap IntKind.i64 ((0 : Int) + (1 : Int)) + (1 : Int)) < (↑(3 : Nat) : Int) ∧
 (decide (IntKind.wrap IntKind.i64 (IntKind.wrap IntKind.i64 (IntKind.wrap IntKind.i64 ((0 : Int) + (1 : Int)) + (1 : Int)) + (1 : Int)) < (3 : Int)) = true →
 (0 : Int) ≤ IntKind.wrap IntKind.i64 (IntKind.wrap IntKind.i64 (IntKind.wrap IntKind.i64 ((0 : Int) + (1 : Int)) + (1 : Int)) + (1 : Int)) ∧
 IntKind.wrap IntKind.i64 (IntKind.wrap IntKind.i64 (IntKind.wrap IntKind.i64 ((0 : Int) + (1 : Int)) + (1 : Int)) + (1 : Int)) < (↑(3 : Nat) : Int) ∧ False ∧ False) ∧
 (decide (IntKind.wrap IntKind.i64 (IntKind.wrap IntKind.i64 (IntKind.wrap IntKind.i64 ((0 : Int) + (1 : Int)) + (1 : Int)) + (1 : Int)) < (3 : Int)) = false →
 (0 : Int) = (0 : Int) ∧
 (0 : Int) = (0 : Int) ∧
 (0 : Int) = (0 : Int) ∧
 Value.slice none (0 : Nat) (0 : Nat) = Value.slice none (0 : Nat) (0 : Nat) ∧
 (-1 : Int) = (-1 : Int) ∧
 (0 : Int) = (0 : Int) ∧
 (0 : Int) = (0 : Int) ∧
 Value.slice none (0 : Nat) (0 : Nat) = Value.slice none (0 : Nat) (0 : Nat) ∧
 (-1 : Int) = (-1 : Int) ∧
 (0 : Int) = (0 : Int) ∧
 (0 : Int) = (0 : Int) ∧
 Value.slice none (0 : Nat) (0 : Nat) = Value.slice none (0 : Nat) (0 : Nat) ∧
 (-1 : Int) = (-1 : Int) ∧
 (0 : Int) = (0 : Int) ∧ (0 : Int) = (0 : Int) ∧ Value.slice none (0 : Nat) (0 : Nat) = Value.slice none (0 : Nat) (0 : Nat))) ∧
 (decide (IntKind.wrap IntKind.i64 (IntKind.wrap IntKind.i64 ((0 : Int) + (1 : Int)) + (1 : Int)) < (3 : Int)) = false →
 (0 : Int) = (0 : Int) ∧
 (0 : Int) = (0 : Int) ∧
 (0 : Int) = (0 : Int) ∧
 Value.slice none (0 : Nat) (0 : Nat) = Value.slice none (0 : Nat) (0 : Nat) ∧
 (-1 : Int) = (-1 : Int) ∧
 (0 : Int) = (0 : Int) ∧
 (0 : Int) = (0 : Int) ∧
 Value.slice none (0 : Nat) (0 : Nat) = Value.slice none (0 : Nat) (0 : Nat) ∧
 (-1 : Int) = (-1 : Int) ∧
 (0 : Int) = (0 : Int) ∧
 (0 : Int) = (0 : Int) ∧
 Value.slice none (0 : Nat) (0 : Nat) = Value.slice none (0 : Nat) (0 : Nat) ∧
 (0 : Int) = (-1 : Int) ∧ (0 : Int) = (0 : Int) ∧ (0 : Int) = (0 : Int) ∧ Value.slice none (0 : Nat) (0 : Nat) = Value.slice none (0 : Nat) (0 : Nat))) ∧
 (decide (IntKind.wrap IntKind.i64 ((0 : Int) + (1 : Int)) < (3 : Int)) = false →
 (0 : Int) = (0 : Int) ∧
 (0 : Int) = (0 : Int) ∧
 (0 : Int) = (0 : Int) ∧
 Value.slice none (0 : Nat) (0 : Nat) = Value.slice none (0 : Nat) (0 : Nat) ∧
 (-1 : Int) = (-1 : Int) ∧
 (0 : Int) = (0 : Int) ∧
 (0 : Int) = (0 : Int) ∧
 Value.slice none (0 : Nat) (0 : Nat) = Value.slice none (0 : Nat) (0 : Nat) ∧
 (0 : Int) = (-1 : Int) ∧
 (0 : Int) = (0 : Int) ∧
 (0 : Int) = (0 : Int) ∧
 Value.slice none (0 : Nat) (0 : Nat) = Value.slice none (0 : Nat) (0 : Nat) ∧
 (0 : Int) = (-1 : Int) ∧ (0 : Int) = (0 : Int) ∧ (0 : Int) = (0 : Int) ∧ Value.slice none (0 : Nat) (0 : Nat) = Value.slice none (0 : Nat) (0 : Nat))) ∧
 (decide ((0 : Int) < (3 : Int)) = false →
 (0 : Int) = (0 : Int) ∧
 (0 : Int) = (0 : Int) ∧
 (0 : Int) = (0 : Int) ∧
 Value.slice none (0 : Nat) (0 : Nat) = Value.slice none (0 : Nat) (0 : Nat) ∧
 (0 : Int) = (-1 : Int) ∧
 (0 : Int) = (0 : Int) ∧
 (0 : Int) = (0 : Int) ∧
 Value.slice none (0 : Nat) (0 : Nat) = Value.slice none (0 : Nat) (0 : Nat) ∧
 (0 : Int) = (-1 : Int) ∧
 (0 : Int) = (0 : Int) ∧
 (0 : Int) = (0 : Int) ∧
 Value.slice none (0 : Nat) (0 : Nat) = Value.slice none (0 : Nat) (0 : Nat) ∧
 (0 : Int) = (-1 : Int) ∧ (0 : Int) = (0 : Int) ∧ (0 : Int) = (0 : Int) ∧ Value.slice none (0 : Nat) (0 : Nat) = Value.slice none (0 : Nat) (0 : Nat))
theorem bkUn_e  : bkUn_t  = vcG Tryz.prog (Gof GHdd) (lay3) Tryz.f82 [] [] (.leaf (.ag unV) ([])) := by kernel_rfl
def bkEm_t  : Prop :=
 (((0 : Int) == (0 : Int)) = true → ((0 : Int) == (0 : Int)) = true) ∧ (((0 : Int) == (0 : Int)) = false → false = true)
theorem bkEm_e  : bkEm_t  = vcG Tryz.prog (Gof GHdd) (fun _ => none) Tryz.f111 [.ag [.v (.int .i64 0), .v (.slice none 0 0)]] [] (.leaf (.v (.bool true)) ([])) := by kernel_rfl
def bkCl_t  : Prop :=
 Value.slice none (0 : Nat) (0 : Nat) = Value.slice none (0 : Nat) (0 : Nat)
theorem bkCl_e  : bkCl_t  = vcG Tryz.prog (Gof GHdd) (fun _ => none) Tryz.f97 [.v (.slice none 0 0)] [] (.leaf (.v (.slice none 0 0)) ([])) := by kernel_rfl
def bkVa_t (k : Int) : Prop :=
 (decide (k ≥ (0 : Int)) = true → decide (k ≤ (2 : Int)) = (decide ((0 : Int) ≤ k) && decide (k ≤ (2 : Int)))) ∧
 (decide (k ≥ (0 : Int)) = false → false = (decide ((0 : Int) ≤ k) && decide (k ≤ (2 : Int))))
theorem bkVa_e (k : Int) : bkVa_t k = vcG Tryz.prog (Gof GHdd) (fun _ => none) Tryz.f137 [.v (.int .i64 k)] [] (.leaf ((.v (.bool (decide (0 ≤ k) && decide (k ≤ 2))))) ([])) := by kernel_rfl
def bkMo0_t  : Prop :=
 (0 : Int) ≤ (0 : Int) ∧ (0 : Int) < (↑(3 : Nat) : Int) ∧ (35 : Int) = moK (0 : Int)
theorem bkMo0_e  : bkMo0_t  = vcG Tryz.prog (Gof GHdd) (fun _ => none) Tryz.f138 [.v (.int .i64 0)] [] (.leaf ((.v (.int .i64 (moK 0)))) ([])) := by kernel_rfl
def bkMo1_t  : Prop :=
 (0 : Int) ≤ (1 : Int) ∧ (1 : Int) < (↑(3 : Nat) : Int) ∧ (31 : Int) = moK (1 : Int)
theorem bkMo1_e  : bkMo1_t  = vcG Tryz.prog (Gof GHdd) (fun _ => none) Tryz.f138 [.v (.int .i64 1)] [] (.leaf ((.v (.int .i64 (moK 1)))) ([])) := by kernel_rfl
def bkMo2_t  : Prop :=
 (0 : Int) ≤ (2 : Int) ∧ (2 : Int) < (↑(3 : Nat) : Int) ∧ (52 : Int) = moK (2 : Int)
theorem bkMo2_e  : bkMo2_t  = vcG Tryz.prog (Gof GHdd) (fun _ => none) Tryz.f138 [.v (.int .i64 2)] [] (.leaf ((.v (.int .i64 (moK 2)))) ([])) := by kernel_rfl
def bkFr_t  : Prop :=
 (1 : Int) = (1 : Int) ∧
 (4 : Int) = (4 : Int) ∧
 (8 : Int) = (8 : Int) ∧
 Value.slice none (0 : Nat) (0 : Nat) = Value.slice none (0 : Nat) (0 : Nat) ∧
 (-1 : Int) = (-1 : Int) ∧
 (0 : Int) = (0 : Int) ∧
 (0 : Int) = (0 : Int) ∧
 Value.slice none (0 : Nat) (0 : Nat) = Value.slice none (0 : Nat) (0 : Nat) ∧
 (-1 : Int) = (-1 : Int) ∧
 (0 : Int) = (0 : Int) ∧
 (0 : Int) = (0 : Int) ∧
 Value.slice none (0 : Nat) (0 : Nat) = Value.slice none (0 : Nat) (0 : Nat) ∧
 (-1 : Int) = (-1 : Int) ∧ (0 : Int) = (0 : Int) ∧ (0 : Int) = (0 : Int) ∧ Value.slice none (0 : Nat) (0 : Nat) = Value.slice none (0 : Nat) (0 : Nat)
theorem bkFr_e  : bkFr_t  = vcG Tryz.prog (Gof GBa) (fun _ => none) Tryz.f77 [] [] (.leaf (.ag frV) ([])) := by kernel_rfl
def bkMs_t (k : Int) : Prop :=
 ((!(decide ((0 : Int) ≤ k) && decide (k ≤ (2 : Int)))) = true → (0 : Int) = moK k ∧ (11 : Int) = (0 : Int)) ∧
 ((!(decide ((0 : Int) ≤ k) && decide (k ≤ (2 : Int)))) = false → (0 : Int) ≤ k ∧ k ≤ (2 : Int) ∧ moK k = moK k ∧ (0 : Int) = (0 : Int))
theorem bkMs_e (k : Int) : bkMs_t k = vcG Tryz.prog (Gof GBa) (fun _ => none) Tryz.f108 [.v (.int .i64 k)] [] (.leaf ((.tu [.v (.int .i64 (moK k)), .v (.int .i64 0)])) ([])) := by kernel_rfl
def bkTc_t (k : Int) : Prop :=
 (0 : Int) ≤ k ∧
 k ≤ (2 : Int) ∧
 (((0 : Int) != (0 : Int)) = true → (11 : Int) = (0 : Int)) ∧
 (((0 : Int) != (0 : Int)) = false →
 (((-1 : Int) == (0 : Int)) = true → False ∧ False ∧ False ∧ False ∧ (((0 : Int) == (0 : Int)) = true → False ∧ False ∧ False) ∧ (((0 : Int) == (0 : Int)) = false → (2 : Int) = (0 : Int))) ∧
 (((-1 : Int) == (0 : Int)) = false →
 (((-1 : Int) == (1 : Int)) = true →
 (decide ((0 : Int) < (0 : Int)) = true → (24 : Int) = (0 : Int)) ∧
 (decide ((0 : Int) < (0 : Int)) = false →
 (decide ((0 : Int) > moK k) = true → (24 : Int) = (0 : Int)) ∧
 (decide ((0 : Int) > moK k) = false → ((!true) = true → (2 : Int) = (0 : Int)) ∧ ((!true) = false → (0 : Int) = (0 : Int))))) ∧
 (((-1 : Int) == (1 : Int)) = false →
 (((-1 : Int) == (2 : Int)) = true → False ∧ False ∧ False) ∧
 (((-1 : Int) == (2 : Int)) = false →
 (((-1 : Int) == (-1 : Int)) = true →
 (((0 : Int) == (0 : Int)) = true → ((!true) = true → (2 : Int) = (0 : Int)) ∧ ((!true) = false → (0 : Int) = (0 : Int))) ∧
 (((0 : Int) == (0 : Int)) = false → (2 : Int) = (0 : Int))) ∧
 (((-1 : Int) == (-1 : Int)) = false → (11 : Int) = (0 : Int))))))
theorem bkTc_e (k : Int) : bkTc_t k = vcG Tryz.prog (Gof GBb) (fun _ => none) Tryz.f95 [.v (.int .i64 k), .ag [.v (.int .i64 (-1)), .v (.int .i64 0), .v (.int .i64 0), .v (.slice none 0 0)]] [] (.leaf ((.v (.int .i64 0))) ([])) := by kernel_rfl
def bkRc_t  : Prop :=
 (3 : Nat) = (3 : Nat) ∧
 (3 : Nat) = List.length [(1 : Int), (4 : Int), (8 : Int)] ∧
 (3 : Nat) = List.length [(1 : Int), (4 : Int), (8 : Int)] ∧
 (([(1 : Int), (4 : Int), (8 : Int)] == [(1 : Int), (4 : Int), (8 : Int)]) = true → (0 : Int) = (0 : Int)) ∧
 (([(1 : Int), (4 : Int), (8 : Int)] == [(1 : Int), (4 : Int), (8 : Int)]) = false →
 (3 : Nat) = (3 : Nat) ∧
 (3 : Nat) = List.length [(1 : Int), (4 : Int), (8 : Int)] ∧
 (3 : Nat) = List.length [(0 : Int), (0 : Int), (0 : Int)] ∧
 (([(1 : Int), (4 : Int), (8 : Int)] == [(0 : Int), (0 : Int), (0 : Int)]) = true → (0 : Int) = (0 : Int)) ∧
 (([(1 : Int), (4 : Int), (8 : Int)] == [(0 : Int), (0 : Int), (0 : Int)]) = false → (3 : Nat) = (3 : Nat) ∧ False))
theorem bkRc_e  : bkRc_t  = vcG Tryz.prog (Gof GBb) (fun _ => none) Tryz.f93 [.av (.ints .i64 [1, 4, 8])] [] (.leaf ((.v (.int .i64 0))) ([])) := by kernel_rfl
def bkHd_t (s : ByteArray) (a e f : Int) : Prop :=
 vldC s a (e, f).fst (e, f).snd = true ∧
 ByteArray.size s ≤ (9223372036854775807 : Nat) ∧
 (1 : Int) ≤ (3 : Int) ∧
 (3 : Int) ≤ (8 : Int) ∧
 (0 : Int) ≤ (1 : Int) ∧
 ((byE s a (e, f).fst (3 : Int) == (0 : Int)) = true →
 ((IntKind.wrap IntKind.i64 (bits BinOp.and IntKind.u64 (Int.fdiv (numS (byO s a (e, f).fst (3 : Int))) ((2 : Int) ^ min (Int.toNat (1 : Int)) (IntKind.bits IntKind.u64))) (3 : Int)) ==
 (3 : Int)) =
 true →
 vldC s (byA s a (e, f).fst (3 : Int)) (byE s a (e, f).fst (3 : Int)) (byF s a (e, f).fst (e, f).snd (3 : Int)) = true ∧
 (1 : Int) ≤ (15 : Int) ∧
 (15 : Int) ≤ (31 : Int) ∧
 (0 : Int) ≤ (3 : Int) ∧
 IntKind.wrap IntKind.i64
 (bits BinOp.and IntKind.u64 (Int.fdiv (numS (byO s a (e, f).fst (3 : Int))) ((2 : Int) ^ min (Int.toNat (1 : Int)) (IntKind.bits IntKind.u64))) (3 : Int)) =
 bhK s (a, e, f) ∧
 IntKind.wrap IntKind.i64 (Int.fdiv (numS (byO s a (e, f).fst (3 : Int))) ((2 : Int) ^ min (Int.toNat (3 : Int)) (IntKind.bits IntKind.u64))) = bhZ s (a, e, f) ∧
 (bits BinOp.and IntKind.u64 (numS (byO s a (e, f).fst (3 : Int))) (1 : Int) == (1 : Int)) = bhL s (a, e, f) ∧
 s = s ∧
 byA s a (e, f).fst (3 : Int) = (bhC s (a, e, f)).fst ∧
 faE (byE s a (e, f).fst (3 : Int)) (15 : Int) = (bhC s (a, e, f)).snd.fst ∧
 faF s (byE s a (e, f).fst (3 : Int)) (byF s a (e, f).fst (e, f).snd (3 : Int)) a = (bhC s (a, e, f)).snd.snd) ∧
 ((IntKind.wrap IntKind.i64 (bits BinOp.and IntKind.u64 (Int.fdiv (numS (byO s a (e, f).fst (3 : Int))) ((2 : Int) ^ min (Int.toNat (1 : Int)) (IntKind.bits IntKind.u64))) (3 : Int)) ==
 (3 : Int)) =
 false →
 (0 : Int) ≤ (3 : Int) ∧
 IntKind.wrap IntKind.i64
 (bits BinOp.and IntKind.u64 (Int.fdiv (numS (byO s a (e, f).fst (3 : Int))) ((2 : Int) ^ min (Int.toNat (1 : Int)) (IntKind.bits IntKind.u64))) (3 : Int)) =
 bhK s (a, e, f) ∧
 IntKind.wrap IntKind.i64 (Int.fdiv (numS (byO s a (e, f).fst (3 : Int))) ((2 : Int) ^ min (Int.toNat (3 : Int)) (IntKind.bits IntKind.u64))) = bhZ s (a, e, f) ∧
 (bits BinOp.and IntKind.u64 (numS (byO s a (e, f).fst (3 : Int))) (1 : Int) == (1 : Int)) = bhL s (a, e, f) ∧
 s = s ∧
 byA s a (e, f).fst (3 : Int) = (bhC s (a, e, f)).fst ∧
 byE s a (e, f).fst (3 : Int) = (bhC s (a, e, f)).snd.fst ∧ byF s a (e, f).fst (e, f).snd (3 : Int) = (bhC s (a, e, f)).snd.snd)) ∧
 ((byE s a (e, f).fst (3 : Int) == (0 : Int)) = false →
 (0 : Int) ≤ (3 : Int) ∧
 IntKind.wrap IntKind.i64 (bits BinOp.and IntKind.u64 (Int.fdiv (numS (byO s a (e, f).fst (3 : Int))) ((2 : Int) ^ min (Int.toNat (1 : Int)) (IntKind.bits IntKind.u64))) (3 : Int)) =
 bhK s (a, e, f) ∧
 IntKind.wrap IntKind.i64 (Int.fdiv (numS (byO s a (e, f).fst (3 : Int))) ((2 : Int) ^ min (Int.toNat (3 : Int)) (IntKind.bits IntKind.u64))) = bhZ s (a, e, f) ∧
 (bits BinOp.and IntKind.u64 (numS (byO s a (e, f).fst (3 : Int))) (1 : Int) == (1 : Int)) = bhL s (a, e, f) ∧
 s = s ∧
 byA s a (e, f).fst (3 : Int) = (bhC s (a, e, f)).fst ∧
 byE s a (e, f).fst (3 : Int) = (bhC s (a, e, f)).snd.fst ∧ byF s a (e, f).fst (e, f).snd (3 : Int) = (bhC s (a, e, f)).snd.snd)
theorem bkHd_e (s : ByteArray) (a e f : Int) : bkHd_t s a e f = vcG Tryz.prog (Gof GBb) (fun _ => none) Tryz.f86 [.p 0 0 0] [(0, .cells 154 (cuR s (a, e, f)))] (.leaf ((.tu [.v (.int .i64 (bhK s (a, e, f))), .v (.int .i64 (bhZ s (a, e, f))), .v (.bool (bhL s (a, e, f)))])) ([(0, .cells 154 (cuR s (bhC s (a, e, f))))])) := by kernel_rfl
def bkOw_t  : Prop :=
 (decide ((0 : Int) < (3 : Int)) = true →
 (0 : Int) ≤ (0 : Int) ∧
 (0 : Int) < (↑(3 : Nat) : Int) ∧
 (0 : Int) ≤ (0 : Int) ∧
 (0 : Int) < (↑(3 : Nat) : Int) ∧
 (decide (IntKind.wrap IntKind.i64 ((0 : Int) + (1 : Int)) < (3 : Int)) = true →
 (0 : Int) ≤ IntKind.wrap IntKind.i64 ((0 : Int) + (1 : Int)) ∧
 IntKind.wrap IntKind.i64 ((0 : Int) + (1 : Int)) < (↑(3 : Nat) : Int) ∧
 (0 : Int) ≤ IntKind.wrap IntKind.i64 ((0 : Int) + (1 : Int)) ∧
 IntKind.wrap IntKind.i64 ((0 : Int) + (1 : Int)) < (↑(3 : Nat) : Int) ∧
 (decide (IntKind.wrap IntKind.i64 (IntKind.wrap IntKind.i64 ((0 : Int) + (1 : Int)) + (1 : Int)) < (3 : Int)) = true →
 (0 : Int) ≤ IntKind.wrap IntKind.i64 (IntKind.wrap IntKind.i64 ((0 : Int) + (1 : Int)) + (1 : Int)) ∧
 IntKind.wrap IntKind.i64 (IntKind.wrap IntKind.i64 ((0 : Int) + (1 : Int)) + (1 : Int)) < (↑(3 : Nat) : Int) ∧
 (0 : Int) ≤ IntKind.wrap IntKind.i64 (IntKind.wrap IntKind.i64 ((0 : Int) + (1 : Int)) + (1 : Int)) ∧
 IntKind.wrap IntKind.i64 (IntKind.wrap IntKind.i64 ((0 : Int) + (1 : Int)) + (1 : Int)) < (↑(3 : Nat) : Int) ∧
 (decide (IntKind.wrap IntKind.i64 (IntKind.wrap IntKind.i64 (IntKind.wrap IntKind.i64 ((0 : Int) + (1 : Int)) + (1 : Int)) + (1 : Int)) < (3 : Int)) = true →
 (0 : Int) ≤ IntKind.wrap IntKind.i64 (IntKind.wrap IntKind.i64 (IntKind.wrap IntKind.i64 ((0 : Int) + (1 : Int)) + (1 : Int)) + (1 : Int)) ∧
 IntKind.wrap IntKind.i64 (IntKind.wrap IntKind.i64 (IntKind.wrap IntKind.i64 ((0 : Int) + (1 : Int)) + (1 : Int)) + (1 : Int)) < (↑(3 : Nat) : Int) ∧
 False ∧
 False ∧
 (0 : Int) ≤ IntKind.wrap IntKind.i64 (IntKind.wrap IntKind.i64 (IntKind.wrap IntKind.i64 ((0 : Int) + (1 : Int)) + (1 : Int)) + (1 : Int)) ∧
 IntKind.wrap IntKind.i64 (IntKind.wrap IntKind.i64 (IntKind.wrap IntKind.i64 ((0 : Int) + (1 : Int)) + (1 : Int)) + (1 : Int)) < (↑(3 : Nat) : Int) ∧
 False ∧ False) ∧
 (decide (IntKind.wrap IntKind.i64 (IntKind.wrap IntKind.i64 (IntKind.wrap IntKind.i64 ((0 : Int) + (1 : Int)) + (1 : Int)) + (1 : Int)) < (3 : Int)) = false →
 (1 : Int) = (1 : Int) ∧
 (4 : Int) = (4 : Int) ∧
 (8 : Int) = (8 : Int) ∧
 Value.slice none (0 : Nat) (0 : Nat) = Value.slice none (0 : Nat) (0 : Nat) ∧
 (-1 : Int) = (-1 : Int) ∧
 (0 : Int) = (0 : Int) ∧
 (0 : Int) = (0 : Int) ∧
 Value.slice none (0 : Nat) (0 : Nat) = Value.slice none (0 : Nat) (0 : Nat) ∧
 (-1 : Int) = (-1 : Int) ∧
 (0 : Int) = (0 : Int) ∧
 (0 : Int) = (0 : Int) ∧
 Value.slice none (0 : Nat) (0 : Nat) = Value.slice none (0 : Nat) (0 : Nat) ∧
 (-1 : Int) = (-1 : Int) ∧
 (0 : Int) = (0 : Int) ∧ (0 : Int) = (0 : Int) ∧ Value.slice none (0 : Nat) (0 : Nat) = Value.slice none (0 : Nat) (0 : Nat))) ∧
 (decide (IntKind.wrap IntKind.i64 (IntKind.wrap IntKind.i64 ((0 : Int) + (1 : Int)) + (1 : Int)) < (3 : Int)) = false →
 (1 : Int) = (1 : Int) ∧
 (4 : Int) = (4 : Int) ∧
 (8 : Int) = (8 : Int) ∧
 Value.slice none (0 : Nat) (0 : Nat) = Value.slice none (0 : Nat) (0 : Nat) ∧
 (-1 : Int) = (-1 : Int) ∧
 (0 : Int) = (0 : Int) ∧
 (0 : Int) = (0 : Int) ∧
 Value.slice none (0 : Nat) (0 : Nat) = Value.slice none (0 : Nat) (0 : Nat) ∧
 (-1 : Int) = (-1 : Int) ∧
 (0 : Int) = (0 : Int) ∧
 (0 : Int) = (0 : Int) ∧
 Value.slice none (0 : Nat) (0 : Nat) = Value.slice none (0 : Nat) (0 : Nat) ∧
 (-1 : Int) = (-1 : Int) ∧
 (0 : Int) = (0 : Int) ∧ (0 : Int) = (0 : Int) ∧ Value.slice none (0 : Nat) (0 : Nat) = Value.slice none (0 : Nat) (0 : Nat))) ∧
 (decide (IntKind.wrap IntKind.i64 ((0 : Int) + (1 : Int)) < (3 : Int)) = false →
 (1 : Int) = (1 : Int) ∧
 (4 : Int) = (4 : Int) ∧
 (8 : Int) = (8 : Int) ∧
 Value.slice none (0 : Nat) (0 : Nat) = Value.slice none (0 : Nat) (0 : Nat) ∧
 (-1 : Int) = (-1 : Int) ∧
 (0 : Int) = (0 : Int) ∧
 (0 : Int) = (0 : Int) ∧
 Value.slice none (0 : Nat) (0 : Nat) = Value.slice none (0 : Nat) (0 : Nat) ∧
 (-1 : Int) = (-1 : Int) ∧
 (0 : Int) = (0 : Int) ∧
 (0 : Int) = (0 : Int) ∧
 Value.slice none (0 : Nat) (0 : Nat) = Value.slice none (0 : Nat) (0 : Nat) ∧
 (-1 : Int) = (-1 : Int) ∧ (0 : Int) = (0 : Int) ∧ (0 : Int) = (0 : Int) ∧ Value.slice none (0 : Nat) (0 : Nat) = Value.slice none (0 : Nat) (0 : Nat))) ∧
 (decide ((0 : Int) < (3 : Int)) = false →
 (1 : Int) = (1 : Int) ∧
 (4 : Int) = (4 : Int) ∧
 (8 : Int) = (8 : Int) ∧
 Value.slice none (0 : Nat) (0 : Nat) = Value.slice none (0 : Nat) (0 : Nat) ∧
 (-1 : Int) = (-1 : Int) ∧
 (0 : Int) = (0 : Int) ∧
 (0 : Int) = (0 : Int) ∧
 Value.slice none (0 : Nat) (0 : Nat) = Value.slice none (0 : Nat) (0 : Nat) ∧
 (-1 : Int) = (-1 : Int) ∧
 (0 : Int) = (0 : Int) ∧
 (0 : Int) = (0 : Int) ∧
 Value.slice none (0 : Nat) (0 : Nat) = Value.slice none (0 : Nat) (0 : Nat) ∧
 (-1 : Int) = (-1 : Int) ∧ (0 : Int) = (0 : Int) ∧ (0 : Int) = (0 : Int) ∧ Value.slice none (0 : Nat) (0 : Nat) = Value.slice none (0 : Nat) (0 : Nat))
theorem bkOw_e  : bkOw_t  = vcG Tryz.prog (Gof GBa) (lay3) Tryz.f88 [.ag frV] [] (.leaf (.ag frV) ([])) := by kernel_rfl
def bkRd_t (b : ByteArray) (a w : Int) (o : ByteArray) (m : Int) : Prop :=
 (decide (a < (0 : Int)) = true →
 (brG b a w o m = true →
 ByteArray.empty = o ++ brB b a ∧
 (0 : Int) = (1 : Int) ∧
 (0 : Int) = (4 : Int) ∧
 (0 : Int) = (8 : Int) ∧
 Value.slice none (0 : Nat) (0 : Nat) = Value.slice none (0 : Nat) (0 : Nat) ∧
 (0 : Int) = (-1 : Int) ∧
 (0 : Int) = (0 : Int) ∧
 (0 : Int) = (0 : Int) ∧
 Value.slice none (0 : Nat) (0 : Nat) = Value.slice none (0 : Nat) (0 : Nat) ∧
 (0 : Int) = (-1 : Int) ∧
 (0 : Int) = (0 : Int) ∧
 (0 : Int) = (0 : Int) ∧
 Value.slice none (0 : Nat) (0 : Nat) = Value.slice none (0 : Nat) (0 : Nat) ∧
 (0 : Int) = (-1 : Int) ∧
 (0 : Int) = (0 : Int) ∧
 (0 : Int) = (0 : Int) ∧
 Value.slice none (0 : Nat) (0 : Nat) = Value.slice none (0 : Nat) (0 : Nat) ∧
 false = bhL b (brS b a) ∧ (0 : Int) = (brD b a).fst ∧ (2 : Int) = (0 : Int) ∧ (0 : Int) = (0 : Int)) ∧
 (¬brG b a w o m = true →
 ByteArray.empty = ByteArray.empty ∧
 (0 : Int) = (0 : Int) ∧
 (0 : Int) = (0 : Int) ∧
 (0 : Int) = (0 : Int) ∧
 Value.slice none (0 : Nat) (0 : Nat) = Value.slice none (0 : Nat) (0 : Nat) ∧
 (0 : Int) = (0 : Int) ∧
 (0 : Int) = (0 : Int) ∧
 (0 : Int) = (0 : Int) ∧
 Value.slice none (0 : Nat) (0 : Nat) = Value.slice none (0 : Nat) (0 : Nat) ∧
 (0 : Int) = (0 : Int) ∧
 (0 : Int) = (0 : Int) ∧
 (0 : Int) = (0 : Int) ∧
 Value.slice none (0 : Nat) (0 : Nat) = Value.slice none (0 : Nat) (0 : Nat) ∧
 (0 : Int) = (0 : Int) ∧
 (0 : Int) = (0 : Int) ∧
 (0 : Int) = (0 : Int) ∧
 Value.slice none (0 : Nat) (0 : Nat) = Value.slice none (0 : Nat) (0 : Nat) ∧
 false = false ∧ (0 : Int) = (0 : Int) ∧ (2 : Int) = (brE b a w o m).fst ∧ (0 : Int) = (brE b a w o m).snd)) ∧
 (decide (a < (0 : Int)) = false →
 (decide (a > (↑(ByteArray.size b) : Int)) = true →
 (brG b a w o m = true →
 ByteArray.empty = o ++ brB b a ∧
 (0 : Int) = (1 : Int) ∧
 (0 : Int) = (4 : Int) ∧
 (0 : Int) = (8 : Int) ∧
 Value.slice none (0 : Nat) (0 : Nat) = Value.slice none (0 : Nat) (0 : Nat) ∧
 (0 : Int) = (-1 : Int) ∧
 (0 : Int) = (0 : Int) ∧
 (0 : Int) = (0 : Int) ∧
 Value.slice none (0 : Nat) (0 : Nat) = Value.slice none (0 : Nat) (0 : Nat) ∧
 (0 : Int) = (-1 : Int) ∧
 (0 : Int) = (0 : Int) ∧
 (0 : Int) = (0 : Int) ∧
 Value.slice none (0 : Nat) (0 : Nat) = Value.slice none (0 : Nat) (0 : Nat) ∧
 (0 : Int) = (-1 : Int) ∧
 (0 : Int) = (0 : Int) ∧
 (0 : Int) = (0 : Int) ∧
 Value.slice none (0 : Nat) (0 : Nat) = Value.slice none (0 : Nat) (0 : Nat) ∧
 false = bhL b (brS b a) ∧ (0 : Int) = (brD b a).fst ∧ (2 : Int) = (0 : Int) ∧ (0 : Int) = (0 : Int)) ∧
 (¬brG b a w o m = true →
 ByteArray.empty = ByteArray.empty ∧
 (0 : Int) = (0 : Int) ∧
 (0 : Int) = (0 : Int) ∧
 (0 : Int) = (0 : Int) ∧
 Value.slice none (0 : Nat) (0 : Nat) = Value.slice none (0 : Nat) (0 : Nat) ∧
 (0 : Int) = (0 : Int) ∧
 (0 : Int) = (0 : Int) ∧
 (0 : Int) = (0 : Int) ∧
 Value.slice none (0 : Nat) (0 : Nat) = Value.slice none (0 : Nat) (0 : Nat) ∧
 (0 : Int) = (0 : Int) ∧
 (0 : Int) = (0 : Int) ∧
 (0 : Int) = (0 : Int) ∧
 Value.slice none (0 : Nat) (0 : Nat) = Value.slice none (0 : Nat) (0 : Nat) ∧
 (0 : Int) = (0 : Int) ∧
 (0 : Int) = (0 : Int) ∧
 (0 : Int) = (0 : Int) ∧
 Value.slice none (0 : Nat) (0 : Nat) = Value.slice none (0 : Nat) (0 : Nat) ∧
 false = false ∧ (0 : Int) = (0 : Int) ∧ (2 : Int) = (brE b a w o m).fst ∧ (0 : Int) = (brE b a w o m).snd)) ∧
 (decide (a > (↑(ByteArray.size b) : Int)) = false →
 (decide (w < (0 : Int)) = true →
 (brG b a w o m = true →
 ByteArray.empty = o ++ brB b a ∧
 (0 : Int) = (1 : Int) ∧
 (0 : Int) = (4 : Int) ∧
 (0 : Int) = (8 : Int) ∧
 Value.slice none (0 : Nat) (0 : Nat) = Value.slice none (0 : Nat) (0 : Nat) ∧
 (0 : Int) = (-1 : Int) ∧
 (0 : Int) = (0 : Int) ∧
 (0 : Int) = (0 : Int) ∧
 Value.slice none (0 : Nat) (0 : Nat) = Value.slice none (0 : Nat) (0 : Nat) ∧
 (0 : Int) = (-1 : Int) ∧
 (0 : Int) = (0 : Int) ∧
 (0 : Int) = (0 : Int) ∧
 Value.slice none (0 : Nat) (0 : Nat) = Value.slice none (0 : Nat) (0 : Nat) ∧
 (0 : Int) = (-1 : Int) ∧
 (0 : Int) = (0 : Int) ∧
 (0 : Int) = (0 : Int) ∧
 Value.slice none (0 : Nat) (0 : Nat) = Value.slice none (0 : Nat) (0 : Nat) ∧
 false = bhL b (brS b a) ∧ (0 : Int) = (brD b a).fst ∧ (2 : Int) = (0 : Int) ∧ (0 : Int) = (0 : Int)) ∧
 (¬brG b a w o m = true →
 ByteArray.empty = ByteArray.empty ∧
 (0 : Int) = (0 : Int) ∧
 (0 : Int) = (0 : Int) ∧
 (0 : Int) = (0 : Int) ∧
 Value.slice none (0 : Nat) (0 : Nat) = Value.slice none (0 : Nat) (0 : Nat) ∧
 (0 : Int) = (0 : Int) ∧
 (0 : Int) = (0 : Int) ∧
 (0 : Int) = (0 : Int) ∧
 Value.slice none (0 : Nat) (0 : Nat) = Value.slice none (0 : Nat) (0 : Nat) ∧
 (0 : Int) = (0 : Int) ∧
 (0 : Int) = (0 : Int) ∧
 (0 : Int) = (0 : Int) ∧
 Value.slice none (0 : Nat) (0 : Nat) = Value.slice none (0 : Nat) (0 : Nat) ∧
 (0 : Int) = (0 : Int) ∧
 (0 : Int) = (0 : Int) ∧
 (0 : Int) = (0 : Int) ∧
 Value.slice none (0 : Nat) (0 : Nat) = Value.slice none (0 : Nat) (0 : Nat) ∧
 false = false ∧ (0 : Int) = (0 : Int) ∧ (2 : Int) = (brE b a w o m).fst ∧ (0 : Int) = (brE b a w o m).snd)) ∧
 (decide (w < (0 : Int)) = false →
 (decide (w > (134217728 : Int)) = true →
 (brG b a w o m = true →
 ByteArray.empty = o ++ brB b a ∧
 (0 : Int) = (1 : Int) ∧
 (0 : Int) = (4 : Int) ∧
 (0 : Int) = (8 : Int) ∧
 Value.slice none (0 : Nat) (0 : Nat) = Value.slice none (0 : Nat) (0 : Nat) ∧
 (0 : Int) = (-1 : Int) ∧
 (0 : Int) = (0 : Int) ∧
 (0 : Int) = (0 : Int) ∧
 Value.slice none (0 : Nat) (0 : Nat) = Value.slice none (0 : Nat) (0 : Nat) ∧
 (0 : Int) = (-1 : Int) ∧
 (0 : Int) = (0 : Int) ∧
 (0 : Int) = (0 : Int) ∧
 Value.slice none (0 : Nat) (0 : Nat) = Value.slice none (0 : Nat) (0 : Nat) ∧
 (0 : Int) = (-1 : Int) ∧
 (0 : Int) = (0 : Int) ∧
 (0 : Int) = (0 : Int) ∧
 Value.slice none (0 : Nat) (0 : Nat) = Value.slice none (0 : Nat) (0 : Nat) ∧
 false = bhL b (brS b a) ∧ (0 : Int) = (brD b a).fst ∧ (2 : Int) = (0 : Int) ∧ (0 : Int) = (0 : Int)) ∧
 (¬brG b a w o m = true →
 ByteArray.empty = ByteArray.empty ∧
 (0 : Int) = (0 : Int) ∧
 (0 : Int) = (0 : Int) ∧
 (0 : Int) = (0 : Int) ∧
 Value.slice none (0 : Nat) (0 : Nat) = Value.slice none (0 : Nat) (0 : Nat) ∧
 (0 : Int) = (0 : Int) ∧
 (0 : Int) = (0 : Int) ∧
 (0 : Int) = (0 : Int) ∧
 Value.slice none (0 : Nat) (0 : Nat) = Value.slice none (0 : Nat) (0 : Nat) ∧
 (0 : Int) = (0 : Int) ∧
 (0 : Int) = (0 : Int) ∧
 (0 : Int) = (0 : Int) ∧
 Value.slice none (0 : Nat) (0 : Nat) = Value.slice none (0 : Nat) (0 : Nat) ∧
 (0 : Int) = (0 : Int) ∧
 (0 : Int) = (0 : Int) ∧
 (0 : Int) = (0 : Int) ∧
 Value.slice none (0 : Nat) (0 : Nat) = Value.slice none (0 : Nat) (0 : Nat) ∧
 false = false ∧ (0 : Int) = (0 : Int) ∧ (2 : Int) = (brE b a w o m).fst ∧ (0 : Int) = (brE b a w o m).snd)) ∧
 (decide (w > (134217728 : Int)) = false →
 (decide (m < (0 : Int)) = true →
 (brG b a w o m = true →
 ByteArray.empty = o ++ brB b a ∧
 (0 : Int) = (1 : Int) ∧
 (0 : Int) = (4 : Int) ∧
 (0 : Int) = (8 : Int) ∧
 Value.slice none (0 : Nat) (0 : Nat) = Value.slice none (0 : Nat) (0 : Nat) ∧
 (0 : Int) = (-1 : Int) ∧
 (0 : Int) = (0 : Int) ∧
 (0 : Int) = (0 : Int) ∧
 Value.slice none (0 : Nat) (0 : Nat) = Value.slice none (0 : Nat) (0 : Nat) ∧
 (0 : Int) = (-1 : Int) ∧
 (0 : Int) = (0 : Int) ∧
 (0 : Int) = (0 : Int) ∧
 Value.slice none (0 : Nat) (0 : Nat) = Value.slice none (0 : Nat) (0 : Nat) ∧
 (0 : Int) = (-1 : Int) ∧
 (0 : Int) = (0 : Int) ∧
 (0 : Int) = (0 : Int) ∧
 Value.slice none (0 : Nat) (0 : Nat) = Value.slice none (0 : Nat) (0 : Nat) ∧
 false = bhL b (brS b a) ∧ (0 : Int) = (brD b a).fst ∧ (2 : Int) = (0 : Int) ∧ (0 : Int) = (0 : Int)) ∧
 (¬brG b a w o m = true →
 ByteArray.empty = ByteArray.empty ∧
 (0 : Int) = (0 : Int) ∧
 (0 : Int) = (0 : Int) ∧
 (0 : Int) = (0 : Int) ∧
 Value.slice none (0 : Nat) (0 : Nat) = Value.slice none (0 : Nat) (0 : Nat) ∧
 (0 : Int) = (0 : Int) ∧
 (0 : Int) = (0 : Int) ∧
 (0 : Int) = (0 : Int) ∧
 Value.slice none (0 : Nat) (0 : Nat) = Value.slice none (0 : Nat) (0 : Nat) ∧
 (0 : Int) = (0 : Int) ∧
 (0 : Int) = (0 : Int) ∧
 (0 : Int) = (0 : Int) ∧
 Value.slice none (0 : Nat) (0 : Nat) = Value.slice none (0 : Nat) (0 : Nat) ∧
 (0 : Int) = (0 : Int) ∧
 (0 : Int) = (0 : Int) ∧
 (0 : Int) = (0 : Int) ∧
 Value.slice none (0 : Nat) (0 : Nat) = Value.slice none (0 : Nat) (0 : Nat) ∧
 false = false ∧ (0 : Int) = (0 : Int) ∧ (2 : Int) = (brE b a w o m).fst ∧ (0 : Int) = (brE b a w o m).snd)) ∧
 (decide (m < (0 : Int)) = false →
 (decide (m > (1048576 : Int)) = true →
 (brG b a w o m = true →
 ByteArray.empty = o ++ brB b a ∧
 (0 : Int) = (1 : Int) ∧
 (0 : Int) = (4 : Int) ∧
 (0 : Int) = (8 : Int) ∧
 Value.slice none (0 : Nat) (0 : Nat) = Value.slice none (0 : Nat) (0 : Nat) ∧
 (0 : Int) = (-1 : Int) ∧
 (0 : Int) = (0 : Int) ∧
 (0 : Int) = (0 : Int) ∧
 Value.slice none (0 : Nat) (0 : Nat) = Value.slice none (0 : Nat) (0 : Nat) ∧
 (0 : Int) = (-1 : Int) ∧
 (0 : Int) = (0 : Int) ∧
 (0 : Int) = (0 : Int) ∧
 Value.slice none (0 : Nat) (0 : Nat) = Value.slice none (0 : Nat) (0 : Nat) ∧
 (0 : Int) = (-1 : Int) ∧
 (0 : Int) = (0 : Int) ∧
 (0 : Int) = (0 : Int) ∧
 Value.slice none (0 : Nat) (0 : Nat) = Value.slice none (0 : Nat) (0 : Nat) ∧
 false = bhL b (brS b a) ∧ (0 : Int) = (brD b a).fst ∧ (2 : Int) = (0 : Int) ∧ (0 : Int) = (0 : Int)) ∧
 (¬brG b a w o m = true →
 ByteArray.empty = ByteArray.empty ∧
 (0 : Int) = (0 : Int) ∧
 (0 : Int) = (0 : Int) ∧
 (0 : Int) = (0 : Int) ∧
 Value.slice none (0 : Nat) (0 : Nat) = Value.slice none (0 : Nat) (0 : Nat) ∧
 (0 : Int) = (0 : Int) ∧
 (0 : Int) = (0 : Int) ∧
 (0 : Int) = (0 : Int) ∧
 Value.slice none (0 : Nat) (0 : Nat) = Value.slice none (0 : Nat) (0 : Nat) ∧
 (0 : Int) = (0 : Int) ∧
 (0 : Int) = (0 : Int) ∧
 (0 : Int) = (0 : Int) ∧
 Value.slice none (0 : Nat) (0 : Nat) = Value.slice none (0 : Nat) (0 : Nat) ∧
 (0 : Int) = (0 : Int) ∧
 (0 : Int) = (0 : Int) ∧
 (0 : Int) = (0 : Int) ∧
 Value.slice none (0 : Nat) (0 : Nat) = Value.slice none (0 : Nat) (0 : Nat) ∧
 false = false ∧ (0 : Int) = (0 : Int) ∧ (2 : Int) = (brE b a w o m).fst ∧ (0 : Int) = (brE b a w o m).snd)) ∧
 (decide (m > (1048576 : Int)) = false →
 (decide ((↑(ByteArray.size o) : Int) > m) = true →
 (brG b a w o m = true →
 ByteArray.empty = o ++ brB b a ∧
 (0 : Int) = (1 : Int) ∧
 (0 : Int) = (4 : Int) ∧
 (0 : Int) = (8 : Int) ∧
 Value.slice none (0 : Nat) (0 : Nat) = Value.slice none (0 : Nat) (0 : Nat) ∧
 (0 : Int) = (-1 : Int) ∧
 (0 : Int) = (0 : Int) ∧
 (0 : Int) = (0 : Int) ∧
 Value.slice none (0 : Nat) (0 : Nat) = Value.slice none (0 : Nat) (0 : Nat) ∧
 (0 : Int) = (-1 : Int) ∧
 (0 : Int) = (0 : Int) ∧
 (0 : Int) = (0 : Int) ∧
 Value.slice none (0 : Nat) (0 : Nat) = Value.slice none (0 : Nat) (0 : Nat) ∧
 (0 : Int) = (-1 : Int) ∧
 (0 : Int) = (0 : Int) ∧
 (0 : Int) = (0 : Int) ∧
 Value.slice none (0 : Nat) (0 : Nat) = Value.slice none (0 : Nat) (0 : Nat) ∧
 false = bhL b (brS b a) ∧ (0 : Int) = (brD b a).fst ∧ (2 : Int) = (0 : Int) ∧ (0 : Int) = (0 : Int)) ∧
 (¬brG b a w o m = true →
 ByteArray.empty = ByteArray.empty ∧
 (0 : Int) = (0 : Int) ∧
 (0 : Int) = (0 : Int) ∧
 (0 : Int) = (0 : Int) ∧
 Value.slice none (0 : Nat) (0 : Nat) = Value.slice none (0 : Nat) (0 : Nat) ∧
 (0 : Int) = (0 : Int) ∧
 (0 : Int) = (0 : Int) ∧
 (0 : Int) = (0 : Int) ∧
 Value.slice none (0 : Nat) (0 : Nat) = Value.slice none (0 : Nat) (0 : Nat) ∧
 (0 : Int) = (0 : Int) ∧
 (0 : Int) = (0 : Int) ∧
 (0 : Int) = (0 : Int) ∧
 Value.slice none (0 : Nat) (0 : Nat) = Value.slice none (0 : Nat) (0 : Nat) ∧
 (0 : Int) = (0 : Int) ∧
 (0 : Int) = (0 : Int) ∧
 (0 : Int) = (0 : Int) ∧
 Value.slice none (0 : Nat) (0 : Nat) = Value.slice none (0 : Nat) (0 : Nat) ∧
 false = false ∧ (0 : Int) = (0 : Int) ∧ (2 : Int) = (brE b a w o m).fst ∧ (0 : Int) = (brE b a w o m).snd)) ∧
 (decide ((↑(ByteArray.size o) : Int) > m) = false →
 (((0 : Int) != (0 : Int)) = true →
 (brG b a w o m = true →
 ByteArray.empty = o ++ brB b a ∧
 (0 : Int) = (1 : Int) ∧
 (0 : Int) = (4 : Int) ∧
 (0 : Int) = (8 : Int) ∧
 Value.slice none (0 : Nat) (0 : Nat) = Value.slice none (0 : Nat) (0 : Nat) ∧
 (0 : Int) = (-1 : Int) ∧
 (0 : Int) = (0 : Int) ∧
 (0 : Int) = (0 : Int) ∧
 Value.slice none (0 : Nat) (0 : Nat) = Value.slice none (0 : Nat) (0 : Nat) ∧
 (0 : Int) = (-1 : Int) ∧
 (0 : Int) = (0 : Int) ∧
 (0 : Int) = (0 : Int) ∧
 Value.slice none (0 : Nat) (0 : Nat) = Value.slice none (0 : Nat) (0 : Nat) ∧
 (0 : Int) = (-1 : Int) ∧
 (0 : Int) = (0 : Int) ∧
 (0 : Int) = (0 : Int) ∧
 Value.slice none (0 : Nat) (0 : Nat) = Value.slice none (0 : Nat) (0 : Nat) ∧
 false = bhL b (brS b a) ∧ (0 : Int) = (brD b a).fst ∧ (0 : Int) = (0 : Int) ∧ (0 : Int) = (0 : Int)) ∧
 (¬brG b a w o m = true →
 ByteArray.empty = ByteArray.empty ∧
 (0 : Int) = (0 : Int) ∧
 (0 : Int) = (0 : Int) ∧
 (0 : Int) = (0 : Int) ∧
 Value.slice none (0 : Nat) (0 : Nat) = Value.slice none (0 : Nat) (0 : Nat) ∧
 (0 : Int) = (0 : Int) ∧
 (0 : Int) = (0 : Int) ∧
 (0 : Int) = (0 : Int) ∧
 Value.slice none (0 : Nat) (0 : Nat) = Value.slice none (0 : Nat) (0 : Nat) ∧
 (0 : Int) = (0 : Int) ∧
 (0 : Int) = (0 : Int) ∧
 (0 : Int) = (0 : Int) ∧
 Value.slice none (0 : Nat) (0 : Nat) = Value.slice none (0 : Nat) (0 : Nat) ∧
 (0 : Int) = (0 : Int) ∧
 (0 : Int) = (0 : Int) ∧
 (0 : Int) = (0 : Int) ∧
 Value.slice none (0 : Nat) (0 : Nat) = Value.slice none (0 : Nat) (0 : Nat) ∧
 false = false ∧ (0 : Int) = (0 : Int) ∧ (0 : Int) = (brE b a w o m).fst ∧ (0 : Int) = (brE b a w o m).snd)) ∧
 (((0 : Int) != (0 : Int)) = false →
 (∃ (g0 : Unit),
 brI b a w o m = false ∧
 b = b ∧
 a = a ∧
 o = o ∧
 w = w ∧
 m = m ∧
 ByteArray.empty = ByteArray.empty ∧
 (0 : Int) = (0 : Int) ∧
 (0 : Int) = (0 : Int) ∧
 (0 : Int) = (0 : Int) ∧
 Value.slice none (0 : Nat) (0 : Nat) = Value.slice none (0 : Nat) (0 : Nat) ∧
 (0 : Int) = (0 : Int) ∧
 (0 : Int) = (0 : Int) ∧
 (0 : Int) = (0 : Int) ∧
 Value.slice none (0 : Nat) (0 : Nat) = Value.slice none (0 : Nat) (0 : Nat) ∧
 (0 : Int) = (0 : Int) ∧
 (0 : Int) = (0 : Int) ∧
 (0 : Int) = (0 : Int) ∧
 Value.slice none (0 : Nat) (0 : Nat) = Value.slice none (0 : Nat) (0 : Nat) ∧
 (0 : Int) = (0 : Int) ∧
 (0 : Int) = (0 : Int) ∧
 (0 : Int) = (0 : Int) ∧
 Value.slice none (0 : Nat) (0 : Nat) = Value.slice none (0 : Nat) (0 : Nat) ∧
 false = false ∧
 (0 : Int) = (0 : Int) ∧
 (0 : Int) = (0 : Int) ∧
 (0 : Int) = (0 : Int) ∧
 (1 : Int) = (1 : Int) ∧
 (4 : Int) = (4 : Int) ∧
 (8 : Int) = (8 : Int) ∧
 Value.slice none (0 : Nat) (0 : Nat) = Value.slice none (0 : Nat) (0 : Nat) ∧
 (-1 : Int) = (-1 : Int) ∧
 (0 : Int) = (0 : Int) ∧
 (0 : Int) = (0 : Int) ∧
 Value.slice none (0 : Nat) (0 : Nat) = Value.slice none (0 : Nat) (0 : Nat) ∧
 (-1 : Int) = (-1 : Int) ∧
 (0 : Int) = (0 : Int) ∧
 (0 : Int) = (0 : Int) ∧
 Value.slice none (0 : Nat) (0 : Nat) = Value.slice none (0 : Nat) (0 : Nat) ∧
 (-1 : Int) = (-1 : Int) ∧
 (0 : Int) = (0 : Int) ∧
 (0 : Int) = (0 : Int) ∧
 Value.slice none (0 : Nat) (0 : Nat) = Value.slice none (0 : Nat) (0 : Nat)) ∧
 ∀ (g1 : Unit),
 brI b a w o m = false →
 vldC b (nwA b a) (nwE b a) (0 : Int) = true ∧
 ByteArray.size b ≤ (9223372036854775807 : Nat) ∧
 (((bhC b (nwA b a, nwE b a, (0 : Int))).snd.fst != (0 : Int)) = true →
 (brG b a w o m = true →
 ByteArray.empty = o ++ brB b a ∧
 (0 : Int) = (1 : Int) ∧
 (0 : Int) = (4 : Int) ∧
 (0 : Int) = (8 : Int) ∧
 Value.slice none (0 : Nat) (0 : Nat) = Value.slice none (0 : Nat) (0 : Nat) ∧
 (0 : Int) = (-1 : Int) ∧
 (0 : Int) = (0 : Int) ∧
 (0 : Int) = (0 : Int) ∧
 Value.slice none (0 : Nat) (0 : Nat) = Value.slice none (0 : Nat) (0 : Nat) ∧
 (0 : Int) = (-1 : Int) ∧
 (0 : Int) = (0 : Int) ∧
 (0 : Int) = (0 : Int) ∧
 Value.slice none (0 : Nat) (0 : Nat) = Value.slice none (0 : Nat) (0 : Nat) ∧
 (0 : Int) = (-1 : Int) ∧
 (0 : Int) = (0 : Int) ∧
 (0 : Int) = (0 : Int) ∧
 Value.slice none (0 : Nat) (0 : Nat) = Value.slice none (0 : Nat) (0 : Nat) ∧
 false = bhL b (brS b a) ∧
 (0 : Int) = (brD b a).fst ∧
 (bhC b (nwA b a, nwE b a, (0 : Int))).snd.fst = (0 : Int) ∧
 (bhC b (nwA b a, nwE b a, (0 : Int))).snd.snd = (0 : Int)) ∧
 (¬brG b a w o m = true →
 ByteArray.empty = ByteArray.empty ∧
 (0 : Int) = (0 : Int) ∧
 (0 : Int) = (0 : Int) ∧
 (0 : Int) = (0 : Int) ∧
 Value.slice none (0 : Nat) (0 : Nat) = Value.slice none (0 : Nat) (0 : Nat) ∧
 (0 : Int) = (0 : Int) ∧
 (0 : Int) = (0 : Int) ∧
 (0 : Int) = (0 : Int) ∧
 Value.slice none (0 : Nat) (0 : Nat) = Value.slice none (0 : Nat) (0 : Nat) ∧
 (0 : Int) = (0 : Int) ∧
 (0 : Int) = (0 : Int) ∧
 (0 : Int) = (0 : Int) ∧
 Value.slice none (0 : Nat) (0 : Nat) = Value.slice none (0 : Nat) (0 : Nat) ∧
 (0 : Int) = (0 : Int) ∧
 (0 : Int) = (0 : Int) ∧
 (0 : Int) = (0 : Int) ∧
 Value.slice none (0 : Nat) (0 : Nat) = Value.slice none (0 : Nat) (0 : Nat) ∧
 false = false ∧
 (0 : Int) = (0 : Int) ∧
 (bhC b (nwA b a, nwE b a, (0 : Int))).snd.fst = (brE b a w o m).fst ∧
 (bhC b (nwA b a, nwE b a, (0 : Int))).snd.snd = (brE b a w o m).snd)) ∧
 (((bhC b (nwA b a, nwE b a, (0 : Int))).snd.fst != (0 : Int)) = false →
 (decide (bhZ b (nwA b a, nwE b a, (0 : Int)) > min w (131072 : Int)) = true →
 (brG b a w o m = true →
 ByteArray.empty = o ++ brB b a ∧
 (0 : Int) = (1 : Int) ∧
 (0 : Int) = (4 : Int) ∧
 (0 : Int) = (8 : Int) ∧
 Value.slice none (0 : Nat) (0 : Nat) = Value.slice none (0 : Nat) (0 : Nat) ∧
 (0 : Int) = (-1 : Int) ∧
 (0 : Int) = (0 : Int) ∧
 (0 : Int) = (0 : Int) ∧
 Value.slice none (0 : Nat) (0 : Nat) = Value.slice none (0 : Nat) (0 : Nat) ∧
 (0 : Int) = (-1 : Int) ∧
 (0 : Int) = (0 : Int) ∧
 (0 : Int) = (0 : Int) ∧
 Value.slice none (0 : Nat) (0 : Nat) = Value.slice none (0 : Nat) (0 : Nat) ∧
 (0 : Int) = (-1 : Int) ∧
 (0 : Int) = (0 : Int) ∧
 (0 : Int) = (0 : Int) ∧
 Value.slice none (0 : Nat) (0 : Nat) = Value.slice none (0 : Nat) (0 : Nat) ∧
 false = bhL b (brS b a) ∧ (0 : Int) = (brD b a).fst ∧ (19 : Int) = (0 : Int) ∧ a = (0 : Int)) ∧
 (¬brG b a w o m = true →
 ByteArray.empty = ByteArray.empty ∧
 (0 : Int) = (0 : Int) ∧
 (0 : Int) = (0 : Int) ∧
 (0 : Int) = (0 : Int) ∧
 Value.slice none (0 : Nat) (0 : Nat) = Value.slice none (0 : Nat) (0 : Nat) ∧
 (0 : Int) = (0 : Int) ∧
 (0 : Int) = (0 : Int) ∧
 (0 : Int) = (0 : Int) ∧
 Value.slice none (0 : Nat) (0 : Nat) = Value.slice none (0 : Nat) (0 : Nat) ∧
 (0 : Int) = (0 : Int) ∧
 (0 : Int) = (0 : Int) ∧
 (0 : Int) = (0 : Int) ∧
 Value.slice none (0 : Nat) (0 : Nat) = Value.slice none (0 : Nat) (0 : Nat) ∧
 (0 : Int) = (0 : Int) ∧
 (0 : Int) = (0 : Int) ∧
 (0 : Int) = (0 : Int) ∧
 Value.slice none (0 : Nat) (0 : Nat) = Value.slice none (0 : Nat) (0 : Nat) ∧
 false = false ∧ (0 : Int) = (0 : Int) ∧ (19 : Int) = (brE b a w o m).fst ∧ a = (brE b a w o m).snd)) ∧
 (decide (bhZ b (nwA b a, nwE b a, (0 : Int)) > min w (131072 : Int)) = false →
 (((bhK b (nwA b a, nwE b a, (0 : Int)) == (1 : Int)) = true →
 (decide (IntKind.wrap IntKind.i64 ((↑(ByteArray.size o) : Int) + bhZ b (nwA b a, nwE b a, (0 : Int))) > m) = true →
 (brG b a w o m = true →
 ByteArray.empty = o ++ brB b a ∧
 (0 : Int) = (1 : Int) ∧
 (0 : Int) = (4 : Int) ∧
 (0 : Int) = (8 : Int) ∧
 Value.slice none (0 : Nat) (0 : Nat) = Value.slice none (0 : Nat) (0 : Nat) ∧
 (0 : Int) = (-1 : Int) ∧
 (0 : Int) = (0 : Int) ∧
 (0 : Int) = (0 : Int) ∧
 Value.slice none (0 : Nat) (0 : Nat) = Value.slice none (0 : Nat) (0 : Nat) ∧
 (0 : Int) = (-1 : Int) ∧
 (0 : Int) = (0 : Int) ∧
 (0 : Int) = (0 : Int) ∧
 Value.slice none (0 : Nat) (0 : Nat) = Value.slice none (0 : Nat) (0 : Nat) ∧
 (0 : Int) = (-1 : Int) ∧
 (0 : Int) = (0 : Int) ∧
 (0 : Int) = (0 : Int) ∧
 Value.slice none (0 : Nat) (0 : Nat) = Value.slice none (0 : Nat) (0 : Nat) ∧
 false = bhL b (brS b a) ∧ (0 : Int) = (brD b a).fst ∧ (18 : Int) = (0 : Int) ∧ a = (0 : Int)) ∧
 (¬brG b a w o m = true →
 ByteArray.empty = ByteArray.empty ∧
 (0 : Int) = (0 : Int) ∧
 (0 : Int) = (0 : Int) ∧
 (0 : Int) = (0 : Int) ∧
 Value.slice none (0 : Nat) (0 : Nat) = Value.slice none (0 : Nat) (0 : Nat) ∧
 (0 : Int) = (0 : Int) ∧
 (0 : Int) = (0 : Int) ∧
 (0 : Int) = (0 : Int) ∧
 Value.slice none (0 : Nat) (0 : Nat) = Value.slice none (0 : Nat) (0 : Nat) ∧
 (0 : Int) = (0 : Int) ∧
 (0 : Int) = (0 : Int) ∧
 (0 : Int) = (0 : Int) ∧
 Value.slice none (0 : Nat) (0 : Nat) = Value.slice none (0 : Nat) (0 : Nat) ∧
 (0 : Int) = (0 : Int) ∧
 (0 : Int) = (0 : Int) ∧
 (0 : Int) = (0 : Int) ∧
 Value.slice none (0 : Nat) (0 : Nat) = Value.slice none (0 : Nat) (0 : Nat) ∧
 false = false ∧ (0 : Int) = (0 : Int) ∧ (18 : Int) = (brE b a w o m).fst ∧ a = (brE b a w o m).snd)) ∧
 (decide (IntKind.wrap IntKind.i64 ((↑(ByteArray.size o) : Int) + bhZ b (nwA b a, nwE b a, (0 : Int))) > m) = false →
 ∃ (x2 : Unit),
 (brI b a w o m = false ∧
 (brC b a).snd.fst = (0 : Int) ∧
 brZ b a ≤ min w (131072 : Int) ∧
 ((brK b a == (1 : Int) || brK b a == (0 : Int)) && decide ((↑(ByteArray.size o) : Int) + brZ b a > m)) = false) ∧
 bhK b (nwA b a, nwE b a, (0 : Int)) = brK b a ∧
 bhZ b (nwA b a, nwE b a, (0 : Int)) = brZ b a ∧
 (1 : Int) = brX b a ∧
 b = b ∧
 a = a ∧
 o = o ∧
 w = w ∧
 m = m ∧
 b = b ∧
 (bhC b (nwA b a, nwE b a, (0 : Int))).fst = (brC b a).fst ∧
 (bhC b (nwA b a, nwE b a, (0 : Int))).snd.fst = (brC b a).snd.fst ∧
 (bhC b (nwA b a, nwE b a, (0 : Int))).snd.snd = (brC b a).snd.snd ∧
 ByteArray.empty = ByteArray.empty ∧
 (0 : Int) = (0 : Int) ∧
 (0 : Int) = (0 : Int) ∧
 (0 : Int) = (0 : Int) ∧
 Value.slice none (0 : Nat) (0 : Nat) = Value.slice none (0 : Nat) (0 : Nat) ∧
 (0 : Int) = (0 : Int) ∧
 (0 : Int) = (0 : Int) ∧
 (0 : Int) = (0 : Int) ∧
 Value.slice none (0 : Nat) (0 : Nat) = Value.slice none (0 : Nat) (0 : Nat) ∧
 (0 : Int) = (0 : Int) ∧
 (0 : Int) = (0 : Int) ∧
 (0 : Int) = (0 : Int) ∧
 Value.slice none (0 : Nat) (0 : Nat) = Value.slice none (0 : Nat) (0 : Nat) ∧
 (0 : Int) = (0 : Int) ∧
 (0 : Int) = (0 : Int) ∧
 (0 : Int) = (0 : Int) ∧
 Value.slice none (0 : Nat) (0 : Nat) = Value.slice none (0 : Nat) (0 : Nat) ∧
 bhL b (nwA b a, nwE b a, (0 : Int)) = bhL b (brS b a) ∧
 (0 : Int) = (0 : Int) ∧
 (0 : Int) = (0 : Int) ∧
 (0 : Int) = (0 : Int) ∧
 (1 : Int) = (1 : Int) ∧
 (4 : Int) = (4 : Int) ∧
 (8 : Int) = (8 : Int) ∧
 Value.slice none (0 : Nat) (0 : Nat) =
 Value.slice none (0 : Nat) (0 : Nat) ∧
 (-1 : Int) = (-1 : Int) ∧
 (0 : Int) = (0 : Int) ∧
 (0 : Int) = (0 : Int) ∧
 Value.slice none (0 : Nat) (0 : Nat) =
 Value.slice none (0 : Nat) (0 : Nat) ∧
 (-1 : Int) = (-1 : Int) ∧
 (0 : Int) = (0 : Int) ∧
 (0 : Int) = (0 : Int) ∧
 Value.slice none (0 : Nat) (0 : Nat) =
 Value.slice none (0 : Nat) (0 : Nat) ∧
 (-1 : Int) = (-1 : Int) ∧
 (0 : Int) = (0 : Int) ∧
 (0 : Int) = (0 : Int) ∧
 Value.slice none (0 : Nat) (0 : Nat) =
 Value.slice none (0 : Nat)
 (0 : Nat))) ∧
 ((bhK b (nwA b a, nwE b a, (0 : Int)) == (1 : Int)) = false →
 ((bhK b (nwA b a, nwE b a, (0 : Int)) == (0 : Int)) = true →
 (decide (IntKind.wrap IntKind.i64 ((↑(ByteArray.size o) : Int) + bhZ b (nwA b a, nwE b a, (0 : Int))) > m) = true →
 (brG b a w o m = true →
 ByteArray.empty = o ++ brB b a ∧
 (0 : Int) = (1 : Int) ∧
 (0 : Int) = (4 : Int) ∧
 (0 : Int) = (8 : Int) ∧
 Value.slice none (0 : Nat) (0 : Nat) = Value.slice none (0 : Nat) (0 : Nat) ∧
 (0 : Int) = (-1 : Int) ∧
 (0 : Int) = (0 : Int) ∧
 (0 : Int) = (0 : Int) ∧
 Value.slice none (0 : Nat) (0 : Nat) = Value.slice none (0 : Nat) (0 : Nat) ∧
 (0 : Int) = (-1 : Int) ∧
 (0 : Int) = (0 : Int) ∧
 (0 : Int) = (0 : Int) ∧
 Value.slice none (0 : Nat) (0 : Nat) = Value.slice none (0 : Nat) (0 : Nat) ∧
 (0 : Int) = (-1 : Int) ∧
 (0 : Int) = (0 : Int) ∧
 (0 : Int) = (0 : Int) ∧
 Value.slice none (0 : Nat) (0 : Nat) = Value.slice none (0 : Nat) (0 : Nat) ∧
 false = bhL b (brS b a) ∧ (0 : Int) = (brD b a).fst ∧ (18 : Int) = (0 : Int) ∧ a = (0 : Int)) ∧
 (¬brG b a w o m = true →
 ByteArray.empty = ByteArray.empty ∧
 (0 : Int) = (0 : Int) ∧
 (0 : Int) = (0 : Int) ∧
 (0 : Int) = (0 : Int) ∧
 Value.slice none (0 : Nat) (0 : Nat) = Value.slice none (0 : Nat) (0 : Nat) ∧
 (0 : Int) = (0 : Int) ∧
 (0 : Int) = (0 : Int) ∧
 (0 : Int) = (0 : Int) ∧
 Value.slice none (0 : Nat) (0 : Nat) = Value.slice none (0 : Nat) (0 : Nat) ∧
 (0 : Int) = (0 : Int) ∧
 (0 : Int) = (0 : Int) ∧
 (0 : Int) = (0 : Int) ∧
 Value.slice none (0 : Nat) (0 : Nat) = Value.slice none (0 : Nat) (0 : Nat) ∧
 (0 : Int) = (0 : Int) ∧
 (0 : Int) = (0 : Int) ∧
 (0 : Int) = (0 : Int) ∧
 Value.slice none (0 : Nat) (0 : Nat) = Value.slice none (0 : Nat) (0 : Nat) ∧
 false = false ∧
 (0 : Int) = (0 : Int) ∧ (18 : Int) = (brE b a w o m).fst ∧ a = (brE b a w o m).snd)) ∧
 (decide (IntKind.wrap IntKind.i64 ((↑(ByteArray.size o) : Int) + bhZ b (nwA b a, nwE b a, (0 : Int))) > m) = false →
 ∃ (x3 : Unit),
 (brI b a w o m = false ∧
 (brC b a).snd.fst = (0 : Int) ∧
 brZ b a ≤ min w (131072 : Int) ∧
 ((brK b a == (1 : Int) || brK b a == (0 : Int)) && decide ((↑(ByteArray.size o) : Int) + brZ b a > m)) = false) ∧
 bhK b (nwA b a, nwE b a, (0 : Int)) = brK b a ∧
 bhZ b (nwA b a, nwE b a, (0 : Int)) = brZ b a ∧
 bhZ b (nwA b a, nwE b a, (0 : Int)) = brX b a ∧
 b = b ∧
 a = a ∧
 o = o ∧
 w = w ∧
 m = m ∧
 b = b ∧
 (bhC b (nwA b a, nwE b a, (0 : Int))).fst = (brC b a).fst ∧
 (bhC b (nwA b a, nwE b a, (0 : Int))).snd.fst = (brC b a).snd.fst ∧
 (bhC b (nwA b a, nwE b a, (0 : Int))).snd.snd = (brC b a).snd.snd ∧
 ByteArray.empty = ByteArray.empty ∧
 (0 : Int) = (0 : Int) ∧
 (0 : Int) = (0 : Int) ∧
 (0 : Int) = (0 : Int) ∧
 Value.slice none (0 : Nat) (0 : Nat) = Value.slice none (0 : Nat) (0 : Nat) ∧
 (0 : Int) = (0 : Int) ∧
 (0 : Int) = (0 : Int) ∧
 (0 : Int) = (0 : Int) ∧
 Value.slice none (0 : Nat) (0 : Nat) = Value.slice none (0 : Nat) (0 : Nat) ∧
 (0 : Int) = (0 : Int) ∧
 (0 : Int) = (0 : Int) ∧
 (0 : Int) = (0 : Int) ∧
 Value.slice none (0 : Nat) (0 : Nat) = Value.slice none (0 : Nat) (0 : Nat) ∧
 (0 : Int) = (0 : Int) ∧
 (0 : Int) = (0 : Int) ∧
 (0 : Int) = (0 : Int) ∧
 Value.slice none (0 : Nat) (0 : Nat) =
 Value.slice none (0 : Nat) (0 : Nat) ∧
 bhL b (nwA b a, nwE b a, (0 : Int)) = bhL b (brS b a) ∧
 (0 : Int) = (0 : Int) ∧
 (0 : Int) = (0 : Int) ∧
 (0 : Int) = (0 : Int) ∧
 (1 : Int) = (1 : Int) ∧
 (4 : Int) = (4 : Int) ∧
 (8 : Int) = (8 : Int) ∧
 Value.slice none (0 : Nat) (0 : Nat) =
 Value.slice none (0 : Nat) (0 : Nat) ∧
 (-1 : Int) = (-1 : Int) ∧
 (0 : Int) = (0 : Int) ∧
 (0 : Int) = (0 : Int) ∧
 Value.slice none (0 : Nat) (0 : Nat) =
 Value.slice none (0 : Nat) (0 : Nat) ∧
 (-1 : Int) = (-1 : Int) ∧
 (0 : Int) = (0 : Int) ∧
 (0 : Int) = (0 : Int) ∧
 Value.slice none (0 : Nat) (0 : Nat) =
 Value.slice none (0 : Nat) (0 : Nat) ∧
 (-1 : Int) = (-1 : Int) ∧
 (0 : Int) = (0 : Int) ∧
 (0 : Int) = (0 : Int) ∧
 Value.slice none (0 : Nat)
 (0 : Nat) =
 Value.slice none (0 : Nat)
 (0 : Nat))) ∧
 ((bhK b (nwA b a, nwE b a, (0 : Int)) == (0 : Int)) = false →
 ∃ (x4 : Unit),
 (brI b a w o m = false ∧
 (brC b a).snd.fst = (0 : Int) ∧
 brZ b a ≤ min w (131072 : Int) ∧
 ((brK b a == (1 : Int) || brK b a == (0 : Int)) && decide ((↑(ByteArray.size o) : Int) + brZ b a > m)) = false) ∧
 bhK b (nwA b a, nwE b a, (0 : Int)) = brK b a ∧
 bhZ b (nwA b a, nwE b a, (0 : Int)) = brZ b a ∧
 bhZ b (nwA b a, nwE b a, (0 : Int)) = brX b a ∧
 b = b ∧
 a = a ∧
 o = o ∧
 w = w ∧
 m = m ∧
 b = b ∧
 (bhC b (nwA b a, nwE b a, (0 : Int))).fst = (brC b a).fst ∧
 (bhC b (nwA b a, nwE b a, (0 : Int))).snd.fst = (brC b a).snd.fst ∧
 (bhC b (nwA b a, nwE b a, (0 : Int))).snd.snd = (brC b a).snd.snd ∧
 ByteArray.empty = ByteArray.empty ∧
 (0 : Int) = (0 : Int) ∧
 (0 : Int) = (0 : Int) ∧
 (0 : Int) = (0 : Int) ∧
 Value.slice none (0 : Nat) (0 : Nat) = Value.slice none (0 : Nat) (0 : Nat) ∧
 (0 : Int) = (0 : Int) ∧
 (0 : Int) = (0 : Int) ∧
 (0 : Int) = (0 : Int) ∧
 Value.slice none (0 : Nat) (0 : Nat) = Value.slice none (0 : Nat) (0 : Nat) ∧
 (0 : Int) = (0 : Int) ∧
 (0 : Int) = (0 : Int) ∧
 (0 : Int) = (0 : Int) ∧
 Value.slice none (0 : Nat) (0 : Nat) = Value.slice none (0 : Nat) (0 : Nat) ∧
 (0 : Int) = (0 : Int) ∧
 (0 : Int) = (0 : Int) ∧
 (0 : Int) = (0 : Int) ∧
 Value.slice none (0 : Nat) (0 : Nat) = Value.slice none (0 : Nat) (0 : Nat) ∧
 bhL b (nwA b a, nwE b a, (0 : Int)) = bhL b (brS b a) ∧
 (0 : Int) = (0 : Int) ∧
 (0 : Int) = (0 : Int) ∧
 (0 : Int) = (0 : Int) ∧
 (1 : Int) = (1 : Int) ∧
 (4 : Int) = (4 : Int) ∧
 (8 : Int) = (8 : Int) ∧
 Value.slice none (0 : Nat) (0 : Nat) =
 Value.slice none (0 : Nat) (0 : Nat) ∧
 (-1 : Int) = (-1 : Int) ∧
 (0 : Int) = (0 : Int) ∧
 (0 : Int) = (0 : Int) ∧
 Value.slice none (0 : Nat) (0 : Nat) =
 Value.slice none (0 : Nat) (0 : Nat) ∧
 (-1 : Int) = (-1 : Int) ∧
 (0 : Int) = (0 : Int) ∧
 (0 : Int) = (0 : Int) ∧
 Value.slice none (0 : Nat) (0 : Nat) =
 Value.slice none (0 : Nat) (0 : Nat) ∧
 (-1 : Int) = (-1 : Int) ∧
 (0 : Int) = (0 : Int) ∧
 (0 : Int) = (0 : Int) ∧
 Value.slice none (0 : Nat) (0 : Nat) =
 Value.slice none (0 : Nat)
 (0 : Nat)))) ∧
 ∀ (x5 : Unit),
 brI b a w o m = false ∧
 (brC b a).snd.fst = (0 : Int) ∧
 brZ b a ≤ min w (131072 : Int) ∧
 ((brK b a == (1 : Int) || brK b a == (0 : Int)) && decide ((↑(ByteArray.size o) : Int) + brZ b a > m)) = false →
 vldC b (brC b a).fst (brC b a).snd.fst (brC b a).snd.snd = true ∧
 ByteArray.size b ≤ (9223372036854775807 : Nat) ∧
 ((byE b (brC b a).fst (brC b a).snd.fst (brX b a) != (0 : Int)) = true →
 (brG b a w o m = true →
 ByteArray.empty = o ++ brB b a ∧
 (0 : Int) = (1 : Int) ∧
 (0 : Int) = (4 : Int) ∧
 (0 : Int) = (8 : Int) ∧
 Value.slice none (0 : Nat) (0 : Nat) = Value.slice none (0 : Nat) (0 : Nat) ∧
 (0 : Int) = (-1 : Int) ∧
 (0 : Int) = (0 : Int) ∧
 (0 : Int) = (0 : Int) ∧
 Value.slice none (0 : Nat) (0 : Nat) = Value.slice none (0 : Nat) (0 : Nat) ∧
 (0 : Int) = (-1 : Int) ∧
 (0 : Int) = (0 : Int) ∧
 (0 : Int) = (0 : Int) ∧
 Value.slice none (0 : Nat) (0 : Nat) = Value.slice none (0 : Nat) (0 : Nat) ∧
 (0 : Int) = (-1 : Int) ∧
 (0 : Int) = (0 : Int) ∧
 (0 : Int) = (0 : Int) ∧
 Value.slice none (0 : Nat) (0 : Nat) = Value.slice none (0 : Nat) (0 : Nat) ∧
 false = bhL b (brS b a) ∧
 (0 : Int) = (brD b a).fst ∧
 byE b (brC b a).fst (brC b a).snd.fst (brX b a) = (0 : Int) ∧
 byF b (brC b a).fst (brC b a).snd.fst (brC b a).snd.snd (brX b a) = (0 : Int)) ∧
 (¬brG b a w o m = true →
 ByteArray.empty = ByteArray.empty ∧
 (0 : Int) = (0 : Int) ∧
 (0 : Int) = (0 : Int) ∧
 (0 : Int) = (0 : Int) ∧
 Value.slice none (0 : Nat) (0 : Nat) = Value.slice none (0 : Nat) (0 : Nat) ∧
 (0 : Int) = (0 : Int) ∧
 (0 : Int) = (0 : Int) ∧
 (0 : Int) = (0 : Int) ∧
 Value.slice none (0 : Nat) (0 : Nat) = Value.slice none (0 : Nat) (0 : Nat) ∧
 (0 : Int) = (0 : Int) ∧
 (0 : Int) = (0 : Int) ∧
 (0 : Int) = (0 : Int) ∧
 Value.slice none (0 : Nat) (0 : Nat) = Value.slice none (0 : Nat) (0 : Nat) ∧
 (0 : Int) = (0 : Int) ∧
 (0 : Int) = (0 : Int) ∧
 (0 : Int) = (0 : Int) ∧
 Value.slice none (0 : Nat) (0 : Nat) = Value.slice none (0 : Nat) (0 : Nat) ∧
 false = false ∧
 (0 : Int) = (0 : Int) ∧
 byE b (brC b a).fst (brC b a).snd.fst (brX b a) = (brE b a w o m).fst ∧
 byF b (brC b a).fst (brC b a).snd.fst (brC b a).snd.snd (brX b a) = (brE b a w o m).snd)) ∧
 ((byE b (brC b a).fst (brC b a).snd.fst (brX b a) != (0 : Int)) = false →
 ((brK b a == (0 : Int)) = true →
 ByteArray.size o + ByteArray.size (byO b (brC b a).fst (brC b a).snd.fst (brX b a)) ≤ (9223372036854775807 : Nat) ∧
 (brG b a w o m = true →
 o ++ byO b (brC b a).fst (brC b a).snd.fst (brX b a) = o ++ brB b a ∧
 (1 : Int) = (1 : Int) ∧
 (4 : Int) = (4 : Int) ∧
 (8 : Int) = (8 : Int) ∧
 Value.slice none (0 : Nat) (0 : Nat) = Value.slice none (0 : Nat) (0 : Nat) ∧
 (-1 : Int) = (-1 : Int) ∧
 (0 : Int) = (0 : Int) ∧
 (0 : Int) = (0 : Int) ∧
 Value.slice none (0 : Nat) (0 : Nat) = Value.slice none (0 : Nat) (0 : Nat) ∧
 (-1 : Int) = (-1 : Int) ∧
 (0 : Int) = (0 : Int) ∧
 (0 : Int) = (0 : Int) ∧
 Value.slice none (0 : Nat) (0 : Nat) = Value.slice none (0 : Nat) (0 : Nat) ∧
 (-1 : Int) = (-1 : Int) ∧
 (0 : Int) = (0 : Int) ∧
 (0 : Int) = (0 : Int) ∧
 Value.slice none (0 : Nat) (0 : Nat) = Value.slice none (0 : Nat) (0 : Nat) ∧
 bhL b (brS b a) = bhL b (brS b a) ∧
 byA b (brC b a).fst (brC b a).snd.fst (brX b a) = (brD b a).fst ∧
 (0 : Int) = (0 : Int) ∧ (0 : Int) = (0 : Int)) ∧
 (¬brG b a w o m = true →
 o ++ byO b (brC b a).fst (brC b a).snd.fst (brX b a) = ByteArray.empty ∧
 (1 : Int) = (0 : Int) ∧
 (4 : Int) = (0 : Int) ∧
 (8 : Int) = (0 : Int) ∧
 Value.slice none (0 : Nat) (0 : Nat) = Value.slice none (0 : Nat) (0 : Nat) ∧
 (-1 : Int) = (0 : Int) ∧
 (0 : Int) = (0 : Int) ∧
 (0 : Int) = (0 : Int) ∧
 Value.slice none (0 : Nat) (0 : Nat) = Value.slice none (0 : Nat) (0 : Nat) ∧
 (-1 : Int) = (0 : Int) ∧
 (0 : Int) = (0 : Int) ∧
 (0 : Int) = (0 : Int) ∧
 Value.slice none (0 : Nat) (0 : Nat) = Value.slice none (0 : Nat) (0 : Nat) ∧
 (-1 : Int) = (0 : Int) ∧
 (0 : Int) = (0 : Int) ∧
 (0 : Int) = (0 : Int) ∧
 Value.slice none (0 : Nat) (0 : Nat) = Value.slice none (0 : Nat) (0 : Nat) ∧
 bhL b (brS b a) = false ∧
 byA b (brC b a).fst (brC b a).snd.fst (brX b a) = (0 : Int) ∧
 (0 : Int) = (brE b a w o m).fst ∧ (0 : Int) = (brE b a w o m).snd)) ∧
 ((brK b a == (0 : Int)) = false →
 ((brK b a == (1 : Int)) = true →
 False ∧
 False ∧
 False ∧
 (brG b a w o m = true →
 ByteArray.empty = o ++ brB b a ∧
 (1 : Int) = (1 : Int) ∧
 (4 : Int) = (4 : Int) ∧
 (8 : Int) = (8 : Int) ∧
 Value.slice none (0 : Nat) (0 : Nat) = Value.slice none (0 : Nat) (0 : Nat) ∧
 (-1 : Int) = (-1 : Int) ∧
 (0 : Int) = (0 : Int) ∧
 (0 : Int) = (0 : Int) ∧
 Value.slice none (0 : Nat) (0 : Nat) = Value.slice none (0 : Nat) (0 : Nat) ∧
 (-1 : Int) = (-1 : Int) ∧
 (0 : Int) = (0 : Int) ∧
 (0 : Int) = (0 : Int) ∧
 Value.slice none (0 : Nat) (0 : Nat) = Value.slice none (0 : Nat) (0 : Nat) ∧
 (-1 : Int) = (-1 : Int) ∧
 (0 : Int) = (0 : Int) ∧
 (0 : Int) = (0 : Int) ∧
 Value.slice none (0 : Nat) (0 : Nat) = Value.slice none (0 : Nat) (0 : Nat) ∧
 bhL b (brS b a) = bhL b (brS b a) ∧
 byA b (brC b a).fst (brC b a).snd.fst (brX b a) = (brD b a).fst ∧
 (0 : Int) = (0 : Int) ∧ (0 : Int) = (0 : Int)) ∧
 (¬brG b a w o m = true →
 ByteArray.empty = ByteArray.empty ∧
 (1 : Int) = (0 : Int) ∧
 (4 : Int) = (0 : Int) ∧
 (8 : Int) = (0 : Int) ∧
 Value.slice none (0 : Nat) (0 : Nat) = Value.slice none (0 : Nat) (0 : Nat) ∧
 (-1 : Int) = (0 : Int) ∧
 (0 : Int) = (0 : Int) ∧
 (0 : Int) = (0 : Int) ∧
 Value.slice none (0 : Nat) (0 : Nat) = Value.slice none (0 : Nat) (0 : Nat) ∧
 (-1 : Int) = (0 : Int) ∧
 (0 : Int) = (0 : Int) ∧
 (0 : Int) = (0 : Int) ∧
 Value.slice none (0 : Nat) (0 : Nat) = Value.slice none (0 : Nat) (0 : Nat) ∧
 (-1 : Int) = (0 : Int) ∧
 (0 : Int) = (0 : Int) ∧
 (0 : Int) = (0 : Int) ∧
 Value.slice none (0 : Nat) (0 : Nat) = Value.slice none (0 : Nat) (0 : Nat) ∧
 bhL b (brS b a) = false ∧
 byA b (brC b a).fst (brC b a).snd.fst (brX b a) = (0 : Int) ∧
 (0 : Int) = (brE b a w o m).fst ∧ (0 : Int) = (brE b a w o m).snd)) ∧
 ((brK b a == (1 : Int)) = false → False ∧ False ∧ False ∧ False ∧ False ∧ False ∧ False ∧ False)))))))))))))
theorem bkRd_e (b : ByteArray) (a w : Int) (o : ByteArray) (m : Int) : bkRd_t b a w o m = vcFD Tryz.prog (Gof GBe) (Pof PBk) (oBr b a w o m) (Dof DBk) Tryz.f79 [.v (.string b), .v (.int .i64 a), .ag frV, .v (.string o), .v (.int .i64 w), .v (.int .i64 m)] [] (.ite ⟨brG b a w o m = true, inferInstance⟩ (.leaf (.tu [.v (.string (o ++ brB b a)), .ag frV, .v (.bool (bhL b (brS b a))), .v (.int .i64 (brD b a).1), .ag [.v (.int .i64 0), .v (.int .i64 0)]]) []) (.leaf (.tu [.v (.string ByteArray.empty), .ag zrV, .v (.bool false), .v (.int .i64 0), .ag [.v (.int .i64 (brE b a w o m).1), .v (.int .i64 (brE b a w o m).2)]]) [])) := by kernel_rfl
def bkFl_t (e a : Int) : Prop :=
 e = e ∧ a = a
theorem bkFl_e (e a : Int) : bkFl_t e a = vcFP Tryz.prog (Gof GBc) (Pof []) (fun _ => none) Tryz.f87 [.v (.int .i64 e), .v (.int .i64 a)] (.ifc 151 (.ag [.v (.int .i64 e), .v (.int .i64 a)])) := by kernel_rfl
def bkR1_t (g : ByteArray) (r1 r2 r3 m1 s1 l1 m2 s2 l2 m3 s3 l3 : Int) (l : Bool) (n fe fa : Int) : Prop :=
 g = g ∧
 r1 = r1 ∧
 r2 = r2 ∧
 r3 = r3 ∧
 Value.slice none (0 : Nat) (0 : Nat) = Value.slice none (0 : Nat) (0 : Nat) ∧
 m1 = m1 ∧
 s1 = s1 ∧
 l1 = l1 ∧
 Value.slice none (0 : Nat) (0 : Nat) = Value.slice none (0 : Nat) (0 : Nat) ∧
 m2 = m2 ∧
 s2 = s2 ∧
 l2 = l2 ∧
 Value.slice none (0 : Nat) (0 : Nat) = Value.slice none (0 : Nat) (0 : Nat) ∧
 m3 = m3 ∧ s3 = s3 ∧ l3 = l3 ∧ Value.slice none (0 : Nat) (0 : Nat) = Value.slice none (0 : Nat) (0 : Nat) ∧ l = l ∧ n = n ∧ fe = fe ∧ fa = fa
theorem bkR1_e (g : ByteArray) (r1 r2 r3 m1 s1 l1 m2 s2 l2 m3 s3 l3 : Int) (l : Bool) (n fe fa : Int) : bkR1_t g r1 r2 r3 m1 s1 l1 m2 s2 l2 m3 s3 l3 l n fe fa = vcRD Tryz.prog (Gof GBc) (fun _ => none) Tryz.f85 (.v .nilIface) bkPs (bkH g (stV r1 r2 r3 m1 s1 l1 m2 s2 l2 m3 s3 l3) l n fe fa) (.leaf (.tu []) (bkH g (stV r1 r2 r3 m1 s1 l1 m2 s2 l2 m3 s3 l3) l n fe fa)) := by kernel_rfl
def bkR2_t (e a : Int) (g : ByteArray) (r1 r2 r3 m1 s1 l1 m2 s2 l2 m3 s3 l3 : Int) (l : Bool) (n fe fa : Int) : Prop :=
 ByteArray.empty = ByteArray.empty ∧
 (0 : Int) = (0 : Int) ∧
 (0 : Int) = (0 : Int) ∧
 (0 : Int) = (0 : Int) ∧
 Value.slice none (0 : Nat) (0 : Nat) = Value.slice none (0 : Nat) (0 : Nat) ∧
 (0 : Int) = (0 : Int) ∧
 (0 : Int) = (0 : Int) ∧
 (0 : Int) = (0 : Int) ∧
 Value.slice none (0 : Nat) (0 : Nat) = Value.slice none (0 : Nat) (0 : Nat) ∧
 (0 : Int) = (0 : Int) ∧
 (0 : Int) = (0 : Int) ∧
 (0 : Int) = (0 : Int) ∧
 Value.slice none (0 : Nat) (0 : Nat) = Value.slice none (0 : Nat) (0 : Nat) ∧
 (0 : Int) = (0 : Int) ∧
 (0 : Int) = (0 : Int) ∧
 (0 : Int) = (0 : Int) ∧ Value.slice none (0 : Nat) (0 : Nat) = Value.slice none (0 : Nat) (0 : Nat) ∧ false = false ∧ (0 : Int) = (0 : Int) ∧ e = e ∧ a = a
theorem bkR2_e (e a : Int) (g : ByteArray) (r1 r2 r3 m1 s1 l1 m2 s2 l2 m3 s3 l3 : Int) (l : Bool) (n fe fa : Int) : bkR2_t e a g r1 r2 r3 m1 s1 l1 m2 s2 l2 m3 s3 l3 l n fe fa = vcRD Tryz.prog (Gof GBc) (fun _ => none) Tryz.f85 (.ifc 151 (.ag [.v (.int .i64 e), .v (.int .i64 a)])) bkPs (bkH g (stV r1 r2 r3 m1 s1 l1 m2 s2 l2 m3 s3 l3) l n fe fa) (.leaf (.tu []) (bkH ByteArray.empty zrV false 0 e a)) := by kernel_rfl
end Go.Proofs.YthfhkiejcpnalaaGreat
namespace Go.Proofs.YthfhkiejcpnalaaGreat
open Go Go.RowKit
set_option linter.unusedVariables false
set_option linter.unusedSimpArgs false
set_option maxRecDepth 100000
theorem w1 : IntKind.wrap .i64 ((0 : Int) + 1) = 1 := by decide
theorem w2 : IntKind.wrap .i64 ((1 : Int) + 1) = 2 := by decide
theorem w3 : IntKind.wrap .i64 ((2 : Int) + 1) = 3 := by decide
theorem bkFi_v : bkFi_t := ⟨rfl, rfl, rfl⟩
theorem bkUn_v : bkUn_t := by
  unfold bkUn_t
  rw [w1, w2, w3]
  simp
theorem bkEm_v : bkEm_t := by unfold bkEm_t; simp
theorem bkCl_v : bkCl_t := rfl
theorem bkVa_v (k : Int) : bkVa_t k := by
  unfold bkVa_t
  refine ⟨fun h => ?_, fun h => ?_⟩
  · rw [show decide (0 ≤ k) = true from h, Bool.true_and]
  · rw [show decide (0 ≤ k) = false from h, Bool.false_and]
theorem bkFr_v : bkFr_t := by unfold bkFr_t; simp
theorem bkMs_v (k : Int) (h0 : 0 ≤ k) (h2 : k ≤ 2) : bkMs_t k := by
  unfold bkMs_t
  simp [h0, h2]
theorem bkTc_v (k : Int) (h0 : 0 ≤ k) (h2 : k ≤ 2) : bkTc_t k := by
  unfold bkTc_t
  refine ⟨h0, h2, ?_⟩
  simp
theorem bkRc_v : bkRc_t := by unfold bkRc_t; simp
theorem bkOw_v : bkOw_t := by
  unfold bkOw_t
  rw [w1, w2, w3]
  simp
theorem bkCk_v : bkCk_t := by
  unfold bkCk_t
  rw [w1, w2, w3]
  simp
theorem bh_vld {s : ByteArray} {a e f : Int} (h : vldC s a e f = true) : vldC s (bhC s (a, e, f)).1 (bhC s (a, e, f)).2.1 (bhC s (a, e, f)).2.2 = true := by
  unfold bhC
  have := by_vld h 3
  cases (stB s (a, e, f) 3).2.1 == 0 && bhK s (a, e, f) == 3
  · exact this
  · exact fa_vld this (by omega) (by omega)
theorem bkHd_v (s : ByteArray) (a e f : Int) (h : vldC s a e f = true) (hs : s.size ≤ 9223372036854775807) : bkHd_t s a e f := by
  unfold bkHd_t
  have hc : ∀ b : Bool, ((stB s (a, e, f) 3).2.1 == 0 && bhK s (a, e, f) == 3) = b → bhC s (a, e, f) = cond b ((stB s (a, e, f) 3).1, faE (stB s (a, e, f) 3).2.1 15, faF s (stB s (a, e, f) 3).2.1 (stB s (a, e, f) 3).2.2 a) (stB s (a, e, f) 3) := by
    intro b hb
    unfold bhC
    rw [hb]
  refine ⟨h, hs, by decide, by decide, by decide, fun h1 => ⟨fun h2 => ?_, fun h2 => ?_⟩, fun h1 => ?_⟩
  · rw [hc true (by rw [show ((stB s (a, e, f) 3).2.1 == 0) = true from h1, Bool.true_and]; exact h2)]
    exact ⟨by_vld h 3, by decide, by decide, by decide, rfl, rfl, rfl, rfl, rfl, rfl, rfl⟩
  · rw [hc false (by rw [show ((stB s (a, e, f) 3).2.1 == 0) = true from h1, Bool.true_and]; exact h2)]
    exact ⟨by decide, rfl, rfl, rfl, rfl, rfl, rfl, rfl⟩
  · rw [hc false (by rw [show ((stB s (a, e, f) 3).2.1 == 0) = false from h1, Bool.false_and])]
    exact ⟨by decide, rfl, rfl, rfl, rfl, rfl, rfl, rfl⟩
section
variable {b : ByteArray} {a w : Int} {o : ByteArray} {m : Int}
theorem brE1 (h : brI b a w o m = true) : brE b a w o m = (2, 0) := by unfold brE; rw [h]; rfl
theorem brE2 (h : brI b a w o m = false) (h2 : ((brC b a).2.1 != 0) = true) : brE b a w o m = ((brC b a).2.1, (brC b a).2.2) := by unfold brE; rw [h, h2]; rfl
theorem brE3 (h : brI b a w o m = false) (h2 : ((brC b a).2.1 != 0) = false) (h3 : decide (brZ b a > min w 131072) = true) : brE b a w o m = (19, a) := by unfold brE; rw [h, h2, h3]; rfl
theorem brE4 (h : brI b a w o m = false) (h2 : ((brC b a).2.1 != 0) = false) (h3 : decide (brZ b a > min w 131072) = false) (h4 : ((brK b a == 1 || brK b a == 0) && decide ((o.size : Int) + brZ b a > m)) = true) : brE b a w o m = (18, a) := by unfold brE; rw [h, h2, h3, h4]; rfl
theorem brE5 (h : brI b a w o m = false) (h2 : ((brC b a).2.1 != 0) = false) (h3 : decide (brZ b a > min w 131072) = false) (h4 : ((brK b a == 1 || brK b a == 0) && decide ((o.size : Int) + brZ b a > m)) = false) (h5 : ((brD b a).2.1 != 0) = true) : brE b a w o m = ((brD b a).2.1, (brD b a).2.2) := by unfold brE; rw [h, h2, h3, h4, h5]; rfl
theorem brE6 (h : brI b a w o m = false) (h2 : ((brC b a).2.1 != 0) = false) (h3 : decide (brZ b a > min w 131072) = false) (h4 : ((brK b a == 1 || brK b a == 0) && decide ((o.size : Int) + brZ b a > m)) = false) (h5 : ((brD b a).2.1 != 0) = false) : brE b a w o m = (0, 0) := by unfold brE; rw [h, h2, h3, h4, h5]; rfl
theorem brG_of {x y : Int} (h : brE b a w o m = (x, y)) : brG b a w o m = (x == 0) := by unfold brG; rw [h]
theorem bhZ_bd {s : ByteArray} {c : CuT} (h : vldC s c.1 c.2.1 c.2.2 = true) : 0 ≤ bhZ s c ∧ bhZ s c ≤ 2097152 := by
  have h1 := by_size (n := 3) h (by omega)
  have h2 := num_nn (byO s c.1 c.2.1 3)
  have h3 : numS (byO s c.1 c.2.1 3) < 16777216 := by
    have := num_bd (s := byO s c.1 c.2.1 3)
    have h4 : (256 : Int) ^ (byO s c.1 c.2.1 3).size ≤ 256 ^ 3 := by
      have := Nat.pow_le_pow_right (show 0 < 256 by omega) (show (byO s c.1 c.2.1 3).size ≤ 3 by omega)
      exact_mod_cast this
    omega
  unfold bhZ bhN ouB
  rw [show (2 : Int) ^ (min (Int.toNat 3) 64) = 8 from rfl, Int.fdiv_eq_ediv_of_nonneg _ (by omega), wr (by omega) (by omega)]
  omega
theorem br_in (h : brI b a w o m = false) : 0 ≤ a ∧ a ≤ b.size ∧ 0 ≤ w ∧ w ≤ 134217728 ∧ 0 ≤ m ∧ m ≤ 1048576 ∧ (o.size : Int) ≤ m := by
  simp only [brI, Bool.or_eq_false_iff, decide_eq_false_iff_not] at h
  omega
theorem bkRd_v (hs : b.size ≤ 1000000) (hk : (brC b a).2.1 = 0 → brK b a = 0) : bkRd_t b a w o m := by
  have hv := nw_vld b a
  have hz := bhZ_bd (s := b) (c := brS b a) hv
  have hz' : 0 ≤ bhZ b (nwA b a, nwE b a, 0) ∧ bhZ b (nwA b a, nwE b a, 0) ≤ 2097152 := hz
  have hvC : vldC b (brC b a).1 (brC b a).2.1 (brC b a).2.2 = true := bh_vld hv
  have out : brI b a w o m = true → brE b a w o m = (2, 0) ∧ brG b a w o m = false := fun h => ⟨brE1 h, brG_of (brE1 h)⟩
  unfold bkRd_t
  refine ⟨fun h1 => ?_, fun h1 => ⟨fun h2 => ?_, fun h2 => ⟨fun h3 => ?_, fun h3 => ⟨fun h4 => ?_, fun h4 => ⟨fun h5 => ?_, fun h5 => ⟨fun h6 => ?_, fun h6 => ⟨fun h7 => ?_, fun h7 => ⟨fun h8 => ?_, fun h8 => ?_⟩⟩⟩⟩⟩⟩⟩⟩
  · obtain ⟨e, g⟩ := out (by unfold brI; rw [h1]; rfl)
    simp [e, g]
  · obtain ⟨e, g⟩ := out (by unfold brI; rw [h1, h2]; rfl)
    simp [e, g]
  · obtain ⟨e, g⟩ := out (by unfold brI; rw [h1, h2, h3]; rfl)
    simp [e, g]
  · obtain ⟨e, g⟩ := out (by unfold brI; rw [h1, h2, h3, h4]; rfl)
    simp [e, g]
  · obtain ⟨e, g⟩ := out (by unfold brI; rw [h1, h2, h3, h4, h5]; rfl)
    simp [e, g]
  · obtain ⟨e, g⟩ := out (by unfold brI; rw [h1, h2, h3, h4, h5, h6]; rfl)
    simp [e, g]
  · obtain ⟨e, g⟩ := out (by unfold brI; rw [h1, h2, h3, h4, h5, h6, h7]; rfl)
    simp [e, g]
  · exact absurd h8 (by decide)
  · have hI : brI b a w o m = false := by unfold brI; rw [h1, h2, h3, h4, h5, h6, h7]; rfl
    obtain ⟨i1, i2, i3, i4, i5, i6, i7⟩ := br_in hI
    refine ⟨⟨(), hI, by simp⟩, fun _ _ => ⟨hv, by omega, fun e1 => ?_, fun e1 => ⟨fun e2 => ?_, fun e2 => ⟨⟨fun k1 => ?_, fun k1 => ⟨fun k0 => ⟨fun e3 => ?_, fun e3 => ?_⟩, fun k0 => ?_⟩⟩, fun _ q => ?_⟩⟩⟩⟩
    · have hE := brE2 (w := w) (o := o) (m := m) hI e1
      have g : brG b a w o m = false := (brG_of hE).trans (by simpa [bne] using (show ((brC b a).2.1 != 0) = true from e1))
      refine ⟨fun hg => absurd hg (by rw [g]; decide), fun _ => ?_⟩
      rw [hE]
      (repeat' (refine And.intro ?_ ?_)) <;> rfl
    · have hE := brE3 (w := w) (o := o) (m := m) hI e1 e2
      have g : brG b a w o m = false := brG_of hE
      refine ⟨fun hg => absurd hg (by rw [g]; decide), fun _ => ?_⟩
      rw [hE]
      (repeat' (refine And.intro ?_ ?_)) <;> rfl
    · have hE0 : (brC b a).2.1 = 0 := by simpa using (show ((brC b a).2.1 != 0) = false from e1)
      have := hk hE0
      have k1 : brK b a = 1 := by simpa using (show (brK b a == 1) = true from k1)
      omega
    · have k0 : (brK b a == 0) = true := k0
      have e3' : decide ((o.size : Int) + brZ b a > m) = true := by
        rw [wr (by omega) (by omega)] at e3
        exact e3
      have hE := brE4 (w := w) (o := o) (m := m) hI e1 e2 (by rw [k0, e3', Bool.or_true]; rfl)
      have g : brG b a w o m = false := brG_of hE
      refine ⟨fun hg => absurd hg (by rw [g]; decide), fun _ => ?_⟩
      rw [hE]
      (repeat' (refine And.intro ?_ ?_)) <;> rfl
    · have e3' : decide ((o.size : Int) + brZ b a > m) = false := by
        rw [wr (by omega) (by omega)] at e3
        exact e3
      have hX : brZ b a = brX b a := by unfold brX; rw [show (brK b a == 1) = false from k1]; rfl
      have e2' : ¬ brZ b a > min w 131072 := by simpa using (show decide (brZ b a > min w 131072) = false from e2)
      refine ⟨(), ⟨hI, by simpa using (show ((brC b a).2.1 != 0) = false from e1), by omega, by rw [e3', Bool.and_false]⟩, rfl, rfl, hX, ?_⟩
      (repeat' (refine And.intro ?_ ?_)) <;> rfl
    · have hE0 : (brC b a).2.1 = 0 := by simpa using (show ((brC b a).2.1 != 0) = false from e1)
      have := hk hE0
      have k0 : (brK b a == 0) = false := k0
      rw [this] at k0
      exact absurd k0 (by decide)
    · obtain ⟨_, q1, q2, q3⟩ := q
      have k := hk q1
      have e1 : ((brC b a).2.1 != 0) = false := by rw [q1]; rfl
      have e2 : decide (brZ b a > min w 131072) = false := by simpa using q2
      refine ⟨hvC, by omega, fun e5 => ?_, fun e5 => ⟨fun k0 => ⟨?_, ?_, ?_⟩, fun k0 => ?_⟩⟩
      · have hE := brE5 (w := w) (o := o) (m := m) hI e1 e2 q3 e5
        have g : brG b a w o m = false := (brG_of hE).trans (by simpa [bne] using (show ((brD b a).2.1 != 0) = true from e5))
        refine ⟨fun hg => absurd hg (by rw [g]; decide), fun _ => ?_⟩
        rw [hE]
        (repeat' (refine And.intro ?_ ?_)) <;> rfl
      · have hX : brX b a = brZ b a := by unfold brX; rw [k]; rfl
        have := by_size (n := brX b a) hvC (by rw [hX]; exact hz.1)
        have hz2 : brZ b a ≤ 2097152 := hz.2
        omega
      · have hE := brE6 (w := w) (o := o) (m := m) hI e1 e2 q3 e5
        intro hg
        (repeat' (refine And.intro ?_ ?_)) <;> rfl
      · have hE := brE6 (w := w) (o := o) (m := m) hI e1 e2 q3 e5
        have g : brG b a w o m = true := brG_of hE
        exact fun hg => absurd g hg
      · rw [k] at k0
        exact absurd k0 (by decide)
end
theorem bkFi_sound : Sound Tryz.prog 83 sBkFi.ctr := sBkFi.sound (by kernel_rfl) sBkFi_enc fun _ hc => (satG GHdd_ok mixed Tryz.func83 bkFi_e bkFi_v).outAg
theorem bkUn_sound : Sound Tryz.prog 82 sBkUn.ctr := sBkUn.sound (by kernel_rfl) sBkUn_enc fun _ hc => by
  exact satG GHdd_ok mixed Tryz.func82 (bkUn_e ) (bkUn_v)
theorem bkEm_sound : Sound Tryz.prog 111 sBkEm.ctr := sBkEm.sound (by kernel_rfl) sBkEm_enc fun _ hc => by
  exact satG GHdd_ok mixed Tryz.func111 (bkEm_e ) (bkEm_v)
theorem bkCl_sound : Sound Tryz.prog 97 sBkCl.ctr := sBkCl.sound (by kernel_rfl) sBkCl_enc fun _ hc => by
  exact satG GHdd_ok mixed Tryz.func97 (bkCl_e ) (bkCl_v)
theorem bkVa_sound : Sound Tryz.prog 137 sBkVa.ctr := sBkVa.sound (by kernel_rfl) sBkVa_enc fun k hc => by
  exact satG GHdd_ok mixed Tryz.func137 (bkVa_e k) (bkVa_v k)
theorem bkMo_sound : Sound Tryz.prog 138 sBkMo.ctr := sBkMo.sound (by kernel_rfl) sBkMo_enc fun (k : Int) hc => by
  have h0 : 0 ≤ k := hc _ (.head _)
  have h1 : k ≤ 2 := hc _ (.tail _ (.head _))
  have h : k = 0 ∨ k = 1 ∨ k = 2 := by omega
  rcases h with rfl | rfl | rfl
  · exact satG GHdd_ok mixed Tryz.func138 bkMo0_e (by unfold bkMo0_t; decide)
  · exact satG GHdd_ok mixed Tryz.func138 bkMo1_e (by unfold bkMo1_t; decide)
  · exact satG GHdd_ok mixed Tryz.func138 bkMo2_e (by unfold bkMo2_t; decide)
theorem GBa_ok : AllOk Tryz.prog GBa := .cons bkFi_sound <| .cons bkUn_sound <| .cons bkEm_sound <| .cons bkCl_sound <| .cons bkVa_sound <| .cons bkMo_sound <| GHdd_ok
theorem bkMs_sound : Sound Tryz.prog 108 sBkMs.ctr := sBkMs.sound (by kernel_rfl) sBkMs_enc fun k hc => by
  have h0 := hc _ (.head _)
  have h1 := hc _ (.tail _ (.head _))
  exact satG GBa_ok mixed Tryz.func108 (bkMs_e k) (bkMs_v k h0 h1)
theorem bkFr_sound : Sound Tryz.prog 77 sBkFr.ctr := sBkFr.sound (by kernel_rfl) sBkFr_enc fun _ hc => by
  exact satG GBa_ok mixed Tryz.func77 (bkFr_e ) (bkFr_v)
theorem GBb_ok : AllOk Tryz.prog GBb := .cons bkMs_sound <| .cons bkFr_sound <| GBa_ok
theorem bkTc_sound : Sound Tryz.prog 95 sBkTc.ctr := sBkTc.sound (by kernel_rfl) sBkTc_enc fun k hc => by
  have h0 := hc _ (.head _)
  have h1 := hc _ (.tail _ (.head _))
  exact satG GBb_ok mixed Tryz.func95 (bkTc_e k) (bkTc_v k h0 h1)
theorem bkHd_sound : Sound Tryz.prog 86 sBkHd.ctr := sBkHd.sound (by kernel_rfl) sBkHd_enc fun ⟨s, a, e, f⟩ hc => by
  have h0 := hc _ (.head _)
  have h1 := hc _ (.tail _ (.head _))
  exact satG GBb_ok mixed Tryz.func86 (bkHd_e s a e f) (bkHd_v s a e f h0 h1)
theorem GBc_ok : AllOk Tryz.prog GBc := .cons bkTc_sound <| .cons bkHd_sound <| GBb_ok
theorem bkRc_sound : Sound Tryz.prog 93 sBkRc.ctr := sBkRc.sound (by kernel_rfl) sBkRc_enc fun _ hc => (satG GBb_ok mixed Tryz.func93 bkRc_e bkRc_v).inAg
theorem GBd_ok : AllOk Tryz.prog GBd := .cons bkRc_sound <| GBc_ok
theorem bkCk_sound : Sound Tryz.prog 84 sBkCk.ctr := sBkCk.sound (by kernel_rfl) sBkCk_enc fun _ hc => by
  exact satG GBd_ok mixed Tryz.func84 (bkCk_e ) (bkCk_v)
theorem bkOw_sound : Sound Tryz.prog 88 sBkOw.ctr := sBkOw.sound (by kernel_rfl) sBkOw_enc fun _ hc => by
  exact satG GBa_ok mixed Tryz.func88 (bkOw_e ) (bkOw_v)
theorem GBe_ok : AllOk Tryz.prog GBe := .cons bkCk_sound <| .cons bkOw_sound <| GBd_ok
theorem PBk_ok : AllP Tryz.prog PBk := .cons ⟨by kernel_rfl, fun args v h w us => by
  dsimp only at h
  split at h
  · rename_i e a
    cases h
    exact soundP_of GBc_ok mixed AllP.nil Tryz.func87 (Eq.mp (bkFl_e e a) ⟨rfl, rfl⟩) w us
  · cases h⟩ AllP.nil
theorem bkR1_v (g : ByteArray) (r1 r2 r3 m1 s1 q1 m2 s2 q2 m3 s3 q3 : Int) (l : Bool) (n fe fa : Int) : bkR1_t g r1 r2 r3 m1 s1 q1 m2 s2 q2 m3 s3 q3 l n fe fa := by unfold bkR1_t; simp
theorem bkR2_v (e a : Int) (g : ByteArray) (r1 r2 r3 m1 s1 q1 m2 s2 q2 m3 s3 q3 : Int) (l : Bool) (n fe fa : Int) : bkR2_t e a g r1 r2 r3 m1 s1 q1 m2 s2 q2 m3 s3 q3 l n fe fa := by unfold bkR2_t; simp
theorem bkR_sound : SoundD Tryz.prog 85 (DC.of sBkR1 sBkR2) := by
  refine SoundD.of (by kernel_rfl) sBkR1_enc ?_ sBkR2_enc ?_
  · rintro ⟨g, r1, r2, r3, m1, s1, q1, m2, s2, q2, m3, s3, q3, l, n, fe, fa⟩ _ w us
    exact (satRD GBc_ok mixed Tryz.func85 (bkR1_e g r1 r2 r3 m1 s1 q1 m2 s2 q2 m3 s3 q3 l n fe fa) (bkR1_v g r1 r2 r3 m1 s1 q1 m2 s2 q2 m3 s3 q3 l n fe fa) w us rec_ret).ret0
  · rintro ⟨e, a, g, r1, r2, r3, m1, s1, q1, m2, s2, q2, m3, s3, q3, l, n, fe, fa⟩ _ w pv us
    exact satRD GBc_ok mixed Tryz.func85 (bkR2_e e a g r1 r2 r3 m1 s1 q1 m2 s2 q2 m3 s3 q3 l n fe fa) (bkR2_v e a g r1 r2 r3 m1 s1 q1 m2 s2 q2 m3 s3 q3 l n fe fa) w us (rec_pan (pv := pv))
theorem DBk_ok : AllD Tryz.prog DBk := .cons bkR_sound AllD.nil
theorem bkRd_sound : Sound Tryz.prog 79 sBkRd.ctr := sBkRd.sound (by kernel_rfl) sBkRd_enc fun (b, a, w, o, m) hc => by
  have h0 := hc _ (.head _)
  have h1 := hc _ (.tail _ (.head _))
  exact satFD GBe_ok PBk_ok DBk_ok mixed Tryz.func79 (bkRd_e b a w o m) (bkRd_v h0 h1)
theorem GBf_ok : AllOk Tryz.prog GBf := .cons bkRd_sound <| GBe_ok
end Go.Proofs.YthfhkiejcpnalaaGreat
namespace Go.Proofs.YthfhkiejcpnalaaGreat
open Go Go.RowKit
set_option linter.unusedVariables false
def fbS (b : ByteArray) (w m : Int) (a : Int) (o : ByteArray) : Nat → Int × ByteArray
  | 0 => (a, o)
  | i + 1 => fbS b w m (brD b a).1 (o ++ brB b a) i
def fbX (b : ByteArray) (w m : Int) : Nat → Int → ByteArray → List (Int × Bool)
  | 0, _, _ => []
  | k + 1, a, o => cond (brG b a w o m) (((brD b a).1, bhL b (brS b a)) :: fbX b w m k (brD b a).1 (o ++ brB b a)) []
def fbN (b : ByteArray) (w m a : Int) : Nat := (fbX b w m (b.size + 1) a ByteArray.empty).length
def fbA (b : ByteArray) (w m a : Int) (i : Nat) : Int := (fbS b w m a ByteArray.empty i).1
def fbO (b : ByteArray) (w m a : Int) (i : Nat) : ByteArray := (fbS b w m a ByteArray.empty i).2
def fbV (b : ByteArray) (w m a : Int) (i : Nat) : List Value := [.int .i64 (fbA b w m a (i + 1)), .bool (bhL b (brS b (fbA b w m a i)))]
def fbL (b : ByteArray) (w m a : Int) : List (List Value) := (List.range (fbN b w m a)).map (fbV b w m a)
def fbT (b : ByteArray) (w m a : Int) (y : Nat) : ByteArray := cond (Nat.blt y (fbN b w m a)) (fbO b w m a (y + 1)) ByteArray.empty
def fbE (b : ByteArray) (w m a : Int) (y : Nat) : Int × Int := cond (Nat.blt y (fbN b w m a)) (0, 0) (brE b (fbA b w m a y) w (fbO b w m a y) m)
def fbK (b : ByteArray) (w m a : Int) : Bool := (List.range (fbN b w m a + 1)).all (fun i => (brC b (fbA b w m a i)).2.1 != 0 || brK b (fbA b w m a i) == 0) && ((List.range (fbN b w m a)).all (fun i => brG b (fbA b w m a i) w (fbO b w m a i) m) && !brG b (fbA b w m a (fbN b w m a)) w (fbO b w m a (fbN b w m a)) m)
def fbU (b : ByteArray) (w m a : Int) (i : Nat) : Bool := (List.range i).all fun j => !bhL b (brS b (fbA b w m a j))
def fbR (b : ByteArray) (w m a : Int) : Nat := ((List.range (fbN b w m a)).find? fun j => bhL b (brS b (fbA b w m a j))).getD (fbN b w m a)
def fbZ (b : ByteArray) (w m a : Int) (i : Nat) : Int := cond (Nat.blt i (fbN b w m a)) (fbA b w m a (i + 1)) (fbA b w m a i)
def fdD (b : ByteArray) (a : Int) : Int := ((b.data.toList.getD (IntKind.wrap .i64 (a + 4)).toNat 0).toNat : Int)
def fd1 (b : ByteArray) (a : Int) : Int := a + (5 + [(0 : Int), 1, 2, 4].getD (bits .and .u8 (fdD b a) 3).toNat 0)
def fdF (b : ByteArray) (a : Int) : Int := fd1 b a + cond (bits .and .u8 ((fdD b a).fdiv (2 ^ (min (Int.toNat 5) 8))) 1 == 0) 1 0
def fhI (m : Int) : Bool := decide (m < 0) || decide (m > 1048576)
def fhG (b : ByteArray) (a m : Int) : Bool := !fhI m && ((hdE b a).1 == 0 && !decide (hhS b a > m))
def fhE (b : ByteArray) (a m : Int) : Int × Int := cond (fhI m) (2, 0) (cond ((hdE b a).1 == 0) (18, fdF b a) (hdE b a))
def frR (b : ByteArray) (a m : Int) : Nat := fbR b (hhW b a) m (hhN b a)
def frX (b : ByteArray) (a m : Int) : Int := fbZ b (hhW b a) m (hhN b a) (frR b a m)
def frF (b : ByteArray) (a m : Int) : Int × Int := fbE b (hhW b a) m (hhN b a) (frR b a m)
def frT (b : ByteArray) (a m : Int) : ByteArray := fbT b (hhW b a) m (hhN b a) (frR b a m)
def frE (b : ByteArray) (a m : Int) : Int × Int := cond (fhG b a m) (cond ((frF b a m).1 == 0 && (decide (hhS b a ≥ 0) && (hhS b a != ((frT b a m).size : Int)))) (27, frX b a m) (frF b a m)) (fhE b a m)
def frO (b : ByteArray) (a m : Int) : ByteArray := cond ((frE b a m).1 == 0) (frT b a m) ByteArray.empty
def frN (b : ByteArray) (a m : Int) : Int := cond ((frE b a m).1 == 0) (frX b a m) 0
end Go.Proofs.YthfhkiejcpnalaaGreat
namespace Go.Proofs.YthfhkiejcpnalaaGreat
open Go Go.RowKit
set_option linter.unusedVariables false
set_option linter.unusedSimpArgs false
set_option maxRecDepth 100000
def sFrSt : Spec where
  ι := ByteArray × Int × ByteArray × Int × Int × Bool × Bool × Int
  own := true
  dec l H := match l with
    | [.p l0 0 0, .p l1 0 0, .p l2 0 0, .p l3 0 0, .p l4 0 0, .p l5 0 0] => match H l0 with
      | some (.cells 9 [.v (.string b)]) => match H l1 with
        | some (.cells 3 [.v (.int .i64 a)]) => match H l2 with
          | some (.cells 140 [.v (.int .i64 1), .v (.int .i64 4), .v (.int .i64 8), .v (.slice none 0 0), .v (.int .i64 (-1)), .v (.int .i64 0), .v (.int .i64 0), .v (.slice none 0 0), .v (.int .i64 (-1)), .v (.int .i64 0), .v (.int .i64 0), .v (.slice none 0 0), .v (.int .i64 (-1)), .v (.int .i64 0), .v (.int .i64 0), .v (.slice none 0 0)]) => match H l3 with
            | some (.cells 9 [.v (.string o)]) => match H l4 with
              | some (.cells 56 [.v (.int .i64 w), .v (.int .i64 z), .v (.bool g), .v (.bool c)]) => match H l5 with
                | some (.cells 3 [.v (.int .i64 m)]) => some ((b, a, o, w, z, g, c, m), [l0, l1, l2, l3, l4, l5])
                | _ => none
              | _ => none
            | _ => none
          | _ => none
        | _ => none
      | _ => none
    | _ => none
  args := fun (b, a, o, w, z, g, c, m) => [.p 0 0 0, .p 1 0 0, .p 2 0 0, .p 3 0 0, .p 4 0 0, .p 5 0 0]
  hp := fun (b, a, o, w, z, g, c, m) => [(0, .cells 9 [.v (.string b)]), (1, .cells 3 [.v (.int .i64 a)]), (2, .cells 140 [.v (.int .i64 1), .v (.int .i64 4), .v (.int .i64 8), .v (.slice none 0 0), .v (.int .i64 (-1)), .v (.int .i64 0), .v (.int .i64 0), .v (.slice none 0 0), .v (.int .i64 (-1)), .v (.int .i64 0), .v (.int .i64 0), .v (.slice none 0 0), .v (.int .i64 (-1)), .v (.int .i64 0), .v (.int .i64 0), .v (.slice none 0 0)]), (3, .cells 9 [.v (.string o)]), (4, .cells 56 [.v (.int .i64 w), .v (.int .i64 z), .v (.bool g), .v (.bool c)]), (5, .cells 3 [.v (.int .i64 m)])]
  pre := fun (b, a, o, w, z, g, c, m) => [⟨b.size ≤ 1000000, inferInstance⟩, ⟨(brC b a).2.1 = 0 → brK b a = 0, inferInstance⟩]
  out := fun (b, a, o, w, z, g, c, m) => .ite ⟨brG b a w o m = true, inferInstance⟩ (.leaf (.tu [.v (.bool (bhL b (brS b a))), .ag [.v (.int .i64 0), .v (.int .i64 0)]]) [(0, .cells 9 [.v (.string b)]), (1, .cells 3 [.v (.int .i64 (brD b a).1)]), (2, .cells 140 frV), (3, .cells 9 [.v (.string (o ++ brB b a))]), (4, .cells 56 [.v (.int .i64 w), .v (.int .i64 z), .v (.bool g), .v (.bool c)]), (5, .cells 3 [.v (.int .i64 m)])]) (.leaf (.tu [.v (.bool false), .ag [.v (.int .i64 (brE b a w o m).1), .v (.int .i64 (brE b a w o m).2)]]) [(0, .cells 9 [.v (.string b)]), (1, .cells 3 [.v (.int .i64 0)]), (2, .cells 140 zrV), (3, .cells 9 [.v (.string ByteArray.empty)]), (4, .cells 56 [.v (.int .i64 w), .v (.int .i64 z), .v (.bool g), .v (.bool c)]), (5, .cells 3 [.v (.int .i64 m)])])
theorem sFrSt_enc : ∀ l H n i ls, sFrSt.dec l H = some (i, ls) → l = renL (rho ls n) (sFrSt.args i) ∧ givenHp H ls = renH (rho ls n) (sFrSt.hp i) := by
  intro l H n i ls h
  simp only [sFrSt] at h
  repeat' split at h
  all_goals first
    | (cases h; done)
    | (cases h; exact ⟨rfl, rfl⟩)
    | (cases h; refine ⟨rfl, ?_⟩; simp only [givenHp, List.filterMap_cons, List.filterMap_nil, Option.map, *]; rfl)
def sFrTd : Spec where
  ι := ByteArray × Int × Int × ByteArray × Int × Int
  own := true
  dec l H := match l with
    | [.v (.string s), .ag [.v (.int .i64 e), .v (.int .i64 f)], .p l0 0 0, .p l1 0 0] => match H l0 with
      | some (.cells 9 [.v (.string o)]) => match H l1 with
        | some (.cells 25 [.v (.int .i64 e1), .v (.int .i64 f1)]) => some ((s, e, f, o, e1, f1), [l0, l1])
        | _ => none
      | _ => none
    | _ => none
  args := fun (s, e, f, o, e1, f1) => [.v (.string s), .ag [.v (.int .i64 e), .v (.int .i64 f)], .p 0 0 0, .p 1 0 0]
  hp := fun (s, e, f, o, e1, f1) => [(0, .cells 9 [.v (.string o)]), (1, .cells 25 [.v (.int .i64 e1), .v (.int .i64 f1)])]
  out := fun (s, e, f, o, e1, f1) => .leaf (.tu []) [(0, .cells 9 [.v (.string s)]), (1, .cells 25 [.v (.int .i64 e), .v (.int .i64 f)])]
theorem sFrTd_enc : ∀ l H n i ls, sFrTd.dec l H = some (i, ls) → l = renL (rho ls n) (sFrTd.args i) ∧ givenHp H ls = renH (rho ls n) (sFrTd.hp i) := by
  intro l H n i ls h
  simp only [sFrTd] at h
  repeat' split at h
  all_goals first
    | (cases h; done)
    | (cases h; exact ⟨rfl, rfl⟩)
    | (cases h; refine ⟨rfl, ?_⟩; simp only [givenHp, List.filterMap_cons, List.filterMap_nil, Option.map, *]; rfl)
def GFr1 : List (Nat × Ctr) := (78, sFrSt.ctr) :: (73, sFrTd.ctr) :: GBf
def sFrHd : Spec where
  ι := ByteArray × Int × Int
  dec l H := match l with
    | [.v (.string b), .v (.int .i64 a), .v (.int .i64 m)] => some ((b, a, m), [])
    | _ => none
  args := fun (b, a, m) => [.v (.string b), .v (.int .i64 a), .v (.int .i64 m)]
  pre := fun (b, a, m) => [⟨b.size ≤ 1000000, inferInstance⟩, ⟨fhI m = false → (hdE b a).1 = 0 → hhS b a ≤ m, inferInstance⟩]
  out := fun (b, a, m) => .ite ⟨fhG b a m = true, inferInstance⟩ (.leaf (.tu [.ag [.v (.int .i64 (hhW b a)), .v (.int .i64 (hhS b a)), .v (.bool (hhG b a)), .v (.bool (hhM b a))], .v (.int .i64 (hhN b a)), .ag [.v (.int .i64 0), .v (.int .i64 0)]]) []) (.leaf (.tu [.ag [.v (.int .i64 0), .v (.int .i64 0), .v (.bool false), .v (.bool false)], .v (.int .i64 0), .ag [.v (.int .i64 (fhE b a m).1), .v (.int .i64 (fhE b a m).2)]]) [])
theorem sFrHd_enc : ∀ l H n i ls, sFrHd.dec l H = some (i, ls) → l = renL (rho ls n) (sFrHd.args i) ∧ givenHp H ls = renH (rho ls n) (sFrHd.hp i) := by
  intro l H n i ls h
  simp only [sFrHd] at h
  repeat' split at h
  all_goals first
    | (cases h; done)
    | (cases h; exact ⟨rfl, rfl⟩)
def sFrBs : Spec where
  ι := ByteArray × Int × Int × Int × Bool × Bool × Int × ByteArray × Int × Int
  own := true
  dec l H := match l with
    | [.v (.string b), .v (.int .i64 a), .ag [.v (.int .i64 w), .v (.int .i64 z), .v (.bool g), .v (.bool c)], .v (.int .i64 m), .fn (.func 73) [] [.p l0 0 0, .p l1 0 0]] => match H l0 with
      | some (.cells 9 [.v (.string o)]) => match H l1 with
        | some (.cells 25 [.v (.int .i64 e), .v (.int .i64 f)]) => some ((b, a, w, z, g, c, m, o, e, f), [l0, l1])
        | _ => none
      | _ => none
    | _ => none
  args := fun (b, a, w, z, g, c, m, o, e, f) => [.v (.string b), .v (.int .i64 a), .ag [.v (.int .i64 w), .v (.int .i64 z), .v (.bool g), .v (.bool c)], .v (.int .i64 m), .fn (.func 73) [] [.p 0 0 0, .p 1 0 0]]
  hp := fun (b, a, w, z, g, c, m, o, e, f) => [(0, .cells 9 [.v (.string o)]), (1, .cells 25 [.v (.int .i64 e), .v (.int .i64 f)])]
  out := fun (b, a, w, z, g, c, m, o, e, f) => .leaf (.fn (.func 76) [] [.p 2000 0 0, .p 2001 0 0, .p 2002 0 0, .p 2003 0 0, .p 2004 0 0]) [(2000, .cells 9 [.v (.string b)]), (2001, .cells 3 [.v (.int .i64 a)]), (2002, .cells 56 [.v (.int .i64 w), .v (.int .i64 z), .v (.bool g), .v (.bool c)]), (2003, .cells 3 [.v (.int .i64 m)]), (2004, .cells 128 [.fn (.func 73) [] [.p 0 0 0, .p 1 0 0]]), (0, .cells 9 [.v (.string o)]), (1, .cells 25 [.v (.int .i64 e), .v (.int .i64 f)])]
theorem sFrBs_enc : ∀ l H n i ls, sFrBs.dec l H = some (i, ls) → l = renL (rho ls n) (sFrBs.args i) ∧ givenHp H ls = renH (rho ls n) (sFrBs.hp i) := by
  intro l H n i ls h
  simp only [sFrBs] at h
  repeat' split at h
  all_goals first
    | (cases h; done)
    | (cases h; exact ⟨rfl, rfl⟩)
    | (cases h; refine ⟨rfl, ?_⟩; simp only [givenHp, List.filterMap_cons, List.filterMap_nil, Option.map, *]; rfl)
def sFrRd : Spec where
  ι := ByteArray × Int × Int
  dec l H := match l with
    | [.v (.string b), .v (.int .i64 a), .v (.int .i64 m)] => some ((b, a, m), [])
    | _ => none
  args := fun (b, a, m) => [.v (.string b), .v (.int .i64 a), .v (.int .i64 m)]
  pre := fun (b, a, m) => [⟨b.size ≤ 1000000, inferInstance⟩, ⟨fhI m = false → (hdE b a).1 = 0 → hhS b a ≤ m, inferInstance⟩, ⟨fhG b a m = true → fbK b (hhW b a) m (hhN b a) = true ∧ hhM b a = false, inferInstance⟩]
  out := fun (b, a, m) => .leaf (.tu [.v (.string (frO b a m)), .v (.int .i64 (frN b a m)), .ag [.v (.int .i64 (frE b a m).1), .v (.int .i64 (frE b a m).2)]]) []
theorem sFrRd_enc : ∀ l H n i ls, sFrRd.dec l H = some (i, ls) → l = renL (rho ls n) (sFrRd.args i) ∧ givenHp H ls = renH (rho ls n) (sFrRd.hp i) := by
  intro l H n i ls h
  simp only [sFrRd] at h
  repeat' split at h
  all_goals first
    | (cases h; done)
    | (cases h; exact ⟨rfl, rfl⟩)
def GFr2 : List (Nat × Ctr) := (72, sFrBs.ctr) :: GFr1
def GFr3 : List (Nat × Ctr) := (71, sFrHd.ctr) :: GFr2
def GFr4 : List (Nat × Ctr) := (70, sFrRd.ctr) :: GFr3
def fbC (b : ByteArray) (a w z : Int) (g c : Bool) (m : Int) (o : ByteArray) (e f : Int) : List (Nat × SBlk) := [(0, .cells 9 [.v (.string b)]), (1, .cells 3 [.v (.int .i64 a)]), (2, .cells 56 [.v (.int .i64 w), .v (.int .i64 z), .v (.bool g), .v (.bool c)]), (3, .cells 3 [.v (.int .i64 m)]), (4, .cells 128 [.fn (.func 73) [] [.p 5 0 0, .p 6 0 0]]), (5, .cells 9 [.v (.string o)]), (6, .cells 25 [.v (.int .i64 e), .v (.int .i64 f)])]
def oFb (l0 : Nat) (b : ByteArray) (a w z : Int) (g c : Bool) (m : Int) : Nat → Option LoopFamI := fun k => cond (Nat.beq k 0) (some ⟨Unit, fun _ => { ι := Nat, p := fun i => i ≤ fbN b w m a, tm := fun i => [(0, .v (.func (.yield l0) #[] #[])), (1, .p 0 0 0), (2, .p 1 0 0), (3, .p 2 0 0), (4, .p 3 0 0), (5, .p 4 0 0), (7, .p 1000 0 0), (8, .p 1001 0 0), (9, .fn (.func 78) [] [.p 0 0 0, .p 1 0 0, .p 1000 0 0, .p 1001 0 0, .p 2 0 0, .p 3 0 0])], hp := fun i => (1000, .cells 140 frV) :: (1001, .cells 9 [.v (.string (fbO b w m a i))]) :: fbC b (fbA b w m a i) w z g c m (fbO b w m a i) 0 0, μ := fun i => fbN b w m a - i, y := fun i => i }⟩) none
def fbH (b : ByteArray) (a w m : Int) (y : Nat) : List (Nat × SBlk) := [(5, .cells 9 [.v (.string (fbT b w m a y))]), (6, .cells 25 [.v (.int .i64 (fbE b w m a y).1), .v (.int .i64 (fbE b w m a y).2)])]
def frB (b : ByteArray) (a : Int) : SBlk := .cells 56 [.v (.int .i64 (hhW b a)), .v (.int .i64 (hhS b a)), .v (.bool (hhG b a)), .v (.bool (hhM b a))]
def rFr (b : ByteArray) (a m : Int) : RngInv := { f := 76, cap := [.p 500040 0 0, .p 500041 0 0, .p 500042 0 0, .p 500043 0 0, .p 500044 0 0], hpI := [(500040, .cells 9 [.v (.string b)]), (500041, .cells 3 [.v (.int .i64 (hhN b a))]), (500042, frB b a), (500043, .cells 3 [.v (.int .i64 m)]), (500044, .cells 128 [.fn (.func 73) [] [.p 100000 0 0, .p 100016 0 0]]), (100000, .cells 9 [.v (.string ByteArray.empty)]), (100016, .cells 25 [.v (.int .i64 0), .v (.int .i64 0)])], xs := fbL b (hhW b a) m (hhN b a), it := fbV b (hhW b a) m (hhN b a), tm := [(0, .v (.string b)), (7, .p 1001 0 0), (9, .p 1002 0 0)], hp := fun i => [(1001, .cells 3 [.v (.int .i64 (fbA b (hhW b a) m (hhN b a) i))]), (1002, frB b a)], p := fun i => i ≤ fbN b (hhW b a) m (hhN b a) ∧ fbU b (hhW b a) m (hhN b a) i = true, hpE := fun y => [(100000, .cells 9 [.v (.string (fbT b (hhW b a) m (hhN b a) y))]), (100016, .cells 25 [.v (.int .i64 (fbE b (hhW b a) m (hhN b a) y).1), .v (.int .i64 (fbE b (hhW b a) m (hhN b a) y).2)])], tmE := [(6, .p 100000 0 0), (8, .p 100016 0 0)] }
def oFr (b : ByteArray) (a m : Int) : Nat → Option LoopFam := omL [(0, .rng Unit fun _ => rFr b a m),
  (1009, cutI (fhG b a m = true) [(0, .v (.string b)), (6, .p 1001 0 0), (7, .p 1002 0 0), (8, .p 1003 0 0), (9, .p 1004 0 0)] [(1001, .cells 9 [.v (.string (frT b a m))]), (1002, .cells 3 [.v (.int .i64 (frX b a m))]), (1003, .cells 25 [.v (.int .i64 (frF b a m).1), .v (.int .i64 (frF b a m).2)]), (1004, frB b a)]),
  (1011, cutI (fhG b a m = true) [(0, .v (.string b)), (6, .p 1001 0 0), (7, .p 1002 0 0), (8, .p 1003 0 0), (9, .p 1004 0 0)] [(1001, .cells 9 [.v (.string (frT b a m))]), (1002, .cells 3 [.v (.int .i64 (frX b a m))]), (1003, .cells 25 [.v (.int .i64 (frE b a m).1), .v (.int .i64 (frE b a m).2)]), (1004, frB b a)])]
end Go.Proofs.YthfhkiejcpnalaaGreat
namespace Go.Proofs.YthfhkiejcpnalaaGreat
open Go Go.RowKit
set_option linter.unusedVariables false
set_option maxRecDepth 100000
def frHd_t (b : ByteArray) (a m : Int) : Prop :=
 (decide (m < (0 : Int)) = true →
 (fhG b a m = true → (0 : Int) = hhW b a ∧ (0 : Int) = hhS b a ∧ false = hhG b a ∧ false = hhM b a ∧ (0 : Int) = hhN b a ∧ (2 : Int) = (0 : Int) ∧ (0 : Int) = (0 : Int)) ∧
 (¬fhG b a m = true → (0 : Int) = (0 : Int) ∧ (0 : Int) = (0 : Int) ∧ false = false ∧ false = false ∧ (0 : Int) = (0 : Int) ∧ (2 : Int) = (fhE b a m).fst ∧ (0 : Int) = (fhE b a m).snd)) ∧
 (decide (m < (0 : Int)) = false →
 (decide (m > (1048576 : Int)) = true →
 (fhG b a m = true → (0 : Int) = hhW b a ∧ (0 : Int) = hhS b a ∧ false = hhG b a ∧ false = hhM b a ∧ (0 : Int) = hhN b a ∧ (2 : Int) = (0 : Int) ∧ (0 : Int) = (0 : Int)) ∧
 (¬fhG b a m = true → (0 : Int) = (0 : Int) ∧ (0 : Int) = (0 : Int) ∧ false = false ∧ false = false ∧ (0 : Int) = (0 : Int) ∧ (2 : Int) = (fhE b a m).fst ∧ (0 : Int) = (fhE b a m).snd)) ∧
 (decide (m > (1048576 : Int)) = false →
 ByteArray.size b ≤ (1000000 : Nat) ∧
 (((hdE b a).fst == (0 : Int)) = true →
 (decide (hhS b a > m) = true →
 False ∧
 False ∧
 False ∧
 (((hdE b a).fst != (0 : Int)) = true →
 (fhG b a m = true →
 (0 : Int) = hhW b a ∧ (0 : Int) = hhS b a ∧ false = hhG b a ∧ false = hhM b a ∧ (0 : Int) = hhN b a ∧ (hdE b a).fst = (0 : Int) ∧ (hdE b a).snd = (0 : Int)) ∧
 (¬fhG b a m = true →
 (0 : Int) = (0 : Int) ∧
 (0 : Int) = (0 : Int) ∧ false = false ∧ false = false ∧ (0 : Int) = (0 : Int) ∧ (hdE b a).fst = (fhE b a m).fst ∧ (hdE b a).snd = (fhE b a m).snd)) ∧
 (((hdE b a).fst != (0 : Int)) = false →
 (fhG b a m = true → hhW b a = hhW b a ∧ hhS b a = hhS b a ∧ hhG b a = hhG b a ∧ hhM b a = hhM b a ∧ hhN b a = hhN b a ∧ (0 : Int) = (0 : Int) ∧ (0 : Int) = (0 : Int)) ∧
 (¬fhG b a m = true →
 hhW b a = (0 : Int) ∧ hhS b a = (0 : Int) ∧ hhG b a = false ∧ hhM b a = false ∧ hhN b a = (0 : Int) ∧ (0 : Int) = (fhE b a m).fst ∧ (0 : Int) = (fhE b a m).snd))) ∧
 (decide (hhS b a > m) = false →
 (((hdE b a).fst != (0 : Int)) = true →
 (fhG b a m = true → (0 : Int) = hhW b a ∧ (0 : Int) = hhS b a ∧ false = hhG b a ∧ false = hhM b a ∧ (0 : Int) = hhN b a ∧ (hdE b a).fst = (0 : Int) ∧ (hdE b a).snd = (0 : Int)) ∧
 (¬fhG b a m = true →
 (0 : Int) = (0 : Int) ∧ (0 : Int) = (0 : Int) ∧ false = false ∧ false = false ∧ (0 : Int) = (0 : Int) ∧ (hdE b a).fst = (fhE b a m).fst ∧ (hdE b a).snd = (fhE b a m).snd)) ∧
 (((hdE b a).fst != (0 : Int)) = false →
 (fhG b a m = true → hhW b a = hhW b a ∧ hhS b a = hhS b a ∧ hhG b a = hhG b a ∧ hhM b a = hhM b a ∧ hhN b a = hhN b a ∧ (0 : Int) = (0 : Int) ∧ (0 : Int) = (0 : Int)) ∧
 (¬fhG b a m = true →
 hhW b a = (0 : Int) ∧ hhS b a = (0 : Int) ∧ hhG b a = false ∧ hhM b a = false ∧ hhN b a = (0 : Int) ∧ (0 : Int) = (fhE b a m).fst ∧ (0 : Int) = (fhE b a m).snd)))) ∧
 (((hdE b a).fst == (0 : Int)) = false →
 (((hdE b a).fst != (0 : Int)) = true →
 (fhG b a m = true → (0 : Int) = hhW b a ∧ (0 : Int) = hhS b a ∧ false = hhG b a ∧ false = hhM b a ∧ (0 : Int) = hhN b a ∧ (hdE b a).fst = (0 : Int) ∧ (hdE b a).snd = (0 : Int)) ∧
 (¬fhG b a m = true →
 (0 : Int) = (0 : Int) ∧ (0 : Int) = (0 : Int) ∧ false = false ∧ false = false ∧ (0 : Int) = (0 : Int) ∧ (hdE b a).fst = (fhE b a m).fst ∧ (hdE b a).snd = (fhE b a m).snd)) ∧
 (((hdE b a).fst != (0 : Int)) = false →
 (fhG b a m = true → hhW b a = hhW b a ∧ hhS b a = hhS b a ∧ hhG b a = hhG b a ∧ hhM b a = hhM b a ∧ hhN b a = hhN b a ∧ (0 : Int) = (0 : Int) ∧ (0 : Int) = (0 : Int)) ∧
 (¬fhG b a m = true →
 hhW b a = (0 : Int) ∧ hhS b a = (0 : Int) ∧ hhG b a = false ∧ hhM b a = false ∧ hhN b a = (0 : Int) ∧ (0 : Int) = (fhE b a m).fst ∧ (0 : Int) = (fhE b a m).snd)))))
theorem frHd_e (b : ByteArray) (a m : Int) : frHd_t b a m = vcG Tryz.prog (Gof GFr2) (fun _ => none) Tryz.f71 [.v (.string b), .v (.int .i64 a), .v (.int .i64 m)] [] (.ite ⟨fhG b a m = true, inferInstance⟩ (.leaf (.tu [.ag [.v (.int .i64 (hhW b a)), .v (.int .i64 (hhS b a)), .v (.bool (hhG b a)), .v (.bool (hhM b a))], .v (.int .i64 (hhN b a)), .ag [.v (.int .i64 0), .v (.int .i64 0)]]) ([])) (.leaf (.tu [.ag [.v (.int .i64 0), .v (.int .i64 0), .v (.bool false), .v (.bool false)], .v (.int .i64 0), .ag [.v (.int .i64 (fhE b a m).1), .v (.int .i64 (fhE b a m).2)]]) ([]))) := by kernel_rfl
def frBs_t (b : ByteArray) (a w z : Int) (g c : Bool) (m : Int) (o : ByteArray) (e f : Int) : Prop :=
 b = b ∧ a = a ∧ w = w ∧ z = z ∧ g = g ∧ c = c ∧ m = m ∧ o = o ∧ e = e ∧ f = f
theorem frBs_e (b : ByteArray) (a w z : Int) (g c : Bool) (m : Int) (o : ByteArray) (e f : Int) : frBs_t b a w z g c m o e f = vcG Tryz.prog (Gof GFr1) (fun _ => none) Tryz.f72 [.v (.string b), .v (.int .i64 a), .ag [.v (.int .i64 w), .v (.int .i64 z), .v (.bool g), .v (.bool c)], .v (.int .i64 m), .fn (.func 73) [] [.p 0 0 0, .p 1 0 0]] [(0, .cells 9 [.v (.string o)]), (1, .cells 25 [.v (.int .i64 e), .v (.int .i64 f)])] (.leaf (.fn (.func 76) [] [.p 2000 0 0, .p 2001 0 0, .p 2002 0 0, .p 2003 0 0, .p 2004 0 0]) ([(2000, .cells 9 [.v (.string b)]), (2001, .cells 3 [.v (.int .i64 a)]), (2002, .cells 56 [.v (.int .i64 w), .v (.int .i64 z), .v (.bool g), .v (.bool c)]), (2003, .cells 3 [.v (.int .i64 m)]), (2004, .cells 128 [.fn (.func 73) [] [.p 0 0 0, .p 1 0 0]]), (0, .cells 9 [.v (.string o)]), (1, .cells 25 [.v (.int .i64 e), .v (.int .i64 f)])])) := by kernel_rfl
def frRd_t (b : ByteArray) (a m : Int) : Prop :=
 (fhG b a m = true →
 ByteArray.size b ≤ (1000000 : Nat) ∧
 (fhI m = false → (hdE b a).fst = (0 : Int) → hhS b a ≤ m) ∧
 (((0 : Int) != (0 : Int)) = true → ByteArray.empty = frO b a m ∧ (0 : Int) = frN b a m ∧ (0 : Int) = (frE b a m).fst ∧ (0 : Int) = (frE b a m).snd) ∧
 (((0 : Int) != (0 : Int)) = false →
 (∃ (y0 : Unit),
 (ISatE Tryz.prog ((76 : Nat))
 [SV.p (500040 : Nat) (0 : Nat) (0 : Nat), SV.p (500041 : Nat) (0 : Nat) (0 : Nat), SV.p (500042 : Nat) (0 : Nat) (0 : Nat), SV.p (500043 : Nat) (0 : Nat) (0 : Nat),
 SV.p (500044 : Nat) (0 : Nat) (0 : Nat)]
 [((500040 : Nat), SBlk.cells (9 : TypeId) [SV.v (Value.string b)]), ((500041 : Nat), SBlk.cells (3 : TypeId) [SV.v (Value.int IntKind.i64 (hhN b a))]),
 ((500042 : Nat),
 SBlk.cells (56 : TypeId) [SV.v (Value.int IntKind.i64 (hhW b a)), SV.v (Value.int IntKind.i64 (hhS b a)), SV.v (Value.bool (hhG b a)), SV.v (Value.bool (hhM b a))]),
 ((500043 : Nat), SBlk.cells (3 : TypeId) [SV.v (Value.int IntKind.i64 m)]),
 ((500044 : Nat), SBlk.cells (128 : TypeId) [SV.fn (Fn.func (73 : FuncId)) [] [SV.p (100000 : Nat) (0 : Nat) (0 : Nat), SV.p (100016 : Nat) (0 : Nat) (0 : Nat)]]),
 ((100000 : Nat), SBlk.cells (9 : TypeId) [SV.v (Value.string ByteArray.empty)]),
 ((100016 : Nat), SBlk.cells (25 : TypeId) [SV.v (Value.int IntKind.i64 (0 : Int)), SV.v (Value.int IntKind.i64 (0 : Int))])]
 (List.map (fbV b (hhW b a) m (hhN b a)) (List.range (fbN b (hhW b a) m (hhN b a)))) fun (y : Nat) =>
 [((100000 : Nat), SBlk.cells (9 : TypeId) [SV.v (Value.string (fbT b (hhW b a) m (hhN b a) y))]),
 ((100016 : Nat),
 SBlk.cells (25 : TypeId) [SV.v (Value.int IntKind.i64 (fbE b (hhW b a) m (hhN b a) y).fst), SV.v (Value.int IntKind.i64 (fbE b (hhW b a) m (hhN b a) y).snd)])]) ∧
 (b = b ∧
 hhN b a = hhN b a ∧
 hhW b a = hhW b a ∧ hhS b a = hhS b a ∧ hhG b a = hhG b a ∧ hhM b a = hhM b a ∧ m = m ∧ ByteArray.empty = ByteArray.empty ∧ (0 : Int) = (0 : Int) ∧ (0 : Int) = (0 : Int)) ∧
 ((0 : Nat) ≤ fbN b (hhW b a) m (hhN b a) ∧ fbU b (hhW b a) m (hhN b a) (0 : Nat) = true) ∧
 (b = b ∧ hhN b a = fbA b (hhW b a) m (hhN b a) (0 : Nat) ∧ hhW b a = hhW b a ∧ hhS b a = hhS b a ∧ hhG b a = hhG b a ∧ hhM b a = hhM b a) ∧
 (∀ (i1 : Nat),
 i1 < List.length (List.map (fbV b (hhW b a) m (hhN b a)) (List.range (fbN b (hhW b a) m (hhN b a)))) →
 i1 ≤ fbN b (hhW b a) m (hhN b a) ∧ fbU b (hhW b a) m (hhN b a) i1 = true →
 (List.map (fbV b (hhW b a) m (hhN b a)) (List.range (fbN b (hhW b a) m (hhN b a))))[i1]? =
 some [Value.int IntKind.i64 (fbA b (hhW b a) m (hhN b a) (i1 + (1 : Nat))), Value.bool (bhL b (brS b (fbA b (hhW b a) m (hhN b a) i1)))] ∧
 List.length [Value.int IntKind.i64 (fbA b (hhW b a) m (hhN b a) (i1 + (1 : Nat))), Value.bool (bhL b (brS b (fbA b (hhW b a) m (hhN b a) i1)))] =
 List.length #[(30 : Nat), (31 : Nat)].toList ∧
 (bhL b (brS b (fbA b (hhW b a) m (hhN b a) i1)) = true →
 ∃ (x2 : Unit),
 fhG b a m = true ∧
 b = b ∧
 fbT b (hhW b a) m (hhN b a) i1 = frT b a m ∧
 fbA b (hhW b a) m (hhN b a) (i1 + (1 : Nat)) = frX b a m ∧
 (fbE b (hhW b a) m (hhN b a) i1).fst = (frF b a m).fst ∧
 (fbE b (hhW b a) m (hhN b a) i1).snd = (frF b a m).snd ∧ hhW b a = hhW b a ∧ hhS b a = hhS b a ∧ hhG b a = hhG b a ∧ hhM b a = hhM b a) ∧
 (bhL b (brS b (fbA b (hhW b a) m (hhN b a) i1)) = false →
 (i1 + (1 : Nat) ≤ fbN b (hhW b a) m (hhN b a) ∧ fbU b (hhW b a) m (hhN b a) (i1 + (1 : Nat)) = true) ∧
 fbA b (hhW b a) m (hhN b a) (i1 + (1 : Nat)) = fbA b (hhW b a) m (hhN b a) (i1 + (1 : Nat)) ∧
 hhW b a = hhW b a ∧ hhS b a = hhS b a ∧ hhG b a = hhG b a ∧ hhM b a = hhM b a)) ∧
 (List.length (List.map (fbV b (hhW b a) m (hhN b a)) (List.range (fbN b (hhW b a) m (hhN b a)))) ≤ fbN b (hhW b a) m (hhN b a) ∧
 fbU b (hhW b a) m (hhN b a) (List.length (List.map (fbV b (hhW b a) m (hhN b a)) (List.range (fbN b (hhW b a) m (hhN b a))))) = true →
 ∃ (x3 : Unit),
 fhG b a m = true ∧
 b = b ∧
 fbT b (hhW b a) m (hhN b a) (List.length (List.map (fbV b (hhW b a) m (hhN b a)) (List.range (fbN b (hhW b a) m (hhN b a))))) = frT b a m ∧
 fbA b (hhW b a) m (hhN b a) (List.length (List.map (fbV b (hhW b a) m (hhN b a)) (List.range (fbN b (hhW b a) m (hhN b a))))) = frX b a m ∧
 (fbE b (hhW b a) m (hhN b a) (List.length (List.map (fbV b (hhW b a) m (hhN b a)) (List.range (fbN b (hhW b a) m (hhN b a)))))).fst = (frF b a m).fst ∧
 (fbE b (hhW b a) m (hhN b a) (List.length (List.map (fbV b (hhW b a) m (hhN b a)) (List.range (fbN b (hhW b a) m (hhN b a)))))).snd = (frF b a m).snd ∧
 hhW b a = hhW b a ∧ hhS b a = hhS b a ∧ hhG b a = hhG b a ∧ hhM b a = hhM b a)) ∧
 ∀ (x4 : Unit),
 fhG b a m = true →
 ((((frF b a m).fst == (0 : Int)) = true →
 (decide (hhS b a ≥ (0 : Int)) = true →
 ((hhS b a != (↑(ByteArray.size (frT b a m)) : Int)) = true →
 ∃ (x5 : Unit),
 fhG b a m = true ∧
 b = b ∧
 frT b a m = frT b a m ∧
 frX b a m = frX b a m ∧
 (27 : Int) = (frE b a m).fst ∧ frX b a m = (frE b a m).snd ∧ hhW b a = hhW b a ∧ hhS b a = hhS b a ∧ hhG b a = hhG b a ∧ hhM b a = hhM b a) ∧
 ((hhS b a != (↑(ByteArray.size (frT b a m)) : Int)) = false →
 ∃ (x6 : Unit),
 fhG b a m = true ∧
 b = b ∧
 frT b a m = frT b a m ∧
 frX b a m = frX b a m ∧
 (frF b a m).fst = (frE b a m).fst ∧ (frF b a m).snd = (frE b a m).snd ∧ hhW b a = hhW b a ∧ hhS b a = hhS b a ∧ hhG b a = hhG b a ∧ hhM b a = hhM b a)) ∧
 (decide (hhS b a ≥ (0 : Int)) = false →
 ∃ (x7 : Unit),
 fhG b a m = true ∧
 b = b ∧
 frT b a m = frT b a m ∧
 frX b a m = frX b a m ∧
 (frF b a m).fst = (frE b a m).fst ∧ (frF b a m).snd = (frE b a m).snd ∧ hhW b a = hhW b a ∧ hhS b a = hhS b a ∧ hhG b a = hhG b a ∧ hhM b a = hhM b a)) ∧
 (((frF b a m).fst == (0 : Int)) = false →
 ∃ (x8 : Unit),
 fhG b a m = true ∧
 b = b ∧
 frT b a m = frT b a m ∧
 frX b a m = frX b a m ∧
 (frF b a m).fst = (frE b a m).fst ∧ (frF b a m).snd = (frE b a m).snd ∧ hhW b a = hhW b a ∧ hhS b a = hhS b a ∧ hhG b a = hhG b a ∧ hhM b a = hhM b a)) ∧
 ∀ (x9 : Unit),
 fhG b a m = true →
 (((frE b a m).fst == (0 : Int)) = true →
 (hhM b a = true →
 (decide (IntKind.wrap IntKind.i64 ((↑(ByteArray.size b) : Int) - frX b a m) < (4 : Int)) = true →
 (((5 : Int) != (0 : Int)) = true →
 ByteArray.empty = frO b a m ∧ (0 : Int) = frN b a m ∧ (5 : Int) = (frE b a m).fst ∧ (↑(ByteArray.size b) : Int) = (frE b a m).snd) ∧
 (((5 : Int) != (0 : Int)) = false →
 frT b a m = frO b a m ∧ IntKind.wrap IntKind.i64 (frX b a m + (4 : Int)) = frN b a m ∧ (0 : Int) = (frE b a m).fst ∧ (0 : Int) = (frE b a m).snd)) ∧
 (decide (IntKind.wrap IntKind.i64 ((↑(ByteArray.size b) : Int) - frX b a m) < (4 : Int)) = false →
 (0 : Int) ≤ frX b a m ∧
 frX b a m ≤ IntKind.wrap IntKind.i64 (frX b a m + (4 : Int)) ∧
 IntKind.wrap IntKind.i64 (frX b a m + (4 : Int)) ≤ (↑(ByteArray.size b) : Int) ∧ False ∧ False ∧ False)) ∧
 (hhM b a = false →
 (((frE b a m).fst != (0 : Int)) = true → ByteArray.empty = frO b a m ∧ (0 : Int) = frN b a m ∧ (frE b a m).fst = (frE b a m).fst ∧ (frE b a m).snd = (frE b a m).snd) ∧
 (((frE b a m).fst != (0 : Int)) = false → frT b a m = frO b a m ∧ frX b a m = frN b a m ∧ (0 : Int) = (frE b a m).fst ∧ (0 : Int) = (frE b a m).snd))) ∧
 (((frE b a m).fst == (0 : Int)) = false →
 (((frE b a m).fst != (0 : Int)) = true → ByteArray.empty = frO b a m ∧ (0 : Int) = frN b a m ∧ (frE b a m).fst = (frE b a m).fst ∧ (frE b a m).snd = (frE b a m).snd) ∧
 (((frE b a m).fst != (0 : Int)) = false → frT b a m = frO b a m ∧ frX b a m = frN b a m ∧ (0 : Int) = (frE b a m).fst ∧ (0 : Int) = (frE b a m).snd)))) ∧
 (¬fhG b a m = true →
 ByteArray.size b ≤ (1000000 : Nat) ∧
 (fhI m = false → (hdE b a).fst = (0 : Int) → hhS b a ≤ m) ∧
 (((fhE b a m).fst != (0 : Int)) = true → ByteArray.empty = frO b a m ∧ (0 : Int) = frN b a m ∧ (fhE b a m).fst = (frE b a m).fst ∧ (fhE b a m).snd = (frE b a m).snd) ∧
 (((fhE b a m).fst != (0 : Int)) = false →
 (∃ (y10 : Unit),
 (ISatE Tryz.prog ((76 : Nat))
 [SV.p (500040 : Nat) (0 : Nat) (0 : Nat), SV.p (500041 : Nat) (0 : Nat) (0 : Nat), SV.p (500042 : Nat) (0 : Nat) (0 : Nat), SV.p (500043 : Nat) (0 : Nat) (0 : Nat),
 SV.p (500044 : Nat) (0 : Nat) (0 : Nat)]
 [((500040 : Nat), SBlk.cells (9 : TypeId) [SV.v (Value.string b)]), ((500041 : Nat), SBlk.cells (3 : TypeId) [SV.v (Value.int IntKind.i64 (hhN b a))]),
 ((500042 : Nat),
 SBlk.cells (56 : TypeId) [SV.v (Value.int IntKind.i64 (hhW b a)), SV.v (Value.int IntKind.i64 (hhS b a)), SV.v (Value.bool (hhG b a)), SV.v (Value.bool (hhM b a))]),
 ((500043 : Nat), SBlk.cells (3 : TypeId) [SV.v (Value.int IntKind.i64 m)]),
 ((500044 : Nat), SBlk.cells (128 : TypeId) [SV.fn (Fn.func (73 : FuncId)) [] [SV.p (100000 : Nat) (0 : Nat) (0 : Nat), SV.p (100016 : Nat) (0 : Nat) (0 : Nat)]]),
 ((100000 : Nat), SBlk.cells (9 : TypeId) [SV.v (Value.string ByteArray.empty)]),
 ((100016 : Nat), SBlk.cells (25 : TypeId) [SV.v (Value.int IntKind.i64 (0 : Int)), SV.v (Value.int IntKind.i64 (0 : Int))])]
 (List.map (fbV b (hhW b a) m (hhN b a)) (List.range (fbN b (hhW b a) m (hhN b a)))) fun (y : Nat) =>
 [((100000 : Nat), SBlk.cells (9 : TypeId) [SV.v (Value.string (fbT b (hhW b a) m (hhN b a) y))]),
 ((100016 : Nat),
 SBlk.cells (25 : TypeId) [SV.v (Value.int IntKind.i64 (fbE b (hhW b a) m (hhN b a) y).fst), SV.v (Value.int IntKind.i64 (fbE b (hhW b a) m (hhN b a) y).snd)])]) ∧
 (b = b ∧
 (0 : Int) = hhN b a ∧
 (0 : Int) = hhW b a ∧
 (0 : Int) = hhS b a ∧ false = hhG b a ∧ false = hhM b a ∧ m = m ∧ ByteArray.empty = ByteArray.empty ∧ (fhE b a m).fst = (0 : Int) ∧ (fhE b a m).snd = (0 : Int)) ∧
 ((0 : Nat) ≤ fbN b (hhW b a) m (hhN b a) ∧ fbU b (hhW b a) m (hhN b a) (0 : Nat) = true) ∧
 (b = b ∧ (0 : Int) = fbA b (hhW b a) m (hhN b a) (0 : Nat) ∧ (0 : Int) = hhW b a ∧ (0 : Int) = hhS b a ∧ false = hhG b a ∧ false = hhM b a) ∧
 (∀ (i11 : Nat),
 i11 < List.length (List.map (fbV b (hhW b a) m (hhN b a)) (List.range (fbN b (hhW b a) m (hhN b a)))) →
 i11 ≤ fbN b (hhW b a) m (hhN b a) ∧ fbU b (hhW b a) m (hhN b a) i11 = true →
 (List.map (fbV b (hhW b a) m (hhN b a)) (List.range (fbN b (hhW b a) m (hhN b a))))[i11]? =
 some [Value.int IntKind.i64 (fbA b (hhW b a) m (hhN b a) (i11 + (1 : Nat))), Value.bool (bhL b (brS b (fbA b (hhW b a) m (hhN b a) i11)))] ∧
 List.length [Value.int IntKind.i64 (fbA b (hhW b a) m (hhN b a) (i11 + (1 : Nat))), Value.bool (bhL b (brS b (fbA b (hhW b a) m (hhN b a) i11)))] =
 List.length #[(30 : Nat), (31 : Nat)].toList ∧
 (bhL b (brS b (fbA b (hhW b a) m (hhN b a) i11)) = true →
 ∃ (x12 : Unit),
 fhG b a m = true ∧
 b = b ∧
 fbT b (hhW b a) m (hhN b a) i11 = frT b a m ∧
 fbA b (hhW b a) m (hhN b a) (i11 + (1 : Nat)) = frX b a m ∧
 (fbE b (hhW b a) m (hhN b a) i11).fst = (frF b a m).fst ∧
 (fbE b (hhW b a) m (hhN b a) i11).snd = (frF b a m).snd ∧ hhW b a = hhW b a ∧ hhS b a = hhS b a ∧ hhG b a = hhG b a ∧ hhM b a = hhM b a) ∧
 (bhL b (brS b (fbA b (hhW b a) m (hhN b a) i11)) = false →
 (i11 + (1 : Nat) ≤ fbN b (hhW b a) m (hhN b a) ∧ fbU b (hhW b a) m (hhN b a) (i11 + (1 : Nat)) = true) ∧
 fbA b (hhW b a) m (hhN b a) (i11 + (1 : Nat)) = fbA b (hhW b a) m (hhN b a) (i11 + (1 : Nat)) ∧
 hhW b a = hhW b a ∧ hhS b a = hhS b a ∧ hhG b a = hhG b a ∧ hhM b a = hhM b a)) ∧
 (List.length (List.map (fbV b (hhW b a) m (hhN b a)) (List.range (fbN b (hhW b a) m (hhN b a)))) ≤ fbN b (hhW b a) m (hhN b a) ∧
 fbU b (hhW b a) m (hhN b a) (List.length (List.map (fbV b (hhW b a) m (hhN b a)) (List.range (fbN b (hhW b a) m (hhN b a))))) = true →
 ∃ (x13 : Unit),
 fhG b a m = true ∧
 b = b ∧
 fbT b (hhW b a) m (hhN b a) (List.length (List.map (fbV b (hhW b a) m (hhN b a)) (List.range (fbN b (hhW b a) m (hhN b a))))) = frT b a m ∧
 fbA b (hhW b a) m (hhN b a) (List.length (List.map (fbV b (hhW b a) m (hhN b a)) (List.range (fbN b (hhW b a) m (hhN b a))))) = frX b a m ∧
 (fbE b (hhW b a) m (hhN b a) (List.length (List.map (fbV b (hhW b a) m (hhN b a)) (List.range (fbN b (hhW b a) m (hhN b a)))))).fst = (frF b a m).fst ∧
 (fbE b (hhW b a) m (hhN b a) (List.length (List.map (fbV b (hhW b a) m (hhN b a)) (List.range (fbN b (hhW b a) m (hhN b a)))))).snd = (frF b a m).snd ∧
 hhW b a = hhW b a ∧ hhS b a = hhS b a ∧ hhG b a = hhG b a ∧ hhM b a = hhM b a)) ∧
 ∀ (x14 : Unit),
 fhG b a m = true →
 ((((frF b a m).fst == (0 : Int)) = true →
 (decide (hhS b a ≥ (0 : Int)) = true →
 ((hhS b a != (↑(ByteArray.size (frT b a m)) : Int)) = true →
 ∃ (x15 : Unit),
 fhG b a m = true ∧
 b = b ∧
 frT b a m = frT b a m ∧
 frX b a m = frX b a m ∧
 (27 : Int) = (frE b a m).fst ∧ frX b a m = (frE b a m).snd ∧ hhW b a = hhW b a ∧ hhS b a = hhS b a ∧ hhG b a = hhG b a ∧ hhM b a = hhM b a) ∧
 ((hhS b a != (↑(ByteArray.size (frT b a m)) : Int)) = false →
 ∃ (x16 : Unit),
 fhG b a m = true ∧
 b = b ∧
 frT b a m = frT b a m ∧
 frX b a m = frX b a m ∧
 (frF b a m).fst = (frE b a m).fst ∧ (frF b a m).snd = (frE b a m).snd ∧ hhW b a = hhW b a ∧ hhS b a = hhS b a ∧ hhG b a = hhG b a ∧ hhM b a = hhM b a)) ∧
 (decide (hhS b a ≥ (0 : Int)) = false →
 ∃ (x17 : Unit),
 fhG b a m = true ∧
 b = b ∧
 frT b a m = frT b a m ∧
 frX b a m = frX b a m ∧
 (frF b a m).fst = (frE b a m).fst ∧ (frF b a m).snd = (frE b a m).snd ∧ hhW b a = hhW b a ∧ hhS b a = hhS b a ∧ hhG b a = hhG b a ∧ hhM b a = hhM b a)) ∧
 (((frF b a m).fst == (0 : Int)) = false →
 ∃ (x18 : Unit),
 fhG b a m = true ∧
 b = b ∧
 frT b a m = frT b a m ∧
 frX b a m = frX b a m ∧
 (frF b a m).fst = (frE b a m).fst ∧ (frF b a m).snd = (frE b a m).snd ∧ hhW b a = hhW b a ∧ hhS b a = hhS b a ∧ hhG b a = hhG b a ∧ hhM b a = hhM b a)) ∧
 ∀ (x19 : Unit),
 fhG b a m = true →
 (((frE b a m).fst == (0 : Int)) = true →
 (hhM b a = true →
 (decide (IntKind.wrap IntKind.i64 ((↑(ByteArray.size b) : Int) - frX b a m) < (4 : Int)) = true →
 (((5 : Int) != (0 : Int)) = true →
 ByteArray.empty = frO b a m ∧ (0 : Int) = frN b a m ∧ (5 : Int) = (frE b a m).fst ∧ (↑(ByteArray.size b) : Int) = (frE b a m).snd) ∧
 (((5 : Int) != (0 : Int)) = false →
 frT b a m = frO b a m ∧ IntKind.wrap IntKind.i64 (frX b a m + (4 : Int)) = frN b a m ∧ (0 : Int) = (frE b a m).fst ∧ (0 : Int) = (frE b a m).snd)) ∧
 (decide (IntKind.wrap IntKind.i64 ((↑(ByteArray.size b) : Int) - frX b a m) < (4 : Int)) = false →
 (0 : Int) ≤ frX b a m ∧
 frX b a m ≤ IntKind.wrap IntKind.i64 (frX b a m + (4 : Int)) ∧
 IntKind.wrap IntKind.i64 (frX b a m + (4 : Int)) ≤ (↑(ByteArray.size b) : Int) ∧ False ∧ False ∧ False)) ∧
 (hhM b a = false →
 (((frE b a m).fst != (0 : Int)) = true → ByteArray.empty = frO b a m ∧ (0 : Int) = frN b a m ∧ (frE b a m).fst = (frE b a m).fst ∧ (frE b a m).snd = (frE b a m).snd) ∧
 (((frE b a m).fst != (0 : Int)) = false → frT b a m = frO b a m ∧ frX b a m = frN b a m ∧ (0 : Int) = (frE b a m).fst ∧ (0 : Int) = (frE b a m).snd))) ∧
 (((frE b a m).fst == (0 : Int)) = false →
 (((frE b a m).fst != (0 : Int)) = true → ByteArray.empty = frO b a m ∧ (0 : Int) = frN b a m ∧ (frE b a m).fst = (frE b a m).fst ∧ (frE b a m).snd = (frE b a m).snd) ∧
 (((frE b a m).fst != (0 : Int)) = false → frT b a m = frO b a m ∧ frX b a m = frN b a m ∧ (0 : Int) = (frE b a m).fst ∧ (0 : Int) = (frE b a m).snd))))
theorem frRd_e (b : ByteArray) (a m : Int) : frRd_t b a m = vcG Tryz.prog (Gof GFr3) (oFr b a m) Tryz.f70 [.v (.string b), .v (.int .i64 a), .v (.int .i64 m)] [] (.leaf (.tu [.v (.string (frO b a m)), .v (.int .i64 (frN b a m)), .ag [.v (.int .i64 (frE b a m).1), .v (.int .i64 (frE b a m).2)]]) ([])) := by kernel_rfl
def frSt_t (b : ByteArray) (a : Int) (o : ByteArray) (w z : Int) (g c : Bool) (m : Int) : Prop :=
 (brG b a w o m = true →
 ByteArray.size b ≤ (1000000 : Nat) ∧
 ((brC b a).snd.fst = (0 : Int) → brK b a = (0 : Int)) ∧
 (brG b a w o m = true →
 bhL b (brS b a) = bhL b (brS b a) ∧
 (0 : Int) = (0 : Int) ∧
 (0 : Int) = (0 : Int) ∧
 b = b ∧
 (brD b a).fst = (brD b a).fst ∧
 (1 : Int) = (1 : Int) ∧
 (4 : Int) = (4 : Int) ∧
 (8 : Int) = (8 : Int) ∧
 Value.slice none (0 : Nat) (0 : Nat) = Value.slice none (0 : Nat) (0 : Nat) ∧
 (-1 : Int) = (-1 : Int) ∧
 (0 : Int) = (0 : Int) ∧
 (0 : Int) = (0 : Int) ∧
 Value.slice none (0 : Nat) (0 : Nat) = Value.slice none (0 : Nat) (0 : Nat) ∧
 (-1 : Int) = (-1 : Int) ∧
 (0 : Int) = (0 : Int) ∧
 (0 : Int) = (0 : Int) ∧
 Value.slice none (0 : Nat) (0 : Nat) = Value.slice none (0 : Nat) (0 : Nat) ∧
 (-1 : Int) = (-1 : Int) ∧
 (0 : Int) = (0 : Int) ∧
 (0 : Int) = (0 : Int) ∧
 Value.slice none (0 : Nat) (0 : Nat) = Value.slice none (0 : Nat) (0 : Nat) ∧ o ++ brB b a = o ++ brB b a ∧ w = w ∧ z = z ∧ g = g ∧ c = c ∧ m = m) ∧
 (¬brG b a w o m = true →
 bhL b (brS b a) = false ∧
 (0 : Int) = (brE b a w o m).fst ∧
 (0 : Int) = (brE b a w o m).snd ∧
 b = b ∧
 (brD b a).fst = (0 : Int) ∧
 (1 : Int) = (0 : Int) ∧
 (4 : Int) = (0 : Int) ∧
 (8 : Int) = (0 : Int) ∧
 Value.slice none (0 : Nat) (0 : Nat) = Value.slice none (0 : Nat) (0 : Nat) ∧
 (-1 : Int) = (0 : Int) ∧
 (0 : Int) = (0 : Int) ∧
 (0 : Int) = (0 : Int) ∧
 Value.slice none (0 : Nat) (0 : Nat) = Value.slice none (0 : Nat) (0 : Nat) ∧
 (-1 : Int) = (0 : Int) ∧
 (0 : Int) = (0 : Int) ∧
 (0 : Int) = (0 : Int) ∧
 Value.slice none (0 : Nat) (0 : Nat) = Value.slice none (0 : Nat) (0 : Nat) ∧
 (-1 : Int) = (0 : Int) ∧
 (0 : Int) = (0 : Int) ∧
 (0 : Int) = (0 : Int) ∧
 Value.slice none (0 : Nat) (0 : Nat) = Value.slice none (0 : Nat) (0 : Nat) ∧
 o ++ brB b a = ByteArray.empty ∧ w = w ∧ z = z ∧ g = g ∧ c = c ∧ m = m)) ∧
 (¬brG b a w o m = true →
 ByteArray.size b ≤ (1000000 : Nat) ∧
 ((brC b a).snd.fst = (0 : Int) → brK b a = (0 : Int)) ∧
 (brG b a w o m = true →
 false = bhL b (brS b a) ∧
 (brE b a w o m).fst = (0 : Int) ∧
 (brE b a w o m).snd = (0 : Int) ∧
 b = b ∧
 (0 : Int) = (brD b a).fst ∧
 (0 : Int) = (1 : Int) ∧
 (0 : Int) = (4 : Int) ∧
 (0 : Int) = (8 : Int) ∧
 Value.slice none (0 : Nat) (0 : Nat) = Value.slice none (0 : Nat) (0 : Nat) ∧
 (0 : Int) = (-1 : Int) ∧
 (0 : Int) = (0 : Int) ∧
 (0 : Int) = (0 : Int) ∧
 Value.slice none (0 : Nat) (0 : Nat) = Value.slice none (0 : Nat) (0 : Nat) ∧
 (0 : Int) = (-1 : Int) ∧
 (0 : Int) = (0 : Int) ∧
 (0 : Int) = (0 : Int) ∧
 Value.slice none (0 : Nat) (0 : Nat) = Value.slice none (0 : Nat) (0 : Nat) ∧
 (0 : Int) = (-1 : Int) ∧
 (0 : Int) = (0 : Int) ∧
 (0 : Int) = (0 : Int) ∧
 Value.slice none (0 : Nat) (0 : Nat) = Value.slice none (0 : Nat) (0 : Nat) ∧
 ByteArray.empty = o ++ brB b a ∧ w = w ∧ z = z ∧ g = g ∧ c = c ∧ m = m) ∧
 (¬brG b a w o m = true →
 false = false ∧
 (brE b a w o m).fst = (brE b a w o m).fst ∧
 (brE b a w o m).snd = (brE b a w o m).snd ∧
 b = b ∧
 (0 : Int) = (0 : Int) ∧
 (0 : Int) = (0 : Int) ∧
 (0 : Int) = (0 : Int) ∧
 (0 : Int) = (0 : Int) ∧
 Value.slice none (0 : Nat) (0 : Nat) = Value.slice none (0 : Nat) (0 : Nat) ∧
 (0 : Int) = (0 : Int) ∧
 (0 : Int) = (0 : Int) ∧
 (0 : Int) = (0 : Int) ∧
 Value.slice none (0 : Nat) (0 : Nat) = Value.slice none (0 : Nat) (0 : Nat) ∧
 (0 : Int) = (0 : Int) ∧
 (0 : Int) = (0 : Int) ∧
 (0 : Int) = (0 : Int) ∧
 Value.slice none (0 : Nat) (0 : Nat) = Value.slice none (0 : Nat) (0 : Nat) ∧
 (0 : Int) = (0 : Int) ∧
 (0 : Int) = (0 : Int) ∧
 (0 : Int) = (0 : Int) ∧
 Value.slice none (0 : Nat) (0 : Nat) = Value.slice none (0 : Nat) (0 : Nat) ∧
 ByteArray.empty = ByteArray.empty ∧ w = w ∧ z = z ∧ g = g ∧ c = c ∧ m = m))
theorem frSt_e (b : ByteArray) (a : Int) (o : ByteArray) (w z : Int) (g c : Bool) (m : Int) : frSt_t b a o w z g c m = vcG Tryz.prog (Gof GBf) (fun _ => none) Tryz.f78 [.p 0 0 0, .p 1 0 0, .p 2 0 0, .p 3 0 0, .p 4 0 0, .p 5 0 0] [(0, .cells 9 [.v (.string b)]), (1, .cells 3 [.v (.int .i64 a)]), (2, .cells 140 frV), (3, .cells 9 [.v (.string o)]), (4, .cells 56 [.v (.int .i64 w), .v (.int .i64 z), .v (.bool g), .v (.bool c)]), (5, .cells 3 [.v (.int .i64 m)])] (.ite ⟨brG b a w o m = true, inferInstance⟩ (.leaf (.tu [.v (.bool (bhL b (brS b a))), .ag [.v (.int .i64 0), .v (.int .i64 0)]]) ([(0, .cells 9 [.v (.string b)]), (1, .cells 3 [.v (.int .i64 (brD b a).1)]), (2, .cells 140 frV), (3, .cells 9 [.v (.string (o ++ brB b a))]), (4, .cells 56 [.v (.int .i64 w), .v (.int .i64 z), .v (.bool g), .v (.bool c)]), (5, .cells 3 [.v (.int .i64 m)])])) (.leaf (.tu [.v (.bool false), .ag [.v (.int .i64 (brE b a w o m).1), .v (.int .i64 (brE b a w o m).2)]]) ([(0, .cells 9 [.v (.string b)]), (1, .cells 3 [.v (.int .i64 0)]), (2, .cells 140 zrV), (3, .cells 9 [.v (.string ByteArray.empty)]), (4, .cells 56 [.v (.int .i64 w), .v (.int .i64 z), .v (.bool g), .v (.bool c)]), (5, .cells 3 [.v (.int .i64 m)])]))) := by kernel_rfl
def frTd_t (s : ByteArray) (e f : Int) (o : ByteArray) (e1 f1 : Int) : Prop :=
 s = s ∧ e = e ∧ f = f
theorem frTd_e (s : ByteArray) (e f : Int) (o : ByteArray) (e1 f1 : Int) : frTd_t s e f o e1 f1 = vcG Tryz.prog (Gof GBf) (fun _ => none) Tryz.f73 [.v (.string s), .ag [.v (.int .i64 e), .v (.int .i64 f)], .p 0 0 0, .p 1 0 0] [(0, .cells 9 [.v (.string o)]), (1, .cells 25 [.v (.int .i64 e1), .v (.int .i64 f1)])] (.leaf (.tu []) ([(0, .cells 9 [.v (.string s)]), (1, .cells 25 [.v (.int .i64 e), .v (.int .i64 f)])])) := by kernel_rfl
def frIt_t (b : ByteArray) (a w z : Int) (g c : Bool) (m : Int) (l0 : Nat) : Prop :=
 ∃ (g0 : Unit),
 ∃ (x1 : Nat),
 Nat.le x1 (fbN b w m a) ∧
 ((0 : Nat), true) = (x1, true) ∧
 (Value.func (Fn.yield l0) #[] #[] = Value.func (Fn.yield l0) #[] #[] ∧
 (1 : Int) = (1 : Int) ∧
 (4 : Int) = (4 : Int) ∧
 (8 : Int) = (8 : Int) ∧
 Value.slice none (0 : Nat) (0 : Nat) = Value.slice none (0 : Nat) (0 : Nat) ∧
 (-1 : Int) = (-1 : Int) ∧
 (0 : Int) = (0 : Int) ∧
 (0 : Int) = (0 : Int) ∧
 Value.slice none (0 : Nat) (0 : Nat) = Value.slice none (0 : Nat) (0 : Nat) ∧
 (-1 : Int) = (-1 : Int) ∧
 (0 : Int) = (0 : Int) ∧
 (0 : Int) = (0 : Int) ∧
 Value.slice none (0 : Nat) (0 : Nat) = Value.slice none (0 : Nat) (0 : Nat) ∧
 (-1 : Int) = (-1 : Int) ∧
 (0 : Int) = (0 : Int) ∧
 (0 : Int) = (0 : Int) ∧
 Value.slice none (0 : Nat) (0 : Nat) = Value.slice none (0 : Nat) (0 : Nat) ∧
 ByteArray.empty = fbO b w m a x1 ∧
 b = b ∧ a = fbA b w m a x1 ∧ w = w ∧ z = z ∧ g = g ∧ c = c ∧ m = m ∧ ByteArray.empty = fbO b w m a x1 ∧ (0 : Int) = (0 : Int) ∧ (0 : Int) = (0 : Int)) ∧
 ∀ (x2 : Nat),
 Nat.le x2 (fbN b w m a) →
 (brG b (fbA b w m a x2) w (fbO b w m a x2) m = true →
 ByteArray.size b ≤ (1000000 : Nat) ∧
 ((brC b (fbA b w m a x2)).snd.fst = (0 : Int) → brK b (fbA b w m a x2) = (0 : Int)) ∧
 (((0 : Int) != (0 : Int)) = true →
 x2 = List.length (fbL b w m a) ∧ fbO b w m a x2 ++ brB b (fbA b w m a x2) = fbT b w m a x2 ∧ (0 : Int) = (fbE b w m a x2).fst ∧ (0 : Int) = (fbE b w m a x2).snd) ∧
 (((0 : Int) != (0 : Int)) = false →
 l0 = l0 ∧
 (fbL b w m a)[x2]? = some [Value.int IntKind.i64 (brD b (fbA b w m a x2)).fst, Value.bool (bhL b (brS b (fbA b w m a x2)))] ∧
 (∃ (y3 : Nat),
 Nat.le y3 (fbN b w m a) ∧
 (x2 + (1 : Nat), true) = (y3, true) ∧
 Nat.sub (fbN b w m a) y3 < Nat.sub (fbN b w m a) x2 ∧
 Value.func (Fn.yield l0) #[] #[] = Value.func (Fn.yield l0) #[] #[] ∧
 (1 : Int) = (1 : Int) ∧
 (4 : Int) = (4 : Int) ∧
 (8 : Int) = (8 : Int) ∧
 Value.slice none (0 : Nat) (0 : Nat) = Value.slice none (0 : Nat) (0 : Nat) ∧
 (-1 : Int) = (-1 : Int) ∧
 (0 : Int) = (0 : Int) ∧
 (0 : Int) = (0 : Int) ∧
 Value.slice none (0 : Nat) (0 : Nat) = Value.slice none (0 : Nat) (0 : Nat) ∧
 (-1 : Int) = (-1 : Int) ∧
 (0 : Int) = (0 : Int) ∧
 (0 : Int) = (0 : Int) ∧
 Value.slice none (0 : Nat) (0 : Nat) = Value.slice none (0 : Nat) (0 : Nat) ∧
 (-1 : Int) = (-1 : Int) ∧
 (0 : Int) = (0 : Int) ∧
 (0 : Int) = (0 : Int) ∧
 Value.slice none (0 : Nat) (0 : Nat) = Value.slice none (0 : Nat) (0 : Nat) ∧
 fbO b w m a x2 ++ brB b (fbA b w m a x2) = fbO b w m a y3 ∧
 b = b ∧
 (brD b (fbA b w m a x2)).fst = fbA b w m a y3 ∧
 w = w ∧
 z = z ∧
 g = g ∧
 c = c ∧
 m = m ∧
 fbO b w m a x2 ++ brB b (fbA b w m a x2) = fbO b w m a y3 ∧ (0 : Int) = (0 : Int) ∧ (0 : Int) = (0 : Int)) ∧
 fbO b w m a x2 ++ brB b (fbA b w m a x2) = fbT b w m a x2 ∧ (0 : Int) = (fbE b w m a x2).fst ∧ (0 : Int) = (fbE b w m a x2).snd)) ∧
 (¬brG b (fbA b w m a x2) w (fbO b w m a x2) m = true →
 ByteArray.size b ≤ (1000000 : Nat) ∧
 ((brC b (fbA b w m a x2)).snd.fst = (0 : Int) → brK b (fbA b w m a x2) = (0 : Int)) ∧
 (((brE b (fbA b w m a x2) w (fbO b w m a x2) m).fst != (0 : Int)) = true →
 x2 = List.length (fbL b w m a) ∧
 ByteArray.empty = fbT b w m a x2 ∧
 (brE b (fbA b w m a x2) w (fbO b w m a x2) m).fst = (fbE b w m a x2).fst ∧ (brE b (fbA b w m a x2) w (fbO b w m a x2) m).snd = (fbE b w m a x2).snd) ∧
 (((brE b (fbA b w m a x2) w (fbO b w m a x2) m).fst != (0 : Int)) = false →
 l0 = l0 ∧
 (fbL b w m a)[x2]? = some [Value.int IntKind.i64 (0 : Int), Value.bool false] ∧
 (∃ (y4 : Nat),
 Nat.le y4 (fbN b w m a) ∧
 (x2 + (1 : Nat), true) = (y4, true) ∧
 Nat.sub (fbN b w m a) y4 < Nat.sub (fbN b w m a) x2 ∧
 Value.func (Fn.yield l0) #[] #[] = Value.func (Fn.yield l0) #[] #[] ∧
 (0 : Int) = (1 : Int) ∧
 (0 : Int) = (4 : Int) ∧
 (0 : Int) = (8 : Int) ∧
 Value.slice none (0 : Nat) (0 : Nat) = Value.slice none (0 : Nat) (0 : Nat) ∧
 (0 : Int) = (-1 : Int) ∧
 (0 : Int) = (0 : Int) ∧
 (0 : Int) = (0 : Int) ∧
 Value.slice none (0 : Nat) (0 : Nat) = Value.slice none (0 : Nat) (0 : Nat) ∧
 (0 : Int) = (-1 : Int) ∧
 (0 : Int) = (0 : Int) ∧
 (0 : Int) = (0 : Int) ∧
 Value.slice none (0 : Nat) (0 : Nat) = Value.slice none (0 : Nat) (0 : Nat) ∧
 (0 : Int) = (-1 : Int) ∧
 (0 : Int) = (0 : Int) ∧
 (0 : Int) = (0 : Int) ∧
 Value.slice none (0 : Nat) (0 : Nat) = Value.slice none (0 : Nat) (0 : Nat) ∧
 ByteArray.empty = fbO b w m a y4 ∧
 b = b ∧
 (0 : Int) = fbA b w m a y4 ∧
 w = w ∧
 z = z ∧
 g = g ∧
 c = c ∧
 m = m ∧
 ByteArray.empty = fbO b w m a y4 ∧
 (brE b (fbA b w m a x2) w (fbO b w m a x2) m).fst = (0 : Int) ∧
 (brE b (fbA b w m a x2) w (fbO b w m a x2) m).snd = (0 : Int)) ∧
 ByteArray.empty = fbT b w m a x2 ∧
 (brE b (fbA b w m a x2) w (fbO b w m a x2) m).fst = (fbE b w m a x2).fst ∧ (brE b (fbA b w m a x2) w (fbO b w m a x2) m).snd = (fbE b w m a x2).snd))
theorem frIt_e (b : ByteArray) (a w z : Int) (g c : Bool) (m : Int) (l0 : Nat) : frIt_t b a w z g c m l0 = vcFIE Tryz.prog (Gof GFr1) l0 (fbL b w m a) (oFb l0 b a w z g c m) Tryz.f76 [.p 0 0 0, .p 1 0 0, .p 2 0 0, .p 3 0 0, .p 4 0 0] (fbC b a w z g c m ByteArray.empty 0 0) (fbH b a w m) := by kernel_rfl
end Go.Proofs.YthfhkiejcpnalaaGreat
namespace Go.Proofs.YthfhkiejcpnalaaGreat
open Go Go.RowKit
set_option linter.unusedVariables false
set_option linter.unusedSimpArgs false
set_option maxRecDepth 100000
theorem frSt_v (b : ByteArray) (a : Int) (o : ByteArray) (w z : Int) (g c : Bool) (m : Int) (hs : b.size ≤ 1000000) (hk : (brC b a).2.1 = 0 → brK b a = 0) : frSt_t b a o w z g c m :=
  ⟨fun h => ⟨hs, hk, fun _ => by simp, fun h' => absurd h h'⟩, fun h => ⟨hs, hk, fun h' => absurd h' h, fun _ => by simp⟩⟩
theorem frSt_sound : Sound Tryz.prog 78 sFrSt.ctr := sFrSt.sound (by kernel_rfl) sFrSt_enc fun ⟨b, a, o, w, z, g, c, m⟩ hc => by
  have h0 := hc _ (.head _)
  have h1 := hc _ (.tail _ (.head _))
  exact satG GBf_ok mixed Tryz.func78 (frSt_e b a o w z g c m) (frSt_v b a o w z g c m h0 h1)
theorem frTd_sound : Sound Tryz.prog 73 sFrTd.ctr := sFrTd.sound (by kernel_rfl) sFrTd_enc fun ⟨s, e, f, o, e1, f1⟩ hc => by
  exact satG GBf_ok mixed Tryz.func73 (frTd_e s e f o e1 f1) (⟨rfl, rfl, rfl⟩)
theorem GFr1_ok : AllOk Tryz.prog GFr1 := .cons frSt_sound <| .cons frTd_sound <| GBf_ok
theorem frBs_sound : Sound Tryz.prog 72 sFrBs.ctr := sFrBs.sound (by kernel_rfl) sFrBs_enc fun ⟨b, a, w, z, g, c, m, o, e, f⟩ hc => by
  exact satG GFr1_ok mixed Tryz.func72 (frBs_e b a w z g c m o e f) (⟨rfl, rfl, rfl, rfl, rfl, rfl, rfl, rfl, rfl, rfl⟩)
theorem GFr2_ok : AllOk Tryz.prog GFr2 := .cons frBs_sound <| GFr1_ok
section
variable {b : ByteArray} {w m a : Int}
theorem fbS_succ : ∀ (i : Nat) (a : Int) (o : ByteArray), fbS b w m a o (i + 1) = ((brD b (fbS b w m a o i).1).1, (fbS b w m a o i).2 ++ brB b (fbS b w m a o i).1)
  | 0, a, o => rfl
  | i + 1, a, o => fbS_succ i (brD b a).1 (o ++ brB b a)
theorem fbA_succ (i : Nat) : fbA b w m a (i + 1) = (brD b (fbA b w m a i)).1 := by unfold fbA; rw [fbS_succ]
theorem fbO_succ (i : Nat) : fbO b w m a (i + 1) = fbO b w m a i ++ brB b (fbA b w m a i) := by unfold fbO fbA; rw [fbS_succ]
theorem fbL_len : (fbL b w m a).length = fbN b w m a := by simp [fbL]
theorem fbL_get {i : Nat} (h : i < fbN b w m a) : (fbL b w m a)[i]? = some (fbV b w m a i) := by simp [fbL, h]
theorem fbT_lt {i : Nat} (h : i < fbN b w m a) : fbT b w m a i = fbO b w m a i ++ brB b (fbA b w m a i) := by
  unfold fbT
  rw [show Nat.blt i (fbN b w m a) = true from by simpa using h, ← fbO_succ]; rfl
theorem fbE_lt {i : Nat} (h : i < fbN b w m a) : fbE b w m a i = (0, 0) := by
  unfold fbE
  rw [show Nat.blt i (fbN b w m a) = true from by simpa using h]; rfl
theorem fbT_n : fbT b w m a (fbN b w m a) = ByteArray.empty := by
  unfold fbT
  rw [show Nat.blt (fbN b w m a) (fbN b w m a) = false from by rw [← Bool.not_eq_true, Nat.blt_eq]; omega]; rfl
theorem fbE_n : fbE b w m a (fbN b w m a) = brE b (fbA b w m a (fbN b w m a)) w (fbO b w m a (fbN b w m a)) m := by
  unfold fbE
  rw [show Nat.blt (fbN b w m a) (fbN b w m a) = false from by rw [← Bool.not_eq_true, Nat.blt_eq]; omega]; rfl
theorem fbK_of (h : fbK b w m a = true) : (∀ i, i ≤ fbN b w m a → (brC b (fbA b w m a i)).2.1 = 0 → brK b (fbA b w m a i) = 0) ∧ (∀ i, i < fbN b w m a → brG b (fbA b w m a i) w (fbO b w m a i) m = true) ∧ brG b (fbA b w m a (fbN b w m a)) w (fbO b w m a (fbN b w m a)) m = false := by
  unfold fbK at h
  simp only [Bool.and_eq_true, List.all_eq_true, List.mem_range, Bool.or_eq_true, bne_iff_ne, ne_eq, beq_iff_eq, Bool.not_eq_true'] at h
  refine ⟨fun i hi h0 => ?_, h.2.1, h.2.2⟩
  rcases h.1 i (by omega) with h1 | h1
  · exact absurd h0 h1
  · exact h1
theorem frIt_v (z : Int) (g c : Bool) (l0 : Nat) (hs : b.size ≤ 1000000) (hk : fbK b w m a = true) : frIt_t b a w z g c m l0 := by
  obtain ⟨k1, k2, k3⟩ := fbK_of hk
  refine ⟨(), 0, Nat.zero_le _, rfl, ⟨rfl, by simp [fbA, fbO, fbS]⟩, fun i hi => ⟨fun hG => ⟨hs, k1 i hi, fun h => absurd h (by decide), fun _ => ⟨rfl, ?_, ⟨i + 1, ?_, rfl, ?_, rfl, ?_⟩, ?_⟩⟩, fun hG => ⟨hs, k1 i hi, fun he => ?_, fun he => ?_⟩⟩⟩
  all_goals have hi : i ≤ fbN b w m a := hi
  · have : i ≠ fbN b w m a := fun h => by rw [h, k3] at hG; cases hG
    rw [fbL_get (by omega)]
    unfold fbV
    rw [fbA_succ]
  · have : i ≠ fbN b w m a := fun h => by rw [h, k3] at hG; cases hG
    show i + 1 ≤ fbN b w m a
    omega
  · have : i ≠ fbN b w m a := fun h => by rw [h, k3] at hG; cases hG
    show fbN b w m a - (i + 1) < fbN b w m a - i
    omega
  · rw [fbA_succ, fbO_succ]
    (repeat' (refine And.intro ?_ ?_)) <;> rfl
  · have : i ≠ fbN b w m a := fun h => by rw [h, k3] at hG; cases hG
    rw [fbT_lt (by omega), fbE_lt (by omega)]
    exact ⟨rfl, rfl, rfl⟩
  · have : i = fbN b w m a := by
      refine Nat.le_antisymm hi (Nat.le_of_not_lt fun h => hG (k2 i h))
    subst this
    rw [fbT_n, fbE_n, fbL_len]
    exact ⟨rfl, rfl, rfl, rfl⟩
  · refine absurd ?_ hG
    unfold brG
    simpa [bne] using he
theorem frIt_sat (hs : b.size ≤ 1000000) (hk : fbK b w m a = true) (z : Int) (g c : Bool) (r : Nat → Nat) (hr : ∀ x y, x ≤ 6 → y ≤ 6 → r x = r y → x = y) :
    ISatE Tryz.prog 76 [.p (r 0) 0 0, .p (r 1) 0 0, .p (r 2) 0 0, .p (r 3) 0 0, .p (r 4) 0 0]
      [(r 0, .cells 9 [.v (.string b)]), (r 1, .cells 3 [.v (.int .i64 a)]), (r 2, .cells 56 [.v (.int .i64 w), .v (.int .i64 z), .v (.bool g), .v (.bool c)]), (r 3, .cells 3 [.v (.int .i64 m)]), (r 4, .cells 128 [.fn (.func 73) [] [.p (r 5) 0 0, .p (r 6) 0 0]]), (r 5, .cells 9 [.v (.string ByteArray.empty)]), (r 6, .cells 25 [.v (.int .i64 0), .v (.int .i64 0)])]
      (fbL b w m a) (fun y => [(r 5, .cells 9 [.v (.string (fbT b w m a y))]), (r 6, .cells 25 [.v (.int .i64 (fbE b w m a y).1), .v (.int .i64 (fbE b w m a y).2)])]) := by
  have h0 : ISatE Tryz.prog 76 [.p 0 0 0, .p 1 0 0, .p 2 0 0, .p 3 0 0, .p 4 0 0] (fbC b a w z g c m ByteArray.empty 0 0) (fbL b w m a) (fbH b a w m) :=
    isatE_of_vcI (Ωi := fun l0 => oFb l0 b a w z g c m) GFr1_ok mixed Tryz.func76 (by kernel_rfl) fun l0 => by
      have := frIt_v (b := b) (w := w) (m := m) (a := a) z g c l0 hs hk
      rw [frIt_e] at this
      exact this
  exact h0.ren r (by
    intro x y hx hy e
    simp only [fbC, List.map_cons, List.map_nil, List.mem_cons, List.not_mem_nil, or_false] at hx hy
    exact hr x y (by omega) (by omega) e) rfl rfl
end
section
variable {b : ByteArray} {a m : Int}
theorem frHd_v (hs : b.size ≤ 1000000) (hk : fhI m = false → (hdE b a).1 = 0 → hhS b a ≤ m) : frHd_t b a m := by
  have bad1 : fhI m = true → fhG b a m = false ∧ fhE b a m = (2, 0) := fun h => ⟨by unfold fhG; rw [h]; rfl, by unfold fhE; rw [h]; rfl⟩
  unfold frHd_t
  refine ⟨fun h1 => ?_, fun h1 => ⟨fun h2 => ?_, fun h2 => ?_⟩⟩
  · obtain ⟨e1, e2⟩ := bad1 (by unfold fhI; rw [h1]; rfl)
    simp [e1, e2]
  · obtain ⟨e1, e2⟩ := bad1 (by unfold fhI; rw [h1, h2]; rfl)
    simp [e1, e2]
  · have hI : fhI m = false := by unfold fhI; rw [h1, h2]; rfl
    refine ⟨hs, fun h3 => ⟨fun h4 => ?_, fun h4 => ⟨fun h5 => ?_, fun h5 => ?_⟩⟩, fun h3 => ⟨fun h5 => ?_, fun h5 => ?_⟩⟩
    · have := hk hI (by simpa using h3)
      have h4 : hhS b a > m := by simpa using h4
      omega
    · exact absurd h5 (by simpa [bne] using h3)
    · have hG : fhG b a m = true := by unfold fhG; rw [hI, h3, h4]; rfl
      simp [hG]
    · have hG : fhG b a m = false := by unfold fhG; rw [hI, h3]; rfl
      have hE : fhE b a m = hdE b a := by unfold fhE; rw [hI, h3]; rfl
      simp [hG, hE]
    · exact absurd h3 (by simpa [bne] using h5)
theorem fbU_iff {b : ByteArray} {w m a : Int} {i : Nat} : fbU b w m a i = true ↔ ∀ j, j < i → bhL b (brS b (fbA b w m a j)) = false := by
  unfold fbU
  simp only [List.all_eq_true, List.mem_range, Bool.not_eq_true']
theorem fbR_at {b : ByteArray} {w m a : Int} {i : Nat} (hi : i < fbN b w m a) (hU : fbU b w m a i = true) (hl : bhL b (brS b (fbA b w m a i)) = true) : fbR b w m a = i := by
  unfold fbR
  rw [List.find?_range_eq_some.2 ⟨hl, by simpa using hi, fun j hj => by rw [fbU_iff.1 hU j hj]; rfl⟩]
  rfl
theorem fbR_n {b : ByteArray} {w m a : Int} (hU : fbU b w m a (fbN b w m a) = true) : fbR b w m a = fbN b w m a := by
  unfold fbR
  rw [List.find?_range_eq_none.2 (fun j hj => by rw [fbU_iff.1 hU j hj]; rfl)]
  rfl
theorem fbR_le {b : ByteArray} {w m a : Int} : fbR b w m a ≤ fbN b w m a := by
  unfold fbR
  cases h : (List.range (fbN b w m a)).find? fun j => bhL b (brS b (fbA b w m a j)) with
  | none => exact Nat.le_refl _
  | some i => exact Nat.le_of_lt (List.mem_range.1 (List.mem_of_find?_eq_some h))
theorem fbE_ok {b : ByteArray} {w m a : Int} (hk : fbK b w m a = true) {i : Nat} (hi : i ≤ fbN b w m a) (h : (fbE b w m a i).1 = 0) : (fbE b w m a i).2 = 0 := by
  by_cases hn : i = fbN b w m a
  · subst hn
    rw [fbE_n] at h ⊢
    have := (fbK_of hk).2.2
    unfold brG at this
    rw [h] at this
    cases this
  · rw [fbE_lt (by omega)]
theorem fbZ_lt {b : ByteArray} {w m a : Int} {i : Nat} (h : i < fbN b w m a) : fbZ b w m a i = fbA b w m a (i + 1) := by
  unfold fbZ
  rw [show Nat.blt i (fbN b w m a) = true from by simpa using h]; rfl
theorem fbZ_n {b : ByteArray} {w m a : Int} : fbZ b w m a (fbN b w m a) = fbA b w m a (fbN b w m a) := by
  unfold fbZ
  rw [show Nat.blt (fbN b w m a) (fbN b w m a) = false from by rw [← Bool.not_eq_true, Nat.blt_eq]; omega]; rfl
def rF (i : Nat) : Nat := cond (Nat.beq i 5) 100000 (cond (Nat.beq i 6) 100016 (500040 + i))
theorem rF_inj : ∀ x, x < 7 → ∀ y, y < 7 → rF x = rF y → x = y := by decide
theorem frRd_v (hs : b.size ≤ 1000000) (hk : fhI m = false → (hdE b a).1 = 0 → hhS b a ≤ m) (h2 : fhG b a m = true → fbK b (hhW b a) m (hhN b a) = true ∧ hhM b a = false) : frRd_t b a m := by
  unfold frRd_t
  refine ⟨fun hG => ⟨hs, hk, fun h => absurd h (by decide), fun _ => ⟨⟨(), ?_, ?_, ⟨Nat.zero_le _, rfl⟩, ?_, fun i hi hp => ⟨?_, rfl, fun hl => ?_, fun hl => ⟨⟨?_, ?_⟩, ?_⟩⟩, fun hp => ?_⟩, fun _ _ => ⟨⟨fun e1 => ⟨fun e2 => ⟨fun e3 => ?_, fun e3 => ?_⟩, fun e2 => ?_⟩, fun e1 => ?_⟩, fun _ _ => ⟨fun e1 => ⟨fun hM => ?_, fun _ => ⟨fun e2 => ?_, fun e2 => ?_⟩⟩, fun e1 => ⟨fun e2 => ?_, fun e2 => ?_⟩⟩⟩⟩⟩, fun hG => ⟨hs, hk, fun h => ?_, fun h => ?_⟩⟩
  · exact frIt_sat hs (h2 hG).1 _ _ _ rF (fun x y hx hy => rF_inj x (by omega) y (by omega))
  · (repeat' (refine And.intro ?_ ?_)) <;> rfl
  · (repeat' (refine And.intro ?_ ?_)) <;> rfl
  · have hi' : i < fbN b (hhW b a) m (hhN b a) := by simpa using hi
    exact fbL_get hi'
  · have hi' : i < fbN b (hhW b a) m (hhN b a) := by simpa using hi
    have hR : frR b a m = i := fbR_at hi' hp.2 hl
    unfold frT frX frF
    rw [hR, fbZ_lt hi']
    exact ⟨(), hG, rfl, rfl, rfl, rfl, rfl, rfl, rfl, rfl, rfl⟩
  · have hi' : i < fbN b (hhW b a) m (hhN b a) := by simpa using hi
    exact hi'
  · refine fbU_iff.2 fun j hj => ?_
    by_cases h : j = i
    · rw [h]; exact hl
    · exact fbU_iff.1 hp.2 j (by omega)
  · (repeat' (refine And.intro ?_ ?_)) <;> rfl
  · have hn : List.length (List.map (fbV b (hhW b a) m (hhN b a)) (List.range (fbN b (hhW b a) m (hhN b a)))) = fbN b (hhW b a) m (hhN b a) := by simp
    rw [hn] at hp ⊢
    have hR : frR b a m = fbN b (hhW b a) m (hhN b a) := fbR_n hp.2
    unfold frT frX frF
    rw [hR, fbZ_n]
    exact ⟨(), hG, rfl, rfl, rfl, rfl, rfl, rfl, rfl, rfl, rfl⟩
  · have hE : frE b a m = (27, frX b a m) := by unfold frE; rw [hG, e1, e2, e3]; rfl
    rw [hE]
    exact ⟨(), hG, rfl, rfl, rfl, rfl, rfl, rfl, rfl, rfl, rfl⟩
  · have hE : frE b a m = frF b a m := by unfold frE; rw [hG, e1, e2, e3]; rfl
    rw [hE]
    exact ⟨(), hG, rfl, rfl, rfl, rfl, rfl, rfl, rfl, rfl, rfl⟩
  · have hE : frE b a m = frF b a m := by unfold frE; rw [hG, e1, e2]; rfl
    rw [hE]
    exact ⟨(), hG, rfl, rfl, rfl, rfl, rfl, rfl, rfl, rfl, rfl⟩
  · have hE : frE b a m = frF b a m := by unfold frE; rw [hG, e1]; rfl
    rw [hE]
    exact ⟨(), hG, rfl, rfl, rfl, rfl, rfl, rfl, rfl, rfl, rfl⟩
  · rw [(h2 hG).2] at hM; cases hM
  · exact absurd e2 (by simpa [bne] using e1)
  · have h0 : (frE b a m).1 = 0 := by simpa using e1
    have h1 : (frE b a m).2 = 0 := by
      revert h0
      unfold frE
      rw [hG]
      cases (frF b a m).1 == 0 && (decide (hhS b a ≥ 0) && (hhS b a != ((frT b a m).size : Int)))
      · exact fun h0 => fbE_ok (h2 hG).1 fbR_le h0
      · exact fun h0 => absurd (show (27 : Int) = 0 from h0) (by decide)
    unfold frO frN
    rw [e1, h0, h1]
    exact ⟨rfl, rfl, rfl, rfl⟩
  · unfold frO frN
    rw [e1]
    exact ⟨rfl, rfl, rfl, rfl⟩
  · exact absurd e1 (by simpa [bne] using e2)
  · have hG : fhG b a m = false := by simpa using hG
    have hE : frE b a m = fhE b a m := by unfold frE; rw [hG]; rfl
    unfold frO frN
    rw [hE, show ((fhE b a m).1 == 0) = false from by simpa [bne] using h]
    exact ⟨rfl, rfl, rfl, rfl⟩
  · have hG : fhG b a m = false := by simpa using hG
    have h0 : (fhE b a m).1 = 0 := by simpa [bne] using h
    refine absurd h0 ?_
    unfold fhE
    cases hI : fhI m
    · cases h3 : (hdE b a).1 == 0
      · simpa using h3
      · exact show ¬ (18 : Int) = 0 by decide
    · exact show ¬ (2 : Int) = 0 by decide
end
theorem frHd_sound : Sound Tryz.prog 71 sFrHd.ctr := sFrHd.sound (by kernel_rfl) sFrHd_enc fun ⟨b, a, m⟩ hc => by
  have h0 := hc _ (.head _)
  have h1 := hc _ (.tail _ (.head _))
  exact satG GFr2_ok mixed Tryz.func71 (frHd_e b a m) (frHd_v h0 h1)
theorem GFr3_ok : AllOk Tryz.prog GFr3 := .cons frHd_sound <| GFr2_ok
theorem frRd_sound : Sound Tryz.prog 70 sFrRd.ctr := sFrRd.sound (by kernel_rfl) sFrRd_enc fun ⟨b, a, m⟩ hc => by
  have h0 := hc _ (.head _)
  have h1 := hc _ (.tail _ (.head _))
  have h2 := hc _ (.tail _ (.tail _ (.head _)))
  exact satG GFr3_ok mixed Tryz.func70 (frRd_e b a m) (frRd_v h0 h1 h2)
theorem GFr4_ok : AllOk Tryz.prog GFr4 := .cons frRd_sound <| GFr3_ok
end Go.Proofs.YthfhkiejcpnalaaGreat
namespace Go.Proofs.YthfhkiejcpnalaaGreat
open Go Go.RowKit
set_option linter.unusedVariables false
def skR (s : ByteArray) (a : Int) : ByteArray := s.extract a.toNat s.size
def skBy (s : ByteArray) (i : Nat) : Int := ((s.data.toList.getD i 0).toNat : Int)
def nuV (s : ByteArray) : Int := bits .or .u32 (bits .or .u32 (bits .or .u32 (IntKind.wrap .u32 (skBy s 0)) (IntKind.wrap .u32 (IntKind.wrap .u32 (skBy s 1) * 2 ^ min (Int.toNat 8) 32))) (IntKind.wrap .u32 (IntKind.wrap .u32 (skBy s 2) * 2 ^ min (Int.toNat 16) 32))) (IntKind.wrap .u32 (IntKind.wrap .u32 (skBy s 3) * 2 ^ min (Int.toNat 24) 32))
def liZ : ByteArray := { data := #[40, 181, 47, 253] }
def liF : ByteArray := { data := #[80, 42, 77, 24] }
def liS (n : Int) : ByteArray := cond (n == 4247762216) liZ liF
def bsK (s : ByteArray) (a : Int) : Int := cond (decide ((s.size : Int) - a ≥ 4)) (cond (nuV (skR s a) == 4247762216) 2 (cond (bits .andNot .u32 (nuV (skR s a)) 15 == 407710288) 1 4))
  (cond ((s.size : Int) - a == 0) 0 (cond (bits .andNot .u8 (skBy (skR s a) 0) 15 == 80 || (skR s a).toList == (liZ.extract 0 1).toList) 3 4))
def sk4 (s : ByteArray) (a : Int) : ByteArray := (skR s a).extract 4 (skR s a).size
def skN (s : ByteArray) (a : Int) : Int := nuV (sk4 s a)
def skOk (s : ByteArray) (a : Int) : Bool := decide (0 ≤ a) && (decide (a ≤ (s.size : Int)) && (bsK s a == 1 && (decide (8 ≤ (skR s a).size) && decide (0 ≤ skN s a ∧ skN s a ≤ (skR s a).size - 8))))
def skX (s : ByteArray) (a : Int) : Int := a + (8 + skN s a)
def skT (s : ByteArray) (a : Int) : ByteArray := (skR s a).extract 8 (8 + skN s a).toNat
def skK (s : ByteArray) (a : Int) : Int := IntKind.wrap .i64 (IntKind.wrap .u32 (nuV (skR s a) - 407710288))
end Go.Proofs.YthfhkiejcpnalaaGreat
namespace Go.Proofs.YthfhkiejcpnalaaGreat
open Go Go.RowKit
set_option linter.unusedVariables false
set_option linter.unusedSimpArgs false
set_option maxRecDepth 100000
def skC (s : ByteArray) (a : Int) : List SV := [.v (.string s), .v (.int .i64 a)]
def sSkLf : Spec where
  ι := ByteArray × Int
  dec l H := match l with
    | [.p l0 0 0] => match H l0 with
      | some (.cells 88 [.v (.string s), .v (.int .i64 a)]) => some ((s, a), [l0])
      | _ => none
    | _ => none
  args := fun (s, a) => [.p 0 0 0]
  hp := fun (s, a) => [(0, .cells 88 [.v (.string s), .v (.int .i64 a)])]
  pre := fun (s, a) => [⟨0 ≤ a, inferInstance⟩, ⟨a ≤ s.size, inferInstance⟩, ⟨s.size ≤ 1000000, inferInstance⟩]
  out := fun (s, a) => .leaf (.v (.int .i64 ((s.size : Int) - a))) [(0, .cells 88 (skC s a))]
theorem sSkLf_enc : ∀ l H n i ls, sSkLf.dec l H = some (i, ls) → l = renL (rho ls n) (sSkLf.args i) ∧ givenHp H ls = renH (rho ls n) (sSkLf.hp i) := by
  intro l H n i ls h
  simp only [sSkLf] at h
  repeat' split at h
  all_goals first
    | (cases h; done)
    | (cases h; exact ⟨rfl, rfl⟩)
    | (cases h; refine ⟨rfl, ?_⟩; simp only [givenHp, List.filterMap_cons, List.filterMap_nil, Option.map, *]; rfl)
def sSkRs : Spec where
  ι := ByteArray × Int
  dec l H := match l with
    | [.p l0 0 0] => match H l0 with
      | some (.cells 88 [.v (.string s), .v (.int .i64 a)]) => some ((s, a), [l0])
      | _ => none
    | _ => none
  args := fun (s, a) => [.p 0 0 0]
  hp := fun (s, a) => [(0, .cells 88 [.v (.string s), .v (.int .i64 a)])]
  pre := fun (s, a) => [⟨0 ≤ a, inferInstance⟩, ⟨a ≤ s.size, inferInstance⟩]
  out := fun (s, a) => .leaf (.v (.string (skR s a))) [(0, .cells 88 (skC s a))]
theorem sSkRs_enc : ∀ l H n i ls, sSkRs.dec l H = some (i, ls) → l = renL (rho ls n) (sSkRs.args i) ∧ givenHp H ls = renH (rho ls n) (sSkRs.hp i) := by
  intro l H n i ls h
  simp only [sSkRs] at h
  repeat' split at h
  all_goals first
    | (cases h; done)
    | (cases h; exact ⟨rfl, rfl⟩)
    | (cases h; refine ⟨rfl, ?_⟩; simp only [givenHp, List.filterMap_cons, List.filterMap_nil, Option.map, *]; rfl)
def sSkNu : Spec where
  ι := ByteArray
  dec l H := match l with
    | [.v (.string s)] => some (s, [])
    | _ => none
  args := fun s => [.v (.string s)]
  pre := fun s => [⟨4 ≤ s.size, inferInstance⟩]
  out := fun s => .leaf (.v (.int .u32 (nuV s))) []
theorem sSkNu_enc : ∀ l H n i ls, sSkNu.dec l H = some (i, ls) → l = renL (rho ls n) (sSkNu.args i) ∧ givenHp H ls = renH (rho ls n) (sSkNu.hp i) := by
  intro l H n i ls h
  simp only [sSkNu] at h
  repeat' split at h
  all_goals first
    | (cases h; done)
    | (cases h; exact ⟨rfl, rfl⟩)
def sSkLt : Spec where
  ι := Int
  dec l H := match l with
    | [.v (.int .u32 n)] => some (n, [])
    | _ => none
  args := fun n => [.v (.int .u32 n)]
  pre := fun n => [⟨n = 4247762216 ∨ n = 407710288, inferInstance⟩]
  out := fun n => .leaf (.v (.string (liS n))) []
theorem sSkLt_enc : ∀ l H n i ls, sSkLt.dec l H = some (i, ls) → l = renL (rho ls n) (sSkLt.args i) ∧ givenHp H ls = renH (rho ls n) (sSkLt.hp i) := by
  intro l H n i ls h
  simp only [sSkLt] at h
  repeat' split at h
  all_goals first
    | (cases h; done)
    | (cases h; exact ⟨rfl, rfl⟩)
def sSkOp : Spec where
  ι := ByteArray × Int
  dec l H := match l with
    | [.v (.string s), .v (.int .i64 a)] => some ((s, a), [])
    | _ => none
  args := fun (s, a) => [.v (.string s), .v (.int .i64 a)]
  out := fun (s, a) => .leaf (.tu [.p 2000 0 0, .v (.bool (decide (0 ≤ a) && decide (a ≤ (s.size : Int))))]) [(2000, .cells 88 (skC s a))]
theorem sSkOp_enc : ∀ l H n i ls, sSkOp.dec l H = some (i, ls) → l = renL (rho ls n) (sSkOp.args i) ∧ givenHp H ls = renH (rho ls n) (sSkOp.hp i) := by
  intro l H n i ls h
  simp only [sSkOp] at h
  repeat' split at h
  all_goals first
    | (cases h; done)
    | (cases h; exact ⟨rfl, rfl⟩)
def sSkBe : Spec where
  ι := ByteArray × Int
  dec l H := match l with
    | [.p l0 0 0] => match H l0 with
      | some (.cells 88 [.v (.string s), .v (.int .i64 a)]) => some ((s, a), [l0])
      | _ => none
    | _ => none
  args := fun (s, a) => [.p 0 0 0]
  hp := fun (s, a) => [(0, .cells 88 [.v (.string s), .v (.int .i64 a)])]
  pre := fun (s, a) => [⟨0 ≤ a, inferInstance⟩, ⟨a ≤ s.size, inferInstance⟩, ⟨s.size ≤ 1000000, inferInstance⟩, ⟨(s.size : Int) - a ≥ 4 ∨ (s.size : Int) - a ≤ 1, inferInstance⟩]
  out := fun (s, a) => .leaf (.v (.int .i64 (bsK s a))) [(0, .cells 88 (skC s a))]
theorem sSkBe_enc : ∀ l H n i ls, sSkBe.dec l H = some (i, ls) → l = renL (rho ls n) (sSkBe.args i) ∧ givenHp H ls = renH (rho ls n) (sSkBe.hp i) := by
  intro l H n i ls h
  simp only [sSkBe] at h
  repeat' split at h
  all_goals first
    | (cases h; done)
    | (cases h; exact ⟨rfl, rfl⟩)
    | (cases h; refine ⟨rfl, ?_⟩; simp only [givenHp, List.filterMap_cons, List.filterMap_nil, Option.map, *]; rfl)
def sSkNx : Spec where
  ι := ByteArray × Int
  dec l H := match l with
    | [.p l0 0 0] => match H l0 with
      | some (.cells 88 [.v (.string s), .v (.int .i64 a)]) => some ((s, a), [l0])
      | _ => none
    | _ => none
  args := fun (s, a) => [.p 0 0 0]
  hp := fun (s, a) => [(0, .cells 88 [.v (.string s), .v (.int .i64 a)])]
  pre := fun (s, a) => [⟨skOk s a = true, inferInstance⟩, ⟨s.size ≤ 1000000, inferInstance⟩]
  out := fun (s, a) => .leaf (.ag [.v (.int .i64 (skK s a)), .v (.string (skT s a)), .v (.int .i64 0), .v (.int .i64 0)]) [(0, .cells 88 (skC s (skX s a)))]
theorem sSkNx_enc : ∀ l H n i ls, sSkNx.dec l H = some (i, ls) → l = renL (rho ls n) (sSkNx.args i) ∧ givenHp H ls = renH (rho ls n) (sSkNx.hp i) := by
  intro l H n i ls h
  simp only [sSkNx] at h
  repeat' split at h
  all_goals first
    | (cases h; done)
    | (cases h; exact ⟨rfl, rfl⟩)
    | (cases h; refine ⟨rfl, ?_⟩; simp only [givenHp, List.filterMap_cons, List.filterMap_nil, Option.map, *]; rfl)
def sSkBg : Spec where
  ι := ByteArray × Int
  dec l H := match l with
    | [.v (.string s), .v (.int .i64 a)] => some ((s, a), [])
    | _ => none
  args := fun (s, a) => [.v (.string s), .v (.int .i64 a)]
  pre := fun (s, a) => [⟨0 ≤ a, inferInstance⟩, ⟨a ≤ s.size, inferInstance⟩, ⟨s.size ≤ 1000000, inferInstance⟩, ⟨(s.size : Int) - a ≥ 4 ∨ (s.size : Int) - a ≤ 1, inferInstance⟩]
  out := fun (s, a) => .leaf (.tu [.v (.int .i64 (bsK s a)), .v (.int .i64 0)]) []
theorem sSkBg_enc : ∀ l H n i ls, sSkBg.dec l H = some (i, ls) → l = renL (rho ls n) (sSkBg.args i) ∧ givenHp H ls = renH (rho ls n) (sSkBg.hp i) := by
  intro l H n i ls h
  simp only [sSkBg] at h
  repeat' split at h
  all_goals first
    | (cases h; done)
    | (cases h; exact ⟨rfl, rfl⟩)
def sSkRd : Spec where
  ι := ByteArray × Int
  dec l H := match l with
    | [.v (.string s), .v (.int .i64 a)] => some ((s, a), [])
    | _ => none
  args := fun (s, a) => [.v (.string s), .v (.int .i64 a)]
  pre := fun (s, a) => [⟨skOk s a = true, inferInstance⟩, ⟨s.size ≤ 1000000, inferInstance⟩]
  out := fun (s, a) => .leaf (.tu [.v (.int .i64 (skK s a)), .v (.string (skT s a)), .v (.int .i64 (skX s a)), .ag [.v (.int .i64 0), .v (.int .i64 0)]]) []
theorem sSkRd_enc : ∀ l H n i ls, sSkRd.dec l H = some (i, ls) → l = renL (rho ls n) (sSkRd.args i) ∧ givenHp H ls = renH (rho ls n) (sSkRd.hp i) := by
  intro l H n i ls h
  simp only [sSkRd] at h
  repeat' split at h
  all_goals first
    | (cases h; done)
    | (cases h; exact ⟨rfl, rfl⟩)
def GSka : List (Nat × Ctr) := (38, sSkLf.ctr) :: (40, sSkRs.ctr) :: (39, sSkNu.ctr) :: (41, sSkLt.ctr) :: (31, sSkOp.ctr) :: GFr4
def GSkb : List (Nat × Ctr) := (32, sSkBe.ctr) :: GSka
def GSkc : List (Nat × Ctr) := (33, sSkNx.ctr) :: (22, sSkBg.ctr) :: GSkb
def GSkd : List (Nat × Ctr) := (23, sSkRd.ctr) :: GSkc
end Go.Proofs.YthfhkiejcpnalaaGreat
namespace Go.Proofs.YthfhkiejcpnalaaGreat
open Go Go.RowKit
set_option linter.unusedVariables false
set_option maxRecDepth 100000
def skLf_t (s : ByteArray) (a : Int) : Prop :=
 IntKind.wrap IntKind.i64 ((↑(ByteArray.size s) : Int) - a) = (↑(ByteArray.size s) : Int) - a ∧ s = s ∧ a = a
theorem skLf_e (s : ByteArray) (a : Int) : skLf_t s a = vcG Tryz.prog (Gof GFr4) (fun _ => none) Tryz.f38 [.p 0 0 0] [(0, .cells 88 (skC s a))] (.leaf (.v (.int .i64 ((s.size : Int) - a))) ([(0, .cells 88 (skC s a))])) := by kernel_rfl
def skRs_t (s : ByteArray) (a : Int) : Prop :=
 (0 : Int) ≤ a ∧
 a ≤ (↑(ByteArray.size s) : Int) ∧ (↑(ByteArray.size s) : Int) ≤ (↑(ByteArray.size s) : Int) ∧ ByteArray.extract s (Int.toNat a) (Int.toNat (↑(ByteArray.size s) : Int)) = skR s a ∧ s = s ∧ a = a
theorem skRs_e (s : ByteArray) (a : Int) : skRs_t s a = vcG Tryz.prog (Gof GFr4) (fun _ => none) Tryz.f40 [.p 0 0 0] [(0, .cells 88 (skC s a))] (.leaf (.v (.string (skR s a))) ([(0, .cells 88 (skC s a))])) := by kernel_rfl
def skNu_t (s : ByteArray) : Prop :=
 (0 : Int) ≤ (0 : Int) ∧
 (0 : Int) < (↑(ByteArray.size s) : Int) ∧
 (0 : Int) ≤ (1 : Int) ∧
 (1 : Int) < (↑(ByteArray.size s) : Int) ∧
 (0 : Int) ≤ (8 : Int) ∧
 (0 : Int) ≤ (2 : Int) ∧
 (2 : Int) < (↑(ByteArray.size s) : Int) ∧
 (0 : Int) ≤ (16 : Int) ∧
 (0 : Int) ≤ (3 : Int) ∧
 (3 : Int) < (↑(ByteArray.size s) : Int) ∧
 (0 : Int) ≤ (24 : Int) ∧
 bits BinOp.or IntKind.u32
 (bits BinOp.or IntKind.u32
 (bits BinOp.or IntKind.u32 (IntKind.wrap IntKind.u32 (↑(UInt8.toNat (List.getD s.data.toList (Int.toNat (0 : Int)) (0 : UInt8))) : Int))
 (IntKind.wrap IntKind.u32
 (IntKind.wrap IntKind.u32 (↑(UInt8.toNat (List.getD s.data.toList (Int.toNat (1 : Int)) (0 : UInt8))) : Int) *
 (2 : Int) ^ min (Int.toNat (8 : Int)) (IntKind.bits IntKind.u32))))
 (IntKind.wrap IntKind.u32
 (IntKind.wrap IntKind.u32 (↑(UInt8.toNat (List.getD s.data.toList (Int.toNat (2 : Int)) (0 : UInt8))) : Int) *
 (2 : Int) ^ min (Int.toNat (16 : Int)) (IntKind.bits IntKind.u32))))
 (IntKind.wrap IntKind.u32
 (IntKind.wrap IntKind.u32 (↑(UInt8.toNat (List.getD s.data.toList (Int.toNat (3 : Int)) (0 : UInt8))) : Int) *
 (2 : Int) ^ min (Int.toNat (24 : Int)) (IntKind.bits IntKind.u32))) =
 nuV s
theorem skNu_e (s : ByteArray) : skNu_t s = vcG Tryz.prog (Gof GFr4) (fun _ => none) Tryz.f39 [.v (.string s)] [] (.leaf (.v (.int .u32 (nuV s))) ([])) := by kernel_rfl
def skLt_t (n : Int) : Prop :=
 (0 : Int) ≤ (8 : Int) ∧
 (0 : Int) ≤ (16 : Int) ∧
 (0 : Int) ≤ (24 : Int) ∧
 strOfNums
 [IntKind.wrap IntKind.u8 n, IntKind.wrap IntKind.u8 (Int.fdiv n ((2 : Int) ^ min (Int.toNat (8 : Int)) (IntKind.bits IntKind.u32))),
 IntKind.wrap IntKind.u8 (Int.fdiv n ((2 : Int) ^ min (Int.toNat (16 : Int)) (IntKind.bits IntKind.u32))),
 IntKind.wrap IntKind.u8 (Int.fdiv n ((2 : Int) ^ min (Int.toNat (24 : Int)) (IntKind.bits IntKind.u32)))] =
 liS n
theorem skLt_e (n : Int) : skLt_t n = vcG Tryz.prog (Gof GFr4) (fun _ => none) Tryz.f41 [.v (.int .u32 n)] [] (.leaf (.v (.string (liS n))) ([])) := by kernel_rfl
def skOp_t (s : ByteArray) (a : Int) : Prop :=
 (decide (a ≥ (0 : Int)) = true → decide (a ≤ (↑(ByteArray.size s) : Int)) = (decide ((0 : Int) ≤ a) && decide (a ≤ (↑(ByteArray.size s) : Int))) ∧ s = s ∧ a = a) ∧
 (decide (a ≥ (0 : Int)) = false → false = (decide ((0 : Int) ≤ a) && decide (a ≤ (↑(ByteArray.size s) : Int))) ∧ s = s ∧ a = a)
theorem skOp_e (s : ByteArray) (a : Int) : skOp_t s a = vcG Tryz.prog (Gof GFr4) (fun _ => none) Tryz.f31 [.v (.string s), .v (.int .i64 a)] [] (.leaf (.tu [.p 2000 0 0, .v (.bool (decide (0 ≤ a) && decide (a ≤ (s.size : Int))))]) ([(2000, .cells 88 (skC s a))])) := by kernel_rfl
def skBe_t (s : ByteArray) (a : Int) : Prop :=
 (0 : Int) ≤ a ∧
 a ≤ (↑(ByteArray.size s) : Int) ∧
 ByteArray.size s ≤ (1000000 : Nat) ∧
 (decide ((↑(ByteArray.size s) : Int) - a ≥ (4 : Int)) = true →
 (0 : Int) ≤ a ∧
 a ≤ (↑(ByteArray.size s) : Int) ∧
 (4 : Nat) ≤ ByteArray.size (skR s a) ∧
 ((nuV (skR s a) == (4247762216 : Int)) = true → (2 : Int) = bsK s a ∧ s = s ∧ a = a) ∧
 ((nuV (skR s a) == (4247762216 : Int)) = false →
 ((bits BinOp.andNot IntKind.u32 (nuV (skR s a)) (15 : Int) == (407710288 : Int)) = true → (1 : Int) = bsK s a ∧ s = s ∧ a = a) ∧
 ((bits BinOp.andNot IntKind.u32 (nuV (skR s a)) (15 : Int) == (407710288 : Int)) = false → (4 : Int) = bsK s a ∧ s = s ∧ a = a))) ∧
 (decide ((↑(ByteArray.size s) : Int) - a ≥ (4 : Int)) = false →
 (0 : Int) ≤ a ∧
 a ≤ (↑(ByteArray.size s) : Int) ∧
 (((↑(ByteArray.size s) : Int) - a == (0 : Int)) = true → (0 : Int) = bsK s a ∧ s = s ∧ a = a) ∧
 (((↑(ByteArray.size s) : Int) - a == (0 : Int)) = false →
 (((↑(ByteArray.size s) : Int) - a == (1 : Int)) = true →
 (0 : Int) ≤ (0 : Int) ∧
 (0 : Int) < (↑(ByteArray.size (skR s a)) : Int) ∧
 ((bits BinOp.andNot IntKind.u8 (↑(UInt8.toNat (List.getD (skR s a).data.toList (Int.toNat (0 : Int)) (0 : UInt8))) : Int) (15 : Int) == (80 : Int)) = true →
 (3 : Int) = bsK s a ∧ s = s ∧ a = a) ∧
 ((bits BinOp.andNot IntKind.u8 (↑(UInt8.toNat (List.getD (skR s a).data.toList (Int.toNat (0 : Int)) (0 : UInt8))) : Int) (15 : Int) == (80 : Int)) = false →
 ((4247762216 : Int) = (4247762216 : Int) ∨ (4247762216 : Int) = (407710288 : Int)) ∧
 (0 : Int) ≤ (0 : Int) ∧
 (0 : Int) ≤ (1 : Int) ∧
 (1 : Int) ≤ (↑(ByteArray.size (liS (4247762216 : Int))) : Int) ∧
 ((ByteArray.toList (skR s a) == ByteArray.toList (ByteArray.extract (liS (4247762216 : Int)) (Int.toNat (0 : Int)) (Int.toNat (1 : Int)))) = true →
 (3 : Int) = bsK s a ∧ s = s ∧ a = a) ∧
 ((ByteArray.toList (skR s a) == ByteArray.toList (ByteArray.extract (liS (4247762216 : Int)) (Int.toNat (0 : Int)) (Int.toNat (1 : Int)))) = false →
 (4 : Int) = bsK s a ∧ s = s ∧ a = a))) ∧
 (((↑(ByteArray.size s) : Int) - a == (1 : Int)) = false →
 (((↑(ByteArray.size s) : Int) - a == (2 : Int)) = true →
 (0 : Int) ≤ (0 : Int) ∧
 (0 : Int) < (↑(ByteArray.size (skR s a)) : Int) ∧
 ((bits BinOp.andNot IntKind.u8 (↑(UInt8.toNat (List.getD (skR s a).data.toList (Int.toNat (0 : Int)) (0 : UInt8))) : Int) (15 : Int) == (80 : Int)) = true →
 (0 : Int) ≤ (1 : Int) ∧
 (1 : Int) ≤ (↑(ByteArray.size (skR s a)) : Int) ∧
 (↑(ByteArray.size (skR s a)) : Int) ≤ (↑(ByteArray.size (skR s a)) : Int) ∧
 ((407710288 : Int) = (4247762216 : Int) ∨ (407710288 : Int) = (407710288 : Int)) ∧
 (0 : Int) ≤ (1 : Int) ∧
 (1 : Int) ≤ (↑(ByteArray.size s) : Int) - a ∧
 (↑(ByteArray.size s) : Int) - a ≤ (↑(ByteArray.size (liS (407710288 : Int))) : Int) ∧
 ((ByteArray.toList (ByteArray.extract (skR s a) (Int.toNat (1 : Int)) (Int.toNat (↑(ByteArray.size (skR s a)) : Int))) ==
 ByteArray.toList (ByteArray.extract (liS (407710288 : Int)) (Int.toNat (1 : Int)) (Int.toNat ((↑(ByteArray.size s) : Int) - a)))) =
 true →
 (3 : Int) = bsK s a ∧ s = s ∧ a = a) ∧
 ((ByteArray.toList (ByteArray.extract (skR s a) (Int.toNat (1 : Int)) (Int.toNat (↑(ByteArray.size (skR s a)) : Int))) ==
 ByteArray.toList (ByteArray.extract (liS (407710288 : Int)) (Int.toNat (1 : Int)) (Int.toNat ((↑(ByteArray.size s) : Int) - a)))) =
 false →
 ((4247762216 : Int) = (4247762216 : Int) ∨ (4247762216 : Int) = (407710288 : Int)) ∧
 (0 : Int) ≤ (0 : Int) ∧
 (0 : Int) ≤ (↑(ByteArray.size s) : Int) - a ∧
 (↑(ByteArray.size s) : Int) - a ≤ (↑(ByteArray.size (liS (4247762216 : Int))) : Int) ∧
 ((ByteArray.toList (skR s a) ==
 ByteArray.toList (ByteArray.extract (liS (4247762216 : Int)) (Int.toNat (0 : Int)) (Int.toNat ((↑(ByteArray.size s) : Int) - a)))) =
 true →
 (3 : Int) = bsK s a ∧ s = s ∧ a = a) ∧
 ((ByteArray.toList (skR s a) ==
 ByteArray.toList (ByteArray.extract (liS (4247762216 : Int)) (Int.toNat (0 : Int)) (Int.toNat ((↑(ByteArray.size s) : Int) - a)))) =
 false →
 (4 : Int) = bsK s a ∧ s = s ∧ a = a))) ∧
 ((bits BinOp.andNot IntKind.u8 (↑(UInt8.toNat (List.getD (skR s a).data.toList (Int.toNat (0 : Int)) (0 : UInt8))) : Int) (15 : Int) == (80 : Int)) = false →
 ((4247762216 : Int) = (4247762216 : Int) ∨ (4247762216 : Int) = (407710288 : Int)) ∧
 (0 : Int) ≤ (0 : Int) ∧
 (0 : Int) ≤ (↑(ByteArray.size s) : Int) - a ∧
 (↑(ByteArray.size s) : Int) - a ≤ (↑(ByteArray.size (liS (4247762216 : Int))) : Int) ∧
 ((ByteArray.toList (skR s a) ==
 ByteArray.toList (ByteArray.extract (liS (4247762216 : Int)) (Int.toNat (0 : Int)) (Int.toNat ((↑(ByteArray.size s) : Int) - a)))) =
 true →
 (3 : Int) = bsK s a ∧ s = s ∧ a = a) ∧
 ((ByteArray.toList (skR s a) ==
 ByteArray.toList (ByteArray.extract (liS (4247762216 : Int)) (Int.toNat (0 : Int)) (Int.toNat ((↑(ByteArray.size s) : Int) - a)))) =
 false →
 (4 : Int) = bsK s a ∧ s = s ∧ a = a))) ∧
 (((↑(ByteArray.size s) : Int) - a == (2 : Int)) = false →
 (0 : Int) ≤ (0 : Int) ∧
 (0 : Int) < (↑(ByteArray.size (skR s a)) : Int) ∧
 ((bits BinOp.andNot IntKind.u8 (↑(UInt8.toNat (List.getD (skR s a).data.toList (Int.toNat (0 : Int)) (0 : UInt8))) : Int) (15 : Int) == (80 : Int)) = true →
 (0 : Int) ≤ (1 : Int) ∧
 (1 : Int) ≤ (↑(ByteArray.size (skR s a)) : Int) ∧
 (↑(ByteArray.size (skR s a)) : Int) ≤ (↑(ByteArray.size (skR s a)) : Int) ∧
 ((407710288 : Int) = (4247762216 : Int) ∨ (407710288 : Int) = (407710288 : Int)) ∧
 (0 : Int) ≤ (1 : Int) ∧
 (1 : Int) ≤ (↑(ByteArray.size s) : Int) - a ∧
 (↑(ByteArray.size s) : Int) - a ≤ (↑(ByteArray.size (liS (407710288 : Int))) : Int) ∧
 ((ByteArray.toList (ByteArray.extract (skR s a) (Int.toNat (1 : Int)) (Int.toNat (↑(ByteArray.size (skR s a)) : Int))) ==
 ByteArray.toList (ByteArray.extract (liS (407710288 : Int)) (Int.toNat (1 : Int)) (Int.toNat ((↑(ByteArray.size s) : Int) - a)))) =
 true →
 (3 : Int) = bsK s a ∧ s = s ∧ a = a) ∧
 ((ByteArray.toList (ByteArray.extract (skR s a) (Int.toNat (1 : Int)) (Int.toNat (↑(ByteArray.size (skR s a)) : Int))) ==
 ByteArray.toList (ByteArray.extract (liS (407710288 : Int)) (Int.toNat (1 : Int)) (Int.toNat ((↑(ByteArray.size s) : Int) - a)))) =
 false →
 ((4247762216 : Int) = (4247762216 : Int) ∨ (4247762216 : Int) = (407710288 : Int)) ∧
 (0 : Int) ≤ (0 : Int) ∧
 (0 : Int) ≤ (↑(ByteArray.size s) : Int) - a ∧
 (↑(ByteArray.size s) : Int) - a ≤ (↑(ByteArray.size (liS (4247762216 : Int))) : Int) ∧
 ((ByteArray.toList (skR s a) ==
 ByteArray.toList (ByteArray.extract (liS (4247762216 : Int)) (Int.toNat (0 : Int)) (Int.toNat ((↑(ByteArray.size s) : Int) - a)))) =
 true →
 (3 : Int) = bsK s a ∧ s = s ∧ a = a) ∧
 ((ByteArray.toList (skR s a) ==
 ByteArray.toList (ByteArray.extract (liS (4247762216 : Int)) (Int.toNat (0 : Int)) (Int.toNat ((↑(ByteArray.size s) : Int) - a)))) =
 false →
 (4 : Int) = bsK s a ∧ s = s ∧ a = a))) ∧
 ((bits BinOp.andNot IntKind.u8 (↑(UInt8.toNat (List.getD (skR s a).data.toList (Int.toNat (0 : Int)) (0 : UInt8))) : Int) (15 : Int) == (80 : Int)) = false →
 ((4247762216 : Int) = (4247762216 : Int) ∨ (4247762216 : Int) = (407710288 : Int)) ∧
 (0 : Int) ≤ (0 : Int) ∧
 (0 : Int) ≤ (↑(ByteArray.size s) : Int) - a ∧
 (↑(ByteArray.size s) : Int) - a ≤ (↑(ByteArray.size (liS (4247762216 : Int))) : Int) ∧
 ((ByteArray.toList (skR s a) ==
 ByteArray.toList (ByteArray.extract (liS (4247762216 : Int)) (Int.toNat (0 : Int)) (Int.toNat ((↑(ByteArray.size s) : Int) - a)))) =
 true →
 (3 : Int) = bsK s a ∧ s = s ∧ a = a) ∧
 ((ByteArray.toList (skR s a) ==
 ByteArray.toList (ByteArray.extract (liS (4247762216 : Int)) (Int.toNat (0 : Int)) (Int.toNat ((↑(ByteArray.size s) : Int) - a)))) =
 false →
 (4 : Int) = bsK s a ∧ s = s ∧ a = a))))))
theorem skBe_e (s : ByteArray) (a : Int) : skBe_t s a = vcG Tryz.prog (Gof GSka) (fun _ => none) Tryz.f32 [.p 0 0 0] [(0, .cells 88 (skC s a))] (.leaf (.v (.int .i64 (bsK s a))) ([(0, .cells 88 (skC s a))])) := by kernel_rfl
def skNx_t (s : ByteArray) (a : Int) : Prop :=
 (0 : Int) ≤ a ∧
 a ≤ (↑(ByteArray.size s) : Int) ∧
 ByteArray.size s ≤ (1000000 : Nat) ∧
 ((↑(ByteArray.size s) : Int) - a ≥ (4 : Int) ∨ (↑(ByteArray.size s) : Int) - a ≤ (1 : Int)) ∧
 ((bsK s a == (0 : Int)) = true →
 ((bsK s a == (0 : Int)) = true → (0 : Int) = skK s a ∧ ByteArray.empty = skT s a ∧ (5 : Int) = (0 : Int) ∧ (↑(ByteArray.size s) : Int) = (0 : Int) ∧ s = s ∧ a = skX s a) ∧
 ((bsK s a == (0 : Int)) = false →
 ((bsK s a == (2 : Int)) = true →
 ((bsK s a == (2 : Int)) = true → (0 : Int) = skK s a ∧ ByteArray.empty = skT s a ∧ (14 : Int) = (0 : Int) ∧ a = (0 : Int) ∧ s = s ∧ a = skX s a) ∧
 ((bsK s a == (2 : Int)) = false →
 (0 : Int) ≤ a ∧
 a ≤ (↑(ByteArray.size s) : Int) ∧
 (decide ((↑(ByteArray.size (skR s a)) : Int) < (8 : Int)) = true →
 (0 : Int) = skK s a ∧ ByteArray.empty = skT s a ∧ (5 : Int) = (0 : Int) ∧ (↑(ByteArray.size s) : Int) = (0 : Int) ∧ s = s ∧ a = skX s a) ∧
 (decide ((↑(ByteArray.size (skR s a)) : Int) < (8 : Int)) = false →
 (0 : Int) ≤ (4 : Int) ∧
 (4 : Int) ≤ (↑(ByteArray.size (skR s a)) : Int) ∧
 (↑(ByteArray.size (skR s a)) : Int) ≤ (↑(ByteArray.size (skR s a)) : Int) ∧
 (4 : Nat) ≤ ByteArray.size (ByteArray.extract (skR s a) (Int.toNat (4 : Int)) (Int.toNat (↑(ByteArray.size (skR s a)) : Int))) ∧
 (decide
 (IntKind.wrap IntKind.u64 (IntKind.wrap IntKind.i64 ((↑(ByteArray.size (skR s a)) : Int) - (8 : Int))) <
 IntKind.wrap IntKind.u64 (nuV (ByteArray.extract (skR s a) (Int.toNat (4 : Int)) (Int.toNat (↑(ByteArray.size (skR s a)) : Int))))) =
 true →
 (0 : Int) = skK s a ∧ ByteArray.empty = skT s a ∧ (5 : Int) = (0 : Int) ∧ (↑(ByteArray.size s) : Int) = (0 : Int) ∧ s = s ∧ a = skX s a) ∧
 (decide
 (IntKind.wrap IntKind.u64 (IntKind.wrap IntKind.i64 ((↑(ByteArray.size (skR s a)) : Int) - (8 : Int))) <
 IntKind.wrap IntKind.u64 (nuV (ByteArray.extract (skR s a) (Int.toNat (4 : Int)) (Int.toNat (↑(ByteArray.size (skR s a)) : Int))))) =
 false →
 (0 : Int) ≤ (4 : Int) ∧
 (4 : Int) ≤ (↑(ByteArray.size (skR s a)) : Int) ∧
 (↑(ByteArray.size (skR s a)) : Int) ≤ (↑(ByteArray.size (skR s a)) : Int) ∧
 (4 : Nat) ≤ ByteArray.size (ByteArray.extract (skR s a) (Int.toNat (4 : Int)) (Int.toNat (↑(ByteArray.size (skR s a)) : Int))) ∧
 (4 : Nat) ≤ ByteArray.size (skR s a) ∧
 (0 : Int) ≤ (8 : Int) ∧
 (8 : Int) ≤
 IntKind.wrap IntKind.i64
 ((8 : Int) +
 IntKind.wrap IntKind.i64 (nuV (ByteArray.extract (skR s a) (Int.toNat (4 : Int)) (Int.toNat (↑(ByteArray.size (skR s a)) : Int))))) ∧
 IntKind.wrap IntKind.i64
 ((8 : Int) +
 IntKind.wrap IntKind.i64 (nuV (ByteArray.extract (skR s a) (Int.toNat (4 : Int)) (Int.toNat (↑(ByteArray.size (skR s a)) : Int))))) ≤
 (↑(ByteArray.size (skR s a)) : Int) ∧
 IntKind.wrap IntKind.i64 (IntKind.wrap IntKind.u32 (nuV (skR s a) - (407710288 : Int))) = skK s a ∧
 ByteArray.extract (skR s a) (Int.toNat (8 : Int))
 (Int.toNat
 (IntKind.wrap IntKind.i64
 ((8 : Int) +
 IntKind.wrap IntKind.i64
 (nuV (ByteArray.extract (skR s a) (Int.toNat (4 : Int)) (Int.toNat (↑(ByteArray.size (skR s a)) : Int))))))) =
 skT s a ∧
 (0 : Int) = (0 : Int) ∧
 (0 : Int) = (0 : Int) ∧
 s = s ∧
 IntKind.wrap IntKind.i64
 (a +
 IntKind.wrap IntKind.i64
 ((8 : Int) +
 IntKind.wrap IntKind.i64
 (nuV (ByteArray.extract (skR s a) (Int.toNat (4 : Int)) (Int.toNat (↑(ByteArray.size (skR s a)) : Int)))))) =
 skX s a)))) ∧
 ((bsK s a == (2 : Int)) = false →
 ((bsK s a == (4 : Int)) = true → (0 : Int) = skK s a ∧ ByteArray.empty = skT s a ∧ (14 : Int) = (0 : Int) ∧ a = (0 : Int) ∧ s = s ∧ a = skX s a) ∧
 ((bsK s a == (4 : Int)) = false →
 (0 : Int) ≤ a ∧
 a ≤ (↑(ByteArray.size s) : Int) ∧
 (decide ((↑(ByteArray.size (skR s a)) : Int) < (8 : Int)) = true →
 (0 : Int) = skK s a ∧ ByteArray.empty = skT s a ∧ (5 : Int) = (0 : Int) ∧ (↑(ByteArray.size s) : Int) = (0 : Int) ∧ s = s ∧ a = skX s a) ∧
 (decide ((↑(ByteArray.size (skR s a)) : Int) < (8 : Int)) = false →
 (0 : Int) ≤ (4 : Int) ∧
 (4 : Int) ≤ (↑(ByteArray.size (skR s a)) : Int) ∧
 (↑(ByteArray.size (skR s a)) : Int) ≤ (↑(ByteArray.size (skR s a)) : Int) ∧
 (4 : Nat) ≤ ByteArray.size (ByteArray.extract (skR s a) (Int.toNat (4 : Int)) (Int.toNat (↑(ByteArray.size (skR s a)) : Int))) ∧
 (decide
 (IntKind.wrap IntKind.u64 (IntKind.wrap IntKind.i64 ((↑(ByteArray.size (skR s a)) : Int) - (8 : Int))) <
 IntKind.wrap IntKind.u64 (nuV (ByteArray.extract (skR s a) (Int.toNat (4 : Int)) (Int.toNat (↑(ByteArray.size (skR s a)) : Int))))) =
 true →
 (0 : Int) = skK s a ∧ ByteArray.empty = skT s a ∧ (5 : Int) = (0 : Int) ∧ (↑(ByteArray.size s) : Int) = (0 : Int) ∧ s = s ∧ a = skX s a) ∧
 (decide
 (IntKind.wrap IntKind.u64 (IntKind.wrap IntKind.i64 ((↑(ByteArray.size (skR s a)) : Int) - (8 : Int))) <
 IntKind.wrap IntKind.u64 (nuV (ByteArray.extract (skR s a) (Int.toNat (4 : Int)) (Int.toNat (↑(ByteArray.size (skR s a)) : Int))))) =
 false →
 (0 : Int) ≤ (4 : Int) ∧
 (4 : Int) ≤ (↑(ByteArray.size (skR s a)) : Int) ∧
 (↑(ByteArray.size (skR s a)) : Int) ≤ (↑(ByteArray.size (skR s a)) : Int) ∧
 (4 : Nat) ≤ ByteArray.size (ByteArray.extract (skR s a) (Int.toNat (4 : Int)) (Int.toNat (↑(ByteArray.size (skR s a)) : Int))) ∧
 (4 : Nat) ≤ ByteArray.size (skR s a) ∧
 (0 : Int) ≤ (8 : Int) ∧
 (8 : Int) ≤
 IntKind.wrap IntKind.i64
 ((8 : Int) +
 IntKind.wrap IntKind.i64 (nuV (ByteArray.extract (skR s a) (Int.toNat (4 : Int)) (Int.toNat (↑(ByteArray.size (skR s a)) : Int))))) ∧
 IntKind.wrap IntKind.i64
 ((8 : Int) +
 IntKind.wrap IntKind.i64 (nuV (ByteArray.extract (skR s a) (Int.toNat (4 : Int)) (Int.toNat (↑(ByteArray.size (skR s a)) : Int))))) ≤
 (↑(ByteArray.size (skR s a)) : Int) ∧
 IntKind.wrap IntKind.i64 (IntKind.wrap IntKind.u32 (nuV (skR s a) - (407710288 : Int))) = skK s a ∧
 ByteArray.extract (skR s a) (Int.toNat (8 : Int))
 (Int.toNat
 (IntKind.wrap IntKind.i64
 ((8 : Int) +
 IntKind.wrap IntKind.i64
 (nuV (ByteArray.extract (skR s a) (Int.toNat (4 : Int)) (Int.toNat (↑(ByteArray.size (skR s a)) : Int))))))) =
 skT s a ∧
 (0 : Int) = (0 : Int) ∧
 (0 : Int) = (0 : Int) ∧
 s = s ∧
 IntKind.wrap IntKind.i64
 (a +
 IntKind.wrap IntKind.i64
 ((8 : Int) +
 IntKind.wrap IntKind.i64
 (nuV (ByteArray.extract (skR s a) (Int.toNat (4 : Int)) (Int.toNat (↑(ByteArray.size (skR s a)) : Int)))))) =
 skX s a)))))) ∧
 ((bsK s a == (0 : Int)) = false →
 ((bsK s a == (3 : Int)) = true → (0 : Int) = skK s a ∧ ByteArray.empty = skT s a ∧ (5 : Int) = (0 : Int) ∧ (↑(ByteArray.size s) : Int) = (0 : Int) ∧ s = s ∧ a = skX s a) ∧
 ((bsK s a == (3 : Int)) = false →
 ((bsK s a == (2 : Int)) = true →
 ((bsK s a == (2 : Int)) = true → (0 : Int) = skK s a ∧ ByteArray.empty = skT s a ∧ (14 : Int) = (0 : Int) ∧ a = (0 : Int) ∧ s = s ∧ a = skX s a) ∧
 ((bsK s a == (2 : Int)) = false →
 (0 : Int) ≤ a ∧
 a ≤ (↑(ByteArray.size s) : Int) ∧
 (decide ((↑(ByteArray.size (skR s a)) : Int) < (8 : Int)) = true →
 (0 : Int) = skK s a ∧ ByteArray.empty = skT s a ∧ (5 : Int) = (0 : Int) ∧ (↑(ByteArray.size s) : Int) = (0 : Int) ∧ s = s ∧ a = skX s a) ∧
 (decide ((↑(ByteArray.size (skR s a)) : Int) < (8 : Int)) = false →
 (0 : Int) ≤ (4 : Int) ∧
 (4 : Int) ≤ (↑(ByteArray.size (skR s a)) : Int) ∧
 (↑(ByteArray.size (skR s a)) : Int) ≤ (↑(ByteArray.size (skR s a)) : Int) ∧
 (4 : Nat) ≤ ByteArray.size (ByteArray.extract (skR s a) (Int.toNat (4 : Int)) (Int.toNat (↑(ByteArray.size (skR s a)) : Int))) ∧
 (decide
 (IntKind.wrap IntKind.u64 (IntKind.wrap IntKind.i64 ((↑(ByteArray.size (skR s a)) : Int) - (8 : Int))) <
 IntKind.wrap IntKind.u64 (nuV (ByteArray.extract (skR s a) (Int.toNat (4 : Int)) (Int.toNat (↑(ByteArray.size (skR s a)) : Int))))) =
 true →
 (0 : Int) = skK s a ∧ ByteArray.empty = skT s a ∧ (5 : Int) = (0 : Int) ∧ (↑(ByteArray.size s) : Int) = (0 : Int) ∧ s = s ∧ a = skX s a) ∧
 (decide
 (IntKind.wrap IntKind.u64 (IntKind.wrap IntKind.i64 ((↑(ByteArray.size (skR s a)) : Int) - (8 : Int))) <
 IntKind.wrap IntKind.u64 (nuV (ByteArray.extract (skR s a) (Int.toNat (4 : Int)) (Int.toNat (↑(ByteArray.size (skR s a)) : Int))))) =
 false →
 (0 : Int) ≤ (4 : Int) ∧
 (4 : Int) ≤ (↑(ByteArray.size (skR s a)) : Int) ∧
 (↑(ByteArray.size (skR s a)) : Int) ≤ (↑(ByteArray.size (skR s a)) : Int) ∧
 (4 : Nat) ≤ ByteArray.size (ByteArray.extract (skR s a) (Int.toNat (4 : Int)) (Int.toNat (↑(ByteArray.size (skR s a)) : Int))) ∧
 (4 : Nat) ≤ ByteArray.size (skR s a) ∧
 (0 : Int) ≤ (8 : Int) ∧
 (8 : Int) ≤
 IntKind.wrap IntKind.i64
 ((8 : Int) +
 IntKind.wrap IntKind.i64 (nuV (ByteArray.extract (skR s a) (Int.toNat (4 : Int)) (Int.toNat (↑(ByteArray.size (skR s a)) : Int))))) ∧
 IntKind.wrap IntKind.i64
 ((8 : Int) +
 IntKind.wrap IntKind.i64 (nuV (ByteArray.extract (skR s a) (Int.toNat (4 : Int)) (Int.toNat (↑(ByteArray.size (skR s a)) : Int))))) ≤
 (↑(ByteArray.size (skR s a)) : Int) ∧
 IntKind.wrap IntKind.i64 (IntKind.wrap IntKind.u32 (nuV (skR s a) - (407710288 : Int))) = skK s a ∧
 ByteArray.extract (skR s a) (Int.toNat (8 : Int))
 (Int.toNat
 (IntKind.wrap IntKind.i64
 ((8 : Int) +
 IntKind.wrap IntKind.i64
 (nuV (ByteArray.extract (skR s a) (Int.toNat (4 : Int)) (Int.toNat (↑(ByteArray.size (skR s a)) : Int))))))) =
 skT s a ∧
 (0 : Int) = (0 : Int) ∧
 (0 : Int) = (0 : Int) ∧
 s = s ∧
 IntKind.wrap IntKind.i64
 (a +
 IntKind.wrap IntKind.i64
 ((8 : Int) +
 IntKind.wrap IntKind.i64
 (nuV (ByteArray.extract (skR s a) (Int.toNat (4 : Int)) (Int.toNat (↑(ByteArray.size (skR s a)) : Int)))))) =
 skX s a)))) ∧
 ((bsK s a == (2 : Int)) = false →
 ((bsK s a == (4 : Int)) = true → (0 : Int) = skK s a ∧ ByteArray.empty = skT s a ∧ (14 : Int) = (0 : Int) ∧ a = (0 : Int) ∧ s = s ∧ a = skX s a) ∧
 ((bsK s a == (4 : Int)) = false →
 (0 : Int) ≤ a ∧
 a ≤ (↑(ByteArray.size s) : Int) ∧
 (decide ((↑(ByteArray.size (skR s a)) : Int) < (8 : Int)) = true →
 (0 : Int) = skK s a ∧ ByteArray.empty = skT s a ∧ (5 : Int) = (0 : Int) ∧ (↑(ByteArray.size s) : Int) = (0 : Int) ∧ s = s ∧ a = skX s a) ∧
 (decide ((↑(ByteArray.size (skR s a)) : Int) < (8 : Int)) = false →
 (0 : Int) ≤ (4 : Int) ∧
 (4 : Int) ≤ (↑(ByteArray.size (skR s a)) : Int) ∧
 (↑(ByteArray.size (skR s a)) : Int) ≤ (↑(ByteArray.size (skR s a)) : Int) ∧
 (4 : Nat) ≤ ByteArray.size (ByteArray.extract (skR s a) (Int.toNat (4 : Int)) (Int.toNat (↑(ByteArray.size (skR s a)) : Int))) ∧
 (decide
 (IntKind.wrap IntKind.u64 (IntKind.wrap IntKind.i64 ((↑(ByteArray.size (skR s a)) : Int) - (8 : Int))) <
 IntKind.wrap IntKind.u64 (nuV (ByteArray.extract (skR s a) (Int.toNat (4 : Int)) (Int.toNat (↑(ByteArray.size (skR s a)) : Int))))) =
 true →
 (0 : Int) = skK s a ∧ ByteArray.empty = skT s a ∧ (5 : Int) = (0 : Int) ∧ (↑(ByteArray.size s) : Int) = (0 : Int) ∧ s = s ∧ a = skX s a) ∧
 (decide
 (IntKind.wrap IntKind.u64 (IntKind.wrap IntKind.i64 ((↑(ByteArray.size (skR s a)) : Int) - (8 : Int))) <
 IntKind.wrap IntKind.u64 (nuV (ByteArray.extract (skR s a) (Int.toNat (4 : Int)) (Int.toNat (↑(ByteArray.size (skR s a)) : Int))))) =
 false →
 (0 : Int) ≤ (4 : Int) ∧
 (4 : Int) ≤ (↑(ByteArray.size (skR s a)) : Int) ∧
 (↑(ByteArray.size (skR s a)) : Int) ≤ (↑(ByteArray.size (skR s a)) : Int) ∧
 (4 : Nat) ≤ ByteArray.size (ByteArray.extract (skR s a) (Int.toNat (4 : Int)) (Int.toNat (↑(ByteArray.size (skR s a)) : Int))) ∧
 (4 : Nat) ≤ ByteArray.size (skR s a) ∧
 (0 : Int) ≤ (8 : Int) ∧
 (8 : Int) ≤
 IntKind.wrap IntKind.i64
 ((8 : Int) +
 IntKind.wrap IntKind.i64 (nuV (ByteArray.extract (skR s a) (Int.toNat (4 : Int)) (Int.toNat (↑(ByteArray.size (skR s a)) : Int))))) ∧
 IntKind.wrap IntKind.i64
 ((8 : Int) +
 IntKind.wrap IntKind.i64 (nuV (ByteArray.extract (skR s a) (Int.toNat (4 : Int)) (Int.toNat (↑(ByteArray.size (skR s a)) : Int))))) ≤
 (↑(ByteArray.size (skR s a)) : Int) ∧
 IntKind.wrap IntKind.i64 (IntKind.wrap IntKind.u32 (nuV (skR s a) - (407710288 : Int))) = skK s a ∧
 ByteArray.extract (skR s a) (Int.toNat (8 : Int))
 (Int.toNat
 (IntKind.wrap IntKind.i64
 ((8 : Int) +
 IntKind.wrap IntKind.i64
 (nuV (ByteArray.extract (skR s a) (Int.toNat (4 : Int)) (Int.toNat (↑(ByteArray.size (skR s a)) : Int))))))) =
 skT s a ∧
 (0 : Int) = (0 : Int) ∧
 (0 : Int) = (0 : Int) ∧
 s = s ∧
 IntKind.wrap IntKind.i64
 (a +
 IntKind.wrap IntKind.i64
 ((8 : Int) +
 IntKind.wrap IntKind.i64
 (nuV (ByteArray.extract (skR s a) (Int.toNat (4 : Int)) (Int.toNat (↑(ByteArray.size (skR s a)) : Int)))))) =
 skX s a))))))
theorem skNx_e (s : ByteArray) (a : Int) : skNx_t s a = vcG Tryz.prog (Gof GSkb) (fun _ => none) Tryz.f33 [.p 0 0 0] [(0, .cells 88 (skC s a))] (.leaf (.ag [.v (.int .i64 (skK s a)), .v (.string (skT s a)), .v (.int .i64 0), .v (.int .i64 0)]) ([(0, .cells 88 (skC s (skX s a)))])) := by kernel_rfl
def skBg_t (s : ByteArray) (a : Int) : Prop :=
 ((!(decide ((0 : Int) ≤ a) && decide (a ≤ (↑(ByteArray.size s) : Int)))) = true → (0 : Int) = bsK s a ∧ (2 : Int) = (0 : Int)) ∧
 ((!(decide ((0 : Int) ≤ a) && decide (a ≤ (↑(ByteArray.size s) : Int)))) = false →
 (0 : Int) ≤ a ∧
 a ≤ (↑(ByteArray.size s) : Int) ∧
 ByteArray.size s ≤ (1000000 : Nat) ∧ ((↑(ByteArray.size s) : Int) - a ≥ (4 : Int) ∨ (↑(ByteArray.size s) : Int) - a ≤ (1 : Int)) ∧ bsK s a = bsK s a ∧ (0 : Int) = (0 : Int))
theorem skBg_e (s : ByteArray) (a : Int) : skBg_t s a = vcG Tryz.prog (Gof GSkb) (fun _ => none) Tryz.f22 [.v (.string s), .v (.int .i64 a)] [] (.leaf (.tu [.v (.int .i64 (bsK s a)), .v (.int .i64 0)]) ([])) := by kernel_rfl
def skRd_t (s : ByteArray) (a : Int) : Prop :=
 ((!(decide ((0 : Int) ≤ a) && decide (a ≤ (↑(ByteArray.size s) : Int)))) = true →
 (0 : Int) = skK s a ∧ ByteArray.empty = skT s a ∧ (0 : Int) = skX s a ∧ (2 : Int) = (0 : Int) ∧ (0 : Int) = (0 : Int)) ∧
 ((!(decide ((0 : Int) ≤ a) && decide (a ≤ (↑(ByteArray.size s) : Int)))) = false →
 skOk s a = true ∧
 ByteArray.size s ≤ (1000000 : Nat) ∧
 (((0 : Int) != (0 : Int)) = true → (0 : Int) = skK s a ∧ ByteArray.empty = skT s a ∧ (0 : Int) = skX s a ∧ (0 : Int) = (0 : Int) ∧ (0 : Int) = (0 : Int)) ∧
 (((0 : Int) != (0 : Int)) = false → skK s a = skK s a ∧ skT s a = skT s a ∧ skX s a = skX s a ∧ (0 : Int) = (0 : Int) ∧ (0 : Int) = (0 : Int)))
theorem skRd_e (s : ByteArray) (a : Int) : skRd_t s a = vcG Tryz.prog (Gof GSkc) (fun _ => none) Tryz.f23 [.v (.string s), .v (.int .i64 a)] [] (.leaf (.tu [.v (.int .i64 (skK s a)), .v (.string (skT s a)), .v (.int .i64 (skX s a)), .ag [.v (.int .i64 0), .v (.int .i64 0)]]) ([])) := by kernel_rfl
end Go.Proofs.YthfhkiejcpnalaaGreat
namespace Go.Proofs.YthfhkiejcpnalaaGreat
open Go Go.RowKit
set_option linter.unusedVariables false
set_option linter.unusedSimpArgs false
set_option maxRecDepth 100000
theorem skLf_v (s : ByteArray) (a : Int) (h0 : 0 ≤ a) (h1 : a ≤ s.size) (hs : s.size ≤ 1000000) : skLf_t s a := by
  unfold skLf_t
  rw [wr (by omega) (by omega)]
  exact ⟨rfl, rfl, rfl⟩
theorem skRs_v (s : ByteArray) (a : Int) (h0 : 0 ≤ a) (h1 : a ≤ s.size) : skRs_t s a := ⟨h0, h1, by omega, rfl, rfl, rfl⟩
theorem skNu_v (s : ByteArray) (h : 4 ≤ s.size) : skNu_t s := ⟨by omega, by omega, by omega, by omega, by omega, by omega, by omega, by omega, by omega, by omega, by omega, rfl⟩
theorem skLt_v (n : Int) (h : n = 4247762216 ∨ n = 407710288) : skLt_t n := by
  unfold skLt_t liS
  refine ⟨by omega, by omega, by omega, ?_⟩
  rcases h with rfl | rfl <;> decide +kernel
theorem skOp_v (s : ByteArray) (a : Int) : skOp_t s a := by
  unfold skOp_t
  refine ⟨fun h => ⟨?_, rfl, rfl⟩, fun h => ⟨?_, rfl, rfl⟩⟩
  · rw [show decide (0 ≤ a) = true from h, Bool.true_and]
  · rw [show decide (0 ≤ a) = false from h, Bool.false_and]
theorem skR_size {s : ByteArray} {a : Int} (h0 : 0 ≤ a) (h1 : a ≤ s.size) : ((skR s a).size : Int) = s.size - a := by
  unfold skR
  rw [ByteArray.size_extract]
  omega
theorem skBg_v (s : ByteArray) (a : Int) (h0 : 0 ≤ a) (h1 : a ≤ s.size) (hs : s.size ≤ 1000000) (hn : (s.size : Int) - a ≥ 4 ∨ (s.size : Int) - a ≤ 1) : skBg_t s a := by
  have : (decide (0 ≤ a) && decide (a ≤ (s.size : Int))) = true := by simp [h0, h1]
  unfold skBg_t
  rw [this]
  exact ⟨fun h => absurd h (by decide), fun _ => ⟨h0, h1, hs, hn, rfl, rfl⟩⟩
theorem skOk_of {s : ByteArray} {a : Int} (h : skOk s a = true) : 0 ≤ a ∧ a ≤ s.size ∧ bsK s a = 1 ∧ 8 ≤ (skR s a).size ∧ 0 ≤ skN s a ∧ skN s a ≤ (skR s a).size - 8 := by
  simpa [skOk] using h
theorem skRd_v (s : ByteArray) (a : Int) (h : skOk s a = true) (hs : s.size ≤ 1000000) : skRd_t s a := by
  obtain ⟨h0, h1, _⟩ := skOk_of h
  have : (decide (0 ≤ a) && decide (a ≤ (s.size : Int))) = true := by simp [h0, h1]
  unfold skRd_t
  rw [this]
  exact ⟨fun h => absurd h (by decide), fun _ => ⟨h, hs, fun h => absurd h (by decide), fun _ => ⟨rfl, rfl, rfl, rfl, rfl⟩⟩⟩
theorem skBe_v (s : ByteArray) (a : Int) (h0 : 0 ≤ a) (h1 : a ≤ s.size) (hs : s.size ≤ 1000000) (hn : (s.size : Int) - a ≥ 4 ∨ (s.size : Int) - a ≤ 1) : skBe_t s a := by
  have hz := skR_size h0 h1
  unfold skBe_t
  refine ⟨h0, h1, hs, fun h4 => ⟨h0, h1, ?_, fun m1 => ⟨?_, rfl, rfl⟩, fun m1 => ⟨fun m2 => ⟨?_, rfl, rfl⟩, fun m2 => ⟨?_, rfl, rfl⟩⟩⟩, fun h4 => ⟨h0, h1, fun z => ⟨?_, rfl, rfl⟩, fun z => ⟨fun o => ⟨by omega, ?_, fun c1 => ⟨?_, rfl, rfl⟩, fun c1 => ⟨.inl rfl, by omega, by omega, by decide, fun c2 => ⟨?_, rfl, rfl⟩, fun c2 => ⟨?_, rfl, rfl⟩⟩⟩, fun o => ?_⟩⟩⟩
  · have : (s.size : Int) - a ≥ 4 := by simpa using h4
    omega
  · unfold bsK; rw [h4, m1]; rfl
  · unfold bsK; rw [h4, m1, m2]; rfl
  · unfold bsK; rw [h4, m1, m2]; rfl
  · unfold bsK; rw [h4, z]; rfl
  · have : (s.size : Int) - a = 1 := by simpa using o
    omega
  · unfold bsK; rw [h4, z]; rw [show (bits .andNot .u8 (skBy (skR s a) 0) 15 == 80) = true from c1]; rfl
  · unfold bsK; rw [h4, z]; rw [show (bits .andNot .u8 (skBy (skR s a) 0) 15 == 80) = false from c1, Bool.false_or, show ((skR s a).toList == (liZ.extract 0 1).toList) = true from c2]; rfl
  · unfold bsK; rw [h4, z]; rw [show (bits .andNot .u8 (skBy (skR s a) 0) 15 == 80) = false from c1, Bool.false_or, show ((skR s a).toList == (liZ.extract 0 1).toList) = false from c2]; rfl
  · have z' : ¬ (s.size : Int) - a = 0 := by simpa using z
    have o' : ¬ (s.size : Int) - a = 1 := by simpa using o
    have h4' : ¬ (s.size : Int) - a ≥ 4 := by simpa using h4
    omega
theorem wu64 {n : Int} (h0 : 0 ≤ n) (h1 : n ≤ 1000000) : IntKind.wrap .u64 n = n := by
  simp only [IntKind.wrap, IntKind.bits]
  first
  | (rw [Int.emod_eq_of_lt h0 (by omega)]; done)
  | (simp [IntKind.signed]; omega)
  | omega
theorem skNx_v (s : ByteArray) (a : Int) (h : skOk s a = true) (hs : s.size ≤ 1000000) : skNx_t s a := by
  obtain ⟨h0, h1, hb, h8, n0, n8⟩ := skOk_of h
  have hz := skR_size h0 h1
  have e : nuV (ByteArray.extract (skR s a) (Int.toNat 4) (Int.toNat ((skR s a).size : Int))) = skN s a := rfl
  have e4 : 4 ≤ (ByteArray.extract (skR s a) (Int.toNat 4) (Int.toNat ((skR s a).size : Int))).size := by
    rw [ByteArray.size_extract]
    omega
  have hn : (s.size : Int) - a ≥ 4 ∨ (s.size : Int) - a ≤ 1 := by omega
  unfold skNx_t
  rw [hb, e, wr (n := (skR s a).size - 8) (by omega) (by omega), wr (n := skN s a) (by omega) (by omega), wr (n := 8 + skN s a) (by omega) (by omega), wr (n := a + (8 + skN s a)) (by omega) (by omega), wu64 (n := (skR s a).size - 8) (by omega) (by omega), wu64 (n := skN s a) n0 (by omega)]
  have main : (decide (((skR s a).size : Int) - 8 < skN s a) = true → False) := fun h => by
    have : ((skR s a).size : Int) - 8 < skN s a := by simpa using h
    omega
  have l8 : decide (((skR s a).size : Int) < 8) = true → False := fun h => by
    have : ((skR s a).size : Int) < 8 := by simpa using h
    omega
  refine ⟨h0, h1, hs, hn, fun h => absurd h (by decide), fun _ => ⟨fun h => absurd h (by decide), fun _ => ⟨fun h => absurd h (by decide), fun _ => ⟨fun h => absurd h (by decide), fun _ => ⟨h0, h1, fun h => (l8 h).elim, fun _ => ⟨by omega, by omega, by omega, e4, fun h => (main h).elim, fun _ => ⟨by omega, by omega, by omega, e4, by omega, by omega, by omega, by omega, rfl, rfl, rfl, rfl, rfl, rfl⟩⟩⟩⟩⟩⟩⟩
theorem skLf_sound : Sound Tryz.prog 38 sSkLf.ctr := sSkLf.sound (by kernel_rfl) sSkLf_enc fun ⟨s, a⟩ hc => by
  have h0 := hc _ (.head _)
  have h1 := hc _ (.tail _ (.head _))
  have h2 := hc _ (.tail _ (.tail _ (.head _)))
  exact satG GFr4_ok mixed Tryz.func38 (skLf_e s a) (skLf_v s a h0 h1 h2)
theorem skRs_sound : Sound Tryz.prog 40 sSkRs.ctr := sSkRs.sound (by kernel_rfl) sSkRs_enc fun ⟨s, a⟩ hc => by
  have h0 := hc _ (.head _)
  have h1 := hc _ (.tail _ (.head _))
  exact satG GFr4_ok mixed Tryz.func40 (skRs_e s a) (skRs_v s a h0 h1)
theorem skNu_sound : Sound Tryz.prog 39 sSkNu.ctr := sSkNu.sound (by kernel_rfl) sSkNu_enc fun s hc => by
  have h0 := hc _ (.head _)
  exact satG GFr4_ok mixed Tryz.func39 (skNu_e s) (skNu_v s h0)
theorem skLt_sound : Sound Tryz.prog 41 sSkLt.ctr := sSkLt.sound (by kernel_rfl) sSkLt_enc fun n hc => by
  have h0 := hc _ (.head _)
  exact satG GFr4_ok mixed Tryz.func41 (skLt_e n) (skLt_v n h0)
theorem skOp_sound : Sound Tryz.prog 31 sSkOp.ctr := sSkOp.sound (by kernel_rfl) sSkOp_enc fun ⟨s, a⟩ hc => by
  exact satG GFr4_ok mixed Tryz.func31 (skOp_e s a) (skOp_v s a)
theorem GSka_ok : AllOk Tryz.prog GSka := .cons skLf_sound <| .cons skRs_sound <| .cons skNu_sound <| .cons skLt_sound <| .cons skOp_sound <| GFr4_ok
theorem skBe_sound : Sound Tryz.prog 32 sSkBe.ctr := sSkBe.sound (by kernel_rfl) sSkBe_enc fun ⟨s, a⟩ hc => by
  have h0 := hc _ (.head _)
  have h1 := hc _ (.tail _ (.head _))
  have h2 := hc _ (.tail _ (.tail _ (.head _)))
  have h3 := hc _ (.tail _ (.tail _ (.tail _ (.head _))))
  exact satG GSka_ok mixed Tryz.func32 (skBe_e s a) (skBe_v s a h0 h1 h2 h3)
theorem GSkb_ok : AllOk Tryz.prog GSkb := .cons skBe_sound <| GSka_ok
theorem skNx_sound : Sound Tryz.prog 33 sSkNx.ctr := sSkNx.sound (by kernel_rfl) sSkNx_enc fun ⟨s, a⟩ hc => by
  have h0 := hc _ (.head _)
  have h1 := hc _ (.tail _ (.head _))
  exact satG GSkb_ok mixed Tryz.func33 (skNx_e s a) (skNx_v s a h0 h1)
theorem skBg_sound : Sound Tryz.prog 22 sSkBg.ctr := sSkBg.sound (by kernel_rfl) sSkBg_enc fun ⟨s, a⟩ hc => by
  have h0 := hc _ (.head _)
  have h1 := hc _ (.tail _ (.head _))
  have h2 := hc _ (.tail _ (.tail _ (.head _)))
  have h3 := hc _ (.tail _ (.tail _ (.tail _ (.head _))))
  exact satG GSkb_ok mixed Tryz.func22 (skBg_e s a) (skBg_v s a h0 h1 h2 h3)
theorem GSkc_ok : AllOk Tryz.prog GSkc := .cons skNx_sound <| .cons skBg_sound <| GSkb_ok
theorem skRd_sound : Sound Tryz.prog 23 sSkRd.ctr := sSkRd.sound (by kernel_rfl) sSkRd_enc fun ⟨s, a⟩ hc => by
  have h0 := hc _ (.head _)
  have h1 := hc _ (.tail _ (.head _))
  exact satG GSkc_ok mixed Tryz.func23 (skRd_e s a) (skRd_v s a h0 h1)
theorem GSkd_ok : AllOk Tryz.prog GSkd := .cons skRd_sound <| GSkc_ok
end Go.Proofs.YthfhkiejcpnalaaGreat
namespace Go.Proofs.YthfhkiejcpnalaaGreat
open Go Go.RowKit
set_option linter.unusedVariables false
def dsS (b : ByteArray) (a : Int) : Bool := bsK b a == 1
def dsO (b : ByteArray) (a m : Int) : ByteArray := cond (dsS b a) ByteArray.empty (frO b a m)
def dsN (b : ByteArray) (a m : Int) : Int := cond (dsS b a) (skX b a) (frN b a m)
def dsE (b : ByteArray) (a m : Int) : Int × Int := cond (dsS b a) (0, 0) (frE b a m)
def frP (b : ByteArray) (a m : Int) : Bool := decide (b.size ≤ 1000000) && ((fhI m || ((hdE b a).1 != 0 || decide (hhS b a ≤ m))) && (!fhG b a m || (fbK b (hhW b a) m (hhN b a) && !hhM b a)))
def dsP (b : ByteArray) (a m : Int) : Bool := decide (0 ≤ a) && (decide (a ≤ (b.size : Int)) && (decide ((b.size : Int) - a ≥ 4 ∨ (b.size : Int) - a ≤ 1) && (decide (b.size ≤ 1000000) && cond (dsS b a) (skOk b a) (frP b a m))))
end Go.Proofs.YthfhkiejcpnalaaGreat
namespace Go.Proofs.YthfhkiejcpnalaaGreat
open Go Go.RowKit
set_option linter.unusedVariables false
set_option linter.unusedSimpArgs false
set_option maxRecDepth 100000
def sDcW : Spec where
  ι := ByteArray × Int
  dec l H := match l with
    | [.v (.string b), .v (.int .i64 a)] => some ((b, a), [])
    | _ => none
  args := fun (b, a) => [.v (.string b), .v (.int .i64 a)]
  pre := fun (b, a) => [⟨0 ≤ a, inferInstance⟩, ⟨a ≤ b.size, inferInstance⟩, ⟨b.size ≤ 1000000, inferInstance⟩, ⟨(b.size : Int) - a ≥ 4 ∨ (b.size : Int) - a ≤ 1, inferInstance⟩]
  out := fun (b, a) => .ite ⟨dsS b a = true, inferInstance⟩ (.leaf (.ifc 52 (.ag [])) []) (.leaf (.ifc 54 (.ag [])) [])
theorem sDcW_enc : ∀ l H n i ls, sDcW.dec l H = some (i, ls) → l = renL (rho ls n) (sDcW.args i) ∧ givenHp H ls = renH (rho ls n) (sDcW.hp i) := by
  intro l H n i ls h
  simp only [sDcW] at h
  repeat' split at h
  all_goals first
    | (cases h; done)
    | (cases h; exact ⟨rfl, rfl⟩)
def sDcS : Spec where
  ι := ByteArray × Int × Int
  dec l H := match l with
    | [.ag [], .v (.string b), .v (.int .i64 a), .v (.int .i64 m)] => some ((b, a, m), [])
    | _ => none
  args := fun (b, a, m) => [.ag [], .v (.string b), .v (.int .i64 a), .v (.int .i64 m)]
  pre := fun (b, a, m) => [⟨skOk b a = true, inferInstance⟩, ⟨b.size ≤ 1000000, inferInstance⟩]
  out := fun (b, a, m) => .leaf (.tu [.v (.string ByteArray.empty), .v (.int .i64 (skX b a)), .ag [.v (.int .i64 0), .v (.int .i64 0)]]) []
theorem sDcS_enc : ∀ l H n i ls, sDcS.dec l H = some (i, ls) → l = renL (rho ls n) (sDcS.args i) ∧ givenHp H ls = renH (rho ls n) (sDcS.hp i) := by
  intro l H n i ls h
  simp only [sDcS] at h
  repeat' split at h
  all_goals first
    | (cases h; done)
    | (cases h; exact ⟨rfl, rfl⟩)
def sDcD : Spec where
  ι := ByteArray × Int × Int
  dec l H := match l with
    | [.ag [], .v (.string b), .v (.int .i64 a), .v (.int .i64 m)] => some ((b, a, m), [])
    | _ => none
  args := fun (b, a, m) => [.ag [], .v (.string b), .v (.int .i64 a), .v (.int .i64 m)]
  pre := fun (b, a, m) => [⟨frP b a m = true, inferInstance⟩]
  out := fun (b, a, m) => .leaf (.tu [.v (.string (frO b a m)), .v (.int .i64 (frN b a m)), .ag [.v (.int .i64 (frE b a m).1), .v (.int .i64 (frE b a m).2)]]) []
theorem sDcD_enc : ∀ l H n i ls, sDcD.dec l H = some (i, ls) → l = renL (rho ls n) (sDcD.args i) ∧ givenHp H ls = renH (rho ls n) (sDcD.hp i) := by
  intro l H n i ls h
  simp only [sDcD] at h
  repeat' split at h
  all_goals first
    | (cases h; done)
    | (cases h; exact ⟨rfl, rfl⟩)
def GDca : List (Nat × Ctr) := (17, sDcW.ctr) :: (18, sDcS.ctr) :: (69, sDcD.ctr) :: GSkd
end Go.Proofs.YthfhkiejcpnalaaGreat
namespace Go.Proofs.YthfhkiejcpnalaaGreat
open Go Go.RowKit
set_option linter.unusedVariables false
set_option maxRecDepth 100000
def dcW_t (b : ByteArray) (a : Int) : Prop :=
 (0 : Int) ≤ a ∧
 a ≤ (↑(ByteArray.size b) : Int) ∧
 ByteArray.size b ≤ (1000000 : Nat) ∧
 ((↑(ByteArray.size b) : Int) - a ≥ (4 : Int) ∨ (↑(ByteArray.size b) : Int) - a ≤ (1 : Int)) ∧
 (((0 : Int) == (0 : Int)) = true →
 ((bsK b a == (1 : Int)) = true → (dsS b a = true → True) ∧ (¬dsS b a = true → False)) ∧ ((bsK b a == (1 : Int)) = false → (dsS b a = true → False) ∧ (¬dsS b a = true → True))) ∧
 (((0 : Int) == (0 : Int)) = false → (dsS b a = true → False) ∧ (¬dsS b a = true → True))
theorem dcW_e (b : ByteArray) (a : Int) : dcW_t b a = vcG Tryz.prog (Gof GSkd) (fun _ => none) Tryz.f17 [.v (.string b), .v (.int .i64 a)] [] (.ite ⟨dsS b a = true, inferInstance⟩ (.leaf (.ifc 52 (.ag [])) ([])) (.leaf (.ifc 54 (.ag [])) ([]))) := by kernel_rfl
def dcS_t (b : ByteArray) (a m : Int) : Prop :=
 skOk b a = true ∧ ByteArray.size b ≤ (1000000 : Nat) ∧ ByteArray.empty = ByteArray.empty ∧ skX b a = skX b a ∧ (0 : Int) = (0 : Int) ∧ (0 : Int) = (0 : Int)
theorem dcS_e (b : ByteArray) (a m : Int) : dcS_t b a m = vcG Tryz.prog (Gof GSkd) (fun _ => none) Tryz.f18 [.ag [], .v (.string b), .v (.int .i64 a), .v (.int .i64 m)] [] (.leaf (.tu [.v (.string ByteArray.empty), .v (.int .i64 (skX b a)), .ag [.v (.int .i64 0), .v (.int .i64 0)]]) ([])) := by kernel_rfl
def dcD_t (b : ByteArray) (a m : Int) : Prop :=
 ByteArray.size b ≤ (1000000 : Nat) ∧
 (fhI m = false → (hdE b a).fst = (0 : Int) → hhS b a ≤ m) ∧
 (fhG b a m = true → fbK b (hhW b a) m (hhN b a) = true ∧ hhM b a = false) ∧ frO b a m = frO b a m ∧ frN b a m = frN b a m ∧ (frE b a m).fst = (frE b a m).fst ∧ (frE b a m).snd = (frE b a m).snd
theorem dcD_e (b : ByteArray) (a m : Int) : dcD_t b a m = vcG Tryz.prog (Gof GSkd) (fun _ => none) Tryz.f69 [.ag [], .v (.string b), .v (.int .i64 a), .v (.int .i64 m)] [] (.leaf (.tu [.v (.string (frO b a m)), .v (.int .i64 (frN b a m)), .ag [.v (.int .i64 (frE b a m).1), .v (.int .i64 (frE b a m).2)]]) ([])) := by kernel_rfl
def dcF1_t (b : ByteArray) (a m : Int) : Prop :=
 (dsS b a = true →
 (0 : Int) ≤ a ∧
 a ≤ (↑(ByteArray.size b) : Int) ∧
 ByteArray.size b ≤ (1000000 : Nat) ∧
 ((↑(ByteArray.size b) : Int) - a ≥ (4 : Int) ∨ (↑(ByteArray.size b) : Int) - a ≤ (1 : Int)) ∧
 skOk b a = true ∧
 ByteArray.size b ≤ (1000000 : Nat) ∧
 a = a ∧
 skX b a = dsN b a m ∧
 ByteArray.empty = dsO b a m ∧
 (0 : Int) = (dsE b a m).fst ∧
 (0 : Int) = (dsE b a m).snd ∧ b = b ∧ IntKind.wrap IntKind.i64 (m - (↑(ByteArray.size ByteArray.empty) : Int)) = m - (↑(ByteArray.size (dsO b a m)) : Int)) ∧
 (¬dsS b a = true →
 (0 : Int) ≤ a ∧
 a ≤ (↑(ByteArray.size b) : Int) ∧
 ByteArray.size b ≤ (1000000 : Nat) ∧
 ((↑(ByteArray.size b) : Int) - a ≥ (4 : Int) ∨ (↑(ByteArray.size b) : Int) - a ≤ (1 : Int)) ∧
 frP b a m = true ∧
 a = a ∧
 frN b a m = dsN b a m ∧
 frO b a m = dsO b a m ∧
 (frE b a m).fst = (dsE b a m).fst ∧
 (frE b a m).snd = (dsE b a m).snd ∧ b = b ∧ IntKind.wrap IntKind.i64 (m - (↑(ByteArray.size (frO b a m)) : Int)) = m - (↑(ByteArray.size (dsO b a m)) : Int))
theorem dcF1_e (b : ByteArray) (a m : Int) : dcF1_t b a m = vcG Tryz.prog (Gof GDca) (fun _ => none) Tryz.f20 [.v (.int .i64 a), .p 0 0 0, .p 1 0 0] [(0, .cells 9 [.v (.string b)]), (1, .cells 3 [.v (.int .i64 m)])] (.leaf (.ag [.v (.int .i64 a), .v (.int .i64 (dsN b a m)), .v (.string (dsO b a m)), .v (.int .i64 (dsE b a m).1), .v (.int .i64 (dsE b a m).2)]) ([(0, .cells 9 [.v (.string b)]), (1, .cells 3 [.v (.int .i64 (m - (dsO b a m).size))])])) := by kernel_rfl
end Go.Proofs.YthfhkiejcpnalaaGreat
namespace Go.Proofs.YthfhkiejcpnalaaGreat
open Go Go.RowKit
set_option linter.unusedVariables false
set_option linter.unusedSimpArgs false
set_option maxRecDepth 100000
theorem frP_of {b : ByteArray} {a m : Int} (h : frP b a m = true) : b.size ≤ 1000000 ∧ (fhI m = false → (hdE b a).1 = 0 → hhS b a ≤ m) ∧ (fhG b a m = true → fbK b (hhW b a) m (hhN b a) = true ∧ hhM b a = false) := by
  simp only [frP, Bool.and_eq_true, Bool.or_eq_true, decide_eq_true_eq, bne_iff_ne, ne_eq, Bool.not_eq_true'] at h
  obtain ⟨h1, h2, h3⟩ := h
  refine ⟨h1, fun hI h0 => ?_, fun hG => ?_⟩
  · rcases h2 with h2 | h2 | h2
    · rw [h2] at hI; cases hI
    · exact absurd h0 h2
    · exact h2
  · rcases h3 with h3 | h3
    · rw [h3] at hG; cases hG
    · exact h3
theorem dsP_of {b : ByteArray} {a m : Int} (h : dsP b a m = true) : 0 ≤ a ∧ a ≤ b.size ∧ ((b.size : Int) - a ≥ 4 ∨ (b.size : Int) - a ≤ 1) ∧ b.size ≤ 1000000 ∧ (dsS b a = true → skOk b a = true) ∧ (dsS b a = false → frP b a m = true) := by
  simp only [dsP, Bool.and_eq_true, decide_eq_true_eq] at h
  obtain ⟨h1, h2, h3, h4, h5⟩ := h
  refine ⟨h1, h2, h3, h4, fun hs => ?_, fun hs => ?_⟩
  · rw [hs] at h5; exact h5
  · rw [hs] at h5; exact h5
theorem dcW_v (b : ByteArray) (a : Int) (h0 : 0 ≤ a) (h1 : a ≤ b.size) (hs : b.size ≤ 1000000) (hn : (b.size : Int) - a ≥ 4 ∨ (b.size : Int) - a ≤ 1) : dcW_t b a := by
  unfold dcW_t
  refine ⟨h0, h1, hs, hn, fun _ => ⟨fun k => ⟨fun _ => trivial, fun d => d k⟩, fun k => ⟨fun d => ?_, fun _ => trivial⟩⟩, fun h => absurd h (by decide)⟩
  have d : (bsK b a == 1) = true := d
  rw [k] at d
  cases d
theorem dcS_v (b : ByteArray) (a m : Int) (h : skOk b a = true) (hs : b.size ≤ 1000000) : dcS_t b a m := ⟨h, hs, rfl, rfl, rfl, rfl⟩
theorem dcD_v (b : ByteArray) (a m : Int) (h : frP b a m = true) : dcD_t b a m := ⟨(frP_of h).1, (frP_of h).2.1, (frP_of h).2.2, rfl, rfl, rfl, rfl⟩
theorem dcW_sound : Sound Tryz.prog 17 sDcW.ctr := sDcW.sound (by kernel_rfl) sDcW_enc fun ⟨b, a⟩ hc => by
  have h0 := hc _ (.head _)
  have h1 := hc _ (.tail _ (.head _))
  have h2 := hc _ (.tail _ (.tail _ (.head _)))
  have h3 := hc _ (.tail _ (.tail _ (.tail _ (.head _))))
  exact satG GSkd_ok mixed Tryz.func17 (dcW_e b a) (dcW_v b a h0 h1 h2 h3)
theorem dcS_sound : Sound Tryz.prog 18 sDcS.ctr := sDcS.sound (by kernel_rfl) sDcS_enc fun ⟨b, a, m⟩ hc => by
  have h0 := hc _ (.head _)
  have h1 := hc _ (.tail _ (.head _))
  exact satG GSkd_ok mixed Tryz.func18 (dcS_e b a m) (dcS_v b a m h0 h1)
theorem dcD_sound : Sound Tryz.prog 69 sDcD.ctr := sDcD.sound (by kernel_rfl) sDcD_enc fun ⟨b, a, m⟩ hc => by
  have h0 := hc _ (.head _)
  exact satG GSkd_ok mixed Tryz.func69 (dcD_e b a m) (dcD_v b a m h0)
theorem GDca_ok : AllOk Tryz.prog GDca := .cons dcW_sound <| .cons dcS_sound <| .cons dcD_sound <| GSkd_ok
theorem dcF1_v (b : ByteArray) (a m : Int) (h : dsP b a m = true) (hm : m ≤ 1048576) (ho : ((dsO b a m).size : Int) ≤ m) : dcF1_t b a m := by
  obtain ⟨h0, h1, hn, hs, k1, k2⟩ := dsP_of h
  unfold dcF1_t
  refine ⟨fun d => ?_, fun d => ?_⟩
  · have e1 : dsN b a m = skX b a := by unfold dsN; rw [d]; rfl
    have e2 : dsO b a m = ByteArray.empty := by unfold dsO; rw [d]; rfl
    have e3 : dsE b a m = (0, 0) := by unfold dsE; rw [d]; rfl
    rw [e2] at ho ⊢
    rw [e1, e3, wr (by omega) (by omega)]
    exact ⟨h0, h1, hs, hn, k1 d, hs, rfl, rfl, rfl, rfl, rfl, rfl, rfl⟩
  · have d : dsS b a = false := by simpa using d
    have e1 : dsN b a m = frN b a m := by unfold dsN; rw [d]; rfl
    have e2 : dsO b a m = frO b a m := by unfold dsO; rw [d]; rfl
    have e3 : dsE b a m = frE b a m := by unfold dsE; rw [d]; rfl
    rw [e2] at ho ⊢
    rw [e1, e3, wr (by omega) (by omega)]
    exact ⟨h0, h1, hs, hn, k2 d, rfl, rfl, rfl, rfl, rfl, rfl, rfl⟩
end Go.Proofs.YthfhkiejcpnalaaGreat
namespace Go.Proofs.YthfhkiejcpnalaaGreat
open Go Go.RowKit
set_option linter.unusedVariables false
def dfS (b : ByteArray) (m : Int) : Nat → Int × Int
  | 0 => (0, m)
  | i + 1 => (dsN b (dfS b m i).1 (dfS b m i).2, (dfS b m i).2 - (dsO b (dfS b m i).1 (dfS b m i).2).size)
def dfA (b : ByteArray) (m : Int) (i : Nat) : Int := (dfS b m i).1
def dfM (b : ByteArray) (m : Int) (i : Nat) : Int := (dfS b m i).2
def dfE (b : ByteArray) (m : Int) (i : Nat) : Int × Int := dsE b (dfA b m i) (dfM b m i)
def dfO (b : ByteArray) (m : Int) (i : Nat) : ByteArray := dsO b (dfA b m i) (dfM b m i)
def dfC (b : ByteArray) (m : Int) : Nat → Nat → Nat
  | 0, i => i
  | k + 1, i => cond (decide (dfA b m i < (b.size : Int))) (cond ((dfE b m i).1 == 0) (dfC b m k (i + 1)) (i + 1)) i
def dfN (b : ByteArray) (m : Int) : Nat := dfC b m (b.size + 1) 0
def dfV (b : ByteArray) (m : Int) (i : Nat) : List Value := [.int .i64 (i : Nat), .agg #[.int .i64 (dfA b m i), .int .i64 (dfA b m (i + 1)), .string (dfO b m i), .int .i64 (dfE b m i).1, .int .i64 (dfE b m i).2]]
def dfL (b : ByteArray) (m : Int) : List (List Value) := (List.range (dfN b m)).map (dfV b m)
end Go.Proofs.YthfhkiejcpnalaaGreat
namespace Go.Proofs.YthfhkiejcpnalaaGreat
open Go Go.RowKit
set_option linter.unusedVariables false
set_option linter.unusedSimpArgs false
set_option maxRecDepth 100000
def sDcF1 : Spec where
  ι := Int × ByteArray × Int
  own := true
  dec l H := match l with
    | [.v (.int .i64 a), .p l0 0 0, .p l1 0 0] => match H l0 with
      | some (.cells 9 [.v (.string b)]) => match H l1 with
        | some (.cells 3 [.v (.int .i64 m)]) => some ((a, b, m), [l0, l1])
        | _ => none
      | _ => none
    | _ => none
  args := fun (a, b, m) => [.v (.int .i64 a), .p 0 0 0, .p 1 0 0]
  hp := fun (a, b, m) => [(0, .cells 9 [.v (.string b)]), (1, .cells 3 [.v (.int .i64 m)])]
  pre := fun (a, b, m) => [⟨dsP b a m = true, inferInstance⟩, ⟨m ≤ 1048576, inferInstance⟩, ⟨((dsO b a m).size : Int) ≤ m, inferInstance⟩]
  out := fun (a, b, m) => .leaf (.ag [.v (.int .i64 a), .v (.int .i64 (dsN b a m)), .v (.string (dsO b a m)), .v (.int .i64 (dsE b a m).1), .v (.int .i64 (dsE b a m).2)]) [(0, .cells 9 [.v (.string b)]), (1, .cells 3 [.v (.int .i64 (m - (dsO b a m).size))])]
theorem sDcF1_enc : ∀ l H n i ls, sDcF1.dec l H = some (i, ls) → l = renL (rho ls n) (sDcF1.args i) ∧ givenHp H ls = renH (rho ls n) (sDcF1.hp i) := by
  intro l H n i ls h
  simp only [sDcF1] at h
  repeat' split at h
  all_goals first
    | (cases h; done)
    | (cases h; exact ⟨rfl, rfl⟩)
    | (cases h; refine ⟨rfl, ?_⟩; simp only [givenHp, List.filterMap_cons, List.filterMap_nil, Option.map, *]; rfl)
def GDcb : List (Nat × Ctr) := (20, sDcF1.ctr) :: GDca
def dfB (b : ByteArray) (m : Int) : List (Nat × SBlk) := [(0, .cells 9 [.v (.string b)]), (1, .cells 59 [.fn (.func 20) [] [.p 0 0 0, .p 2 0 0]]), (2, .cells 3 [.v (.int .i64 m)])]
def oDf (l0 : Nat) (b : ByteArray) (m : Int) : Nat → Option LoopFamI := fun k => cond (Nat.beq k 0) (some ⟨Unit, fun _ => { ι := Nat, p := fun i => i ≤ dfN b m ∧ (dfA b m i < (b.size : Int) → i < dfN b m) ∧ (∀ j, j < i → (dfE b m j).1 = 0), tm := fun i => [(0, .v (.func (.yield l0) #[] #[])), (1, .p 0 0 0), (2, .p 1 0 0), (4, .v (.int .i64 (i : Nat))), (5, .v (.int .i64 (dfA b m i)))], hp := fun i => dfB b (dfM b m i), μ := fun i => dfN b m - i, y := fun i => i }⟩) none
end Go.Proofs.YthfhkiejcpnalaaGreat
namespace Go.Proofs.YthfhkiejcpnalaaGreat
open Go Go.RowKit
set_option linter.unusedVariables false
set_option maxRecDepth 100000
def dfIt_t (b : ByteArray) (m : Int) (l0 : Nat) : Prop :=
 ∃ (g0 : Unit),
 ∃ (x1 : Nat),
 (x1 ≤ dfN b m ∧ (dfA b m x1 < (↑(ByteArray.size b) : Int) → x1 < dfN b m) ∧ ∀ (j2 : Nat), j2 < x1 → (dfE b m j2).fst = (0 : Int)) ∧
 ((0 : Nat), true) = (x1, true) ∧
 (Value.func (Fn.yield l0) #[] #[] = Value.func (Fn.yield l0) #[] #[] ∧ (0 : Int) = (↑x1 : Int) ∧ (0 : Int) = dfA b m x1 ∧ b = b ∧ m = dfM b m x1) ∧
 ∀ (x3 : Nat),
 (x3 ≤ dfN b m ∧ (dfA b m x3 < (↑(ByteArray.size b) : Int) → x3 < dfN b m) ∧ ∀ (j4 : Nat), j4 < x3 → (dfE b m j4).fst = (0 : Int)) →
 (decide (dfA b m x3 < (↑(ByteArray.size b) : Int)) = true →
 dsP b (dfA b m x3) (dfM b m x3) = true ∧
 dfM b m x3 ≤ (1048576 : Int) ∧
 (↑(ByteArray.size (dsO b (dfA b m x3) (dfM b m x3))) : Int) ≤ dfM b m x3 ∧
 l0 = l0 ∧
 (dfL b m)[x3]? =
 some
 [Value.int IntKind.i64 (↑x3 : Int),
 Value.agg
 #[Value.int IntKind.i64 (dfA b m x3), Value.int IntKind.i64 (dsN b (dfA b m x3) (dfM b m x3)), Value.string (dsO b (dfA b m x3) (dfM b m x3)),
 Value.int IntKind.i64 (dsE b (dfA b m x3) (dfM b m x3)).fst, Value.int IntKind.i64 (dsE b (dfA b m x3) (dfM b m x3)).snd]] ∧
 ((((dsE b (dfA b m x3) (dfM b m x3)).fst != (0 : Int)) = true → x3 + (1 : Nat) = List.length (dfL b m)) ∧
 (((dsE b (dfA b m x3) (dfM b m x3)).fst != (0 : Int)) = false →
 ∃ (y5 : Nat),
 (y5 ≤ dfN b m ∧ (dfA b m y5 < (↑(ByteArray.size b) : Int) → y5 < dfN b m) ∧ ∀ (j6 : Nat), j6 < y5 → (dfE b m j6).fst = (0 : Int)) ∧
 (x3 + (1 : Nat), true) = (y5, true) ∧
 Nat.sub (dfN b m) y5 < Nat.sub (dfN b m) x3 ∧
 Value.func (Fn.yield l0) #[] #[] = Value.func (Fn.yield l0) #[] #[] ∧
 IntKind.wrap IntKind.i64 ((↑x3 : Int) + (1 : Int)) = (↑y5 : Int) ∧
 dsN b (dfA b m x3) (dfM b m x3) = dfA b m y5 ∧ b = b ∧ dfM b m x3 - (↑(ByteArray.size (dsO b (dfA b m x3) (dfM b m x3))) : Int) = dfM b m y5)) ∧
 True) ∧
 (decide (dfA b m x3 < (↑(ByteArray.size b) : Int)) = false → x3 = List.length (dfL b m))
theorem dfIt_e (b : ByteArray) (m : Int) (l0 : Nat) : dfIt_t b m l0 = vcFI Tryz.prog (Gof GDcb) l0 (dfL b m) (oDf l0 b m) Tryz.f21 [.p 0 0 0, .p 1 0 0] (dfB b m)  := by kernel_rfl
end Go.Proofs.YthfhkiejcpnalaaGreat
namespace Go.Proofs.YthfhkiejcpnalaaGreat
open Go Go.RowKit
set_option linter.unusedVariables false
set_option linter.unusedSimpArgs false
set_option maxRecDepth 100000
def dfK (b : ByteArray) (m : Int) : Bool := decide (dfN b m ≤ 1000000 ∧ (dfN b m = 0 → b.size = 0)) && (List.range (dfN b m)).all (fun i => dsP b (dfA b m i) (dfM b m i) && decide (dfM b m i ≤ 1048576 ∧ ((dfO b m i).size : Int) ≤ dfM b m i ∧ dfA b m i < (b.size : Int) ∧ ((dfE b m i).1 ≠ 0 → i + 1 = dfN b m) ∧ ((dfE b m i).1 = 0 → dfA b m (i + 1) < (b.size : Int) → i + 1 < dfN b m)))
section
variable {b : ByteArray} {m : Int}
theorem dfK_of (h : dfK b m = true) : (dfN b m ≤ 1000000 ∧ (dfN b m = 0 → b.size = 0)) ∧ ∀ i, i < dfN b m → dsP b (dfA b m i) (dfM b m i) = true ∧ (dfM b m i ≤ 1048576 ∧ ((dfO b m i).size : Int) ≤ dfM b m i ∧ dfA b m i < (b.size : Int) ∧ ((dfE b m i).1 ≠ 0 → i + 1 = dfN b m) ∧ ((dfE b m i).1 = 0 → dfA b m (i + 1) < (b.size : Int) → i + 1 < dfN b m)) := by
  unfold dfK at h
  rw [Bool.and_eq_true, decide_eq_true_eq, List.all_eq_true] at h
  refine ⟨h.1, fun i hi => ?_⟩
  have := h.2 i (List.mem_range.2 hi)
  rw [Bool.and_eq_true, decide_eq_true_eq] at this
  exact this
theorem dfL_len : (dfL b m).length = dfN b m := by simp [dfL]
theorem dfL_get {i : Nat} (h : i < dfN b m) : (dfL b m)[i]? = some (dfV b m i) := by simp [dfL, h]
theorem dfIt_v (l0 : Nat) (h : dfK b m = true) : dfIt_t b m l0 := by
  obtain ⟨⟨n1, n0⟩, k⟩ := dfK_of h
  refine ⟨(), 0, ⟨Nat.zero_le _, fun h => ?_, fun j hj => absurd hj (Nat.not_lt_zero _)⟩, rfl, ⟨rfl, rfl, rfl, rfl, rfl⟩, fun i p => ⟨fun hA => ?_, fun hA => ?_⟩⟩
  · have h : (0 : Int) < (b.size : Int) := h
    by_cases hn : dfN b m = 0
    · have := n0 hn; omega
    · omega
  · obtain ⟨p1, p2, p3⟩ := p
    have hi : i < dfN b m := p2 (by simpa using hA)
    obtain ⟨q1, q2, q3, q4, q5, q6⟩ := k i hi
    refine ⟨q1, q2, q3, rfl, dfL_get hi, ⟨fun e => ?_, fun e => ⟨i + 1, ⟨hi, fun ha => q6 (by simpa using (show ((dfE b m i).1 != 0) = false from e)) ha, fun j hj => ?_⟩, rfl, ?_, rfl, ?_, rfl, rfl, rfl⟩⟩, trivial⟩
    · rw [dfL_len]
      exact q5 (by simpa using (show ((dfE b m i).1 != 0) = true from e))
    · by_cases hji : j = i
      · subst hji
        simpa using (show ((dfE b m j).1 != 0) = false from e)
      · exact p3 j (by omega)
    · show dfN b m - (i + 1) < dfN b m - i
      omega
    · rw [wr (by omega) (by omega)]; rfl
  · obtain ⟨p1, p2, p3⟩ := p
    rw [dfL_len]
    by_cases hi : i < dfN b m
    · have := (k i hi).2.2.2.1
      simp only [decide_eq_false_iff_not] at hA
      exact absurd this hA
    · omega
end
theorem dcF1_sound : Sound Tryz.prog 20 sDcF1.ctr := sDcF1.sound (by kernel_rfl) sDcF1_enc fun (a, b, m) hc => by
  have h0 := hc _ (.head _)
  have h1 := hc _ (.tail _ (.head _))
  have h2 := hc _ (.tail _ (.tail _ (.head _)))
  exact satG GDca_ok mixed Tryz.func20 (dcF1_e b a m) (dcF1_v b a m h0 h1 h2)
theorem GDcb_ok : AllOk Tryz.prog GDcb := .cons dcF1_sound <| GDca_ok
theorem dfIt_sat {b : ByteArray} {m : Int} (hk : dfK b m = true) (r : Nat → Nat) (hr : ∀ x y, x ≤ 2 → y ≤ 2 → r x = r y → x = y) :
    ISatE Tryz.prog 21 [.p (r 0) 0 0, .p (r 1) 0 0] [(r 0, .cells 9 [.v (.string b)]), (r 1, .cells 59 [.fn (.func 20) [] [.p (r 0) 0 0, .p (r 2) 0 0]]), (r 2, .cells 3 [.v (.int .i64 m)])] (dfL b m) noEnd := by
  have h0 : ISatE Tryz.prog 21 [.p 0 0 0, .p 1 0 0] (dfB b m) (dfL b m) noEnd :=
    isatE_of_vcI (Ωi := fun l0 => oDf l0 b m) GDcb_ok mixed Tryz.func21 (by kernel_rfl) fun l0 => by
      have := dfIt_v (b := b) (m := m) l0 hk
      rw [dfIt_e] at this
      exact this
  exact h0.ren r (by
    intro x y hx hy e
    simp only [dfB, List.map_cons, List.map_nil, List.mem_cons, List.not_mem_nil, or_false] at hx hy
    exact hr x y (by omega) (by omega) e) rfl rfl
def ckE (b : ByteArray) (m : Int) : Int := cond (decide ((b.size : Int) > 1048576)) 4 (cond (decide (m < 0) || decide (m > 1048576)) 2 0)
end Go.Proofs.YthfhkiejcpnalaaGreat
namespace Go.Proofs.YthfhkiejcpnalaaGreat
open Go Go.RowKit
set_option linter.unusedVariables false
set_option linter.unusedSimpArgs false
set_option maxRecDepth 100000
def sDcCk : Spec where
  ι := ByteArray × Int
  dec l H := match l with
    | [.v (.string b), .v (.int .i64 m)] => some ((b, m), [])
    | _ => none
  args := fun (b, m) => [.v (.string b), .v (.int .i64 m)]
  out := fun (b, m) => .leaf (.ag [.v (.int .i64 (ckE b m)), .v (.int .i64 0)]) []
theorem sDcCk_enc : ∀ l H n i ls, sDcCk.dec l H = some (i, ls) → l = renL (rho ls n) (sDcCk.args i) ∧ givenHp H ls = renH (rho ls n) (sDcCk.hp i) := by
  intro l H n i ls h
  simp only [sDcCk] at h
  repeat' split at h
  all_goals first
    | (cases h; done)
    | (cases h; exact ⟨rfl, rfl⟩)
def sDcFs : Spec where
  ι := ByteArray × Int
  dec l H := match l with
    | [.v (.string b), .v (.int .i64 m)] => some ((b, m), [])
    | _ => none
  args := fun (b, m) => [.v (.string b), .v (.int .i64 m)]
  out := fun (b, m) => .leaf (.fn (.func 21) [] [.p 2000 0 0, .p 2001 0 0]) [(2000, .cells 9 [.v (.string b)]), (2001, .cells 59 [.fn (.func 20) [] [.p 2000 0 0, .p 2002 0 0]]), (2002, .cells 3 [.v (.int .i64 m)])]
theorem sDcFs_enc : ∀ l H n i ls, sDcFs.dec l H = some (i, ls) → l = renL (rho ls n) (sDcFs.args i) ∧ givenHp H ls = renH (rho ls n) (sDcFs.hp i) := by
  intro l H n i ls h
  simp only [sDcFs] at h
  repeat' split at h
  all_goals first
    | (cases h; done)
    | (cases h; exact ⟨rfl, rfl⟩)
def GDcc : List (Nat × Ctr) := (14, sDcCk.ctr) :: (16, sDcFs.ctr) :: GDcb
end Go.Proofs.YthfhkiejcpnalaaGreat
namespace Go.Proofs.YthfhkiejcpnalaaGreat
open Go Go.RowKit
set_option linter.unusedVariables false
set_option maxRecDepth 100000
def dcCk_t (b : ByteArray) (m : Int) : Prop :=
 (decide ((↑(ByteArray.size b) : Int) > (1048576 : Int)) = true → (4 : Int) = ckE b m ∧ (0 : Int) = (0 : Int)) ∧
 (decide ((↑(ByteArray.size b) : Int) > (1048576 : Int)) = false →
 (decide (m < (0 : Int)) = true → (2 : Int) = ckE b m ∧ (0 : Int) = (0 : Int)) ∧
 (decide (m < (0 : Int)) = false →
 (decide (m > (1048576 : Int)) = true → (2 : Int) = ckE b m ∧ (0 : Int) = (0 : Int)) ∧ (decide (m > (1048576 : Int)) = false → (0 : Int) = ckE b m ∧ (0 : Int) = (0 : Int))))
theorem dcCk_e (b : ByteArray) (m : Int) : dcCk_t b m = vcG Tryz.prog (Gof GDcb) (fun _ => none) Tryz.f14 [.v (.string b), .v (.int .i64 m)] [] (.leaf (.ag [.v (.int .i64 (ckE b m)), .v (.int .i64 0)]) ([])) := by kernel_rfl
def dcFs_t (b : ByteArray) (m : Int) : Prop :=
 b = b ∧ m = m
theorem dcFs_e (b : ByteArray) (m : Int) : dcFs_t b m = vcG Tryz.prog (Gof GDcb) (fun _ => none) Tryz.f16 [.v (.string b), .v (.int .i64 m)] [] (.leaf (.fn (.func 21) [] [.p 2000 0 0, .p 2001 0 0]) ([(2000, .cells 9 [.v (.string b)]), (2001, .cells 59 [.fn (.func 20) [] [.p 2000 0 0, .p 2002 0 0]]), (2002, .cells 3 [.v (.int .i64 m)])])) := by kernel_rfl
end Go.Proofs.YthfhkiejcpnalaaGreat
namespace Go.Proofs.YthfhkiejcpnalaaGreat
open Go Go.RowKit
set_option linter.unusedVariables false
set_option linter.unusedSimpArgs false
set_option maxRecDepth 100000
theorem dcCk_v (b : ByteArray) (m : Int) : dcCk_t b m := by
  unfold dcCk_t ckE
  refine ⟨fun h1 => ⟨by rw [h1]; rfl, rfl⟩, fun h1 => ⟨fun h2 => ⟨by rw [h1, h2]; rfl, rfl⟩, fun h2 => ⟨fun h3 => ⟨by rw [h1, h2, h3]; rfl, rfl⟩, fun h3 => ⟨by rw [h1, h2, h3]; rfl, rfl⟩⟩⟩⟩
theorem dcCk_sound : Sound Tryz.prog 14 sDcCk.ctr := sDcCk.sound (by kernel_rfl) sDcCk_enc fun ⟨b, m⟩ hc => by
  exact satG GDcb_ok mixed Tryz.func14 (dcCk_e b m) (dcCk_v b m)
theorem dcFs_sound : Sound Tryz.prog 16 sDcFs.ctr := sDcFs.sound (by kernel_rfl) sDcFs_enc fun ⟨b, m⟩ hc => by
  exact satG GDcb_ok mixed Tryz.func16 (dcFs_e b m) (⟨rfl, rfl⟩)
theorem GDcc_ok : AllOk Tryz.prog GDcc := .cons dcCk_sound <| .cons dcFs_sound <| GDcb_ok
end Go.Proofs.YthfhkiejcpnalaaGreat
namespace Go.Proofs.YthfhkiejcpnalaaGreat
open Go Go.RowKit
set_option linter.unusedVariables false
def dpO (b : ByteArray) (m : Int) : Nat → ByteArray
  | 0 => ByteArray.empty
  | i + 1 => dpO b m i ++ dfO b m i
def dpB (b : ByteArray) (m : Int) (i : Nat) : List Int := (List.range i).map (dfA b m)
def dpK (b : ByteArray) (m : Int) : Nat := cond (decide (0 < dfN b m) && (dfE b m (dfN b m - 1)).1 != 0) (dfN b m - 1) (dfN b m)
def dpE (b : ByteArray) (m : Int) : Int × Int := cond (decide (0 < dfN b m) && (dfE b m (dfN b m - 1)).1 != 0) (dfE b m (dfN b m - 1)) (0, 0)
def dpZ (b : ByteArray) (m : Int) : Bool := (List.range (dfN b m + 1)).all fun i => decide ((dpO b m i).size ≤ 1000000000)
end Go.Proofs.YthfhkiejcpnalaaGreat
namespace Go.Proofs.YthfhkiejcpnalaaGreat
open Go Go.RowKit
set_option linter.unusedVariables false
set_option linter.unusedSimpArgs false
set_option maxRecDepth 100000
def rDp (b : ByteArray) (m : Int) : RngInv := { f := 21, cap := [.p 200016 0 0, .p 200017 0 0], hpI := [(200016, .cells 9 [.v (.string b)]), (200017, .cells 59 [.fn (.func 20) [] [.p 200016 0 0, .p 200018 0 0]]), (200018, .cells 3 [.v (.int .i64 m)])], xs := dfL b m, it := dfV b m, tm := [(4, .p 1001 0 0), (5, .p 1002 0 0), (6, .p 1003 0 0), (7, .p 1004 0 0)], hp := fun i => [(1001, .cells 9 [.v (.string (dpO b m i))]), (1002, .cells 22 [.o 5005]), (5005, .row 3 (.ints .i64 (dpB b m i))), (1003, .cells 3 [.v (.int .i64 (dfA b m i))]), (1004, .cells 25 [.v (.int .i64 0), .v (.int .i64 0)])], p := fun i => i ≤ dfN b m ∧ (∀ j, j < i → (dfE b m j).1 = 0) }
def oDp (b : ByteArray) (m : Int) : Nat → Option LoopFam := omL [(0, .rng Unit fun _ => rDp b m)]
def sDpP : Spec where
  ι := ByteArray × Int
  dec l H := match l with
    | [.v (.string b), .v (.int .i64 m)] => some ((b, m), [])
    | _ => none
  args := fun (b, m) => [.v (.string b), .v (.int .i64 m)]
  pre := fun (b, m) => [⟨dfK b m = true, inferInstance⟩, ⟨dpZ b m = true, inferInstance⟩]
  out := fun (b, m) => .leaf (.tu [.v (.string (dpO b m (dpK b m))), .o 2000, .v (.int .i64 (dfA b m (dpK b m))), .ag [.v (.int .i64 (dpE b m).1), .v (.int .i64 (dpE b m).2)]]) [(2000, .row 3 (.ints .i64 (dpB b m (dpK b m))))]
theorem sDpP_enc : ∀ l H n i ls, sDpP.dec l H = some (i, ls) → l = renL (rho ls n) (sDpP.args i) ∧ givenHp H ls = renH (rho ls n) (sDpP.hp i) := by
  intro l H n i ls h
  simp only [sDpP] at h
  repeat' split at h
  all_goals first
    | (cases h; done)
    | (cases h; exact ⟨rfl, rfl⟩)
def GDcd : List (Nat × Ctr) := (15, sDpP.ctr) :: GDcc
end Go.Proofs.YthfhkiejcpnalaaGreat
namespace Go.Proofs.YthfhkiejcpnalaaGreat
open Go Go.RowKit
set_option linter.unusedVariables false
set_option maxRecDepth 100000
def dpP_t (b : ByteArray) (m : Int) : Prop :=
 ∃ (y0 : Unit),
 (ISatE Tryz.prog ((21 : Nat)) [SV.p (200016 : Nat) (0 : Nat) (0 : Nat), SV.p (200017 : Nat) (0 : Nat) (0 : Nat)]
 [((200016 : Nat), SBlk.cells (9 : TypeId) [SV.v (Value.string b)]),
 ((200017 : Nat), SBlk.cells (59 : TypeId) [SV.fn (Fn.func (20 : FuncId)) [] [SV.p (200016 : Nat) (0 : Nat) (0 : Nat), SV.p (200018 : Nat) (0 : Nat) (0 : Nat)]]),
 ((200018 : Nat), SBlk.cells (3 : TypeId) [SV.v (Value.int IntKind.i64 m)])]
 (List.map (dfV b m) (List.range (dfN b m))) fun (x : Nat) => []) ∧
 (b = b ∧ m = m) ∧
 ((0 : Nat) ≤ dfN b m ∧ ∀ (j1 : Nat), j1 < (0 : Nat) → (dfE b m j1).fst = (0 : Int)) ∧
 (ByteArray.empty = dpO b m (0 : Nat) ∧ (0 : Nat) = (0 : Nat) ∧ (0 : Int) = dfA b m (0 : Nat) ∧ (0 : Int) = (0 : Int) ∧ (0 : Int) = (0 : Int)) ∧
 (∀ (i2 : Nat),
 i2 < List.length (List.map (dfV b m) (List.range (dfN b m))) →
 (i2 ≤ dfN b m ∧ ∀ (j3 : Nat), j3 < i2 → (dfE b m j3).fst = (0 : Int)) →
 (List.map (dfV b m) (List.range (dfN b m)))[i2]? =
 some
 [Value.int IntKind.i64 (↑i2 : Int),
 Value.agg
 #[Value.int IntKind.i64 (dfA b m i2), Value.int IntKind.i64 (dfA b m (i2 + (1 : Nat))), Value.string (dfO b m i2), Value.int IntKind.i64 (dfE b m i2).fst,
 Value.int IntKind.i64 (dfE b m i2).snd]] ∧
 List.length
 [Value.int IntKind.i64 (↑i2 : Int),
 Value.agg
 #[Value.int IntKind.i64 (dfA b m i2), Value.int IntKind.i64 (dfA b m (i2 + (1 : Nat))), Value.string (dfO b m i2), Value.int IntKind.i64 (dfE b m i2).fst,
 Value.int IntKind.i64 (dfE b m i2).snd]] =
 List.length #[(13 : Nat), (14 : Nat)].toList ∧
 (((dfE b m i2).fst != (0 : Int)) = true →
 dpO b m i2 = dpO b m (dpK b m) ∧ dfA b m i2 = dfA b m (dpK b m) ∧ (dfE b m i2).fst = (dpE b m).fst ∧ (dfE b m i2).snd = (dpE b m).snd ∧ dpB b m i2 = dpB b m (dpK b m)) ∧
 (((dfE b m i2).fst != (0 : Int)) = false →
 ByteArray.size (dpO b m i2) + ByteArray.size (dfO b m i2) ≤ (9223372036854775807 : Nat) ∧
 (List.length (dpB b m i2) + (1 : Nat)) * (8 : Nat) ≤ (140737488355328 : Nat) ∧
 (i2 + (1 : Nat) ≤ dfN b m ∧ ∀ (j4 : Nat), j4 < i2 + (1 : Nat) → (dfE b m j4).fst = (0 : Int)) ∧
 dpO b m i2 ++ dfO b m i2 = dpO b m (i2 + (1 : Nat)) ∧
 dpB b m i2 ++ [dfA b m i2] = dpB b m (i2 + (1 : Nat)) ∧ dfA b m (i2 + (1 : Nat)) = dfA b m (i2 + (1 : Nat)) ∧ (0 : Int) = (0 : Int) ∧ (0 : Int) = (0 : Int))) ∧
 ((List.length (List.map (dfV b m) (List.range (dfN b m))) ≤ dfN b m ∧ ∀ (j5 : Nat), j5 < List.length (List.map (dfV b m) (List.range (dfN b m))) → (dfE b m j5).fst = (0 : Int)) →
 dpO b m (List.length (List.map (dfV b m) (List.range (dfN b m)))) = dpO b m (dpK b m) ∧
 dfA b m (List.length (List.map (dfV b m) (List.range (dfN b m)))) = dfA b m (dpK b m) ∧
 (0 : Int) = (dpE b m).fst ∧ (0 : Int) = (dpE b m).snd ∧ dpB b m (List.length (List.map (dfV b m) (List.range (dfN b m)))) = dpB b m (dpK b m))
theorem dpP_e (b : ByteArray) (m : Int) : dpP_t b m = vcG Tryz.prog (Gof GDcc) (oDp b m) Tryz.f15 [.v (.string b), .v (.int .i64 m)] [] (.leaf (.tu [.v (.string (dpO b m (dpK b m))), .o 2000, .v (.int .i64 (dfA b m (dpK b m))), .ag [.v (.int .i64 (dpE b m).1), .v (.int .i64 (dpE b m).2)]]) ([(2000, .row 3 (.ints .i64 (dpB b m (dpK b m))))])) := by kernel_rfl
end Go.Proofs.YthfhkiejcpnalaaGreat
namespace Go.Proofs.YthfhkiejcpnalaaGreat
open Go Go.RowKit
set_option linter.unusedVariables false
set_option linter.unusedSimpArgs false
set_option maxRecDepth 100000
section
variable {b : ByteArray} {m : Int}
def rD (i : Nat) : Nat := 200016 + i
theorem dp_at (hk : dfK b m = true) {i : Nat} (hi : i < dfN b m) (he : (dfE b m i).1 ≠ 0) : dpK b m = i ∧ dpE b m = dfE b m i := by
  have h1 := ((dfK_of hk).2 i hi).2.2.2.2.1 he
  have h2 : dfN b m - 1 = i := by omega
  have h3 : (decide (0 < dfN b m) && (dfE b m (dfN b m - 1)).1 != 0) = true := by
    rw [h2]
    simp [he]
    omega
  unfold dpK dpE
  rw [h3, h2]
  exact ⟨rfl, rfl⟩
theorem dp_n (h : ∀ j, j < dfN b m → (dfE b m j).1 = 0) : dpK b m = dfN b m ∧ dpE b m = (0, 0) := by
  have h3 : (decide (0 < dfN b m) && (dfE b m (dfN b m - 1)).1 != 0) = false := by
    by_cases hn : 0 < dfN b m
    · rw [h (dfN b m - 1) (by omega)]
      simp
    · simp [hn]
  unfold dpK dpE
  rw [h3]
  exact ⟨rfl, rfl⟩
theorem dpP_v (hk : dfK b m = true) (hz : ∀ i, i ≤ dfN b m → (dpO b m i).size ≤ 1000000000) : dpP_t b m := by
  have hl : List.length (List.map (dfV b m) (List.range (dfN b m))) = dfN b m := by simp
  have hN := (dfK_of hk).1.1
  refine ⟨(), dfIt_sat hk rD (fun x y _ _ e => by unfold rD at e; omega), ⟨rfl, rfl⟩, ⟨Nat.zero_le _, fun j hj => absurd hj (Nat.not_lt_zero _)⟩, ⟨rfl, rfl, rfl, rfl, rfl⟩, fun i hi hp => ?_, fun hp => ?_⟩
  · rw [hl] at hi
    obtain ⟨p1, p2⟩ := hp
    refine ⟨dfL_get hi, rfl, fun e => ?_, fun e => ?_⟩
    · obtain ⟨e1, e2⟩ := dp_at hk hi (by simpa using e)
      rw [e1, e2]
      exact ⟨rfl, rfl, rfl, rfl, rfl⟩
    · have q := ((dfK_of hk).2 i hi).2
      have z := hz i p1
      refine ⟨by omega, by simp [dpB]; omega, ⟨hi, fun j hj => ?_⟩, rfl, ?_, rfl, rfl, rfl⟩
      · by_cases h : j = i
        · subst h; simpa using e
        · exact p2 j (by omega)
      · simp [dpB, List.range_succ]
  · rw [hl] at hp ⊢
    obtain ⟨e1, e2⟩ := dp_n hp.2
    rw [e1, e2]
    exact ⟨rfl, rfl, rfl, rfl, rfl⟩
end
theorem dpZ_of {b : ByteArray} {m : Int} (h : dpZ b m = true) : ∀ i, i ≤ dfN b m → (dpO b m i).size ≤ 1000000000 := fun i hi => by
  unfold dpZ at h
  rw [List.all_eq_true] at h
  simpa using h i (List.mem_range.2 (by omega))
theorem dpP_sound : Sound Tryz.prog 15 sDpP.ctr := sDpP.sound (by kernel_rfl) sDpP_enc fun ⟨b, m⟩ hc => by
  have h0 := hc _ (.head _)
  have h1 := hc _ (.tail _ (.head _))
  exact satG GDcc_ok mixed Tryz.func15 (dpP_e b m) (dpP_v h0 (dpZ_of h1))
theorem GDcd_ok : AllOk Tryz.prog GDcd := .cons dpP_sound <| GDcc_ok
end Go.Proofs.YthfhkiejcpnalaaGreat
namespace Go.Proofs.YthfhkiejcpnalaaGreat
open Go Go.RowKit
set_option linter.unusedVariables false
def dcE (b : ByteArray) (m : Int) : Int × Int := cond (ckE b m == 0) (dpE b m) (ckE b m, 0)
def dcO (b : ByteArray) (m : Int) : ByteArray := cond ((dcE b m).1 == 0) (dpO b m (dpK b m)) ByteArray.empty
def dgO (b : ByteArray) (m n : Int) : ByteArray := cond (decide (n < (dpK b m : Nat))) (dfO b m n.toNat) ByteArray.empty
def dgE (b : ByteArray) (m n : Int) : Int × Int := cond (decide (n < (dpK b m : Nat))) (0, 0) (cond ((dpE b m).1 == 0) (2, 0) (dpE b m))
def dzA (b : ByteArray) : Nat → Int
  | 0 => 0
  | i + 1 => skX b (dzA b i)
def dzC (b : ByteArray) : Nat → Nat → Nat
  | 0, i => i
  | k + 1, i => cond (decide (dzA b i < (b.size : Int)) && dsS b (dzA b i)) (dzC b k (i + 1)) i
def dzN (b : ByteArray) : Nat := dzC b (b.size + 1) 0
def dzL (b : ByteArray) : List Int := cond (decide (dzA b (dzN b) < (b.size : Int))) (List.replicate (dzN b) 0 ++ [hhS b (dzA b (dzN b))]) (List.replicate (dzN b) 0)
def dzP (b : ByteArray) (a : Int) : Bool := decide (0 ≤ a ∧ a ≤ (b.size : Int) ∧ ((b.size : Int) - a ≥ 4 ∨ (b.size : Int) - a ≤ 1))
def dzK (b : ByteArray) : Bool := decide (b.size ≤ 1000000 ∧ dzN b ≤ 1000000) && ((List.range (dzN b)).all (fun i => dzP b (dzA b i) && (dsS b (dzA b i) && (skOk b (dzA b i) && decide (dzA b i < (b.size : Int))))) && (decide ((b.size : Int) ≤ dzA b (dzN b)) || (decide (dzA b (dzN b) < (b.size : Int)) && (dzP b (dzA b (dzN b)) && (!dsS b (dzA b (dzN b)) && (hdE b (dzA b (dzN b))).1 == 0)))))
def eqI (a b : List Int) : Bool := a == b
end Go.Proofs.YthfhkiejcpnalaaGreat
namespace Go.Proofs.YthfhkiejcpnalaaGreat
open Go Go.RowKit
set_option linter.unusedVariables false
set_option linter.unusedSimpArgs false
set_option maxRecDepth 100000
def rDg (b : ByteArray) (m n : Int) : RngInv := { f := 21, cap := [.p 700016 0 0, .p 700017 0 0], hpI := [(700016, .cells 9 [.v (.string b)]), (700017, .cells 59 [.fn (.func 20) [] [.p 700016 0 0, .p 700018 0 0]]), (700018, .cells 3 [.v (.int .i64 m)])], xs := dfL b m, it := dfV b m, tm := [(4, .p 1001 0 0), (6, .p 1002 0 0), (7, .p 1003 0 0)], hp := fun i => [(1001, .cells 3 [.v (.int .i64 n)]), (1002, .cells 9 [.v (.string ByteArray.empty)]), (1003, .cells 25 [.v (.int .i64 0), .v (.int .i64 0)])], p := fun i => (i : Int) ≤ n ∧ i ≤ dfN b m ∧ (∀ j, j < i → (dfE b m j).1 = 0) }
def oDg (b : ByteArray) (m n : Int) : Nat → Option LoopFam := omL [(0, .rng Unit fun _ => rDg b m n)]
def sDcDe : Spec where
  ι := ByteArray × Int
  dec l H := match l with
    | [.v (.string b), .v (.int .i64 m)] => some ((b, m), [])
    | _ => none
  args := fun (b, m) => [.v (.string b), .v (.int .i64 m)]
  pre := fun (b, m) => [⟨ckE b m = 0 → dfK b m = true ∧ dpZ b m = true, inferInstance⟩]
  out := fun (b, m) => .leaf (.tu [.v (.string (dcO b m)), .ag [.v (.int .i64 (dcE b m).1), .v (.int .i64 (dcE b m).2)]]) []
theorem sDcDe_enc : ∀ l H n i ls, sDcDe.dec l H = some (i, ls) → l = renL (rho ls n) (sDcDe.args i) ∧ givenHp H ls = renH (rho ls n) (sDcDe.hp i) := by
  intro l H n i ls h
  simp only [sDcDe] at h
  repeat' split at h
  all_goals first
    | (cases h; done)
    | (cases h; exact ⟨rfl, rfl⟩)
def sDcLn : Spec where
  ι := ByteArray × Int
  dec l H := match l with
    | [.v (.string b), .v (.int .i64 m)] => some ((b, m), [])
    | _ => none
  args := fun (b, m) => [.v (.string b), .v (.int .i64 m)]
  pre := fun (b, m) => [⟨ckE b m = 0 → dfK b m = true ∧ dpZ b m = true, inferInstance⟩]
  out := fun (b, m) => .leaf (.tu [.v (.int .i64 ((dcO b m).size : Int)), .ag [.v (.int .i64 (dcE b m).1), .v (.int .i64 (dcE b m).2)]]) []
theorem sDcLn_enc : ∀ l H n i ls, sDcLn.dec l H = some (i, ls) → l = renL (rho ls n) (sDcLn.args i) ∧ givenHp H ls = renH (rho ls n) (sDcLn.hp i) := by
  intro l H n i ls h
  simp only [sDcLn] at h
  repeat' split at h
  all_goals first
    | (cases h; done)
    | (cases h; exact ⟨rfl, rfl⟩)
def sDcFm : Spec where
  ι := ByteArray × Int
  dec l H := match l with
    | [.v (.string b), .v (.int .i64 m)] => some ((b, m), [])
    | _ => none
  args := fun (b, m) => [.v (.string b), .v (.int .i64 m)]
  pre := fun (b, m) => [⟨ckE b m = 0, inferInstance⟩, ⟨dfK b m = true, inferInstance⟩, ⟨dpZ b m = true, inferInstance⟩, ⟨(dpE b m).1 = 0, inferInstance⟩]
  out := fun (b, m) => .leaf (.tu [.o 2000, .ag [.v (.int .i64 0), .v (.int .i64 0)]]) [(2000, .row 3 (.ints .i64 (dpB b m (dpK b m))))]
theorem sDcFm_enc : ∀ l H n i ls, sDcFm.dec l H = some (i, ls) → l = renL (rho ls n) (sDcFm.args i) ∧ givenHp H ls = renH (rho ls n) (sDcFm.hp i) := by
  intro l H n i ls h
  simp only [sDcFm] at h
  repeat' split at h
  all_goals first
    | (cases h; done)
    | (cases h; exact ⟨rfl, rfl⟩)
def sDcFr : Spec where
  ι := ByteArray × Int × Int
  dec l H := match l with
    | [.v (.string b), .v (.int .i64 n), .v (.int .i64 m)] => some ((b, n, m), [])
    | _ => none
  args := fun (b, n, m) => [.v (.string b), .v (.int .i64 n), .v (.int .i64 m)]
  pre := fun (b, n, m) => [⟨ckE b m = 0, inferInstance⟩, ⟨dfK b m = true, inferInstance⟩, ⟨0 ≤ n, inferInstance⟩]
  out := fun (b, n, m) => .leaf (.tu [.v (.string (dgO b m n)), .ag [.v (.int .i64 (dgE b m n).1), .v (.int .i64 (dgE b m n).2)]]) []
theorem sDcFr_enc : ∀ l H n i ls, sDcFr.dec l H = some (i, ls) → l = renL (rho ls n) (sDcFr.args i) ∧ givenHp H ls = renH (rho ls n) (sDcFr.hp i) := by
  intro l H n i ls h
  simp only [sDcFr] at h
  repeat' split at h
  all_goals first
    | (cases h; done)
    | (cases h; exact ⟨rfl, rfl⟩)
def sDcPt : Spec where
  ι := ByteArray × Int
  dec l H := match l with
    | [.v (.string b), .v (.int .i64 m)] => some ((b, m), [])
    | _ => none
  args := fun (b, m) => [.v (.string b), .v (.int .i64 m)]
  pre := fun (b, m) => [⟨ckE b m = 0, inferInstance⟩, ⟨dfK b m = true, inferInstance⟩, ⟨dpZ b m = true, inferInstance⟩]
  out := fun (b, m) => .leaf (.tu [.v (.string (dpO b m (dpK b m))), .v (.int .i64 (dfA b m (dpK b m))), .ag [.v (.int .i64 (dpE b m).1), .v (.int .i64 (dpE b m).2)]]) []
theorem sDcPt_enc : ∀ l H n i ls, sDcPt.dec l H = some (i, ls) → l = renL (rho ls n) (sDcPt.args i) ∧ givenHp H ls = renH (rho ls n) (sDcPt.hp i) := by
  intro l H n i ls h
  simp only [sDcPt] at h
  repeat' split at h
  all_goals first
    | (cases h; done)
    | (cases h; exact ⟨rfl, rfl⟩)
def GDce : List (Nat × Ctr) := (9, sDcDe.ctr) :: GDcd
def GDcf : List (Nat × Ctr) := (5, sDcLn.ctr) :: (4, sDcFm.ctr) :: (6, sDcFr.ctr) :: (8, sDcPt.ctr) :: GDce
end Go.Proofs.YthfhkiejcpnalaaGreat
namespace Go.Proofs.YthfhkiejcpnalaaGreat
open Go Go.RowKit
set_option linter.unusedVariables false
set_option maxRecDepth 100000
def dcDe_t (b : ByteArray) (m : Int) : Prop :=
 ((ckE b m != (0 : Int)) = true → ByteArray.empty = dcO b m ∧ ckE b m = (dcE b m).fst ∧ (0 : Int) = (dcE b m).snd) ∧
 ((ckE b m != (0 : Int)) = false →
 dfK b m = true ∧
 dpZ b m = true ∧
 (((dpE b m).fst != (0 : Int)) = true → ByteArray.empty = dcO b m ∧ (dpE b m).fst = (dcE b m).fst ∧ (dpE b m).snd = (dcE b m).snd) ∧
 (((dpE b m).fst != (0 : Int)) = false → dpO b m (dpK b m) = dcO b m ∧ (0 : Int) = (dcE b m).fst ∧ (0 : Int) = (dcE b m).snd))
theorem dcDe_e (b : ByteArray) (m : Int) : dcDe_t b m = vcG Tryz.prog (Gof GDcd) (fun _ => none) Tryz.f9 [.v (.string b), .v (.int .i64 m)] [] (.leaf (.tu [.v (.string (dcO b m)), .ag [.v (.int .i64 (dcE b m).1), .v (.int .i64 (dcE b m).2)]]) ([])) := by kernel_rfl
def dcLn_t (b : ByteArray) (m : Int) : Prop :=
 (ckE b m = (0 : Int) → dfK b m = true ∧ dpZ b m = true) ∧ (↑(ByteArray.size (dcO b m)) : Int) = (↑(ByteArray.size (dcO b m)) : Int) ∧ (dcE b m).fst = (dcE b m).fst ∧ (dcE b m).snd = (dcE b m).snd
theorem dcLn_e (b : ByteArray) (m : Int) : dcLn_t b m = vcG Tryz.prog (Gof GDce) (fun _ => none) Tryz.f5 [.v (.string b), .v (.int .i64 m)] [] (.leaf (.tu [.v (.int .i64 ((dcO b m).size : Int)), .ag [.v (.int .i64 (dcE b m).1), .v (.int .i64 (dcE b m).2)]]) ([])) := by kernel_rfl
def dcFm_t (b : ByteArray) (m : Int) : Prop :=
 ((ckE b m != (0 : Int)) = true → ckE b m = (0 : Int) ∧ (0 : Int) = (0 : Int) ∧ List.length (dpB b m (dpK b m)) = (0 : Nat)) ∧
 ((ckE b m != (0 : Int)) = false →
 dfK b m = true ∧
 dpZ b m = true ∧
 (((dpE b m).fst != (0 : Int)) = true → (dpE b m).fst = (0 : Int) ∧ (dpE b m).snd = (0 : Int) ∧ List.length (dpB b m (dpK b m)) = (0 : Nat)) ∧
 (((dpE b m).fst != (0 : Int)) = false → (0 : Int) = (0 : Int) ∧ (0 : Int) = (0 : Int) ∧ dpB b m (dpK b m) = dpB b m (dpK b m)))
theorem dcFm_e (b : ByteArray) (m : Int) : dcFm_t b m = vcG Tryz.prog (Gof GDce) (fun _ => none) Tryz.f4 [.v (.string b), .v (.int .i64 m)] [] (.leaf (.tu [.o 2000, .ag [.v (.int .i64 0), .v (.int .i64 0)]]) ([(2000, .row 3 (.ints .i64 (dpB b m (dpK b m))))])) := by kernel_rfl
def dcFr_t (b : ByteArray) (n m : Int) : Prop :=
 ((ckE b m != (0 : Int)) = true → ByteArray.empty = dgO b m n ∧ ckE b m = (dgE b m n).fst ∧ (0 : Int) = (dgE b m n).snd) ∧
 ((ckE b m != (0 : Int)) = false →
 (decide (n < (0 : Int)) = true → ByteArray.empty = dgO b m n ∧ (2 : Int) = (dgE b m n).fst ∧ (0 : Int) = (dgE b m n).snd) ∧
 (decide (n < (0 : Int)) = false →
 ∃ (y0 : Unit),
 (ISatE Tryz.prog ((21 : Nat)) [SV.p (700016 : Nat) (0 : Nat) (0 : Nat), SV.p (700017 : Nat) (0 : Nat) (0 : Nat)]
 [((700016 : Nat), SBlk.cells (9 : TypeId) [SV.v (Value.string b)]),
 ((700017 : Nat), SBlk.cells (59 : TypeId) [SV.fn (Fn.func (20 : FuncId)) [] [SV.p (700016 : Nat) (0 : Nat) (0 : Nat), SV.p (700018 : Nat) (0 : Nat) (0 : Nat)]]),
 ((700018 : Nat), SBlk.cells (3 : TypeId) [SV.v (Value.int IntKind.i64 m)])]
 (List.map (dfV b m) (List.range (dfN b m))) fun (x : Nat) => []) ∧
 (b = b ∧ m = m) ∧
 ((↑(0 : Nat) : Int) ≤ n ∧ (0 : Nat) ≤ dfN b m ∧ ∀ (j1 : Nat), j1 < (0 : Nat) → (dfE b m j1).fst = (0 : Int)) ∧
 (n = n ∧ ByteArray.empty = ByteArray.empty ∧ (0 : Int) = (0 : Int) ∧ (0 : Int) = (0 : Int)) ∧
 (∀ (i2 : Nat),
 i2 < List.length (List.map (dfV b m) (List.range (dfN b m))) →
 ((↑i2 : Int) ≤ n ∧ i2 ≤ dfN b m ∧ ∀ (j3 : Nat), j3 < i2 → (dfE b m j3).fst = (0 : Int)) →
 (List.map (dfV b m) (List.range (dfN b m)))[i2]? =
 some
 [Value.int IntKind.i64 (↑i2 : Int),
 Value.agg
 #[Value.int IntKind.i64 (dfA b m i2), Value.int IntKind.i64 (dfA b m (i2 + (1 : Nat))), Value.string (dfO b m i2), Value.int IntKind.i64 (dfE b m i2).fst,
 Value.int IntKind.i64 (dfE b m i2).snd]] ∧
 List.length
 [Value.int IntKind.i64 (↑i2 : Int),
 Value.agg
 #[Value.int IntKind.i64 (dfA b m i2), Value.int IntKind.i64 (dfA b m (i2 + (1 : Nat))), Value.string (dfO b m i2), Value.int IntKind.i64 (dfE b m i2).fst,
 Value.int IntKind.i64 (dfE b m i2).snd]] =
 List.length #[(24 : Nat), (25 : Nat)].toList ∧
 (((dfE b m i2).fst != (0 : Int)) = true → ByteArray.empty = dgO b m n ∧ (dfE b m i2).fst = (dgE b m n).fst ∧ (dfE b m i2).snd = (dgE b m n).snd) ∧
 (((dfE b m i2).fst != (0 : Int)) = false →
 (((↑i2 : Int) == n) = true → dfO b m i2 = dgO b m n ∧ (0 : Int) = (dgE b m n).fst ∧ (0 : Int) = (dgE b m n).snd) ∧
 (((↑i2 : Int) == n) = false →
 ((↑(i2 + (1 : Nat)) : Int) ≤ n ∧ i2 + (1 : Nat) ≤ dfN b m ∧ ∀ (j4 : Nat), j4 < i2 + (1 : Nat) → (dfE b m j4).fst = (0 : Int)) ∧
 n = n ∧ ByteArray.empty = ByteArray.empty ∧ (0 : Int) = (0 : Int) ∧ (0 : Int) = (0 : Int)))) ∧
 (((↑(List.length (List.map (dfV b m) (List.range (dfN b m)))) : Int) ≤ n ∧
 List.length (List.map (dfV b m) (List.range (dfN b m))) ≤ dfN b m ∧ ∀ (j5 : Nat), j5 < List.length (List.map (dfV b m) (List.range (dfN b m))) → (dfE b m j5).fst = (0 : Int)) →
 ByteArray.empty = dgO b m n ∧ (2 : Int) = (dgE b m n).fst ∧ (0 : Int) = (dgE b m n).snd)))
theorem dcFr_e (b : ByteArray) (n m : Int) : dcFr_t b n m = vcG Tryz.prog (Gof GDce) (oDg b m n) Tryz.f6 [.v (.string b), .v (.int .i64 n), .v (.int .i64 m)] [] (.leaf (.tu [.v (.string (dgO b m n)), .ag [.v (.int .i64 (dgE b m n).1), .v (.int .i64 (dgE b m n).2)]]) ([])) := by kernel_rfl
def dcPt_t (b : ByteArray) (m : Int) : Prop :=
 ((ckE b m != (0 : Int)) = true → ByteArray.empty = dpO b m (dpK b m) ∧ (0 : Int) = dfA b m (dpK b m) ∧ ckE b m = (dpE b m).fst ∧ (0 : Int) = (dpE b m).snd) ∧
 ((ckE b m != (0 : Int)) = false →
 dfK b m = true ∧ dpZ b m = true ∧ dpO b m (dpK b m) = dpO b m (dpK b m) ∧ dfA b m (dpK b m) = dfA b m (dpK b m) ∧ (dpE b m).fst = (dpE b m).fst ∧ (dpE b m).snd = (dpE b m).snd)
theorem dcPt_e (b : ByteArray) (m : Int) : dcPt_t b m = vcG Tryz.prog (Gof GDce) (fun _ => none) Tryz.f8 [.v (.string b), .v (.int .i64 m)] [] (.leaf (.tu [.v (.string (dpO b m (dpK b m))), .v (.int .i64 (dfA b m (dpK b m))), .ag [.v (.int .i64 (dpE b m).1), .v (.int .i64 (dpE b m).2)]]) ([])) := by kernel_rfl
end Go.Proofs.YthfhkiejcpnalaaGreat
namespace Go.Proofs.YthfhkiejcpnalaaGreat
open Go Go.RowKit
set_option linter.unusedVariables false
set_option linter.unusedSimpArgs false
set_option maxRecDepth 100000
section
variable {b : ByteArray} {m : Int}
theorem dpE0 (h : (dpE b m).1 = 0) : dpE b m = (0, 0) := by
  unfold dpE at h ⊢
  revert h
  generalize hc : (decide (0 < dfN b m) && (dfE b m (dfN b m - 1)).1 != 0) = c
  cases c
  · intro _; rfl
  · intro h
    simp only [Bool.and_eq_true, bne_iff_ne] at hc
    exact absurd h hc.2
theorem dcDe_v (h : ckE b m = 0 → dfK b m = true ∧ dpZ b m = true) : dcDe_t b m := by
  refine ⟨fun e => ?_, fun e => ?_⟩
  · have e' : (ckE b m == 0) = false := by simpa using e
    have h2 : dcE b m = (ckE b m, 0) := by unfold dcE; rw [e']; rfl
    have h3 : dcO b m = ByteArray.empty := by unfold dcO; rw [h2]; show cond (ckE b m == 0) _ _ = _; rw [e']; rfl
    rw [h2, h3]
    exact ⟨rfl, rfl, rfl⟩
  · have e' : (ckE b m == 0) = true := by simpa using e
    have h2 : dcE b m = dpE b m := by unfold dcE; rw [e']; rfl
    obtain ⟨k1, k2⟩ := h (by simpa using e')
    refine ⟨k1, k2, fun d => ?_, fun d => ?_⟩
    · have d' : ((dpE b m).1 == 0) = false := by simpa using d
      have h3 : dcO b m = ByteArray.empty := by unfold dcO; rw [h2, d']; rfl
      rw [h3, h2]
      exact ⟨rfl, rfl, rfl⟩
    · have d' : ((dpE b m).1 == 0) = true := by simpa using d
      have h3 : dcO b m = dpO b m (dpK b m) := by unfold dcO; rw [h2, d']; rfl
      have z := dpE0 (b := b) (m := m) (by simpa using d')
      rw [h3, h2, z]
      exact ⟨rfl, rfl, rfl⟩
theorem dcFm_v (h : ckE b m = 0) (hk : dfK b m = true) (hz : dpZ b m = true) (he : (dpE b m).1 = 0) : dcFm_t b m := by
  refine ⟨fun e => ?_, fun e => ⟨hk, hz, fun d => ?_, fun d => ⟨rfl, rfl, rfl⟩⟩⟩
  · rw [h] at e; cases e
  · rw [he] at d; cases d
theorem dg_bad {n : Int} (hk : dfK b m = true) {i : Nat} (hi : i < dfN b m) (hn : (i : Int) ≤ n) (he : (dfE b m i).1 ≠ 0) : dgO b m n = ByteArray.empty ∧ dgE b m n = dfE b m i := by
  obtain ⟨e1, e2⟩ := dp_at hk hi he
  have d : decide (n < (dpK b m : Nat)) = false := by rw [e1]; simpa using hn
  have d2 : ((dpE b m).1 == 0) = false := by rw [e2]; simpa using he
  unfold dgO dgE
  rw [d, d2, e2]
  exact ⟨rfl, rfl⟩
theorem dp_gt {i : Nat} (hk : dfK b m = true) (hi : i < dfN b m) (he : (dfE b m i).1 = 0) : i < dpK b m := by
  unfold dpK
  generalize hc : (decide (0 < dfN b m) && (dfE b m (dfN b m - 1)).1 != 0) = c
  cases c
  · show i < dfN b m; omega
  · show i < dfN b m - 1
    simp only [Bool.and_eq_true, bne_iff_ne] at hc
    by_cases e : i = dfN b m - 1
    · rw [← e] at hc; exact absurd he hc.2
    · omega
theorem dcFr_v (n : Int) (h : ckE b m = 0) (hk : dfK b m = true) (h0 : 0 ≤ n) : dcFr_t b n m := by
  have hl : List.length (List.map (dfV b m) (List.range (dfN b m))) = dfN b m := by simp
  refine ⟨fun e => ?_, fun e => ⟨fun d => ?_, fun d => ⟨(), dfIt_sat hk (fun i => 700016 + i) (fun x y _ _ e => by (have e : 700016 + x = 700016 + y := e); omega), ⟨rfl, rfl⟩, ⟨h0, Nat.zero_le _, fun j hj => absurd hj (Nat.not_lt_zero _)⟩, ⟨rfl, rfl, rfl, rfl⟩, fun i hi hp => ?_, fun hp => ?_⟩⟩⟩
  · rw [h] at e; cases e
  · simp only [decide_eq_true_eq] at d; omega
  · rw [hl] at hi
    obtain ⟨p1, p2, p3⟩ := hp
    refine ⟨dfL_get hi, rfl, fun e => ?_, fun e => ⟨fun d => ?_, fun d => ⟨⟨?_, hi, fun j hj => ?_⟩, rfl, rfl, rfl, rfl⟩⟩⟩
    · obtain ⟨e1, e2⟩ := dg_bad hk hi p1 (by simpa using e)
      rw [e1, e2]
      exact ⟨rfl, rfl, rfl⟩
    · have e0 : (dfE b m i).1 = 0 := by simpa using e
      have g := dp_gt hk hi e0
      have hn : (i : Int) = n := by simpa using d
      have d1 : decide (n < (dpK b m : Nat)) = true := by simp; omega
      have d2 : n.toNat = i := by omega
      unfold dgO dgE
      rw [d1, d2]
      exact ⟨rfl, rfl, rfl⟩
    · have hn : (i : Int) ≠ n := by simpa using d
      omega
    · by_cases hji : j = i
      · subst hji; simpa using e
      · exact p3 j (by omega)
  · rw [hl] at hp
    obtain ⟨p1, p2, p3⟩ := hp
    obtain ⟨e1, e2⟩ := dp_n p3
    have d1 : decide (n < (dpK b m : Nat)) = false := by rw [e1]; simpa using p1
    unfold dgO dgE
    rw [d1, e2]
    exact ⟨rfl, rfl, rfl⟩
theorem dcPt_v (h : ckE b m = 0) (hk : dfK b m = true) (hz : dpZ b m = true) : dcPt_t b m := by
  refine ⟨fun e => ?_, fun e => ⟨hk, hz, rfl, rfl, rfl, rfl⟩⟩
  rw [h] at e; cases e
end
theorem dcDe_sound : Sound Tryz.prog 9 sDcDe.ctr := sDcDe.sound (by kernel_rfl) sDcDe_enc fun ⟨b, m⟩ hc => by
  have h0 := hc _ (.head _)
  exact satG GDcd_ok mixed Tryz.func9 (dcDe_e b m) (dcDe_v h0)
theorem GDce_ok : AllOk Tryz.prog GDce := .cons dcDe_sound <| GDcd_ok
theorem dcLn_sound : Sound Tryz.prog 5 sDcLn.ctr := sDcLn.sound (by kernel_rfl) sDcLn_enc fun ⟨b, m⟩ hc => by
  have h0 := hc _ (.head _)
  exact satG GDce_ok mixed Tryz.func5 (dcLn_e b m) (⟨h0, rfl, rfl, rfl⟩)
theorem dcFm_sound : Sound Tryz.prog 4 sDcFm.ctr := sDcFm.sound (by kernel_rfl) sDcFm_enc fun ⟨b, m⟩ hc => by
  have h0 := hc _ (.head _)
  have h1 := hc _ (.tail _ (.head _))
  have h2 := hc _ (.tail _ (.tail _ (.head _)))
  have h3 := hc _ (.tail _ (.tail _ (.tail _ (.head _))))
  exact satG GDce_ok mixed Tryz.func4 (dcFm_e b m) (dcFm_v h0 h1 h2 h3)
theorem dcFr_sound : Sound Tryz.prog 6 sDcFr.ctr := sDcFr.sound (by kernel_rfl) sDcFr_enc fun ⟨b, n, m⟩ hc => by
  have h0 := hc _ (.head _)
  have h1 := hc _ (.tail _ (.head _))
  have h2 := hc _ (.tail _ (.tail _ (.head _)))
  exact satG GDce_ok mixed Tryz.func6 (dcFr_e b n m) (dcFr_v n h0 h1 h2)
theorem dcPt_sound : Sound Tryz.prog 8 sDcPt.ctr := sDcPt.sound (by kernel_rfl) sDcPt_enc fun ⟨b, m⟩ hc => by
  have h0 := hc _ (.head _)
  have h1 := hc _ (.tail _ (.head _))
  have h2 := hc _ (.tail _ (.tail _ (.head _)))
  exact satG GDce_ok mixed Tryz.func8 (dcPt_e b m) (dcPt_v h0 h1 h2)
theorem GDcf_ok : AllOk Tryz.prog GDcf := .cons dcLn_sound <| .cons dcFm_sound <| .cons dcFr_sound <| .cons dcPt_sound <| GDce_ok
end Go.Proofs.YthfhkiejcpnalaaGreat
namespace Go.Proofs.YthfhkiejcpnalaaGreat
open Go Go.RowKit
set_option linter.unusedVariables false
set_option linter.unusedSimpArgs false
set_option maxRecDepth 100000
def oDz (b : ByteArray) : Nat → Option LoopFam := omL [(0, .one { ι := Nat, p := fun i => i ≤ dzN b, tm := fun i => [(0, .v (.string b)), (3, .p 1001 0 0), (5, .o 5005), (6, .v (.int .i64 (dzA b i)))], hp := fun i => [(1001, .cells 25 [.v (.int .i64 0), .v (.int .i64 0)]), (5005, .row 3 (.ints .i64 (List.replicate i 0)))], μ := fun i => dzN b - i })]
def oEq (a b : List Int) : Nat → Option LoopFam := omL [(0, .one { ι := Nat, p := fun i => i ≤ a.length ∧ a.take i = b.take i, tm := fun i => [(0, .dat (.ints .i64 a)), (1, .dat (.ints .i64 b)), (5, .v (.int .i64 (i : Nat)))], hp := fun _ => [], μ := fun i => a.length - i })]
def sDcSz : Spec where
  ι := ByteArray
  dec l H := match l with
    | [.v (.string b)] => some (b, [])
    | _ => none
  args := fun b => [.v (.string b)]
  pre := fun b => [⟨dzK b = true, inferInstance⟩, ⟨ckE b 0 = 0, inferInstance⟩]
  out := fun b => .leaf (.tu [.o 2000, .ag [.v (.int .i64 0), .v (.int .i64 0)]]) [(2000, .row 3 (.ints .i64 (dzL b)))]
theorem sDcSz_enc : ∀ l H n i ls, sDcSz.dec l H = some (i, ls) → l = renL (rho ls n) (sDcSz.args i) ∧ givenHp H ls = renH (rho ls n) (sDcSz.hp i) := by
  intro l H n i ls h
  simp only [sDcSz] at h
  repeat' split at h
  all_goals first
    | (cases h; done)
    | (cases h; exact ⟨rfl, rfl⟩)
def sEq : Spec where
  ι := List Int × List Int
  dec l H := match l with
    | [.dat (.ints .i64 a), .dat (.ints .i64 b)] => some ((a, b), [])
    | _ => none
  args := fun (a, b) => [.dat (.ints .i64 a), .dat (.ints .i64 b)]
  pre := fun (a, b) => [⟨a.length ≤ 4294967296, inferInstance⟩]
  out := fun (a, b) => .leaf (.v (.bool (eqI a b))) []
theorem sEq_enc : ∀ l H n i ls, sEq.dec l H = some (i, ls) → l = renL (rho ls n) (sEq.args i) ∧ givenHp H ls = renH (rho ls n) (sEq.hp i) := by
  intro l H n i ls h
  simp only [sEq] at h
  repeat' split at h
  all_goals first
    | (cases h; done)
    | (cases h; exact ⟨rfl, rfl⟩)
def sMean : Spec where
  ι := ByteArray × Int × ByteArray
  dec l H := match l with
    | [.v (.string b), .v (.int .i64 m), .v (.string w)] => some ((b, m, w), [])
    | _ => none
  args := fun (b, m, w) => [.v (.string b), .v (.int .i64 m), .v (.string w)]
  pre := fun (b, m, w) => [⟨(ckE b m = 0 → dfK b m = true ∧ dpZ b m = true), inferInstance⟩, ⟨dcE b m = (0, 0), inferInstance⟩, ⟨dcO b m = w, inferInstance⟩]
  out := fun (b, m, w) => .leaf (.v (.bool true)) []
theorem sMean_enc : ∀ l H n i ls, sMean.dec l H = some (i, ls) → l = renL (rho ls n) (sMean.args i) ∧ givenHp H ls = renH (rho ls n) (sMean.hp i) := by
  intro l H n i ls h
  simp only [sMean] at h
  repeat' split at h
  all_goals first
    | (cases h; done)
    | (cases h; exact ⟨rfl, rfl⟩)
def sWrng : Spec where
  ι := ByteArray × Int × Int × Int
  dec l H := match l with
    | [.v (.string b), .v (.int .i64 m), .v (.int .i64 e), .v (.int .i64 a)] => some ((b, m, e, a), [])
    | _ => none
  args := fun (b, m, e, a) => [.v (.string b), .v (.int .i64 m), .v (.int .i64 e), .v (.int .i64 a)]
  pre := fun (b, m, e, a) => [⟨(ckE b m = 0 → dfK b m = true ∧ dpZ b m = true), inferInstance⟩, ⟨dcE b m = (e, a), inferInstance⟩, ⟨dcO b m = ByteArray.empty, inferInstance⟩]
  out := fun (b, m, e, a) => .leaf (.v (.bool true)) []
theorem sWrng_enc : ∀ l H n i ls, sWrng.dec l H = some (i, ls) → l = renL (rho ls n) (sWrng.args i) ∧ givenHp H ls = renH (rho ls n) (sWrng.hp i) := by
  intro l H n i ls h
  simp only [sWrng] at h
  repeat' split at h
  all_goals first
    | (cases h; done)
    | (cases h; exact ⟨rfl, rfl⟩)
def sTrue : Spec where
  ι := Unit
  dec l H := match l with
    | [] => some ((), [])
    | _ => none
  args := fun _ => []
  out := fun _ => .leaf (.v (.bool true)) []
theorem sTrue_enc : ∀ l H n i ls, sTrue.dec l H = some (i, ls) → l = renL (rho ls n) (sTrue.args i) ∧ givenHp H ls = renH (rho ls n) (sTrue.hp i) := by
  intro l H n i ls h
  simp only [sTrue] at h
  repeat' split at h
  all_goals first
    | (cases h; done)
    | (cases h; exact ⟨rfl, rfl⟩)
def GDcg : List (Nat × Ctr) := (7, sDcSz.ctr) :: (13, sEq.ctr) :: (11, sMean.ctr) :: (12, sWrng.ctr) :: GDcf
def GDch : List (Nat × Ctr) := (10, sTrue.ctr) :: GDcg
end Go.Proofs.YthfhkiejcpnalaaGreat

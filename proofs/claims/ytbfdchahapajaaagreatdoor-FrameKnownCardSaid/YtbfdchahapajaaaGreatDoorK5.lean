/-
  Texts joined: Bkt, LibR, Rp, Bl, FrF, Ff, Fft, Fg, Fr, Frt, Fs, GbF, Gb, Gbt, Gc, KxF, Kx, Kxt, Ky, Kz. Conditions: each theorem's own.
-/
import Derived.Test.YtbfdchahapajaaaGreatDoorK4
import Derived.Shelf.Strings.Builder2
import Derived.Shelf.Small.Bits
import Derived.Shelf.Small.Wraps
import Derived.Shelf.Strings.BuilderF
import Derived.Shelf.Strconv.Itoa0
import Derived.Shelf.Strconv.Itoa1
import Derived.Shelf.LaysM
import Derived.Shelf.Strconv.Itoa2
import Derived.Shelf.Strconv.Itoa3
import Derived.Shelf.Strings.Prefix
import Derived.Shelf.Bits.Mul64
import Derived.Shelf.Strings.Repeat
import Derived.Test.YtbfdchahapajaaaGreatDoorProg
import Derived.Test.YtbfdchahapajaaaGreatDoorK3
namespace Go.Proofs.YtbfdchahapajaaaGreatDoor
open Go Go.RowKit
set_option linter.unusedVariables false
set_option maxRecDepth 100000
def bkCk_t  : Prop :=
 ((((0 : Int) == (0 : Int)) = true →
 (decide ((0 : Int) > (0 : Int)) = true →
 False ∧
 ∃ (x0 : Unit),
 True ∧
 False ∧
 (1 : Int) = (1 : Int) ∧
 (4 : Int) = (4 : Int) ∧
 (8 : Int) = (8 : Int) ∧
 Value.slice none (0 : Nat) (0 : Nat) = Value.slice none (0 : Nat) (0 : Nat) ∧
 (-1 : Int) = (-1 : Int) ∧
 (0 : Int) = (0 : Int) ∧
 (0 : Int) = (0 : Int) ∧
 Value.slice none (0 : Nat) (0 : Nat) = Value.slice none (0 : Nat) (0 : Nat) ∧
 (-1 : Int) = (-1 : Int) ∧
 (0 : Int) = (0 : Int) ∧
 (0 : Int) = (0 : Int) ∧
 Value.slice none (0 : Nat) (0 : Nat) = Value.slice none (0 : Nat) (0 : Nat) ∧
 (-1 : Int) = (-1 : Int) ∧ (0 : Int) = (0 : Int) ∧ (0 : Int) = (0 : Int) ∧ Value.slice none (0 : Nat) (0 : Nat) = Value.slice none (0 : Nat) (0 : Nat)) ∧
 (decide ((0 : Int) > (0 : Int)) = false →
 ∃ (x1 : Unit),
 True ∧
 (0 : Int) = (0 : Int) ∧
 (1 : Int) = (1 : Int) ∧
 (4 : Int) = (4 : Int) ∧
 (8 : Int) = (8 : Int) ∧
 Value.slice none (0 : Nat) (0 : Nat) = Value.slice none (0 : Nat) (0 : Nat) ∧
 (-1 : Int) = (-1 : Int) ∧
 (0 : Int) = (0 : Int) ∧
 (0 : Int) = (0 : Int) ∧
 Value.slice none (0 : Nat) (0 : Nat) = Value.slice none (0 : Nat) (0 : Nat) ∧
 (-1 : Int) = (-1 : Int) ∧
 (0 : Int) = (0 : Int) ∧
 (0 : Int) = (0 : Int) ∧
 Value.slice none (0 : Nat) (0 : Nat) = Value.slice none (0 : Nat) (0 : Nat) ∧
 (-1 : Int) = (-1 : Int) ∧ (0 : Int) = (0 : Int) ∧ (0 : Int) = (0 : Int) ∧ Value.slice none (0 : Nat) (0 : Nat) = Value.slice none (0 : Nat) (0 : Nat))) ∧
 (((0 : Int) == (0 : Int)) = false →
 ∃ (x2 : Unit),
 True ∧
 (0 : Int) = (0 : Int) ∧
 (1 : Int) = (1 : Int) ∧
 (4 : Int) = (4 : Int) ∧
 (8 : Int) = (8 : Int) ∧
 Value.slice none (0 : Nat) (0 : Nat) = Value.slice none (0 : Nat) (0 : Nat) ∧
 (-1 : Int) = (-1 : Int) ∧
 (0 : Int) = (0 : Int) ∧
 (0 : Int) = (0 : Int) ∧
 Value.slice none (0 : Nat) (0 : Nat) = Value.slice none (0 : Nat) (0 : Nat) ∧
 (-1 : Int) = (-1 : Int) ∧
 (0 : Int) = (0 : Int) ∧
 (0 : Int) = (0 : Int) ∧
 Value.slice none (0 : Nat) (0 : Nat) = Value.slice none (0 : Nat) (0 : Nat) ∧
 (-1 : Int) = (-1 : Int) ∧ (0 : Int) = (0 : Int) ∧ (0 : Int) = (0 : Int) ∧ Value.slice none (0 : Nat) (0 : Nat) = Value.slice none (0 : Nat) (0 : Nat))) ∧
 ∀ (x3 : Unit),
 True →
 (decide ((0 : Int) < (3 : Int)) = true →
 (0 : Int) ≤ (0 : Int) ∧
 (0 : Int) < (↑(3 : Nat) : Int) ∧
 (((0 : Int) == (0 : Int)) = true →
 (0 : Int) ≤ (0 : Int) ∧
 (0 : Int) ≤ (2 : Int) ∧
 (decide (IntKind.wrap IntKind.i64 ((0 : Int) + (1 : Int)) < (3 : Int)) = true →
 (0 : Int) ≤ IntKind.wrap IntKind.i64 ((0 : Int) + (1 : Int)) ∧
 IntKind.wrap IntKind.i64 ((0 : Int) + (1 : Int)) < (↑(3 : Nat) : Int) ∧
 (((0 : Int) == (0 : Int)) = true →
 (0 : Int) ≤ IntKind.wrap IntKind.i64 ((0 : Int) + (1 : Int)) ∧
 IntKind.wrap IntKind.i64 ((0 : Int) + (1 : Int)) ≤ (2 : Int) ∧
 (decide (IntKind.wrap IntKind.i64 (IntKind.wrap IntKind.i64 ((0 : Int) + (1 : Int)) + (1 : Int)) < (3 : Int)) = true →
 (0 : Int) ≤ IntKind.wrap IntKind.i64 (IntKind.wrap IntKind.i64 ((0 : Int) + (1 : Int)) + (1 : Int)) ∧
 IntKind.wrap IntKind.i64 (IntKind.wrap IntKind.i64 ((0 : Int) + (1 : Int)) + (1 : Int)) < (↑(3 : Nat) : Int) ∧
 (((0 : Int) == (0 : Int)) = true →
 (0 : Int) ≤ IntKind.wrap IntKind.i64 (IntKind.wrap IntKind.i64 ((0 : Int) + (1 : Int)) + (1 : Int)) ∧
 IntKind.wrap IntKind.i64 (IntKind.wrap IntKind.i64 ((0 : Int) + (1 : Int)) + (1 : Int)) ≤ (2 : Int) ∧
 (decide
 (IntKind.wrap IntKind.i64 (IntKind.wrap IntKind.i64 (IntKind.wrap IntKind.i64 ((0 : Int) + (1 : Int)) + (1 : Int)) + (1 : Int)) <
 (3 : Int)) =
 true →
 (0 : Int) ≤ IntKind.wrap IntKind.i64 (IntKind.wrap IntKind.i64 (IntKind.wrap IntKind.i64 ((0 : Int) + (1 : Int)) + (1 : Int)) + (1 : Int)) ∧
 IntKind.wrap IntKind.i64 (IntKind.wrap IntKind.i64 (IntKind.wrap IntKind.i64 ((0 : Int) + (1 : Int)) + (1 : Int)) + (1 : Int)) <
 (↑(3 : Nat) : Int) ∧
 False ∧ False ∧ (((0 : Int) == (0 : Int)) = true → False ∧ False) ∧ (((0 : Int) == (0 : Int)) = false → False)) ∧
 (decide
 (IntKind.wrap IntKind.i64 (IntKind.wrap IntKind.i64 (IntKind.wrap IntKind.i64 ((0 : Int) + (1 : Int)) + (1 : Int)) + (1 : Int)) <
 (3 : Int)) =
 false →
 (0 : Int) = (0 : Int))) ∧
 (((0 : Int) == (0 : Int)) = false →
 (decide (IntKind.wrap IntKind.i64 (IntKind.wrap IntKind.i64 (IntKind.wrap IntKind.i64 ((0 : Int) + (1 : Int)) + (1 : Int)) + (1 : Int)) < (3 : Int)) =
 true →
 (0 : Int) ≤ IntKind.wrap IntKind.i64 (IntKind.wrap IntKind.i64 (IntKind.wrap IntKind.i64 ((0 : Int) + (1 : Int)) + (1 : Int)) + (1 : Int)) ∧
 IntKind.wrap IntKind.i64 (IntKind.wrap IntKind.i64 (IntKind.wrap IntKind.i64 ((0 : Int) + (1 : Int)) + (1 : Int)) + (1 : Int)) <
 (↑(3 : Nat) : Int) ∧
 False ∧ False ∧ (((0 : Int) == (0 : Int)) = true → False ∧ False) ∧ (((0 : Int) == (0 : Int)) = false → False)) ∧
 (decide
 (IntKind.wrap IntKind.i64 (IntKind.wrap IntKind.i64 (IntKind.wrap IntKind.i64 ((0 : Int) + (1 : Int)) + (1 : Int)) + (1 : Int)) < (3 : Int)) =
 false →
 (0 : Int) = (0 : Int)))) ∧
 (decide (IntKind.wrap IntKind.i64 (IntKind.wrap IntKind.i64 ((0 : Int) + (1 : Int)) + (1 : Int)) < (3 : Int)) = false → (0 : Int) = (0 : Int))) ∧
 (((0 : Int) == (0 : Int)) = false →
 (decide (IntKind.wrap IntKind.i64 (IntKind.wrap IntKind.i64 ((0 : Int) + (1 : Int)) + (1 : Int)) < (3 : Int)) = true →
 (0 : Int) ≤ IntKind.wrap IntKind.i64 (IntKind.wrap IntKind.i64 ((0 : Int) + (1 : Int)) + (1 : Int)) ∧
 IntKind.wrap IntKind.i64 (IntKind.wrap IntKind.i64 ((0 : Int) + (1 : Int)) + (1 : Int)) < (↑(3 : Nat) : Int) ∧
 (((0 : Int) == (0 : Int)) = true →
 (0 : Int) ≤ IntKind.wrap IntKind.i64 (IntKind.wrap IntKind.i64 ((0 : Int) + (1 : Int)) + (1 : Int)) ∧
 IntKind.wrap IntKind.i64 (IntKind.wrap IntKind.i64 ((0 : Int) + (1 : Int)) + (1 : Int)) ≤ (2 : Int) ∧
 (decide (IntKind.wrap IntKind.i64 (IntKind.wrap IntKind.i64 (IntKind.wrap IntKind.i64 ((0 : Int) + (1 : Int)) + (1 : Int)) + (1 : Int)) < (3 : Int)) =
 true →
 (0 : Int) ≤ IntKind.wrap IntKind.i64 (IntKind.wrap IntKind.i64 (IntKind.wrap IntKind.i64 ((0 : Int) + (1 : Int)) + (1 : Int)) + (1 : Int)) ∧
 IntKind.wrap IntKind.i64 (IntKind.wrap IntKind.i64 (IntKind.wrap IntKind.i64 ((0 : Int) + (1 : Int)) + (1 : Int)) + (1 : Int)) <
 (↑(3 : Nat) : Int) ∧
 False ∧ False ∧ (((0 : Int) == (0 : Int)) = true → False ∧ False) ∧ (((0 : Int) == (0 : Int)) = false → False)) ∧
 (decide
 (IntKind.wrap IntKind.i64 (IntKind.wrap IntKind.i64 (IntKind.wrap IntKind.i64 ((0 : Int) + (1 : Int)) + (1 : Int)) + (1 : Int)) < (3 : Int)) =
 false →
 (0 : Int) = (0 : Int))) ∧
 (((0 : Int) == (0 : Int)) = false →
 (decide (IntKind.wrap IntKind.i64 (IntKind.wrap IntKind.i64 (IntKind.wrap IntKind.i64 ((0 : Int) + (1 : Int)) + (1 : Int)) + (1 : Int)) < (3 : Int)) =
 true →
 (0 : Int) ≤ IntKind.wrap IntKind.i64 (IntKind.wrap IntKind.i64 (IntKind.wrap IntKind.i64 ((0 : Int) + (1 : Int)) + (1 : Int)) + (1 : Int)) ∧
 IntKind.wrap IntKind.i64 (IntKind.wrap IntKind.i64 (IntKind.wrap IntKind.i64 ((0 : Int) + (1 : Int)) + (1 : Int)) + (1 : Int)) <
 (↑(3 : Nat) : Int) ∧
 False ∧ False ∧ (((0 : Int) == (0 : Int)) = true → False ∧ False) ∧ (((0 : Int) == (0 : Int)) = false → False)) ∧
 (decide (IntKind.wrap IntKind.i64 (IntKind.wrap IntKind.i64 (IntKind.wrap IntKind.i64 ((0 : Int) + (1 : Int)) + (1 : Int)) + (1 : Int)) < (3 : Int)) =
 false →
 (0 : Int) = (0 : Int)))) ∧
 (decide (IntKind.wrap IntKind.i64 (IntKind.wrap IntKind.i64 ((0 : Int) + (1 : Int)) + (1 : Int)) < (3 : Int)) = false → (0 : Int) = (0 : Int)))) ∧
 (decide (IntKind.wrap IntKind.i64 ((0 : Int) + (1 : Int)) < (3 : Int)) = false → (0 : Int) = (0 : Int))) ∧
 (((0 : Int) == (0 : Int)) = false →
 (decide (IntKind.wrap IntKind.i64 ((0 : Int) + (1 : Int)) < (3 : Int)) = true →
 (0 : Int) ≤ IntKind.wrap IntKind.i64 ((0 : Int) + (1 : Int)) ∧
 IntKind.wrap IntKind.i64 ((0 : Int) + (1 : Int)) < (↑(3 : Nat) : Int) ∧
 (((0 : Int) == (0 : Int)) = true →
 (0 : Int) ≤ IntKind.wrap IntKind.i64 ((0 : Int) + (1 : Int)) ∧
 IntKind.wrap IntKind.i64 ((0 : Int) + (1 : Int)) ≤ (2 : Int) ∧
 (decide (IntKind.wrap IntKind.i64 (IntKind.wrap IntKind.i64 ((0 : Int) + (1 : Int)) + (1 : Int)) < (3 : Int)) = true →
 (0 : Int) ≤ IntKind.wrap IntKind.i64 (IntKind.wrap IntKind.i64 ((0 : Int) + (1 : Int)) + (1 : Int)) ∧
 IntKind.wrap IntKind.i64 (IntKind.wrap IntKind.i64 ((0 : Int) + (1 : Int)) + (1 : Int)) < (↑(3 : Nat) : Int) ∧
 (((0 : Int) == (0 : Int)) = true →
 (0 : Int) ≤ IntKind.wrap IntKind.i64 (IntKind.wrap IntKind.i64 ((0 : Int) + (1 : Int)) + (1 : Int)) ∧
 IntKind.wrap IntKind.i64 (IntKind.wrap IntKind.i64 ((0 : Int) + (1 : Int)) + (1 : Int)) ≤ (2 : Int) ∧
 (decide (IntKind.wrap IntKind.i64 (IntKind.wrap IntKind.i64 (IntKind.wrap IntKind.i64 ((0 : Int) + (1 : Int)) + (1 : Int)) + (1 : Int)) < (3 : Int)) =
 true →
 (0 : Int) ≤ IntKind.wrap IntKind.i64 (IntKind.wrap IntKind.i64 (IntKind.wrap IntKind.i64 ((0 : Int) + (1 : Int)) + (1 : Int)) + (1 : Int)) ∧
 IntKind.wrap IntKind.i64 (IntKind.wrap IntKind.i64 (IntKind.wrap IntKind.i64 ((0 : Int) + (1 : Int)) + (1 : Int)) + (1 : Int)) <
 (↑(3 : Nat) : Int) ∧
 False ∧ False ∧ (((0 : Int) == (0 : Int)) = true → False ∧ False) ∧ (((0 : Int) == (0 : Int)) = false → False)) ∧
 (decide
 (IntKind.wrap IntKind.i64 (IntKind.wrap IntKind.i64 (IntKind.wrap IntKind.i64 ((0 : Int) + (1 : Int)) + (1 : Int)) + (1 : Int)) < (3 : Int)) =
 false →
 (0 : Int) = (0 : Int))) ∧
 (((0 : Int) == (0 : Int)) = false →
 (decide (IntKind.wrap IntKind.i64 (IntKind.wrap IntKind.i64 (IntKind.wrap IntKind.i64 ((0 : Int) + (1 : Int)) + (1 : Int)) + (1 : Int)) < (3 : Int)) =
 true →
 (0 : Int) ≤ IntKind.wrap IntKind.i64 (IntKind.wrap IntKind.i64 (IntKind.wrap IntKind.i64 ((0 : Int) + (1 : Int)) + (1 : Int)) + (1 : Int)) ∧
 IntKind.wrap IntKind.i64 (IntKind.wrap IntKind.i64 (IntKind.wrap IntKind.i64 ((0 : Int) + (1 : Int)) + (1 : Int)) + (1 : Int)) <
 (↑(3 : Nat) : Int) ∧
 False ∧ False ∧ (((0 : Int) == (0 : Int)) = true → False ∧ False) ∧ (((0 : Int) == (0 : Int)) = false → False)) ∧
 (decide (IntKind.wrap IntKind.i64 (IntKind.wrap IntKind.i64 (IntKind.wrap IntKind.i64 ((0 : Int) + (1 : Int)) + (1 : Int)) + (1 : Int)) < (3 : Int)) =
 false →
 (0 : Int) = (0 : Int)))) ∧
 (decide (IntKind.wrap IntKind.i64 (IntKind.wrap IntKind.i64 ((0 : Int) + (1 : Int)) + (1 : Int)) < (3 : Int)) = false → (0 : Int) = (0 : Int))) ∧
 (((0 : Int) == (0 : Int)) = false →
 (decide (IntKind.wrap IntKind.i64 (IntKind.wrap IntKind.i64 ((0 : Int) + (1 : Int)) + (1 : Int)) < (3 : Int)) = true →
 (0 : Int) ≤ IntKind.wrap IntKind.i64 (IntKind.wrap IntKind.i64 ((0 : Int) + (1 : Int)) + (1 : Int)) ∧
 IntKind.wrap IntKind.i64 (IntKind.wrap IntKind.i64 ((0 : Int) + (1 : Int)) + (1 : Int)) < (↑(3 : Nat) : Int) ∧
 (((0 : Int) == (0 : Int)) = true →
 (0 : Int) ≤ IntKind.wrap IntKind.i64 (IntKind.wrap IntKind.i64 ((0 : Int) + (1 : Int)) + (1 : Int)) ∧
 IntKind.wrap IntKind.i64 (IntKind.wrap IntKind.i64 ((0 : Int) + (1 : Int)) + (1 : Int)) ≤ (2 : Int) ∧
 (decide (IntKind.wrap IntKind.i64 (IntKind.wrap IntKind.i64 (IntKind.wrap IntKind.i64 ((0 : Int) + (1 : Int)) + (1 : Int)) + (1 : Int)) < (3 : Int)) =
 true →
 (0 : Int) ≤ IntKind.wrap IntKind.i64 (IntKind.wrap IntKind.i64 (IntKind.wrap IntKind.i64 ((0 : Int) + (1 : Int)) + (1 : Int)) + (1 : Int)) ∧
 IntKind.wrap IntKind.i64 (IntKind.wrap IntKind.i64 (IntKind.wrap IntKind.i64 ((0 : Int) + (1 : Int)) + (1 : Int)) + (1 : Int)) <
 (↑(3 : Nat) : Int) ∧
 False ∧ False ∧ (((0 : Int) == (0 : Int)) = true → False ∧ False) ∧ (((0 : Int) == (0 : Int)) = false → False)) ∧
 (decide (IntKind.wrap IntKind.i64 (IntKind.wrap IntKind.i64 (IntKind.wrap IntKind.i64 ((0 : Int) + (1 : Int)) + (1 : Int)) + (1 : Int)) < (3 : Int)) =
 false →
 (0 : Int) = (0 : Int))) ∧
 (((0 : Int) == (0 : Int)) = false →
 (decide (IntKind.wrap IntKind.i64 (IntKind.wrap IntKind.i64 (IntKind.wrap IntKind.i64 ((0 : Int) + (1 : Int)) + (1 : Int)) + (1 : Int)) < (3 : Int)) = true →
 (0 : Int) ≤ IntKind.wrap IntKind.i64 (IntKind.wrap IntKind.i64 (IntKind.wrap IntKind.i64 ((0 : Int) + (1 : Int)) + (1 : Int)) + (1 : Int)) ∧
 IntKind.wrap IntKind.i64 (IntKind.wrap IntKind.i64 (IntKind.wrap IntKind.i64 ((0 : Int) + (1 : Int)) + (1 : Int)) + (1 : Int)) < (↑(3 : Nat) : Int) ∧
 False ∧ False ∧ (((0 : Int) == (0 : Int)) = true → False ∧ False) ∧ (((0 : Int) == (0 : Int)) = false → False)) ∧
 (decide (IntKind.wrap IntKind.i64 (IntKind.wrap IntKind.i64 (IntKind.wrap IntKind.i64 ((0 : Int) + (1 : Int)) + (1 : Int)) + (1 : Int)) < (3 : Int)) =
 false →
 (0 : Int) = (0 : Int)))) ∧
 (decide (IntKind.wrap IntKind.i64 (IntKind.wrap IntKind.i64 ((0 : Int) + (1 : Int)) + (1 : Int)) < (3 : Int)) = false → (0 : Int) = (0 : Int)))) ∧
 (decide (IntKind.wrap IntKind.i64 ((0 : Int) + (1 : Int)) < (3 : Int)) = false → (0 : Int) = (0 : Int)))) ∧
 (decide ((0 : Int) < (3 : Int)) = false → (0 : Int) = (0 : Int))
theorem bkCk_e  : bkCk_t  = vcG Tryz.prog (Gof GBd) (lay3u) Tryz.f64 [.ag frV] [] (.leaf ((.v (.int .i64 0))) ([])) := by kernel_rfl
def bkFi_t  : Prop :=
 List.length [(1 : Int), (4 : Int), (8 : Int)] = List.length (List.replicate (3 : Nat) (0 : Int)) ∧ (3 : Nat) = (3 : Nat) ∧ [(1 : Int), (4 : Int), (8 : Int)] = [(1 : Int), (4 : Int), (8 : Int)]
theorem bkFi_e  : bkFi_t  = vcG Tryz.prog (Gof GHdd) (fun _ => none) Tryz.f63 [] [] (.leaf (.av (.ints .i64 [1, 4, 8])) ([])) := by kernel_rfl
def bkUn_t  : Prop :=
 (decide ((0 : Int) < (3 : Int)) = true →
 (0 : Int) ≤ (0 : Int) ∧
 (0 : Int) < (↑(3 : Nat) : Int) ∧
 (decide (IntKind.wrap IntKind.i64 ((0 : Int) + (1 : Int)) < (3 : Int)) = true →
 (0 : Int) ≤ IntKind.wrap IntKind.i64 ((0 : Int) + (1 : Int)) ∧
 IntKind.wrap IntKind.i64 ((0 : Int) + (1 : Int)) < (↑(3 : Nat) : Int) ∧
 (decide (IntKind.wrap IntKind.i64 (IntKind.wrap IntKind.i64 ((0 : Int) + (1 : Int)) + (1 : Int)) < (3 : Int)) = true →
 (0 : Int) ≤ IntKind.wrap IntKind.i64 (IntKind.wrap IntKind.i64 ((0 : Int) + (1 : Int)) + (1 : Int)) ∧
 IntKind.wrap IntKind.i64 (IntKind.wrap IntKind.i64 ((0 : Int) + (1 : Int)) + (1 : Int)) < (↑(3 : Nat) : Int) ∧
 (decide (IntKind.wrap IntKind.i64 (IntKind.wrap IntKind.i64 (IntKind.wrap IntKind.i64 ((0 : Int) + (1 : Int)) + (1 : Int)) + (1 : Int)) < (3 : Int)) = true →
 (0 : Int) ≤ IntKind.wrap IntKind.i64 (IntKind.wrap IntKind.i64 (IntKind.wrap IntKind.i64 ((0 : Int) + (1 : Int)) + (1 : Int)) + (1 : Int)) ∧
 IntKind.wrap IntKind.i64 (IntKind.wrap IntKind.i64 (IntKind.wrap IntKind.i64 ((0 : Int) + (1 : Int)) + (1 : Int)) + (1 : Int)) < (↑(3 : Nat) : Int) ∧ False ∧ False) ∧
 (decide (IntKind.wrap IntKind.i64 (IntKind.wrap IntKind.i64 (IntKind.wrap IntKind.i64 ((0 : Int) + (1 : Int)) + (1 : Int)) + (1 : Int)) < (3 : Int)) = false →
 (0 : Int) = (0 : Int) ∧
 (0 : Int) = (0 : Int) ∧
 (0 : Int) = (0 : Int) ∧
 Value.slice none (0 : Nat) (0 : Nat) = Value.slice none (0 : Nat) (0 : Nat) ∧
 (-1 : Int) = (-1 : Int) ∧
 (0 : Int) = (0 : Int) ∧
 (0 : Int) = (0 : Int) ∧
 Value.slice none (0 : Nat) (0 : Nat) = Value.slice none (0 : Nat) (0 : Nat) ∧
 (-1 : Int) = (-1 : Int) ∧
 (0 : Int) = (0 : Int) ∧
 (0 : Int) = (0 : Int) ∧
 Value.slice none (0 : Nat) (0 : Nat) = Value.slice none (0 : Nat) (0 : Nat) ∧
 (-1 : Int) = (-1 : Int) ∧
 (0 : Int) = (0 : Int) ∧ (0 : Int) = (0 : Int) ∧ Value.slice none (0 : Nat) (0 : Nat) = Value.slice none (0 : Nat) (0 : Nat))) ∧
 (decide (IntKind.wrap IntKind.i64 (IntKind.wrap IntKind.i64 ((0 : Int) + (1 : Int)) + (1 : Int)) < (3 : Int)) = false →
 (0 : Int) = (0 : Int) ∧
 (0 : Int) = (0 : Int) ∧
 (0 : Int) = (0 : Int) ∧
 Value.slice none (0 : Nat) (0 : Nat) = Value.slice none (0 : Nat) (0 : Nat) ∧
 (-1 : Int) = (-1 : Int) ∧
 (0 : Int) = (0 : Int) ∧
 (0 : Int) = (0 : Int) ∧
 Value.slice none (0 : Nat) (0 : Nat) = Value.slice none (0 : Nat) (0 : Nat) ∧
 (-1 : Int) = (-1 : Int) ∧
 (0 : Int) = (0 : Int) ∧
 (0 : Int) = (0 : Int) ∧
 Value.slice none (0 : Nat) (0 : Nat) = Value.slice none (0 : Nat) (0 : Nat) ∧
 (0 : Int) = (-1 : Int) ∧ (0 : Int) = (0 : Int) ∧ (0 : Int) = (0 : Int) ∧ Value.slice none (0 : Nat) (0 : Nat) = Value.slice none (0 : Nat) (0 : Nat))) ∧
 (decide (IntKind.wrap IntKind.i64 ((0 : Int) + (1 : Int)) < (3 : Int)) = false →
 (0 : Int) = (0 : Int) ∧
 (0 : Int) = (0 : Int) ∧
 (0 : Int) = (0 : Int) ∧
 Value.slice none (0 : Nat) (0 : Nat) = Value.slice none (0 : Nat) (0 : Nat) ∧
 (-1 : Int) = (-1 : Int) ∧
 (0 : Int) = (0 : Int) ∧
 (0 : Int) = (0 : Int) ∧
 Value.slice none (0 : Nat) (0 : Nat) = Value.slice none (0 : Nat) (0 : Nat) ∧
 (0 : Int) = (-1 : Int) ∧
 (0 : Int) = (0 : Int) ∧
 (0 : Int) = (0 : Int) ∧
 Value.slice none (0 : Nat) (0 : Nat) = Value.slice none (0 : Nat) (0 : Nat) ∧
 (0 : Int) = (-1 : Int) ∧ (0 : Int) = (0 : Int) ∧ (0 : Int) = (0 : Int) ∧ Value.slice none (0 : Nat) (0 : Nat) = Value.slice none (0 : Nat) (0 : Nat))) ∧
 (decide ((0 : Int) < (3 : Int)) = false →
 (0 : Int) = (0 : Int) ∧
 (0 : Int) = (0 : Int) ∧
 (0 : Int) = (0 : Int) ∧
 Value.slice none (0 : Nat) (0 : Nat) = Value.slice none (0 : Nat) (0 : Nat) ∧
 (0 : Int) = (-1 : Int) ∧
 (0 : Int) = (0 : Int) ∧
 (0 : Int) = (0 : Int) ∧
 Value.slice none (0 : Nat) (0 : Nat) = Value.slice none (0 : Nat) (0 : Nat) ∧
 (0 : Int) = (-1 : Int) ∧
 (0 : Int) = (0 : Int) ∧
 (0 : Int) = (0 : Int) ∧
 Value.slice none (0 : Nat) (0 : Nat) = Value.slice none (0 : Nat) (0 : Nat) ∧
 (0 : Int) = (-1 : Int) ∧ (0 : Int) = (0 : Int) ∧ (0 : Int) = (0 : Int) ∧ Value.slice none (0 : Nat) (0 : Nat) = Value.slice none (0 : Nat) (0 : Nat))
theorem bkUn_e  : bkUn_t  = vcG Tryz.prog (Gof GHdd) (lay3) Tryz.f62 [] [] (.leaf (.ag unV) ([])) := by kernel_rfl
def bkEm_t  : Prop :=
 (((0 : Int) == (0 : Int)) = true → ((0 : Int) == (0 : Int)) = true) ∧ (((0 : Int) == (0 : Int)) = false → false = true)
theorem bkEm_e  : bkEm_t  = vcG Tryz.prog (Gof GHdd) (fun _ => none) Tryz.f106 [.ag [.v (.int .i64 0), .v (.slice none 0 0)]] [] (.leaf (.v (.bool true)) ([])) := by kernel_rfl
def bkCl_t  : Prop :=
 Value.slice none (0 : Nat) (0 : Nat) = Value.slice none (0 : Nat) (0 : Nat)
theorem bkCl_e  : bkCl_t  = vcG Tryz.prog (Gof GHdd) (fun _ => none) Tryz.f83 [.v (.slice none 0 0)] [] (.leaf (.v (.slice none 0 0)) ([])) := by kernel_rfl
def bkVa_t (k : Int) : Prop :=
 (decide (k ≥ (0 : Int)) = true → decide (k ≤ (2 : Int)) = (decide ((0 : Int) ≤ k) && decide (k ≤ (2 : Int)))) ∧
 (decide (k ≥ (0 : Int)) = false → false = (decide ((0 : Int) ≤ k) && decide (k ≤ (2 : Int))))
theorem bkVa_e (k : Int) : bkVa_t k = vcG Tryz.prog (Gof GHdd) (fun _ => none) Tryz.f141 [.v (.int .i64 k)] [] (.leaf ((.v (.bool (decide (0 ≤ k) && decide (k ≤ 2))))) ([])) := by kernel_rfl
def bkMo0_t  : Prop :=
 (0 : Int) ≤ (0 : Int) ∧ (0 : Int) < (↑(3 : Nat) : Int) ∧ List.getD [(35 : Int), (31 : Int), (52 : Int)] (Int.toNat (0 : Int)) (0 : Int) = moK (0 : Int)
theorem bkMo0_e  : bkMo0_t  = vcG Tryz.prog (Gof GHdd) (fun _ => none) Tryz.f142 [.v (.int .i64 0)] [] (.leaf ((.v (.int .i64 (moK 0)))) ([])) := by kernel_rfl
def bkMo1_t  : Prop :=
 (0 : Int) ≤ (1 : Int) ∧ (1 : Int) < (↑(3 : Nat) : Int) ∧ List.getD [(35 : Int), (31 : Int), (52 : Int)] (Int.toNat (1 : Int)) (0 : Int) = moK (1 : Int)
theorem bkMo1_e  : bkMo1_t  = vcG Tryz.prog (Gof GHdd) (fun _ => none) Tryz.f142 [.v (.int .i64 1)] [] (.leaf ((.v (.int .i64 (moK 1)))) ([])) := by kernel_rfl
def bkMo2_t  : Prop :=
 (0 : Int) ≤ (2 : Int) ∧ (2 : Int) < (↑(3 : Nat) : Int) ∧ List.getD [(35 : Int), (31 : Int), (52 : Int)] (Int.toNat (2 : Int)) (0 : Int) = moK (2 : Int)
theorem bkMo2_e  : bkMo2_t  = vcG Tryz.prog (Gof GHdd) (fun _ => none) Tryz.f142 [.v (.int .i64 2)] [] (.leaf ((.v (.int .i64 (moK 2)))) ([])) := by kernel_rfl
def bkFr_t  : Prop :=
 (1 : Int) = (1 : Int) ∧
 (4 : Int) = (4 : Int) ∧
 (8 : Int) = (8 : Int) ∧
 Value.slice none (0 : Nat) (0 : Nat) = Value.slice none (0 : Nat) (0 : Nat) ∧
 (-1 : Int) = (-1 : Int) ∧
 (0 : Int) = (0 : Int) ∧
 (0 : Int) = (0 : Int) ∧
 Value.slice none (0 : Nat) (0 : Nat) = Value.slice none (0 : Nat) (0 : Nat) ∧
 (-1 : Int) = (-1 : Int) ∧
 (0 : Int) = (0 : Int) ∧
 (0 : Int) = (0 : Int) ∧
 Value.slice none (0 : Nat) (0 : Nat) = Value.slice none (0 : Nat) (0 : Nat) ∧
 (-1 : Int) = (-1 : Int) ∧ (0 : Int) = (0 : Int) ∧ (0 : Int) = (0 : Int) ∧ Value.slice none (0 : Nat) (0 : Nat) = Value.slice none (0 : Nat) (0 : Nat)
theorem bkFr_e  : bkFr_t  = vcG Tryz.prog (Gof GBa) (fun _ => none) Tryz.f45 [] [] (.leaf (.ag frV) ([])) := by kernel_rfl
def bkMs_t (k : Int) : Prop :=
 ((!(decide ((0 : Int) ≤ k) && decide (k ≤ (2 : Int)))) = true → (0 : Int) = moK k ∧ (11 : Int) = (0 : Int)) ∧
 ((!(decide ((0 : Int) ≤ k) && decide (k ≤ (2 : Int)))) = false → (0 : Int) ≤ k ∧ k ≤ (2 : Int) ∧ moK k = moK k ∧ (0 : Int) = (0 : Int))
theorem bkMs_e (k : Int) : bkMs_t k = vcG Tryz.prog (Gof GBa) (fun _ => none) Tryz.f103 [.v (.int .i64 k)] [] (.leaf ((.tu [.v (.int .i64 (moK k)), .v (.int .i64 0)])) ([])) := by kernel_rfl
def bkTc_t (k : Int) : Prop :=
 (0 : Int) ≤ k ∧
 k ≤ (2 : Int) ∧
 (((0 : Int) != (0 : Int)) = true → (11 : Int) = (0 : Int)) ∧
 (((0 : Int) != (0 : Int)) = false →
 (((-1 : Int) == (0 : Int)) = true → False ∧ False ∧ False ∧ False ∧ (((0 : Int) == (0 : Int)) = true → False ∧ False ∧ False) ∧ (((0 : Int) == (0 : Int)) = false → (2 : Int) = (0 : Int))) ∧
 (((-1 : Int) == (0 : Int)) = false →
 (((-1 : Int) == (1 : Int)) = true →
 (decide ((0 : Int) < (0 : Int)) = true → (24 : Int) = (0 : Int)) ∧
 (decide ((0 : Int) < (0 : Int)) = false →
 (decide ((0 : Int) > moK k) = true → (24 : Int) = (0 : Int)) ∧
 (decide ((0 : Int) > moK k) = false → ((!true) = true → (2 : Int) = (0 : Int)) ∧ ((!true) = false → (0 : Int) = (0 : Int))))) ∧
 (((-1 : Int) == (1 : Int)) = false →
 (((-1 : Int) == (2 : Int)) = true → False ∧ False ∧ False) ∧
 (((-1 : Int) == (2 : Int)) = false →
 (((-1 : Int) == (-1 : Int)) = true →
 (((0 : Int) == (0 : Int)) = true → ((!true) = true → (2 : Int) = (0 : Int)) ∧ ((!true) = false → (0 : Int) = (0 : Int))) ∧
 (((0 : Int) == (0 : Int)) = false → (2 : Int) = (0 : Int))) ∧
 (((-1 : Int) == (-1 : Int)) = false → (11 : Int) = (0 : Int))))))
theorem bkTc_e (k : Int) : bkTc_t k = vcG Tryz.prog (Gof GBb) (fun _ => none) Tryz.f80 [.v (.int .i64 k), .ag [.v (.int .i64 (-1)), .v (.int .i64 0), .v (.int .i64 0), .v (.slice none 0 0)]] [] (.leaf ((.v (.int .i64 0))) ([])) := by kernel_rfl
def bkRc_t  : Prop :=
 (3 : Nat) = (3 : Nat) ∧
 (3 : Nat) = List.length [(1 : Int), (4 : Int), (8 : Int)] ∧
 (3 : Nat) = List.length [(1 : Int), (4 : Int), (8 : Int)] ∧
 (([(1 : Int), (4 : Int), (8 : Int)] == [(1 : Int), (4 : Int), (8 : Int)]) = true → (0 : Int) = (0 : Int)) ∧
 (([(1 : Int), (4 : Int), (8 : Int)] == [(1 : Int), (4 : Int), (8 : Int)]) = false →
 (3 : Nat) = (3 : Nat) ∧
 (3 : Nat) = List.length [(1 : Int), (4 : Int), (8 : Int)] ∧
 (3 : Nat) = List.length [(0 : Int), (0 : Int), (0 : Int)] ∧
 (([(1 : Int), (4 : Int), (8 : Int)] == [(0 : Int), (0 : Int), (0 : Int)]) = true → (0 : Int) = (0 : Int)) ∧
 (([(1 : Int), (4 : Int), (8 : Int)] == [(0 : Int), (0 : Int), (0 : Int)]) = false → (3 : Nat) = (3 : Nat) ∧ False))
theorem bkRc_e  : bkRc_t  = vcG Tryz.prog (Gof GBb) (fun _ => none) Tryz.f78 [.av (.ints .i64 [1, 4, 8])] [] (.leaf ((.v (.int .i64 0))) ([])) := by kernel_rfl
def bkHd_t (s : ByteArray) (a e f : Int) : Prop :=
 vldC s a (e, f).fst (e, f).snd = true ∧
 ByteArray.size s ≤ (9223372036854775807 : Nat) ∧
 (1 : Int) ≤ (3 : Int) ∧
 (3 : Int) ≤ (8 : Int) ∧
 (0 : Int) ≤ (1 : Int) ∧
 ((byE s a (e, f).fst (3 : Int) == (0 : Int)) = true →
 ((IntKind.wrap IntKind.i64 (bits BinOp.and IntKind.u64 (Int.fdiv (numS (byO s a (e, f).fst (3 : Int))) ((2 : Int) ^ min (Int.toNat (1 : Int)) (IntKind.bits IntKind.u64))) (3 : Int)) ==
 (3 : Int)) =
 true →
 vldC s (byA s a (e, f).fst (3 : Int)) (byE s a (e, f).fst (3 : Int)) (byF s a (e, f).fst (e, f).snd (3 : Int)) = true ∧
 (1 : Int) ≤ (15 : Int) ∧
 (15 : Int) ≤ (31 : Int) ∧
 (0 : Int) ≤ (3 : Int) ∧
 IntKind.wrap IntKind.i64
 (bits BinOp.and IntKind.u64 (Int.fdiv (numS (byO s a (e, f).fst (3 : Int))) ((2 : Int) ^ min (Int.toNat (1 : Int)) (IntKind.bits IntKind.u64))) (3 : Int)) =
 bhK s (a, e, f) ∧
 IntKind.wrap IntKind.i64 (Int.fdiv (numS (byO s a (e, f).fst (3 : Int))) ((2 : Int) ^ min (Int.toNat (3 : Int)) (IntKind.bits IntKind.u64))) = bhZ s (a, e, f) ∧
 (bits BinOp.and IntKind.u64 (numS (byO s a (e, f).fst (3 : Int))) (1 : Int) == (1 : Int)) = bhL s (a, e, f) ∧
 s = s ∧
 byA s a (e, f).fst (3 : Int) = (bhC s (a, e, f)).fst ∧
 faE (byE s a (e, f).fst (3 : Int)) (15 : Int) = (bhC s (a, e, f)).snd.fst ∧
 faF s (byE s a (e, f).fst (3 : Int)) (byF s a (e, f).fst (e, f).snd (3 : Int)) a = (bhC s (a, e, f)).snd.snd) ∧
 ((IntKind.wrap IntKind.i64 (bits BinOp.and IntKind.u64 (Int.fdiv (numS (byO s a (e, f).fst (3 : Int))) ((2 : Int) ^ min (Int.toNat (1 : Int)) (IntKind.bits IntKind.u64))) (3 : Int)) ==
 (3 : Int)) =
 false →
 (0 : Int) ≤ (3 : Int) ∧
 IntKind.wrap IntKind.i64
 (bits BinOp.and IntKind.u64 (Int.fdiv (numS (byO s a (e, f).fst (3 : Int))) ((2 : Int) ^ min (Int.toNat (1 : Int)) (IntKind.bits IntKind.u64))) (3 : Int)) =
 bhK s (a, e, f) ∧
 IntKind.wrap IntKind.i64 (Int.fdiv (numS (byO s a (e, f).fst (3 : Int))) ((2 : Int) ^ min (Int.toNat (3 : Int)) (IntKind.bits IntKind.u64))) = bhZ s (a, e, f) ∧
 (bits BinOp.and IntKind.u64 (numS (byO s a (e, f).fst (3 : Int))) (1 : Int) == (1 : Int)) = bhL s (a, e, f) ∧
 s = s ∧
 byA s a (e, f).fst (3 : Int) = (bhC s (a, e, f)).fst ∧
 byE s a (e, f).fst (3 : Int) = (bhC s (a, e, f)).snd.fst ∧ byF s a (e, f).fst (e, f).snd (3 : Int) = (bhC s (a, e, f)).snd.snd)) ∧
 ((byE s a (e, f).fst (3 : Int) == (0 : Int)) = false →
 (0 : Int) ≤ (3 : Int) ∧
 IntKind.wrap IntKind.i64 (bits BinOp.and IntKind.u64 (Int.fdiv (numS (byO s a (e, f).fst (3 : Int))) ((2 : Int) ^ min (Int.toNat (1 : Int)) (IntKind.bits IntKind.u64))) (3 : Int)) =
 bhK s (a, e, f) ∧
 IntKind.wrap IntKind.i64 (Int.fdiv (numS (byO s a (e, f).fst (3 : Int))) ((2 : Int) ^ min (Int.toNat (3 : Int)) (IntKind.bits IntKind.u64))) = bhZ s (a, e, f) ∧
 (bits BinOp.and IntKind.u64 (numS (byO s a (e, f).fst (3 : Int))) (1 : Int) == (1 : Int)) = bhL s (a, e, f) ∧
 s = s ∧
 byA s a (e, f).fst (3 : Int) = (bhC s (a, e, f)).fst ∧
 byE s a (e, f).fst (3 : Int) = (bhC s (a, e, f)).snd.fst ∧ byF s a (e, f).fst (e, f).snd (3 : Int) = (bhC s (a, e, f)).snd.snd)
theorem bkHd_e (s : ByteArray) (a e f : Int) : bkHd_t s a e f = vcG Tryz.prog (Gof GBb) (fun _ => none) Tryz.f54 [.p 0 0 0] [(0, .cells 113 (cuR s (a, e, f)))] (.leaf ((.tu [.v (.int .i64 (bhK s (a, e, f))), .v (.int .i64 (bhZ s (a, e, f))), .v (.bool (bhL s (a, e, f)))])) ([(0, .cells 113 (cuR s (bhC s (a, e, f))))])) := by kernel_rfl
def bkOw_t  : Prop :=
 (decide ((0 : Int) < (3 : Int)) = true →
 (0 : Int) ≤ (0 : Int) ∧
 (0 : Int) < (↑(3 : Nat) : Int) ∧
 (0 : Int) ≤ (0 : Int) ∧
 (0 : Int) < (↑(3 : Nat) : Int) ∧
 (decide (IntKind.wrap IntKind.i64 ((0 : Int) + (1 : Int)) < (3 : Int)) = true →
 (0 : Int) ≤ IntKind.wrap IntKind.i64 ((0 : Int) + (1 : Int)) ∧
 IntKind.wrap IntKind.i64 ((0 : Int) + (1 : Int)) < (↑(3 : Nat) : Int) ∧
 (0 : Int) ≤ IntKind.wrap IntKind.i64 ((0 : Int) + (1 : Int)) ∧
 IntKind.wrap IntKind.i64 ((0 : Int) + (1 : Int)) < (↑(3 : Nat) : Int) ∧
 (decide (IntKind.wrap IntKind.i64 (IntKind.wrap IntKind.i64 ((0 : Int) + (1 : Int)) + (1 : Int)) < (3 : Int)) = true →
 (0 : Int) ≤ IntKind.wrap IntKind.i64 (IntKind.wrap IntKind.i64 ((0 : Int) + (1 : Int)) + (1 : Int)) ∧
 IntKind.wrap IntKind.i64 (IntKind.wrap IntKind.i64 ((0 : Int) + (1 : Int)) + (1 : Int)) < (↑(3 : Nat) : Int) ∧
 (0 : Int) ≤ IntKind.wrap IntKind.i64 (IntKind.wrap IntKind.i64 ((0 : Int) + (1 : Int)) + (1 : Int)) ∧
 IntKind.wrap IntKind.i64 (IntKind.wrap IntKind.i64 ((0 : Int) + (1 : Int)) + (1 : Int)) < (↑(3 : Nat) : Int) ∧
 (decide (IntKind.wrap IntKind.i64 (IntKind.wrap IntKind.i64 (IntKind.wrap IntKind.i64 ((0 : Int) + (1 : Int)) + (1 : Int)) + (1 : Int)) < (3 : Int)) = true →
 (0 : Int) ≤ IntKind.wrap IntKind.i64 (IntKind.wrap IntKind.i64 (IntKind.wrap IntKind.i64 ((0 : Int) + (1 : Int)) + (1 : Int)) + (1 : Int)) ∧
 IntKind.wrap IntKind.i64 (IntKind.wrap IntKind.i64 (IntKind.wrap IntKind.i64 ((0 : Int) + (1 : Int)) + (1 : Int)) + (1 : Int)) < (↑(3 : Nat) : Int) ∧
 False ∧
 False ∧
 (0 : Int) ≤ IntKind.wrap IntKind.i64 (IntKind.wrap IntKind.i64 (IntKind.wrap IntKind.i64 ((0 : Int) + (1 : Int)) + (1 : Int)) + (1 : Int)) ∧
 IntKind.wrap IntKind.i64 (IntKind.wrap IntKind.i64 (IntKind.wrap IntKind.i64 ((0 : Int) + (1 : Int)) + (1 : Int)) + (1 : Int)) < (↑(3 : Nat) : Int) ∧
 False ∧ False) ∧
 (decide (IntKind.wrap IntKind.i64 (IntKind.wrap IntKind.i64 (IntKind.wrap IntKind.i64 ((0 : Int) + (1 : Int)) + (1 : Int)) + (1 : Int)) < (3 : Int)) = false →
 (1 : Int) = (1 : Int) ∧
 (4 : Int) = (4 : Int) ∧
 (8 : Int) = (8 : Int) ∧
 Value.slice none (0 : Nat) (0 : Nat) = Value.slice none (0 : Nat) (0 : Nat) ∧
 (-1 : Int) = (-1 : Int) ∧
 (0 : Int) = (0 : Int) ∧
 (0 : Int) = (0 : Int) ∧
 Value.slice none (0 : Nat) (0 : Nat) = Value.slice none (0 : Nat) (0 : Nat) ∧
 (-1 : Int) = (-1 : Int) ∧
 (0 : Int) = (0 : Int) ∧
 (0 : Int) = (0 : Int) ∧
 Value.slice none (0 : Nat) (0 : Nat) = Value.slice none (0 : Nat) (0 : Nat) ∧
 (-1 : Int) = (-1 : Int) ∧
 (0 : Int) = (0 : Int) ∧ (0 : Int) = (0 : Int) ∧ Value.slice none (0 : Nat) (0 : Nat) = Value.slice none (0 : Nat) (0 : Nat))) ∧
 (decide (IntKind.wrap IntKind.i64 (IntKind.wrap IntKind.i64 ((0 : Int) + (1 : Int)) + (1 : Int)) < (3 : Int)) = false →
 (1 : Int) = (1 : Int) ∧
 (4 : Int) = (4 : Int) ∧
 (8 : Int) = (8 : Int) ∧
 Value.slice none (0 : Nat) (0 : Nat) = Value.slice none (0 : Nat) (0 : Nat) ∧
 (-1 : Int) = (-1 : Int) ∧
 (0 : Int) = (0 : Int) ∧
 (0 : Int) = (0 : Int) ∧
 Value.slice none (0 : Nat) (0 : Nat) = Value.slice none (0 : Nat) (0 : Nat) ∧
 (-1 : Int) = (-1 : Int) ∧
 (0 : Int) = (0 : Int) ∧
 (0 : Int) = (0 : Int) ∧
 Value.slice none (0 : Nat) (0 : Nat) = Value.slice none (0 : Nat) (0 : Nat) ∧
 (-1 : Int) = (-1 : Int) ∧
 (0 : Int) = (0 : Int) ∧ (0 : Int) = (0 : Int) ∧ Value.slice none (0 : Nat) (0 : Nat) = Value.slice none (0 : Nat) (0 : Nat))) ∧
 (decide (IntKind.wrap IntKind.i64 ((0 : Int) + (1 : Int)) < (3 : Int)) = false →
 (1 : Int) = (1 : Int) ∧
 (4 : Int) = (4 : Int) ∧
 (8 : Int) = (8 : Int) ∧
 Value.slice none (0 : Nat) (0 : Nat) = Value.slice none (0 : Nat) (0 : Nat) ∧
 (-1 : Int) = (-1 : Int) ∧
 (0 : Int) = (0 : Int) ∧
 (0 : Int) = (0 : Int) ∧
 Value.slice none (0 : Nat) (0 : Nat) = Value.slice none (0 : Nat) (0 : Nat) ∧
 (-1 : Int) = (-1 : Int) ∧
 (0 : Int) = (0 : Int) ∧
 (0 : Int) = (0 : Int) ∧
 Value.slice none (0 : Nat) (0 : Nat) = Value.slice none (0 : Nat) (0 : Nat) ∧
 (-1 : Int) = (-1 : Int) ∧ (0 : Int) = (0 : Int) ∧ (0 : Int) = (0 : Int) ∧ Value.slice none (0 : Nat) (0 : Nat) = Value.slice none (0 : Nat) (0 : Nat))) ∧
 (decide ((0 : Int) < (3 : Int)) = false →
 (1 : Int) = (1 : Int) ∧
 (4 : Int) = (4 : Int) ∧
 (8 : Int) = (8 : Int) ∧
 Value.slice none (0 : Nat) (0 : Nat) = Value.slice none (0 : Nat) (0 : Nat) ∧
 (-1 : Int) = (-1 : Int) ∧
 (0 : Int) = (0 : Int) ∧
 (0 : Int) = (0 : Int) ∧
 Value.slice none (0 : Nat) (0 : Nat) = Value.slice none (0 : Nat) (0 : Nat) ∧
 (-1 : Int) = (-1 : Int) ∧
 (0 : Int) = (0 : Int) ∧
 (0 : Int) = (0 : Int) ∧
 Value.slice none (0 : Nat) (0 : Nat) = Value.slice none (0 : Nat) (0 : Nat) ∧
 (-1 : Int) = (-1 : Int) ∧ (0 : Int) = (0 : Int) ∧ (0 : Int) = (0 : Int) ∧ Value.slice none (0 : Nat) (0 : Nat) = Value.slice none (0 : Nat) (0 : Nat))
theorem bkOw_e  : bkOw_t  = vcG Tryz.prog (Gof GBa) (lay3) Tryz.f68 [.ag frV] [] (.leaf (.ag frV) ([])) := by kernel_rfl
def bkRd_t (b : ByteArray) (a w : Int) (o : ByteArray) (m : Int) : Prop :=
 (decide (a < (0 : Int)) = true →
 (brG b a w o m = true →
 ByteArray.empty = o ++ brB b a ∧
 (0 : Int) = (1 : Int) ∧
 (0 : Int) = (4 : Int) ∧
 (0 : Int) = (8 : Int) ∧
 Value.slice none (0 : Nat) (0 : Nat) = Value.slice none (0 : Nat) (0 : Nat) ∧
 (0 : Int) = (-1 : Int) ∧
 (0 : Int) = (0 : Int) ∧
 (0 : Int) = (0 : Int) ∧
 Value.slice none (0 : Nat) (0 : Nat) = Value.slice none (0 : Nat) (0 : Nat) ∧
 (0 : Int) = (-1 : Int) ∧
 (0 : Int) = (0 : Int) ∧
 (0 : Int) = (0 : Int) ∧
 Value.slice none (0 : Nat) (0 : Nat) = Value.slice none (0 : Nat) (0 : Nat) ∧
 (0 : Int) = (-1 : Int) ∧
 (0 : Int) = (0 : Int) ∧
 (0 : Int) = (0 : Int) ∧
 Value.slice none (0 : Nat) (0 : Nat) = Value.slice none (0 : Nat) (0 : Nat) ∧
 false = bhL b (brS b a) ∧ (0 : Int) = (brD b a).fst ∧ (2 : Int) = (0 : Int) ∧ (0 : Int) = (0 : Int)) ∧
 (¬brG b a w o m = true →
 ByteArray.empty = ByteArray.empty ∧
 (0 : Int) = (0 : Int) ∧
 (0 : Int) = (0 : Int) ∧
 (0 : Int) = (0 : Int) ∧
 Value.slice none (0 : Nat) (0 : Nat) = Value.slice none (0 : Nat) (0 : Nat) ∧
 (0 : Int) = (0 : Int) ∧
 (0 : Int) = (0 : Int) ∧
 (0 : Int) = (0 : Int) ∧
 Value.slice none (0 : Nat) (0 : Nat) = Value.slice none (0 : Nat) (0 : Nat) ∧
 (0 : Int) = (0 : Int) ∧
 (0 : Int) = (0 : Int) ∧
 (0 : Int) = (0 : Int) ∧
 Value.slice none (0 : Nat) (0 : Nat) = Value.slice none (0 : Nat) (0 : Nat) ∧
 (0 : Int) = (0 : Int) ∧
 (0 : Int) = (0 : Int) ∧
 (0 : Int) = (0 : Int) ∧
 Value.slice none (0 : Nat) (0 : Nat) = Value.slice none (0 : Nat) (0 : Nat) ∧
 false = false ∧ (0 : Int) = (0 : Int) ∧ (2 : Int) = (brE b a w o m).fst ∧ (0 : Int) = (brE b a w o m).snd)) ∧
 (decide (a < (0 : Int)) = false →
 (decide (a > (↑(ByteArray.size b) : Int)) = true →
 (brG b a w o m = true →
 ByteArray.empty = o ++ brB b a ∧
 (0 : Int) = (1 : Int) ∧
 (0 : Int) = (4 : Int) ∧
 (0 : Int) = (8 : Int) ∧
 Value.slice none (0 : Nat) (0 : Nat) = Value.slice none (0 : Nat) (0 : Nat) ∧
 (0 : Int) = (-1 : Int) ∧
 (0 : Int) = (0 : Int) ∧
 (0 : Int) = (0 : Int) ∧
 Value.slice none (0 : Nat) (0 : Nat) = Value.slice none (0 : Nat) (0 : Nat) ∧
 (0 : Int) = (-1 : Int) ∧
 (0 : Int) = (0 : Int) ∧
 (0 : Int) = (0 : Int) ∧
 Value.slice none (0 : Nat) (0 : Nat) = Value.slice none (0 : Nat) (0 : Nat) ∧
 (0 : Int) = (-1 : Int) ∧
 (0 : Int) = (0 : Int) ∧
 (0 : Int) = (0 : Int) ∧
 Value.slice none (0 : Nat) (0 : Nat) = Value.slice none (0 : Nat) (0 : Nat) ∧
 false = bhL b (brS b a) ∧ (0 : Int) = (brD b a).fst ∧ (2 : Int) = (0 : Int) ∧ (0 : Int) = (0 : Int)) ∧
 (¬brG b a w o m = true →
 ByteArray.empty = ByteArray.empty ∧
 (0 : Int) = (0 : Int) ∧
 (0 : Int) = (0 : Int) ∧
 (0 : Int) = (0 : Int) ∧
 Value.slice none (0 : Nat) (0 : Nat) = Value.slice none (0 : Nat) (0 : Nat) ∧
 (0 : Int) = (0 : Int) ∧
 (0 : Int) = (0 : Int) ∧
 (0 : Int) = (0 : Int) ∧
 Value.slice none (0 : Nat) (0 : Nat) = Value.slice none (0 : Nat) (0 : Nat) ∧
 (0 : Int) = (0 : Int) ∧
 (0 : Int) = (0 : Int) ∧
 (0 : Int) = (0 : Int) ∧
 Value.slice none (0 : Nat) (0 : Nat) = Value.slice none (0 : Nat) (0 : Nat) ∧
 (0 : Int) = (0 : Int) ∧
 (0 : Int) = (0 : Int) ∧
 (0 : Int) = (0 : Int) ∧
 Value.slice none (0 : Nat) (0 : Nat) = Value.slice none (0 : Nat) (0 : Nat) ∧
 false = false ∧ (0 : Int) = (0 : Int) ∧ (2 : Int) = (brE b a w o m).fst ∧ (0 : Int) = (brE b a w o m).snd)) ∧
 (decide (a > (↑(ByteArray.size b) : Int)) = false →
 (decide (w < (0 : Int)) = true →
 (brG b a w o m = true →
 ByteArray.empty = o ++ brB b a ∧
 (0 : Int) = (1 : Int) ∧
 (0 : Int) = (4 : Int) ∧
 (0 : Int) = (8 : Int) ∧
 Value.slice none (0 : Nat) (0 : Nat) = Value.slice none (0 : Nat) (0 : Nat) ∧
 (0 : Int) = (-1 : Int) ∧
 (0 : Int) = (0 : Int) ∧
 (0 : Int) = (0 : Int) ∧
 Value.slice none (0 : Nat) (0 : Nat) = Value.slice none (0 : Nat) (0 : Nat) ∧
 (0 : Int) = (-1 : Int) ∧
 (0 : Int) = (0 : Int) ∧
 (0 : Int) = (0 : Int) ∧
 Value.slice none (0 : Nat) (0 : Nat) = Value.slice none (0 : Nat) (0 : Nat) ∧
 (0 : Int) = (-1 : Int) ∧
 (0 : Int) = (0 : Int) ∧
 (0 : Int) = (0 : Int) ∧
 Value.slice none (0 : Nat) (0 : Nat) = Value.slice none (0 : Nat) (0 : Nat) ∧
 false = bhL b (brS b a) ∧ (0 : Int) = (brD b a).fst ∧ (2 : Int) = (0 : Int) ∧ (0 : Int) = (0 : Int)) ∧
 (¬brG b a w o m = true →
 ByteArray.empty = ByteArray.empty ∧
 (0 : Int) = (0 : Int) ∧
 (0 : Int) = (0 : Int) ∧
 (0 : Int) = (0 : Int) ∧
 Value.slice none (0 : Nat) (0 : Nat) = Value.slice none (0 : Nat) (0 : Nat) ∧
 (0 : Int) = (0 : Int) ∧
 (0 : Int) = (0 : Int) ∧
 (0 : Int) = (0 : Int) ∧
 Value.slice none (0 : Nat) (0 : Nat) = Value.slice none (0 : Nat) (0 : Nat) ∧
 (0 : Int) = (0 : Int) ∧
 (0 : Int) = (0 : Int) ∧
 (0 : Int) = (0 : Int) ∧
 Value.slice none (0 : Nat) (0 : Nat) = Value.slice none (0 : Nat) (0 : Nat) ∧
 (0 : Int) = (0 : Int) ∧
 (0 : Int) = (0 : Int) ∧
 (0 : Int) = (0 : Int) ∧
 Value.slice none (0 : Nat) (0 : Nat) = Value.slice none (0 : Nat) (0 : Nat) ∧
 false = false ∧ (0 : Int) = (0 : Int) ∧ (2 : Int) = (brE b a w o m).fst ∧ (0 : Int) = (brE b a w o m).snd)) ∧
 (decide (w < (0 : Int)) = false →
 (decide (w > (134217728 : Int)) = true →
 (brG b a w o m = true →
 ByteArray.empty = o ++ brB b a ∧
 (0 : Int) = (1 : Int) ∧
 (0 : Int) = (4 : Int) ∧
 (0 : Int) = (8 : Int) ∧
 Value.slice none (0 : Nat) (0 : Nat) = Value.slice none (0 : Nat) (0 : Nat) ∧
 (0 : Int) = (-1 : Int) ∧
 (0 : Int) = (0 : Int) ∧
 (0 : Int) = (0 : Int) ∧
 Value.slice none (0 : Nat) (0 : Nat) = Value.slice none (0 : Nat) (0 : Nat) ∧
 (0 : Int) = (-1 : Int) ∧
 (0 : Int) = (0 : Int) ∧
 (0 : Int) = (0 : Int) ∧
 Value.slice none (0 : Nat) (0 : Nat) = Value.slice none (0 : Nat) (0 : Nat) ∧
 (0 : Int) = (-1 : Int) ∧
 (0 : Int) = (0 : Int) ∧
 (0 : Int) = (0 : Int) ∧
 Value.slice none (0 : Nat) (0 : Nat) = Value.slice none (0 : Nat) (0 : Nat) ∧
 false = bhL b (brS b a) ∧ (0 : Int) = (brD b a).fst ∧ (2 : Int) = (0 : Int) ∧ (0 : Int) = (0 : Int)) ∧
 (¬brG b a w o m = true →
 ByteArray.empty = ByteArray.empty ∧
 (0 : Int) = (0 : Int) ∧
 (0 : Int) = (0 : Int) ∧
 (0 : Int) = (0 : Int) ∧
 Value.slice none (0 : Nat) (0 : Nat) = Value.slice none (0 : Nat) (0 : Nat) ∧
 (0 : Int) = (0 : Int) ∧
 (0 : Int) = (0 : Int) ∧
 (0 : Int) = (0 : Int) ∧
 Value.slice none (0 : Nat) (0 : Nat) = Value.slice none (0 : Nat) (0 : Nat) ∧
 (0 : Int) = (0 : Int) ∧
 (0 : Int) = (0 : Int) ∧
 (0 : Int) = (0 : Int) ∧
 Value.slice none (0 : Nat) (0 : Nat) = Value.slice none (0 : Nat) (0 : Nat) ∧
 (0 : Int) = (0 : Int) ∧
 (0 : Int) = (0 : Int) ∧
 (0 : Int) = (0 : Int) ∧
 Value.slice none (0 : Nat) (0 : Nat) = Value.slice none (0 : Nat) (0 : Nat) ∧
 false = false ∧ (0 : Int) = (0 : Int) ∧ (2 : Int) = (brE b a w o m).fst ∧ (0 : Int) = (brE b a w o m).snd)) ∧
 (decide (w > (134217728 : Int)) = false →
 (decide (m < (0 : Int)) = true →
 (brG b a w o m = true →
 ByteArray.empty = o ++ brB b a ∧
 (0 : Int) = (1 : Int) ∧
 (0 : Int) = (4 : Int) ∧
 (0 : Int) = (8 : Int) ∧
 Value.slice none (0 : Nat) (0 : Nat) = Value.slice none (0 : Nat) (0 : Nat) ∧
 (0 : Int) = (-1 : Int) ∧
 (0 : Int) = (0 : Int) ∧
 (0 : Int) = (0 : Int) ∧
 Value.slice none (0 : Nat) (0 : Nat) = Value.slice none (0 : Nat) (0 : Nat) ∧
 (0 : Int) = (-1 : Int) ∧
 (0 : Int) = (0 : Int) ∧
 (0 : Int) = (0 : Int) ∧
 Value.slice none (0 : Nat) (0 : Nat) = Value.slice none (0 : Nat) (0 : Nat) ∧
 (0 : Int) = (-1 : Int) ∧
 (0 : Int) = (0 : Int) ∧
 (0 : Int) = (0 : Int) ∧
 Value.slice none (0 : Nat) (0 : Nat) = Value.slice none (0 : Nat) (0 : Nat) ∧
 false = bhL b (brS b a) ∧ (0 : Int) = (brD b a).fst ∧ (2 : Int) = (0 : Int) ∧ (0 : Int) = (0 : Int)) ∧
 (¬brG b a w o m = true →
 ByteArray.empty = ByteArray.empty ∧
 (0 : Int) = (0 : Int) ∧
 (0 : Int) = (0 : Int) ∧
 (0 : Int) = (0 : Int) ∧
 Value.slice none (0 : Nat) (0 : Nat) = Value.slice none (0 : Nat) (0 : Nat) ∧
 (0 : Int) = (0 : Int) ∧
 (0 : Int) = (0 : Int) ∧
 (0 : Int) = (0 : Int) ∧
 Value.slice none (0 : Nat) (0 : Nat) = Value.slice none (0 : Nat) (0 : Nat) ∧
 (0 : Int) = (0 : Int) ∧
 (0 : Int) = (0 : Int) ∧
 (0 : Int) = (0 : Int) ∧
 Value.slice none (0 : Nat) (0 : Nat) = Value.slice none (0 : Nat) (0 : Nat) ∧
 (0 : Int) = (0 : Int) ∧
 (0 : Int) = (0 : Int) ∧
 (0 : Int) = (0 : Int) ∧
 Value.slice none (0 : Nat) (0 : Nat) = Value.slice none (0 : Nat) (0 : Nat) ∧
 false = false ∧ (0 : Int) = (0 : Int) ∧ (2 : Int) = (brE b a w o m).fst ∧ (0 : Int) = (brE b a w o m).snd)) ∧
 (decide (m < (0 : Int)) = false →
 (decide (m > (1048576 : Int)) = true →
 (brG b a w o m = true →
 ByteArray.empty = o ++ brB b a ∧
 (0 : Int) = (1 : Int) ∧
 (0 : Int) = (4 : Int) ∧
 (0 : Int) = (8 : Int) ∧
 Value.slice none (0 : Nat) (0 : Nat) = Value.slice none (0 : Nat) (0 : Nat) ∧
 (0 : Int) = (-1 : Int) ∧
 (0 : Int) = (0 : Int) ∧
 (0 : Int) = (0 : Int) ∧
 Value.slice none (0 : Nat) (0 : Nat) = Value.slice none (0 : Nat) (0 : Nat) ∧
 (0 : Int) = (-1 : Int) ∧
 (0 : Int) = (0 : Int) ∧
 (0 : Int) = (0 : Int) ∧
 Value.slice none (0 : Nat) (0 : Nat) = Value.slice none (0 : Nat) (0 : Nat) ∧
 (0 : Int) = (-1 : Int) ∧
 (0 : Int) = (0 : Int) ∧
 (0 : Int) = (0 : Int) ∧
 Value.slice none (0 : Nat) (0 : Nat) = Value.slice none (0 : Nat) (0 : Nat) ∧
 false = bhL b (brS b a) ∧ (0 : Int) = (brD b a).fst ∧ (2 : Int) = (0 : Int) ∧ (0 : Int) = (0 : Int)) ∧
 (¬brG b a w o m = true →
 ByteArray.empty = ByteArray.empty ∧
 (0 : Int) = (0 : Int) ∧
 (0 : Int) = (0 : Int) ∧
 (0 : Int) = (0 : Int) ∧
 Value.slice none (0 : Nat) (0 : Nat) = Value.slice none (0 : Nat) (0 : Nat) ∧
 (0 : Int) = (0 : Int) ∧
 (0 : Int) = (0 : Int) ∧
 (0 : Int) = (0 : Int) ∧
 Value.slice none (0 : Nat) (0 : Nat) = Value.slice none (0 : Nat) (0 : Nat) ∧
 (0 : Int) = (0 : Int) ∧
 (0 : Int) = (0 : Int) ∧
 (0 : Int) = (0 : Int) ∧
 Value.slice none (0 : Nat) (0 : Nat) = Value.slice none (0 : Nat) (0 : Nat) ∧
 (0 : Int) = (0 : Int) ∧
 (0 : Int) = (0 : Int) ∧
 (0 : Int) = (0 : Int) ∧
 Value.slice none (0 : Nat) (0 : Nat) = Value.slice none (0 : Nat) (0 : Nat) ∧
 false = false ∧ (0 : Int) = (0 : Int) ∧ (2 : Int) = (brE b a w o m).fst ∧ (0 : Int) = (brE b a w o m).snd)) ∧
 (decide (m > (1048576 : Int)) = false →
 (decide ((↑(ByteArray.size o) : Int) > m) = true →
 (brG b a w o m = true →
 ByteArray.empty = o ++ brB b a ∧
 (0 : Int) = (1 : Int) ∧
 (0 : Int) = (4 : Int) ∧
 (0 : Int) = (8 : Int) ∧
 Value.slice none (0 : Nat) (0 : Nat) = Value.slice none (0 : Nat) (0 : Nat) ∧
 (0 : Int) = (-1 : Int) ∧
 (0 : Int) = (0 : Int) ∧
 (0 : Int) = (0 : Int) ∧
 Value.slice none (0 : Nat) (0 : Nat) = Value.slice none (0 : Nat) (0 : Nat) ∧
 (0 : Int) = (-1 : Int) ∧
 (0 : Int) = (0 : Int) ∧
 (0 : Int) = (0 : Int) ∧
 Value.slice none (0 : Nat) (0 : Nat) = Value.slice none (0 : Nat) (0 : Nat) ∧
 (0 : Int) = (-1 : Int) ∧
 (0 : Int) = (0 : Int) ∧
 (0 : Int) = (0 : Int) ∧
 Value.slice none (0 : Nat) (0 : Nat) = Value.slice none (0 : Nat) (0 : Nat) ∧
 false = bhL b (brS b a) ∧ (0 : Int) = (brD b a).fst ∧ (2 : Int) = (0 : Int) ∧ (0 : Int) = (0 : Int)) ∧
 (¬brG b a w o m = true →
 ByteArray.empty = ByteArray.empty ∧
 (0 : Int) = (0 : Int) ∧
 (0 : Int) = (0 : Int) ∧
 (0 : Int) = (0 : Int) ∧
 Value.slice none (0 : Nat) (0 : Nat) = Value.slice none (0 : Nat) (0 : Nat) ∧
 (0 : Int) = (0 : Int) ∧
 (0 : Int) = (0 : Int) ∧
 (0 : Int) = (0 : Int) ∧
 Value.slice none (0 : Nat) (0 : Nat) = Value.slice none (0 : Nat) (0 : Nat) ∧
 (0 : Int) = (0 : Int) ∧
 (0 : Int) = (0 : Int) ∧
 (0 : Int) = (0 : Int) ∧
 Value.slice none (0 : Nat) (0 : Nat) = Value.slice none (0 : Nat) (0 : Nat) ∧
 (0 : Int) = (0 : Int) ∧
 (0 : Int) = (0 : Int) ∧
 (0 : Int) = (0 : Int) ∧
 Value.slice none (0 : Nat) (0 : Nat) = Value.slice none (0 : Nat) (0 : Nat) ∧
 false = false ∧ (0 : Int) = (0 : Int) ∧ (2 : Int) = (brE b a w o m).fst ∧ (0 : Int) = (brE b a w o m).snd)) ∧
 (decide ((↑(ByteArray.size o) : Int) > m) = false →
 (((0 : Int) != (0 : Int)) = true →
 (brG b a w o m = true →
 ByteArray.empty = o ++ brB b a ∧
 (0 : Int) = (1 : Int) ∧
 (0 : Int) = (4 : Int) ∧
 (0 : Int) = (8 : Int) ∧
 Value.slice none (0 : Nat) (0 : Nat) = Value.slice none (0 : Nat) (0 : Nat) ∧
 (0 : Int) = (-1 : Int) ∧
 (0 : Int) = (0 : Int) ∧
 (0 : Int) = (0 : Int) ∧
 Value.slice none (0 : Nat) (0 : Nat) = Value.slice none (0 : Nat) (0 : Nat) ∧
 (0 : Int) = (-1 : Int) ∧
 (0 : Int) = (0 : Int) ∧
 (0 : Int) = (0 : Int) ∧
 Value.slice none (0 : Nat) (0 : Nat) = Value.slice none (0 : Nat) (0 : Nat) ∧
 (0 : Int) = (-1 : Int) ∧
 (0 : Int) = (0 : Int) ∧
 (0 : Int) = (0 : Int) ∧
 Value.slice none (0 : Nat) (0 : Nat) = Value.slice none (0 : Nat) (0 : Nat) ∧
 false = bhL b (brS b a) ∧ (0 : Int) = (brD b a).fst ∧ (0 : Int) = (0 : Int) ∧ (0 : Int) = (0 : Int)) ∧
 (¬brG b a w o m = true →
 ByteArray.empty = ByteArray.empty ∧
 (0 : Int) = (0 : Int) ∧
 (0 : Int) = (0 : Int) ∧
 (0 : Int) = (0 : Int) ∧
 Value.slice none (0 : Nat) (0 : Nat) = Value.slice none (0 : Nat) (0 : Nat) ∧
 (0 : Int) = (0 : Int) ∧
 (0 : Int) = (0 : Int) ∧
 (0 : Int) = (0 : Int) ∧
 Value.slice none (0 : Nat) (0 : Nat) = Value.slice none (0 : Nat) (0 : Nat) ∧
 (0 : Int) = (0 : Int) ∧
 (0 : Int) = (0 : Int) ∧
 (0 : Int) = (0 : Int) ∧
 Value.slice none (0 : Nat) (0 : Nat) = Value.slice none (0 : Nat) (0 : Nat) ∧
 (0 : Int) = (0 : Int) ∧
 (0 : Int) = (0 : Int) ∧
 (0 : Int) = (0 : Int) ∧
 Value.slice none (0 : Nat) (0 : Nat) = Value.slice none (0 : Nat) (0 : Nat) ∧
 false = false ∧ (0 : Int) = (0 : Int) ∧ (0 : Int) = (brE b a w o m).fst ∧ (0 : Int) = (brE b a w o m).snd)) ∧
 (((0 : Int) != (0 : Int)) = false →
 (∃ (g0 : Unit),
 brI b a w o m = false ∧
 b = b ∧
 a = a ∧
 o = o ∧
 w = w ∧
 m = m ∧
 ByteArray.empty = ByteArray.empty ∧
 (0 : Int) = (0 : Int) ∧
 (0 : Int) = (0 : Int) ∧
 (0 : Int) = (0 : Int) ∧
 Value.slice none (0 : Nat) (0 : Nat) = Value.slice none (0 : Nat) (0 : Nat) ∧
 (0 : Int) = (0 : Int) ∧
 (0 : Int) = (0 : Int) ∧
 (0 : Int) = (0 : Int) ∧
 Value.slice none (0 : Nat) (0 : Nat) = Value.slice none (0 : Nat) (0 : Nat) ∧
 (0 : Int) = (0 : Int) ∧
 (0 : Int) = (0 : Int) ∧
 (0 : Int) = (0 : Int) ∧
 Value.slice none (0 : Nat) (0 : Nat) = Value.slice none (0 : Nat) (0 : Nat) ∧
 (0 : Int) = (0 : Int) ∧
 (0 : Int) = (0 : Int) ∧
 (0 : Int) = (0 : Int) ∧
 Value.slice none (0 : Nat) (0 : Nat) = Value.slice none (0 : Nat) (0 : Nat) ∧
 false = false ∧
 (0 : Int) = (0 : Int) ∧
 (0 : Int) = (0 : Int) ∧
 (0 : Int) = (0 : Int) ∧
 (1 : Int) = (1 : Int) ∧
 (4 : Int) = (4 : Int) ∧
 (8 : Int) = (8 : Int) ∧
 Value.slice none (0 : Nat) (0 : Nat) = Value.slice none (0 : Nat) (0 : Nat) ∧
 (-1 : Int) = (-1 : Int) ∧
 (0 : Int) = (0 : Int) ∧
 (0 : Int) = (0 : Int) ∧
 Value.slice none (0 : Nat) (0 : Nat) = Value.slice none (0 : Nat) (0 : Nat) ∧
 (-1 : Int) = (-1 : Int) ∧
 (0 : Int) = (0 : Int) ∧
 (0 : Int) = (0 : Int) ∧
 Value.slice none (0 : Nat) (0 : Nat) = Value.slice none (0 : Nat) (0 : Nat) ∧
 (-1 : Int) = (-1 : Int) ∧
 (0 : Int) = (0 : Int) ∧
 (0 : Int) = (0 : Int) ∧
 Value.slice none (0 : Nat) (0 : Nat) = Value.slice none (0 : Nat) (0 : Nat)) ∧
 ∀ (g1 : Unit),
 brI b a w o m = false →
 vldC b (nwA b a) (nwE b a) (0 : Int) = true ∧
 ByteArray.size b ≤ (9223372036854775807 : Nat) ∧
 (((bhC b (nwA b a, nwE b a, (0 : Int))).snd.fst != (0 : Int)) = true →
 (brG b a w o m = true →
 ByteArray.empty = o ++ brB b a ∧
 (0 : Int) = (1 : Int) ∧
 (0 : Int) = (4 : Int) ∧
 (0 : Int) = (8 : Int) ∧
 Value.slice none (0 : Nat) (0 : Nat) = Value.slice none (0 : Nat) (0 : Nat) ∧
 (0 : Int) = (-1 : Int) ∧
 (0 : Int) = (0 : Int) ∧
 (0 : Int) = (0 : Int) ∧
 Value.slice none (0 : Nat) (0 : Nat) = Value.slice none (0 : Nat) (0 : Nat) ∧
 (0 : Int) = (-1 : Int) ∧
 (0 : Int) = (0 : Int) ∧
 (0 : Int) = (0 : Int) ∧
 Value.slice none (0 : Nat) (0 : Nat) = Value.slice none (0 : Nat) (0 : Nat) ∧
 (0 : Int) = (-1 : Int) ∧
 (0 : Int) = (0 : Int) ∧
 (0 : Int) = (0 : Int) ∧
 Value.slice none (0 : Nat) (0 : Nat) = Value.slice none (0 : Nat) (0 : Nat) ∧
 false = bhL b (brS b a) ∧
 (0 : Int) = (brD b a).fst ∧
 (bhC b (nwA b a, nwE b a, (0 : Int))).snd.fst = (0 : Int) ∧
 (bhC b (nwA b a, nwE b a, (0 : Int))).snd.snd = (0 : Int)) ∧
 (¬brG b a w o m = true →
 ByteArray.empty = ByteArray.empty ∧
 (0 : Int) = (0 : Int) ∧
 (0 : Int) = (0 : Int) ∧
 (0 : Int) = (0 : Int) ∧
 Value.slice none (0 : Nat) (0 : Nat) = Value.slice none (0 : Nat) (0 : Nat) ∧
 (0 : Int) = (0 : Int) ∧
 (0 : Int) = (0 : Int) ∧
 (0 : Int) = (0 : Int) ∧
 Value.slice none (0 : Nat) (0 : Nat) = Value.slice none (0 : Nat) (0 : Nat) ∧
 (0 : Int) = (0 : Int) ∧
 (0 : Int) = (0 : Int) ∧
 (0 : Int) = (0 : Int) ∧
 Value.slice none (0 : Nat) (0 : Nat) = Value.slice none (0 : Nat) (0 : Nat) ∧
 (0 : Int) = (0 : Int) ∧
 (0 : Int) = (0 : Int) ∧
 (0 : Int) = (0 : Int) ∧
 Value.slice none (0 : Nat) (0 : Nat) = Value.slice none (0 : Nat) (0 : Nat) ∧
 false = false ∧
 (0 : Int) = (0 : Int) ∧
 (bhC b (nwA b a, nwE b a, (0 : Int))).snd.fst = (brE b a w o m).fst ∧
 (bhC b (nwA b a, nwE b a, (0 : Int))).snd.snd = (brE b a w o m).snd)) ∧
 (((bhC b (nwA b a, nwE b a, (0 : Int))).snd.fst != (0 : Int)) = false →
 (decide (bhZ b (nwA b a, nwE b a, (0 : Int)) > min w (131072 : Int)) = true →
 (brG b a w o m = true →
 ByteArray.empty = o ++ brB b a ∧
 (0 : Int) = (1 : Int) ∧
 (0 : Int) = (4 : Int) ∧
 (0 : Int) = (8 : Int) ∧
 Value.slice none (0 : Nat) (0 : Nat) = Value.slice none (0 : Nat) (0 : Nat) ∧
 (0 : Int) = (-1 : Int) ∧
 (0 : Int) = (0 : Int) ∧
 (0 : Int) = (0 : Int) ∧
 Value.slice none (0 : Nat) (0 : Nat) = Value.slice none (0 : Nat) (0 : Nat) ∧
 (0 : Int) = (-1 : Int) ∧
 (0 : Int) = (0 : Int) ∧
 (0 : Int) = (0 : Int) ∧
 Value.slice none (0 : Nat) (0 : Nat) = Value.slice none (0 : Nat) (0 : Nat) ∧
 (0 : Int) = (-1 : Int) ∧
 (0 : Int) = (0 : Int) ∧
 (0 : Int) = (0 : Int) ∧
 Value.slice none (0 : Nat) (0 : Nat) = Value.slice none (0 : Nat) (0 : Nat) ∧
 false = bhL b (brS b a) ∧ (0 : Int) = (brD b a).fst ∧ (19 : Int) = (0 : Int) ∧ a = (0 : Int)) ∧
 (¬brG b a w o m = true →
 ByteArray.empty = ByteArray.empty ∧
 (0 : Int) = (0 : Int) ∧
 (0 : Int) = (0 : Int) ∧
 (0 : Int) = (0 : Int) ∧
 Value.slice none (0 : Nat) (0 : Nat) = Value.slice none (0 : Nat) (0 : Nat) ∧
 (0 : Int) = (0 : Int) ∧
 (0 : Int) = (0 : Int) ∧
 (0 : Int) = (0 : Int) ∧
 Value.slice none (0 : Nat) (0 : Nat) = Value.slice none (0 : Nat) (0 : Nat) ∧
 (0 : Int) = (0 : Int) ∧
 (0 : Int) = (0 : Int) ∧
 (0 : Int) = (0 : Int) ∧
 Value.slice none (0 : Nat) (0 : Nat) = Value.slice none (0 : Nat) (0 : Nat) ∧
 (0 : Int) = (0 : Int) ∧
 (0 : Int) = (0 : Int) ∧
 (0 : Int) = (0 : Int) ∧
 Value.slice none (0 : Nat) (0 : Nat) = Value.slice none (0 : Nat) (0 : Nat) ∧
 false = false ∧ (0 : Int) = (0 : Int) ∧ (19 : Int) = (brE b a w o m).fst ∧ a = (brE b a w o m).snd)) ∧
 (decide (bhZ b (nwA b a, nwE b a, (0 : Int)) > min w (131072 : Int)) = false →
 (((bhK b (nwA b a, nwE b a, (0 : Int)) == (1 : Int)) = true →
 (decide (IntKind.wrap IntKind.i64 ((↑(ByteArray.size o) : Int) + bhZ b (nwA b a, nwE b a, (0 : Int))) > m) = true →
 (brG b a w o m = true →
 ByteArray.empty = o ++ brB b a ∧
 (0 : Int) = (1 : Int) ∧
 (0 : Int) = (4 : Int) ∧
 (0 : Int) = (8 : Int) ∧
 Value.slice none (0 : Nat) (0 : Nat) = Value.slice none (0 : Nat) (0 : Nat) ∧
 (0 : Int) = (-1 : Int) ∧
 (0 : Int) = (0 : Int) ∧
 (0 : Int) = (0 : Int) ∧
 Value.slice none (0 : Nat) (0 : Nat) = Value.slice none (0 : Nat) (0 : Nat) ∧
 (0 : Int) = (-1 : Int) ∧
 (0 : Int) = (0 : Int) ∧
 (0 : Int) = (0 : Int) ∧
 Value.slice none (0 : Nat) (0 : Nat) = Value.slice none (0 : Nat) (0 : Nat) ∧
 (0 : Int) = (-1 : Int) ∧
 (0 : Int) = (0 : Int) ∧
 (0 : Int) = (0 : Int) ∧
 Value.slice none (0 : Nat) (0 : Nat) = Value.slice none (0 : Nat) (0 : Nat) ∧
 false = bhL b (brS b a) ∧ (0 : Int) = (brD b a).fst ∧ (18 : Int) = (0 : Int) ∧ a = (0 : Int)) ∧
 (¬brG b a w o m = true →
 ByteArray.empty = ByteArray.empty ∧
 (0 : Int) = (0 : Int) ∧
 (0 : Int) = (0 : Int) ∧
 (0 : Int) = (0 : Int) ∧
 Value.slice none (0 : Nat) (0 : Nat) = Value.slice none (0 : Nat) (0 : Nat) ∧
 (0 : Int) = (0 : Int) ∧
 (0 : Int) = (0 : Int) ∧
 (0 : Int) = (0 : Int) ∧
 Value.slice none (0 : Nat) (0 : Nat) = Value.slice none (0 : Nat) (0 : Nat) ∧
 (0 : Int) = (0 : Int) ∧
 (0 : Int) = (0 : Int) ∧
 (0 : Int) = (0 : Int) ∧
 Value.slice none (0 : Nat) (0 : Nat) = Value.slice none (0 : Nat) (0 : Nat) ∧
 (0 : Int) = (0 : Int) ∧
 (0 : Int) = (0 : Int) ∧
 (0 : Int) = (0 : Int) ∧
 Value.slice none (0 : Nat) (0 : Nat) = Value.slice none (0 : Nat) (0 : Nat) ∧
 false = false ∧ (0 : Int) = (0 : Int) ∧ (18 : Int) = (brE b a w o m).fst ∧ a = (brE b a w o m).snd)) ∧
 (decide (IntKind.wrap IntKind.i64 ((↑(ByteArray.size o) : Int) + bhZ b (nwA b a, nwE b a, (0 : Int))) > m) = false →
 ∃ (x2 : Unit),
 (brI b a w o m = false ∧
 (brC b a).snd.fst = (0 : Int) ∧
 brZ b a ≤ min w (131072 : Int) ∧
 ((brK b a == (1 : Int) || brK b a == (0 : Int)) && decide ((↑(ByteArray.size o) : Int) + brZ b a > m)) = false) ∧
 bhK b (nwA b a, nwE b a, (0 : Int)) = brK b a ∧
 bhZ b (nwA b a, nwE b a, (0 : Int)) = brZ b a ∧
 (1 : Int) = brX b a ∧
 b = b ∧
 a = a ∧
 o = o ∧
 w = w ∧
 m = m ∧
 b = b ∧
 (bhC b (nwA b a, nwE b a, (0 : Int))).fst = (brC b a).fst ∧
 (bhC b (nwA b a, nwE b a, (0 : Int))).snd.fst = (brC b a).snd.fst ∧
 (bhC b (nwA b a, nwE b a, (0 : Int))).snd.snd = (brC b a).snd.snd ∧
 ByteArray.empty = ByteArray.empty ∧
 (0 : Int) = (0 : Int) ∧
 (0 : Int) = (0 : Int) ∧
 (0 : Int) = (0 : Int) ∧
 Value.slice none (0 : Nat) (0 : Nat) = Value.slice none (0 : Nat) (0 : Nat) ∧
 (0 : Int) = (0 : Int) ∧
 (0 : Int) = (0 : Int) ∧
 (0 : Int) = (0 : Int) ∧
 Value.slice none (0 : Nat) (0 : Nat) = Value.slice none (0 : Nat) (0 : Nat) ∧
 (0 : Int) = (0 : Int) ∧
 (0 : Int) = (0 : Int) ∧
 (0 : Int) = (0 : Int) ∧
 Value.slice none (0 : Nat) (0 : Nat) = Value.slice none (0 : Nat) (0 : Nat) ∧
 (0 : Int) = (0 : Int) ∧
 (0 : Int) = (0 : Int) ∧
 (0 : Int) = (0 : Int) ∧
 Value.slice none (0 : Nat) (0 : Nat) = Value.slice none (0 : Nat) (0 : Nat) ∧
 bhL b (nwA b a, nwE b a, (0 : Int)) = bhL b (brS b a) ∧
 (0 : Int) = (0 : Int) ∧
 (0 : Int) = (0 : Int) ∧
 (0 : Int) = (0 : Int) ∧
 (1 : Int) = (1 : Int) ∧
 (4 : Int) = (4 : Int) ∧
 (8 : Int) = (8 : Int) ∧
 Value.slice none (0 : Nat) (0 : Nat) =
 Value.slice none (0 : Nat) (0 : Nat) ∧
 (-1 : Int) = (-1 : Int) ∧
 (0 : Int) = (0 : Int) ∧
 (0 : Int) = (0 : Int) ∧
 Value.slice none (0 : Nat) (0 : Nat) =
 Value.slice none (0 : Nat) (0 : Nat) ∧
 (-1 : Int) = (-1 : Int) ∧
 (0 : Int) = (0 : Int) ∧
 (0 : Int) = (0 : Int) ∧
 Value.slice none (0 : Nat) (0 : Nat) =
 Value.slice none (0 : Nat) (0 : Nat) ∧
 (-1 : Int) = (-1 : Int) ∧
 (0 : Int) = (0 : Int) ∧
 (0 : Int) = (0 : Int) ∧
 Value.slice none (0 : Nat) (0 : Nat) =
 Value.slice none (0 : Nat)
 (0 : Nat))) ∧
 ((bhK b (nwA b a, nwE b a, (0 : Int)) == (1 : Int)) = false →
 ((bhK b (nwA b a, nwE b a, (0 : Int)) == (0 : Int)) = true →
 (decide (IntKind.wrap IntKind.i64 ((↑(ByteArray.size o) : Int) + bhZ b (nwA b a, nwE b a, (0 : Int))) > m) = true →
 (brG b a w o m = true →
 ByteArray.empty = o ++ brB b a ∧
 (0 : Int) = (1 : Int) ∧
 (0 : Int) = (4 : Int) ∧
 (0 : Int) = (8 : Int) ∧
 Value.slice none (0 : Nat) (0 : Nat) = Value.slice none (0 : Nat) (0 : Nat) ∧
 (0 : Int) = (-1 : Int) ∧
 (0 : Int) = (0 : Int) ∧
 (0 : Int) = (0 : Int) ∧
 Value.slice none (0 : Nat) (0 : Nat) = Value.slice none (0 : Nat) (0 : Nat) ∧
 (0 : Int) = (-1 : Int) ∧
 (0 : Int) = (0 : Int) ∧
 (0 : Int) = (0 : Int) ∧
 Value.slice none (0 : Nat) (0 : Nat) = Value.slice none (0 : Nat) (0 : Nat) ∧
 (0 : Int) = (-1 : Int) ∧
 (0 : Int) = (0 : Int) ∧
 (0 : Int) = (0 : Int) ∧
 Value.slice none (0 : Nat) (0 : Nat) = Value.slice none (0 : Nat) (0 : Nat) ∧
 false = bhL b (brS b a) ∧ (0 : Int) = (brD b a).fst ∧ (18 : Int) = (0 : Int) ∧ a = (0 : Int)) ∧
 (¬brG b a w o m = true →
 ByteArray.empty = ByteArray.empty ∧
 (0 : Int) = (0 : Int) ∧
 (0 : Int) = (0 : Int) ∧
 (0 : Int) = (0 : Int) ∧
 Value.slice none (0 : Nat) (0 : Nat) = Value.slice none (0 : Nat) (0 : Nat) ∧
 (0 : Int) = (0 : Int) ∧
 (0 : Int) = (0 : Int) ∧
 (0 : Int) = (0 : Int) ∧
 Value.slice none (0 : Nat) (0 : Nat) = Value.slice none (0 : Nat) (0 : Nat) ∧
 (0 : Int) = (0 : Int) ∧
 (0 : Int) = (0 : Int) ∧
 (0 : Int) = (0 : Int) ∧
 Value.slice none (0 : Nat) (0 : Nat) = Value.slice none (0 : Nat) (0 : Nat) ∧
 (0 : Int) = (0 : Int) ∧
 (0 : Int) = (0 : Int) ∧
 (0 : Int) = (0 : Int) ∧
 Value.slice none (0 : Nat) (0 : Nat) = Value.slice none (0 : Nat) (0 : Nat) ∧
 false = false ∧
 (0 : Int) = (0 : Int) ∧ (18 : Int) = (brE b a w o m).fst ∧ a = (brE b a w o m).snd)) ∧
 (decide (IntKind.wrap IntKind.i64 ((↑(ByteArray.size o) : Int) + bhZ b (nwA b a, nwE b a, (0 : Int))) > m) = false →
 ∃ (x3 : Unit),
 (brI b a w o m = false ∧
 (brC b a).snd.fst = (0 : Int) ∧
 brZ b a ≤ min w (131072 : Int) ∧
 ((brK b a == (1 : Int) || brK b a == (0 : Int)) && decide ((↑(ByteArray.size o) : Int) + brZ b a > m)) = false) ∧
 bhK b (nwA b a, nwE b a, (0 : Int)) = brK b a ∧
 bhZ b (nwA b a, nwE b a, (0 : Int)) = brZ b a ∧
 bhZ b (nwA b a, nwE b a, (0 : Int)) = brX b a ∧
 b = b ∧
 a = a ∧
 o = o ∧
 w = w ∧
 m = m ∧
 b = b ∧
 (bhC b (nwA b a, nwE b a, (0 : Int))).fst = (brC b a).fst ∧
 (bhC b (nwA b a, nwE b a, (0 : Int))).snd.fst = (brC b a).snd.fst ∧
 (bhC b (nwA b a, nwE b a, (0 : Int))).snd.snd = (brC b a).snd.snd ∧
 ByteArray.empty = ByteArray.empty ∧
 (0 : Int) = (0 : Int) ∧
 (0 : Int) = (0 : Int) ∧
 (0 : Int) = (0 : Int) ∧
 Value.slice none (0 : Nat) (0 : Nat) = Value.slice none (0 : Nat) (0 : Nat) ∧
 (0 : Int) = (0 : Int) ∧
 (0 : Int) = (0 : Int) ∧
 (0 : Int) = (0 : Int) ∧
 Value.slice none (0 : Nat) (0 : Nat) = Value.slice none (0 : Nat) (0 : Nat) ∧
 (0 : Int) = (0 : Int) ∧
 (0 : Int) = (0 : Int) ∧
 (0 : Int) = (0 : Int) ∧
 Value.slice none (0 : Nat) (0 : Nat) = Value.slice none (0 : Nat) (0 : Nat) ∧
 (0 : Int) = (0 : Int) ∧
 (0 : Int) = (0 : Int) ∧
 (0 : Int) = (0 : Int) ∧
 Value.slice none (0 : Nat) (0 : Nat) =
 Value.slice none (0 : Nat) (0 : Nat) ∧
 bhL b (nwA b a, nwE b a, (0 : Int)) = bhL b (brS b a) ∧
 (0 : Int) = (0 : Int) ∧
 (0 : Int) = (0 : Int) ∧
 (0 : Int) = (0 : Int) ∧
 (1 : Int) = (1 : Int) ∧
 (4 : Int) = (4 : Int) ∧
 (8 : Int) = (8 : Int) ∧
 Value.slice none (0 : Nat) (0 : Nat) =
 Value.slice none (0 : Nat) (0 : Nat) ∧
 (-1 : Int) = (-1 : Int) ∧
 (0 : Int) = (0 : Int) ∧
 (0 : Int) = (0 : Int) ∧
 Value.slice none (0 : Nat) (0 : Nat) =
 Value.slice none (0 : Nat) (0 : Nat) ∧
 (-1 : Int) = (-1 : Int) ∧
 (0 : Int) = (0 : Int) ∧
 (0 : Int) = (0 : Int) ∧
 Value.slice none (0 : Nat) (0 : Nat) =
 Value.slice none (0 : Nat) (0 : Nat) ∧
 (-1 : Int) = (-1 : Int) ∧
 (0 : Int) = (0 : Int) ∧
 (0 : Int) = (0 : Int) ∧
 Value.slice none (0 : Nat)
 (0 : Nat) =
 Value.slice none (0 : Nat)
 (0 : Nat))) ∧
 ((bhK b (nwA b a, nwE b a, (0 : Int)) == (0 : Int)) = false →
 ∃ (x4 : Unit),
 (brI b a w o m = false ∧
 (brC b a).snd.fst = (0 : Int) ∧
 brZ b a ≤ min w (131072 : Int) ∧
 ((brK b a == (1 : Int) || brK b a == (0 : Int)) && decide ((↑(ByteArray.size o) : Int) + brZ b a > m)) = false) ∧
 bhK b (nwA b a, nwE b a, (0 : Int)) = brK b a ∧
 bhZ b (nwA b a, nwE b a, (0 : Int)) = brZ b a ∧
 bhZ b (nwA b a, nwE b a, (0 : Int)) = brX b a ∧
 b = b ∧
 a = a ∧
 o = o ∧
 w = w ∧
 m = m ∧
 b = b ∧
 (bhC b (nwA b a, nwE b a, (0 : Int))).fst = (brC b a).fst ∧
 (bhC b (nwA b a, nwE b a, (0 : Int))).snd.fst = (brC b a).snd.fst ∧
 (bhC b (nwA b a, nwE b a, (0 : Int))).snd.snd = (brC b a).snd.snd ∧
 ByteArray.empty = ByteArray.empty ∧
 (0 : Int) = (0 : Int) ∧
 (0 : Int) = (0 : Int) ∧
 (0 : Int) = (0 : Int) ∧
 Value.slice none (0 : Nat) (0 : Nat) = Value.slice none (0 : Nat) (0 : Nat) ∧
 (0 : Int) = (0 : Int) ∧
 (0 : Int) = (0 : Int) ∧
 (0 : Int) = (0 : Int) ∧
 Value.slice none (0 : Nat) (0 : Nat) = Value.slice none (0 : Nat) (0 : Nat) ∧
 (0 : Int) = (0 : Int) ∧
 (0 : Int) = (0 : Int) ∧
 (0 : Int) = (0 : Int) ∧
 Value.slice none (0 : Nat) (0 : Nat) = Value.slice none (0 : Nat) (0 : Nat) ∧
 (0 : Int) = (0 : Int) ∧
 (0 : Int) = (0 : Int) ∧
 (0 : Int) = (0 : Int) ∧
 Value.slice none (0 : Nat) (0 : Nat) = Value.slice none (0 : Nat) (0 : Nat) ∧
 bhL b (nwA b a, nwE b a, (0 : Int)) = bhL b (brS b a) ∧
 (0 : Int) = (0 : Int) ∧
 (0 : Int) = (0 : Int) ∧
 (0 : Int) = (0 : Int) ∧
 (1 : Int) = (1 : Int) ∧
 (4 : Int) = (4 : Int) ∧
 (8 : Int) = (8 : Int) ∧
 Value.slice none (0 : Nat) (0 : Nat) =
 Value.slice none (0 : Nat) (0 : Nat) ∧
 (-1 : Int) = (-1 : Int) ∧
 (0 : Int) = (0 : Int) ∧
 (0 : Int) = (0 : Int) ∧
 Value.slice none (0 : Nat) (0 : Nat) =
 Value.slice none (0 : Nat) (0 : Nat) ∧
 (-1 : Int) = (-1 : Int) ∧
 (0 : Int) = (0 : Int) ∧
 (0 : Int) = (0 : Int) ∧
 Value.slice none (0 : Nat) (0 : Nat) =
 Value.slice none (0 : Nat) (0 : Nat) ∧
 (-1 : Int) = (-1 : Int) ∧
 (0 : Int) = (0 : Int) ∧
 (0 : Int) = (0 : Int) ∧
 Value.slice none (0 : Nat) (0 : Nat) =
 Value.slice none (0 : Nat)
 (0 : Nat)))) ∧
 ∀ (x5 : Unit),
 brI b a w o m = false ∧
 (brC b a).snd.fst = (0 : Int) ∧
 brZ b a ≤ min w (131072 : Int) ∧
 ((brK b a == (1 : Int) || brK b a == (0 : Int)) && decide ((↑(ByteArray.size o) : Int) + brZ b a > m)) = false →
 vldC b (brC b a).fst (brC b a).snd.fst (brC b a).snd.snd = true ∧
 ByteArray.size b ≤ (9223372036854775807 : Nat) ∧
 ((byE b (brC b a).fst (brC b a).snd.fst (brX b a) != (0 : Int)) = true →
 (brG b a w o m = true →
 ByteArray.empty = o ++ brB b a ∧
 (0 : Int) = (1 : Int) ∧
 (0 : Int) = (4 : Int) ∧
 (0 : Int) = (8 : Int) ∧
 Value.slice none (0 : Nat) (0 : Nat) = Value.slice none (0 : Nat) (0 : Nat) ∧
 (0 : Int) = (-1 : Int) ∧
 (0 : Int) = (0 : Int) ∧
 (0 : Int) = (0 : Int) ∧
 Value.slice none (0 : Nat) (0 : Nat) = Value.slice none (0 : Nat) (0 : Nat) ∧
 (0 : Int) = (-1 : Int) ∧
 (0 : Int) = (0 : Int) ∧
 (0 : Int) = (0 : Int) ∧
 Value.slice none (0 : Nat) (0 : Nat) = Value.slice none (0 : Nat) (0 : Nat) ∧
 (0 : Int) = (-1 : Int) ∧
 (0 : Int) = (0 : Int) ∧
 (0 : Int) = (0 : Int) ∧
 Value.slice none (0 : Nat) (0 : Nat) = Value.slice none (0 : Nat) (0 : Nat) ∧
 false = bhL b (brS b a) ∧
 (0 : Int) = (brD b a).fst ∧
 byE b (brC b a).fst (brC b a).snd.fst (brX b a) = (0 : Int) ∧
 byF b (brC b a).fst (brC b a).snd.fst (brC b a).snd.snd (brX b a) = (0 : Int)) ∧
 (¬brG b a w o m = true →
 ByteArray.empty = ByteArray.empty ∧
 (0 : Int) = (0 : Int) ∧
 (0 : Int) = (0 : Int) ∧
 (0 : Int) = (0 : Int) ∧
 Value.slice none (0 : Nat) (0 : Nat) = Value.slice none (0 : Nat) (0 : Nat) ∧
 (0 : Int) = (0 : Int) ∧
 (0 : Int) = (0 : Int) ∧
 (0 : Int) = (0 : Int) ∧
 Value.slice none (0 : Nat) (0 : Nat) = Value.slice none (0 : Nat) (0 : Nat) ∧
 (0 : Int) = (0 : Int) ∧
 (0 : Int) = (0 : Int) ∧
 (0 : Int) = (0 : Int) ∧
 Value.slice none (0 : Nat) (0 : Nat) = Value.slice none (0 : Nat) (0 : Nat) ∧
 (0 : Int) = (0 : Int) ∧
 (0 : Int) = (0 : Int) ∧
 (0 : Int) = (0 : Int) ∧
 Value.slice none (0 : Nat) (0 : Nat) = Value.slice none (0 : Nat) (0 : Nat) ∧
 false = false ∧
 (0 : Int) = (0 : Int) ∧
 byE b (brC b a).fst (brC b a).snd.fst (brX b a) = (brE b a w o m).fst ∧
 byF b (brC b a).fst (brC b a).snd.fst (brC b a).snd.snd (brX b a) = (brE b a w o m).snd)) ∧
 ((byE b (brC b a).fst (brC b a).snd.fst (brX b a) != (0 : Int)) = false →
 ((brK b a == (0 : Int)) = true →
 ByteArray.size o + ByteArray.size (byO b (brC b a).fst (brC b a).snd.fst (brX b a)) ≤ (9223372036854775807 : Nat) ∧
 (brG b a w o m = true →
 o ++ byO b (brC b a).fst (brC b a).snd.fst (brX b a) = o ++ brB b a ∧
 (1 : Int) = (1 : Int) ∧
 (4 : Int) = (4 : Int) ∧
 (8 : Int) = (8 : Int) ∧
 Value.slice none (0 : Nat) (0 : Nat) = Value.slice none (0 : Nat) (0 : Nat) ∧
 (-1 : Int) = (-1 : Int) ∧
 (0 : Int) = (0 : Int) ∧
 (0 : Int) = (0 : Int) ∧
 Value.slice none (0 : Nat) (0 : Nat) = Value.slice none (0 : Nat) (0 : Nat) ∧
 (-1 : Int) = (-1 : Int) ∧
 (0 : Int) = (0 : Int) ∧
 (0 : Int) = (0 : Int) ∧
 Value.slice none (0 : Nat) (0 : Nat) = Value.slice none (0 : Nat) (0 : Nat) ∧
 (-1 : Int) = (-1 : Int) ∧
 (0 : Int) = (0 : Int) ∧
 (0 : Int) = (0 : Int) ∧
 Value.slice none (0 : Nat) (0 : Nat) = Value.slice none (0 : Nat) (0 : Nat) ∧
 bhL b (brS b a) = bhL b (brS b a) ∧
 byA b (brC b a).fst (brC b a).snd.fst (brX b a) = (brD b a).fst ∧
 (0 : Int) = (0 : Int) ∧ (0 : Int) = (0 : Int)) ∧
 (¬brG b a w o m = true →
 o ++ byO b (brC b a).fst (brC b a).snd.fst (brX b a) = ByteArray.empty ∧
 (1 : Int) = (0 : Int) ∧
 (4 : Int) = (0 : Int) ∧
 (8 : Int) = (0 : Int) ∧
 Value.slice none (0 : Nat) (0 : Nat) = Value.slice none (0 : Nat) (0 : Nat) ∧
 (-1 : Int) = (0 : Int) ∧
 (0 : Int) = (0 : Int) ∧
 (0 : Int) = (0 : Int) ∧
 Value.slice none (0 : Nat) (0 : Nat) = Value.slice none (0 : Nat) (0 : Nat) ∧
 (-1 : Int) = (0 : Int) ∧
 (0 : Int) = (0 : Int) ∧
 (0 : Int) = (0 : Int) ∧
 Value.slice none (0 : Nat) (0 : Nat) = Value.slice none (0 : Nat) (0 : Nat) ∧
 (-1 : Int) = (0 : Int) ∧
 (0 : Int) = (0 : Int) ∧
 (0 : Int) = (0 : Int) ∧
 Value.slice none (0 : Nat) (0 : Nat) = Value.slice none (0 : Nat) (0 : Nat) ∧
 bhL b (brS b a) = false ∧
 byA b (brC b a).fst (brC b a).snd.fst (brX b a) = (0 : Int) ∧
 (0 : Int) = (brE b a w o m).fst ∧ (0 : Int) = (brE b a w o m).snd)) ∧
 ((brK b a == (0 : Int)) = false →
 ((brK b a == (1 : Int)) = true →
 (0 : Int) ≤ brZ b a ∧
 brZ b a ≤ (4294967296 : Int) ∧
 ByteArray.size (byO b (brC b a).fst (brC b a).snd.fst (brX b a)) * Int.toNat (brZ b a) ≤ (140737488355328 : Nat) ∧
 ByteArray.size o + ByteArray.size (repS (byO b (brC b a).fst (brC b a).snd.fst (brX b a)) (brZ b a)) ≤
 (9223372036854775807 : Nat) ∧
 (brG b a w o m = true →
 o ++ repS (byO b (brC b a).fst (brC b a).snd.fst (brX b a)) (brZ b a) = o ++ brB b a ∧
 (1 : Int) = (1 : Int) ∧
 (4 : Int) = (4 : Int) ∧
 (8 : Int) = (8 : Int) ∧
 Value.slice none (0 : Nat) (0 : Nat) = Value.slice none (0 : Nat) (0 : Nat) ∧
 (-1 : Int) = (-1 : Int) ∧
 (0 : Int) = (0 : Int) ∧
 (0 : Int) = (0 : Int) ∧
 Value.slice none (0 : Nat) (0 : Nat) = Value.slice none (0 : Nat) (0 : Nat) ∧
 (-1 : Int) = (-1 : Int) ∧
 (0 : Int) = (0 : Int) ∧
 (0 : Int) = (0 : Int) ∧
 Value.slice none (0 : Nat) (0 : Nat) = Value.slice none (0 : Nat) (0 : Nat) ∧
 (-1 : Int) = (-1 : Int) ∧
 (0 : Int) = (0 : Int) ∧
 (0 : Int) = (0 : Int) ∧
 Value.slice none (0 : Nat) (0 : Nat) = Value.slice none (0 : Nat) (0 : Nat) ∧
 bhL b (brS b a) = bhL b (brS b a) ∧
 byA b (brC b a).fst (brC b a).snd.fst (brX b a) = (brD b a).fst ∧
 (0 : Int) = (0 : Int) ∧ (0 : Int) = (0 : Int)) ∧
 (¬brG b a w o m = true →
 o ++ repS (byO b (brC b a).fst (brC b a).snd.fst (brX b a)) (brZ b a) = ByteArray.empty ∧
 (1 : Int) = (0 : Int) ∧
 (4 : Int) = (0 : Int) ∧
 (8 : Int) = (0 : Int) ∧
 Value.slice none (0 : Nat) (0 : Nat) = Value.slice none (0 : Nat) (0 : Nat) ∧
 (-1 : Int) = (0 : Int) ∧
 (0 : Int) = (0 : Int) ∧
 (0 : Int) = (0 : Int) ∧
 Value.slice none (0 : Nat) (0 : Nat) = Value.slice none (0 : Nat) (0 : Nat) ∧
 (-1 : Int) = (0 : Int) ∧
 (0 : Int) = (0 : Int) ∧
 (0 : Int) = (0 : Int) ∧
 Value.slice none (0 : Nat) (0 : Nat) = Value.slice none (0 : Nat) (0 : Nat) ∧
 (-1 : Int) = (0 : Int) ∧
 (0 : Int) = (0 : Int) ∧
 (0 : Int) = (0 : Int) ∧
 Value.slice none (0 : Nat) (0 : Nat) = Value.slice none (0 : Nat) (0 : Nat) ∧
 bhL b (brS b a) = false ∧
 byA b (brC b a).fst (brC b a).snd.fst (brX b a) = (0 : Int) ∧
 (0 : Int) = (brE b a w o m).fst ∧ (0 : Int) = (brE b a w o m).snd)) ∧
 ((brK b a == (1 : Int)) = false → False ∧ False ∧ False ∧ False ∧ False ∧ False ∧ False ∧ False)))))))))))))
theorem bkRd_e (b : ByteArray) (a w : Int) (o : ByteArray) (m : Int) : bkRd_t b a w o m = vcFD Tryz.prog (Gof GBe) (Pof PBk) (oBr b a w o m) (Dof DBk) Tryz.f47 [.v (.string b), .v (.int .i64 a), .ag frV, .v (.string o), .v (.int .i64 w), .v (.int .i64 m)] [] (.ite ⟨brG b a w o m = true, inferInstance⟩ (.leaf (.tu [.v (.string (o ++ brB b a)), .ag frV, .v (.bool (bhL b (brS b a))), .v (.int .i64 (brD b a).1), .ag [.v (.int .i64 0), .v (.int .i64 0)]]) []) (.leaf (.tu [.v (.string ByteArray.empty), .ag zrV, .v (.bool false), .v (.int .i64 0), .ag [.v (.int .i64 (brE b a w o m).1), .v (.int .i64 (brE b a w o m).2)]]) [])) := by kernel_rfl
def bkFl_t (e a : Int) : Prop :=
 e = e ∧ a = a
theorem bkFl_e (e a : Int) : bkFl_t e a = vcFP Tryz.prog (Gof GBc) (Pof []) (fun _ => none) Tryz.f66 [.v (.int .i64 e), .v (.int .i64 a)] (.ifc 136 (.ag [.v (.int .i64 e), .v (.int .i64 a)])) := by kernel_rfl
def bkR1_t (g : ByteArray) (r1 r2 r3 m1 s1 l1 m2 s2 l2 m3 s3 l3 : Int) (l : Bool) (n fe fa : Int) : Prop :=
 g = g ∧
 r1 = r1 ∧
 r2 = r2 ∧
 r3 = r3 ∧
 Value.slice none (0 : Nat) (0 : Nat) = Value.slice none (0 : Nat) (0 : Nat) ∧
 m1 = m1 ∧
 s1 = s1 ∧
 l1 = l1 ∧
 Value.slice none (0 : Nat) (0 : Nat) = Value.slice none (0 : Nat) (0 : Nat) ∧
 m2 = m2 ∧
 s2 = s2 ∧
 l2 = l2 ∧
 Value.slice none (0 : Nat) (0 : Nat) = Value.slice none (0 : Nat) (0 : Nat) ∧
 m3 = m3 ∧ s3 = s3 ∧ l3 = l3 ∧ Value.slice none (0 : Nat) (0 : Nat) = Value.slice none (0 : Nat) (0 : Nat) ∧ l = l ∧ n = n ∧ fe = fe ∧ fa = fa
theorem bkR1_e (g : ByteArray) (r1 r2 r3 m1 s1 l1 m2 s2 l2 m3 s3 l3 : Int) (l : Bool) (n fe fa : Int) : bkR1_t g r1 r2 r3 m1 s1 l1 m2 s2 l2 m3 s3 l3 l n fe fa = vcRD Tryz.prog (Gof GBc) (fun _ => none) Tryz.f65 (.v .nilIface) bkPs (bkH g (stV r1 r2 r3 m1 s1 l1 m2 s2 l2 m3 s3 l3) l n fe fa) (.leaf (.tu []) (bkH g (stV r1 r2 r3 m1 s1 l1 m2 s2 l2 m3 s3 l3) l n fe fa)) := by kernel_rfl
def bkR2_t (e a : Int) (g : ByteArray) (r1 r2 r3 m1 s1 l1 m2 s2 l2 m3 s3 l3 : Int) (l : Bool) (n fe fa : Int) : Prop :=
 ByteArray.empty = ByteArray.empty ∧
 (0 : Int) = (0 : Int) ∧
 (0 : Int) = (0 : Int) ∧
 (0 : Int) = (0 : Int) ∧
 Value.slice none (0 : Nat) (0 : Nat) = Value.slice none (0 : Nat) (0 : Nat) ∧
 (0 : Int) = (0 : Int) ∧
 (0 : Int) = (0 : Int) ∧
 (0 : Int) = (0 : Int) ∧
 Value.slice none (0 : Nat) (0 : Nat) = Value.slice none (0 : Nat) (0 : Nat) ∧
 (0 : Int) = (0 : Int) ∧
 (0 : Int) = (0 : Int) ∧
 (0 : Int) = (0 : Int) ∧
 Value.slice none (0 : Nat) (0 : Nat) = Value.slice none (0 : Nat) (0 : Nat) ∧
 (0 : Int) = (0 : Int) ∧
 (0 : Int) = (0 : Int) ∧
 (0 : Int) = (0 : Int) ∧ Value.slice none (0 : Nat) (0 : Nat) = Value.slice none (0 : Nat) (0 : Nat) ∧ false = false ∧ (0 : Int) = (0 : Int) ∧ e = e ∧ a = a
theorem bkR2_e (e a : Int) (g : ByteArray) (r1 r2 r3 m1 s1 l1 m2 s2 l2 m3 s3 l3 : Int) (l : Bool) (n fe fa : Int) : bkR2_t e a g r1 r2 r3 m1 s1 l1 m2 s2 l2 m3 s3 l3 l n fe fa = vcRD Tryz.prog (Gof GBc) (fun _ => none) Tryz.f65 (.ifc 136 (.ag [.v (.int .i64 e), .v (.int .i64 a)])) bkPs (bkH g (stV r1 r2 r3 m1 s1 l1 m2 s2 l2 m3 s3 l3) l n fe fa) (.leaf (.tu []) (bkH ByteArray.empty zrV false 0 e a)) := by kernel_rfl
end Go.Proofs.YtbfdchahapajaaaGreatDoor
namespace Go.Proofs
open Go.Shelf
def Tryz.lays171_ren : Go.Shelf.Ren := ⟨fun | 171 => 276 | 243 => 277 | 246 => 278 | 283 => 279 | 284 => 280 | 285 => 281 | 286 => 282 | 129 => 250 | 317 => 283 | 318 => 284 | 319 => 285 | 320 => 286 | 337 => 287 | 338 => 288 | n => n, fun | 3 => 3 | 9 => 9 | 2 => 2 | 4 => 4 | 171 => 421 | 0 => 0 | 53 => 67 | 37 => 64 | 5 => 5 | 173 => 423 | 212 => 426 | 51 => 68 | 20 => 20 | 213 => 427 | 46 => 61 | 232 => 428 | 233 => 429 | n => n, fun | 17 => 2 | 18 => 3 | 19 => 4 | n => n⟩
theorem Tryz.lays171 : Go.Proofs.Lays.n171 Tryz.prog Tryz.lays171_ren := {
  mixed := by kernel_rfl
  f129 := Tryz.func250.trans (congrArg some (by kernel_rfl))
  f171 := Tryz.func276.trans (congrArg some (by kernel_rfl))
  f243 := Tryz.func277.trans (congrArg some (by kernel_rfl))
  f246 := Tryz.func278.trans (congrArg some (by kernel_rfl))
  f283 := Tryz.func279.trans (congrArg some (by kernel_rfl))
  f284 := Tryz.func280.trans (congrArg some (by kernel_rfl))
  f285 := Tryz.func281.trans (congrArg some (by kernel_rfl))
  f286 := Tryz.func282.trans (congrArg some (by kernel_rfl))
  f317 := Tryz.func283.trans (congrArg some (by kernel_rfl))
  f318 := Tryz.func284.trans (congrArg some (by kernel_rfl))
  f319 := Tryz.func285.trans (congrArg some (by kernel_rfl))
  f320 := Tryz.func286.trans (congrArg some (by kernel_rfl))
  f337 := Tryz.func287.trans (congrArg some (by kernel_rfl))
  f338 := Tryz.func288.trans (congrArg some (by kernel_rfl))
  t0 := Tryz.underlying0
  a0 := Tryz.isAgg0
  z0 := Tryz.sizeOf0
  v0 := Tryz.zeroValue0
  t2 := Tryz.underlying2
  a2 := Tryz.isAgg2
  z2 := Tryz.sizeOf2
  v2 := Tryz.zeroValue2
  t3 := Tryz.underlying3
  a3 := Tryz.isAgg3
  z3 := Tryz.sizeOf3
  v3 := Tryz.zeroValue3
  t4 := Tryz.underlying4
  a4 := Tryz.isAgg4
  z4 := Tryz.sizeOf4
  v4 := Tryz.zeroValue4
  t5 := Tryz.underlying5
  a5 := Tryz.isAgg5
  z5 := Tryz.sizeOf5
  v5 := Tryz.zeroValue5
  t9 := Tryz.underlying9
  a9 := Tryz.isAgg9
  z9 := Tryz.sizeOf9
  v9 := Tryz.zeroValue9
  t20 := Tryz.underlying20
  a20 := Tryz.isAgg20
  z20 := Tryz.sizeOf20
  v20 := Tryz.zeroValue20
  t37 := Tryz.underlying64
  a37 := Tryz.isAgg64
  z37 := Tryz.sizeOf64
  v37 := Tryz.zeroValue64
  t46 := Tryz.underlying61
  a46 := Tryz.isAgg61
  z46 := Tryz.sizeOf61
  v46 := Tryz.zeroValue61
  t51 := Tryz.underlying68
  a51 := Tryz.isAgg68
  z51 := Tryz.sizeOf68
  v51 := Tryz.zeroValue68
  t53 := Tryz.underlying67
  a53 := Tryz.isAgg67
  z53 := Tryz.sizeOf67
  v53 := Tryz.zeroValue67
  t171 := Tryz.underlying421
  a171 := Tryz.isAgg421
  z171 := Tryz.sizeOf421
  v171 := Tryz.zeroValue421
  t173 := Tryz.underlying423
  a173 := Tryz.isAgg423
  z173 := Tryz.sizeOf423
  v173 := Tryz.zeroValue423
  t212 := Tryz.underlying426
  a212 := Tryz.isAgg426
  z212 := Tryz.sizeOf426
  v212 := Tryz.zeroValue426
  t213 := Tryz.underlying427
  a213 := Tryz.isAgg427
  z213 := Tryz.sizeOf427
  t232 := Tryz.underlying428
  a232 := Tryz.isAgg428
  z232 := Tryz.sizeOf428
  v232 := Tryz.zeroValue428
  t233 := Tryz.underlying429
  a233 := Tryz.isAgg429
  z233 := Tryz.sizeOf429
  v233 := Tryz.zeroValue429
  g17 := by kernel_rfl
  g18 := by kernel_rfl
  g19 := by kernel_rfl }
open Go.RowKit Go.Sort Go.Lib in
theorem Tryz.strconv_Itoa_small (i : Nat) (hi : i < 100) (w : World) :
    Calls Tryz.prog 276 #[.int .i64 i] w fun e w' => e = .returned (.string ⟨(Lib.decDigits i).toArray⟩) ∧ w' = w := Any.strconv_Itoa_small Tryz.lays171 i hi w
def Tryz.lays105_ren : Go.Shelf.Ren := ⟨fun | 105 => 69 | 212 => 84 | 99 => 71 | 165 => 85 | 166 => 86 | 170 => 87 | 169 => 88 | 263 => 112 | 264 => 113 | 206 => 92 | 240 => 114 | 241 => 115 | 276 => 148 | 277 => 149 | n => n, fun | 9 => 9 | 3 => 3 | 4 => 4 | 20 => 20 | 0 => 0 | 46 => 61 | 109 => 160 | 5 => 5 | 72 => 164 | 76 => 166 | 51 => 68 | 146 => 200 | 53 => 67 | 148 => 202 | 70 => 162 | 37 => 64 | 75 => 40 | 127 => 204 | 164 => 77 | 80 => 42 | n => n, fun | n => n⟩
theorem Tryz.lays105 : Go.Proofs.Lays.n105 Tryz.prog Tryz.lays105_ren := {
  mixed := by kernel_rfl
  f99 := Tryz.func71.trans (congrArg some (by kernel_rfl))
  f105 := Tryz.func69.trans (congrArg some (by kernel_rfl))
  f165 := Tryz.func85.trans (congrArg some (by kernel_rfl))
  f166 := Tryz.func86.trans (congrArg some (by kernel_rfl))
  f169 := Tryz.func88.trans (congrArg some (by kernel_rfl))
  f170 := Tryz.func87.trans (congrArg some (by kernel_rfl))
  f206 := Tryz.func92.trans (congrArg some (by kernel_rfl))
  f212 := Tryz.func84.trans (congrArg some (by kernel_rfl))
  f240 := Tryz.func114.trans (congrArg some (by kernel_rfl))
  f241 := Tryz.func115.trans (congrArg some (by kernel_rfl))
  f263 := Tryz.func112.trans (congrArg some (by kernel_rfl))
  f264 := Tryz.func113.trans (congrArg some (by kernel_rfl))
  f276 := Tryz.func148.trans (congrArg some (by kernel_rfl))
  f277 := Tryz.func149.trans (congrArg some (by kernel_rfl))
  t0 := Tryz.underlying0
  a0 := Tryz.isAgg0
  z0 := Tryz.sizeOf0
  v0 := Tryz.zeroValue0
  t3 := Tryz.underlying3
  a3 := Tryz.isAgg3
  z3 := Tryz.sizeOf3
  v3 := Tryz.zeroValue3
  t4 := Tryz.underlying4
  a4 := Tryz.isAgg4
  z4 := Tryz.sizeOf4
  v4 := Tryz.zeroValue4
  t5 := Tryz.underlying5
  a5 := Tryz.isAgg5
  z5 := Tryz.sizeOf5
  v5 := Tryz.zeroValue5
  t9 := Tryz.underlying9
  a9 := Tryz.isAgg9
  z9 := Tryz.sizeOf9
  v9 := Tryz.zeroValue9
  t20 := Tryz.underlying20
  a20 := Tryz.isAgg20
  z20 := Tryz.sizeOf20
  v20 := Tryz.zeroValue20
  t37 := Tryz.underlying64
  a37 := Tryz.isAgg64
  z37 := Tryz.sizeOf64
  v37 := Tryz.zeroValue64
  t46 := Tryz.underlying61
  a46 := Tryz.isAgg61
  z46 := Tryz.sizeOf61
  v46 := Tryz.zeroValue61
  t51 := Tryz.underlying68
  a51 := Tryz.isAgg68
  z51 := Tryz.sizeOf68
  v51 := Tryz.zeroValue68
  t53 := Tryz.underlying67
  a53 := Tryz.isAgg67
  z53 := Tryz.sizeOf67
  v53 := Tryz.zeroValue67
  t70 := Tryz.underlying162
  a70 := Tryz.isAgg162
  z70 := Tryz.sizeOf162
  v70 := Tryz.zeroValue162
  t72 := Tryz.underlying164
  a72 := Tryz.isAgg164
  z72 := Tryz.sizeOf164
  v72 := Tryz.zeroValue164
  t75 := Tryz.underlying40
  a75 := Tryz.isAgg40
  z75 := Tryz.sizeOf40
  v75 := Tryz.zeroValue40
  t76 := Tryz.underlying166
  a76 := Tryz.isAgg166
  z76 := Tryz.sizeOf166
  v76 := Tryz.zeroValue166
  t109 := Tryz.underlying160
  a109 := Tryz.isAgg160
  z109 := Tryz.sizeOf160
  v109 := Tryz.zeroValue160
  t127 := Tryz.underlying204
  a127 := Tryz.isAgg204
  z127 := Tryz.sizeOf204
  v127 := Tryz.zeroValue204
  t146 := Tryz.underlying200
  a146 := Tryz.isAgg200
  z146 := Tryz.sizeOf200
  v146 := Tryz.zeroValue200
  t148 := Tryz.underlying202
  a148 := Tryz.isAgg202
  z148 := Tryz.sizeOf202
  v148 := Tryz.zeroValue202
  t164 := Tryz.underlying77
  a164 := Tryz.isAgg77
  z164 := Tryz.sizeOf77
  v164 := Tryz.zeroValue77 }
theorem Tryz.Builder_Extra_105 : Builder.Extra Tryz.prog Tryz.lays105_ren := {
  sizeBuilder := by kernel_rfl
  liesBuilder := by kernel_rfl
  t5 := Tryz.underlying5
  a5 := Tryz.isAgg5
  z5 := Tryz.sizeOf5
  v5 := Tryz.zeroValue5
  infoByte := by kernel_rfl
  cellsByte := by kernel_rfl
  sizeByte := by kernel_rfl
  neB5 := by decide }
open Go.RowKit Go.Lib in
theorem Tryz.strings_Repeat (s : ByteArray) (c : Nat) (w : World) (hc : c ≤ 9223372036854775807) (hlen : s.size * c ≤ 140737488355328) :
    Calls Tryz.prog 69 #[.string s, .int .i64 c] w fun e w' => e = .returned (.string ⟨(Lib.repeatL s.data.toList c).toArray⟩) ∧ Below w.heap.size w w' := Any.strings_Repeat Tryz.lays105 Tryz.Builder_Extra_105 s c w hc hlen
end Go.Proofs
namespace Go.Proofs.YtbfdchahapajaaaGreatDoor
open Go Go.RowKit
set_option linter.unusedVariables false
set_option linter.unusedSimpArgs false
theorem rep_flat (l : List UInt8) : ∀ n, Lib.repeatL l n = (List.replicate n l).flatten
  | 0 => rfl
  | n + 1 => by rw [Lib.repeatL, rep_flat l n, List.replicate_succ, List.flatten_cons]
theorem rep_sat (s : ByteArray) (c : Int) (h0 : 0 ≤ c) (h1 : c ≤ 4294967296) (h2 : s.size * c.toNat ≤ 140737488355328) : Sat Tryz.prog 69 [.v (.string s), .v (.int .i64 c)] [] (.v (.string (repS s c))) [] := by
  refine sat_of_calls (fun w => ?_) rfl rfl
  have h := Go.Proofs.Tryz.strings_Repeat s c.toNat w (by omega) h2
  rw [Int.toNat_of_nonneg h0] at h
  refine h.mono ?_
  rintro e w' ⟨rfl, hb⟩
  refine ⟨?_, hb⟩
  unfold repS
  rw [rep_flat]
  rfl
theorem rep_sound : Sound Tryz.prog 69 sRep.ctr := sRep.sound (by kernel_rfl) sRep_enc fun (s, c) hc => rep_sat s c (hc _ (.head _)) (hc _ (.tail _ (.head _))) (hc _ (.tail _ (.tail _ (.head _))))
theorem rep_size (s : ByteArray) (c : Int) : (repS s c).size = c.toNat * s.size := by
  show (repS s c).data.size = c.toNat * s.data.size
  unfold repS
  simp
end Go.Proofs.YtbfdchahapajaaaGreatDoor
namespace Go.Proofs.YtbfdchahapajaaaGreatDoor
open Go Go.RowKit
set_option linter.unusedVariables false
set_option linter.unusedSimpArgs false
set_option maxRecDepth 100000
theorem w1 : IntKind.wrap .i64 ((0 : Int) + 1) = 1 := by decide
theorem w2 : IntKind.wrap .i64 ((1 : Int) + 1) = 2 := by decide
theorem w3 : IntKind.wrap .i64 ((2 : Int) + 1) = 3 := by decide
theorem bkFi_v : bkFi_t := ⟨rfl, rfl, rfl⟩
theorem bkUn_v : bkUn_t := by
  unfold bkUn_t
  rw [w1, w2, w3]
  simp
theorem bkEm_v : bkEm_t := by unfold bkEm_t; simp
theorem bkCl_v : bkCl_t := rfl
theorem bkVa_v (k : Int) : bkVa_t k := by
  unfold bkVa_t
  refine ⟨fun h => ?_, fun h => ?_⟩
  · rw [show decide (0 ≤ k) = true from h, Bool.true_and]
  · rw [show decide (0 ≤ k) = false from h, Bool.false_and]
theorem bkFr_v : bkFr_t := by unfold bkFr_t; simp
theorem bkMs_v (k : Int) (h0 : 0 ≤ k) (h2 : k ≤ 2) : bkMs_t k := by
  unfold bkMs_t
  simp [h0, h2]
theorem bkTc_v (k : Int) (h0 : 0 ≤ k) (h2 : k ≤ 2) : bkTc_t k := by
  unfold bkTc_t
  refine ⟨h0, h2, ?_⟩
  simp
theorem bkRc_v : bkRc_t := by unfold bkRc_t; simp
theorem bkOw_v : bkOw_t := by
  unfold bkOw_t
  rw [w1, w2, w3]
  simp
theorem bkCk_v : bkCk_t := by
  unfold bkCk_t
  rw [w1, w2, w3]
  simp
theorem bh_vld {s : ByteArray} {a e f : Int} (h : vldC s a e f = true) : vldC s (bhC s (a, e, f)).1 (bhC s (a, e, f)).2.1 (bhC s (a, e, f)).2.2 = true := by
  unfold bhC
  have := by_vld h 3
  cases (stB s (a, e, f) 3).2.1 == 0 && bhK s (a, e, f) == 3
  · exact this
  · exact fa_vld this (by omega) (by omega)
theorem bkHd_v (s : ByteArray) (a e f : Int) (h : vldC s a e f = true) (hs : s.size ≤ 9223372036854775807) : bkHd_t s a e f := by
  unfold bkHd_t
  have hc : ∀ b : Bool, ((stB s (a, e, f) 3).2.1 == 0 && bhK s (a, e, f) == 3) = b → bhC s (a, e, f) = cond b ((stB s (a, e, f) 3).1, faE (stB s (a, e, f) 3).2.1 15, faF s (stB s (a, e, f) 3).2.1 (stB s (a, e, f) 3).2.2 a) (stB s (a, e, f) 3) := by
    intro b hb
    unfold bhC
    rw [hb]
  refine ⟨h, hs, by decide, by decide, by decide, fun h1 => ⟨fun h2 => ?_, fun h2 => ?_⟩, fun h1 => ?_⟩
  · rw [hc true (by rw [show ((stB s (a, e, f) 3).2.1 == 0) = true from h1, Bool.true_and]; exact h2)]
    exact ⟨by_vld h 3, by decide, by decide, by decide, rfl, rfl, rfl, rfl, rfl, rfl, rfl⟩
  · rw [hc false (by rw [show ((stB s (a, e, f) 3).2.1 == 0) = true from h1, Bool.true_and]; exact h2)]
    exact ⟨by decide, rfl, rfl, rfl, rfl, rfl, rfl, rfl⟩
  · rw [hc false (by rw [show ((stB s (a, e, f) 3).2.1 == 0) = false from h1, Bool.false_and])]
    exact ⟨by decide, rfl, rfl, rfl, rfl, rfl, rfl, rfl⟩
section
variable {b : ByteArray} {a w : Int} {o : ByteArray} {m : Int}
theorem brE1 (h : brI b a w o m = true) : brE b a w o m = (2, 0) := by unfold brE; rw [h]; rfl
theorem brE2 (h : brI b a w o m = false) (h2 : ((brC b a).2.1 != 0) = true) : brE b a w o m = ((brC b a).2.1, (brC b a).2.2) := by unfold brE; rw [h, h2]; rfl
theorem brE3 (h : brI b a w o m = false) (h2 : ((brC b a).2.1 != 0) = false) (h3 : decide (brZ b a > min w 131072) = true) : brE b a w o m = (19, a) := by unfold brE; rw [h, h2, h3]; rfl
theorem brE4 (h : brI b a w o m = false) (h2 : ((brC b a).2.1 != 0) = false) (h3 : decide (brZ b a > min w 131072) = false) (h4 : ((brK b a == 1 || brK b a == 0) && decide ((o.size : Int) + brZ b a > m)) = true) : brE b a w o m = (18, a) := by unfold brE; rw [h, h2, h3, h4]; rfl
theorem brE5 (h : brI b a w o m = false) (h2 : ((brC b a).2.1 != 0) = false) (h3 : decide (brZ b a > min w 131072) = false) (h4 : ((brK b a == 1 || brK b a == 0) && decide ((o.size : Int) + brZ b a > m)) = false) (h5 : ((brD b a).2.1 != 0) = true) : brE b a w o m = ((brD b a).2.1, (brD b a).2.2) := by unfold brE; rw [h, h2, h3, h4, h5]; rfl
theorem brE6 (h : brI b a w o m = false) (h2 : ((brC b a).2.1 != 0) = false) (h3 : decide (brZ b a > min w 131072) = false) (h4 : ((brK b a == 1 || brK b a == 0) && decide ((o.size : Int) + brZ b a > m)) = false) (h5 : ((brD b a).2.1 != 0) = false) : brE b a w o m = (0, 0) := by unfold brE; rw [h, h2, h3, h4, h5]; rfl
theorem brG_of {x y : Int} (h : brE b a w o m = (x, y)) : brG b a w o m = (x == 0) := by unfold brG; rw [h]
theorem bhZ_bd {s : ByteArray} {c : CuT} (h : vldC s c.1 c.2.1 c.2.2 = true) : 0 ≤ bhZ s c ∧ bhZ s c ≤ 2097152 := by
  have h1 := by_size (n := 3) h (by omega)
  have h2 := num_nn (byO s c.1 c.2.1 3)
  have h3 : numS (byO s c.1 c.2.1 3) < 16777216 := by
    have := num_bd (s := byO s c.1 c.2.1 3)
    have h4 : (256 : Int) ^ (byO s c.1 c.2.1 3).size ≤ 256 ^ 3 := by
      have := Nat.pow_le_pow_right (show 0 < 256 by omega) (show (byO s c.1 c.2.1 3).size ≤ 3 by omega)
      exact_mod_cast this
    omega
  unfold bhZ bhN ouB
  rw [show (2 : Int) ^ (min (Int.toNat 3) 64) = 8 from rfl, Int.fdiv_eq_ediv_of_nonneg _ (by omega), wr (by omega) (by omega)]
  omega
theorem br_in (h : brI b a w o m = false) : 0 ≤ a ∧ a ≤ b.size ∧ 0 ≤ w ∧ w ≤ 134217728 ∧ 0 ≤ m ∧ m ≤ 1048576 ∧ (o.size : Int) ≤ m := by
  simp only [brI, Bool.or_eq_false_iff, decide_eq_false_iff_not] at h
  omega
theorem bkRd_v (hs : b.size ≤ 1000000) (hk : (brC b a).2.1 = 0 → brK b a = 0 ∨ brK b a = 1) : bkRd_t b a w o m := by
  have hv := nw_vld b a
  have hz := bhZ_bd (s := b) (c := brS b a) hv
  have hz' : 0 ≤ bhZ b (nwA b a, nwE b a, 0) ∧ bhZ b (nwA b a, nwE b a, 0) ≤ 2097152 := hz
  have hvC : vldC b (brC b a).1 (brC b a).2.1 (brC b a).2.2 = true := bh_vld hv
  have out : brI b a w o m = true → brE b a w o m = (2, 0) ∧ brG b a w o m = false := fun h => ⟨brE1 h, brG_of (brE1 h)⟩
  unfold bkRd_t
  refine ⟨fun h1 => ?_, fun h1 => ⟨fun h2 => ?_, fun h2 => ⟨fun h3 => ?_, fun h3 => ⟨fun h4 => ?_, fun h4 => ⟨fun h5 => ?_, fun h5 => ⟨fun h6 => ?_, fun h6 => ⟨fun h7 => ?_, fun h7 => ⟨fun h8 => ?_, fun h8 => ?_⟩⟩⟩⟩⟩⟩⟩⟩
  · obtain ⟨e, g⟩ := out (by unfold brI; rw [h1]; rfl)
    simp [e, g]
  · obtain ⟨e, g⟩ := out (by unfold brI; rw [h1, h2]; rfl)
    simp [e, g]
  · obtain ⟨e, g⟩ := out (by unfold brI; rw [h1, h2, h3]; rfl)
    simp [e, g]
  · obtain ⟨e, g⟩ := out (by unfold brI; rw [h1, h2, h3, h4]; rfl)
    simp [e, g]
  · obtain ⟨e, g⟩ := out (by unfold brI; rw [h1, h2, h3, h4, h5]; rfl)
    simp [e, g]
  · obtain ⟨e, g⟩ := out (by unfold brI; rw [h1, h2, h3, h4, h5, h6]; rfl)
    simp [e, g]
  · obtain ⟨e, g⟩ := out (by unfold brI; rw [h1, h2, h3, h4, h5, h6, h7]; rfl)
    simp [e, g]
  · exact absurd h8 (by decide)
  · have hI : brI b a w o m = false := by unfold brI; rw [h1, h2, h3, h4, h5, h6, h7]; rfl
    obtain ⟨i1, i2, i3, i4, i5, i6, i7⟩ := br_in hI
    refine ⟨⟨(), hI, by simp⟩, fun _ _ => ⟨hv, by omega, fun e1 => ?_, fun e1 => ⟨fun e2 => ?_, fun e2 => ⟨⟨fun k1 => ⟨fun e3 => ?_, fun e3 => ?_⟩, fun k1 => ⟨fun k0 => ⟨fun e3 => ?_, fun e3 => ?_⟩, fun k0 => ?_⟩⟩, fun _ q => ?_⟩⟩⟩⟩
    · have hE := brE2 (w := w) (o := o) (m := m) hI e1
      have g : brG b a w o m = false := (brG_of hE).trans (by simpa [bne] using (show ((brC b a).2.1 != 0) = true from e1))
      refine ⟨fun hg => absurd hg (by rw [g]; decide), fun _ => ?_⟩
      rw [hE]
      (repeat' (refine And.intro ?_ ?_)) <;> rfl
    · have hE := brE3 (w := w) (o := o) (m := m) hI e1 e2
      have g : brG b a w o m = false := brG_of hE
      refine ⟨fun hg => absurd hg (by rw [g]; decide), fun _ => ?_⟩
      rw [hE]
      (repeat' (refine And.intro ?_ ?_)) <;> rfl
    · have k1 : (brK b a == 1) = true := k1
      have e3' : decide ((o.size : Int) + brZ b a > m) = true := by
        rw [wr (by omega) (by omega)] at e3
        exact e3
      have hE := brE4 (w := w) (o := o) (m := m) hI e1 e2 (by rw [k1, e3', Bool.true_or]; rfl)
      have g : brG b a w o m = false := brG_of hE
      refine ⟨fun hg => absurd hg (by rw [g]; decide), fun _ => ?_⟩
      rw [hE]
      (repeat' (refine And.intro ?_ ?_)) <;> rfl
    · have e3' : decide ((o.size : Int) + brZ b a > m) = false := by
        rw [wr (by omega) (by omega)] at e3
        exact e3
      have hX : 1 = brX b a := by unfold brX; rw [show (brK b a == 1) = true from k1]; rfl
      have e2' : ¬ brZ b a > min w 131072 := by simpa using (show decide (brZ b a > min w 131072) = false from e2)
      refine ⟨(), ⟨hI, by simpa using (show ((brC b a).2.1 != 0) = false from e1), by omega, by rw [e3', Bool.and_false]⟩, rfl, rfl, hX, ?_⟩
      (repeat' (refine And.intro ?_ ?_)) <;> rfl
    · have k0 : (brK b a == 0) = true := k0
      have e3' : decide ((o.size : Int) + brZ b a > m) = true := by
        rw [wr (by omega) (by omega)] at e3
        exact e3
      have hE := brE4 (w := w) (o := o) (m := m) hI e1 e2 (by rw [k0, e3', Bool.or_true]; rfl)
      have g : brG b a w o m = false := brG_of hE
      refine ⟨fun hg => absurd hg (by rw [g]; decide), fun _ => ?_⟩
      rw [hE]
      (repeat' (refine And.intro ?_ ?_)) <;> rfl
    · have e3' : decide ((o.size : Int) + brZ b a > m) = false := by
        rw [wr (by omega) (by omega)] at e3
        exact e3
      have hX : brZ b a = brX b a := by unfold brX; rw [show (brK b a == 1) = false from k1]; rfl
      have e2' : ¬ brZ b a > min w 131072 := by simpa using (show decide (brZ b a > min w 131072) = false from e2)
      refine ⟨(), ⟨hI, by simpa using (show ((brC b a).2.1 != 0) = false from e1), by omega, by rw [e3', Bool.and_false]⟩, rfl, rfl, hX, ?_⟩
      (repeat' (refine And.intro ?_ ?_)) <;> rfl
    · have hE0 : (brC b a).2.1 = 0 := by simpa using (show ((brC b a).2.1 != 0) = false from e1)
      have := hk hE0
      have k0 : (brK b a == 0) = false := k0
      have k1 : (brK b a == 1) = false := k1
      rw [beq_eq_false_iff_ne] at k0 k1
      omega
    · obtain ⟨_, q1, q2, q3⟩ := q
      have k := hk q1
      have e1 : ((brC b a).2.1 != 0) = false := by rw [q1]; rfl
      have e2 : decide (brZ b a > min w 131072) = false := by simpa using q2
      refine ⟨hvC, by omega, fun e5 => ?_, fun e5 => ⟨fun k0 => ?_, fun k0 => ⟨fun k1 => ?_, fun k1 => ?_⟩⟩⟩
      · have hE := brE5 (w := w) (o := o) (m := m) hI e1 e2 q3 e5
        have g : brG b a w o m = false := (brG_of hE).trans (by simpa [bne] using (show ((brD b a).2.1 != 0) = true from e5))
        refine ⟨fun hg => absurd hg (by rw [g]; decide), fun _ => ?_⟩
        rw [hE]
        (repeat' (refine And.intro ?_ ?_)) <;> rfl
      · have k' : brK b a = 0 := by simpa using k0
        have hX : brX b a = brZ b a := by unfold brX; rw [k']; rfl
        have hB : brB b a = byO b (brC b a).1 (brC b a).2.1 (brX b a) := by unfold brB; rw [k']; rfl
        have hE := brE6 (w := w) (o := o) (m := m) hI e1 e2 q3 e5
        have g : brG b a w o m = true := brG_of hE
        refine ⟨?_, fun hg => ?_, fun hg => absurd g hg⟩
        · have := by_size (n := brX b a) hvC (by rw [hX]; exact hz.1)
          have hz2 : brZ b a ≤ 2097152 := hz.2
          omega
        · rw [hB]
          (repeat' (refine And.intro ?_ ?_)) <;> rfl
      · have hX : brX b a = 1 := by unfold brX; rw [k1]; rfl
        have hB : brB b a = repS (byO b (brC b a).1 (brC b a).2.1 (brX b a)) (brZ b a) := by unfold brB; rw [k1]; rfl
        have hE := brE6 (w := w) (o := o) (m := m) hI e1 e2 q3 e5
        have g : brG b a w o m = true := brG_of hE
        have h1 := by_size (n := brX b a) hvC (by rw [hX]; omega)
        have hz1 : 0 ≤ brZ b a := hz.1
        have hz2 : brZ b a ≤ 2097152 := hz.2
        have hm : (byO b (brC b a).1 (brC b a).2.1 (brX b a)).size * (brZ b a).toNat ≤ 1 * 2097152 := Nat.mul_le_mul (by omega) (by omega)
        refine ⟨hz1, by omega, by omega, ?_, fun hg => ?_, fun hg => absurd g hg⟩
        · rw [rep_size, Nat.mul_comm]
          omega
        · rw [hB]
          (repeat' (refine And.intro ?_ ?_)) <;> rfl
      · rw [beq_eq_false_iff_ne] at k0 k1
        omega
end
theorem bkFi_sound : Sound Tryz.prog 63 sBkFi.ctr := sBkFi.sound (by kernel_rfl) sBkFi_enc fun _ hc => (satG GHdd_ok mixed Tryz.func63 bkFi_e bkFi_v).outAg
theorem bkUn_sound : Sound Tryz.prog 62 sBkUn.ctr := sBkUn.sound (by kernel_rfl) sBkUn_enc fun _ hc => by
  exact satG GHdd_ok mixed Tryz.func62 (bkUn_e ) (bkUn_v)
theorem bkEm_sound : Sound Tryz.prog 106 sBkEm.ctr := sBkEm.sound (by kernel_rfl) sBkEm_enc fun _ hc => by
  exact satG GHdd_ok mixed Tryz.func106 (bkEm_e ) (bkEm_v)
theorem bkCl_sound : Sound Tryz.prog 83 sBkCl.ctr := sBkCl.sound (by kernel_rfl) sBkCl_enc fun _ hc => by
  exact satG GHdd_ok mixed Tryz.func83 (bkCl_e ) (bkCl_v)
theorem bkVa_sound : Sound Tryz.prog 141 sBkVa.ctr := sBkVa.sound (by kernel_rfl) sBkVa_enc fun k hc => by
  exact satG GHdd_ok mixed Tryz.func141 (bkVa_e k) (bkVa_v k)
theorem bkMo_sound : Sound Tryz.prog 142 sBkMo.ctr := sBkMo.sound (by kernel_rfl) sBkMo_enc fun (k : Int) hc => by
  have h0 : 0 ≤ k := hc _ (.head _)
  have h1 : k ≤ 2 := hc _ (.tail _ (.head _))
  have h : k = 0 ∨ k = 1 ∨ k = 2 := by omega
  rcases h with rfl | rfl | rfl
  · exact satG GHdd_ok mixed Tryz.func142 bkMo0_e (by unfold bkMo0_t; decide)
  · exact satG GHdd_ok mixed Tryz.func142 bkMo1_e (by unfold bkMo1_t; decide)
  · exact satG GHdd_ok mixed Tryz.func142 bkMo2_e (by unfold bkMo2_t; decide)
theorem GBa_ok : AllOk Tryz.prog GBa := .cons rep_sound <| .cons bkFi_sound <| .cons bkUn_sound <| .cons bkEm_sound <| .cons bkCl_sound <| .cons bkVa_sound <| .cons bkMo_sound <| GHdd_ok
theorem bkMs_sound : Sound Tryz.prog 103 sBkMs.ctr := sBkMs.sound (by kernel_rfl) sBkMs_enc fun k hc => by
  have h0 := hc _ (.head _)
  have h1 := hc _ (.tail _ (.head _))
  exact satG GBa_ok mixed Tryz.func103 (bkMs_e k) (bkMs_v k h0 h1)
theorem bkFr_sound : Sound Tryz.prog 45 sBkFr.ctr := sBkFr.sound (by kernel_rfl) sBkFr_enc fun _ hc => by
  exact satG GBa_ok mixed Tryz.func45 (bkFr_e ) (bkFr_v)
theorem GBb_ok : AllOk Tryz.prog GBb := .cons bkMs_sound <| .cons bkFr_sound <| GBa_ok
theorem bkTc_sound : Sound Tryz.prog 80 sBkTc.ctr := sBkTc.sound (by kernel_rfl) sBkTc_enc fun k hc => by
  have h0 := hc _ (.head _)
  have h1 := hc _ (.tail _ (.head _))
  exact satG GBb_ok mixed Tryz.func80 (bkTc_e k) (bkTc_v k h0 h1)
theorem bkHd_sound : Sound Tryz.prog 54 sBkHd.ctr := sBkHd.sound (by kernel_rfl) sBkHd_enc fun ⟨s, a, e, f⟩ hc => by
  have h0 := hc _ (.head _)
  have h1 := hc _ (.tail _ (.head _))
  exact satG GBb_ok mixed Tryz.func54 (bkHd_e s a e f) (bkHd_v s a e f h0 h1)
theorem GBc_ok : AllOk Tryz.prog GBc := .cons bkTc_sound <| .cons bkHd_sound <| GBb_ok
theorem bkRc_sound : Sound Tryz.prog 78 sBkRc.ctr := sBkRc.sound (by kernel_rfl) sBkRc_enc fun _ hc => (satG GBb_ok mixed Tryz.func78 bkRc_e bkRc_v).inAg
theorem GBd_ok : AllOk Tryz.prog GBd := .cons bkRc_sound <| GBc_ok
theorem bkCk_sound : Sound Tryz.prog 64 sBkCk.ctr := sBkCk.sound (by kernel_rfl) sBkCk_enc fun _ hc => by
  exact satG GBd_ok mixed Tryz.func64 (bkCk_e ) (bkCk_v)
theorem bkOw_sound : Sound Tryz.prog 68 sBkOw.ctr := sBkOw.sound (by kernel_rfl) sBkOw_enc fun _ hc => by
  exact satG GBa_ok mixed Tryz.func68 (bkOw_e ) (bkOw_v)
theorem GBe_ok : AllOk Tryz.prog GBe := .cons bkCk_sound <| .cons bkOw_sound <| GBd_ok
theorem PBk_ok : AllP Tryz.prog PBk := .cons ⟨by kernel_rfl, fun args v h w us => by
  dsimp only at h
  split at h
  · rename_i e a
    cases h
    exact soundP_of GBc_ok mixed AllP.nil Tryz.func66 (Eq.mp (bkFl_e e a) ⟨rfl, rfl⟩) w us
  · cases h⟩ AllP.nil
theorem bkR1_v (g : ByteArray) (r1 r2 r3 m1 s1 q1 m2 s2 q2 m3 s3 q3 : Int) (l : Bool) (n fe fa : Int) : bkR1_t g r1 r2 r3 m1 s1 q1 m2 s2 q2 m3 s3 q3 l n fe fa := by unfold bkR1_t; simp
theorem bkR2_v (e a : Int) (g : ByteArray) (r1 r2 r3 m1 s1 q1 m2 s2 q2 m3 s3 q3 : Int) (l : Bool) (n fe fa : Int) : bkR2_t e a g r1 r2 r3 m1 s1 q1 m2 s2 q2 m3 s3 q3 l n fe fa := by unfold bkR2_t; simp
theorem bkR_sound : SoundD Tryz.prog 65 (DC.of sBkR1 sBkR2) := by
  refine SoundD.of (by kernel_rfl) sBkR1_enc ?_ sBkR2_enc ?_
  · rintro ⟨g, r1, r2, r3, m1, s1, q1, m2, s2, q2, m3, s3, q3, l, n, fe, fa⟩ _ w us
    exact (satRD GBc_ok mixed Tryz.func65 (bkR1_e g r1 r2 r3 m1 s1 q1 m2 s2 q2 m3 s3 q3 l n fe fa) (bkR1_v g r1 r2 r3 m1 s1 q1 m2 s2 q2 m3 s3 q3 l n fe fa) w us rec_ret).ret0
  · rintro ⟨e, a, g, r1, r2, r3, m1, s1, q1, m2, s2, q2, m3, s3, q3, l, n, fe, fa⟩ _ w pv us
    exact satRD GBc_ok mixed Tryz.func65 (bkR2_e e a g r1 r2 r3 m1 s1 q1 m2 s2 q2 m3 s3 q3 l n fe fa) (bkR2_v e a g r1 r2 r3 m1 s1 q1 m2 s2 q2 m3 s3 q3 l n fe fa) w us (rec_pan (pv := pv))
theorem DBk_ok : AllD Tryz.prog DBk := .cons bkR_sound AllD.nil
theorem bkRd_sound : Sound Tryz.prog 47 sBkRd.ctr := sBkRd.sound (by kernel_rfl) sBkRd_enc fun (b, a, w, o, m) hc => by
  have h0 := hc _ (.head _)
  have h1 := hc _ (.tail _ (.head _))
  exact satFD GBe_ok PBk_ok DBk_ok mixed Tryz.func47 (bkRd_e b a w o m) (bkRd_v h0 h1)
theorem GBf_ok : AllOk Tryz.prog GBf := .cons bkRd_sound <| GBe_ok
end Go.Proofs.YtbfdchahapajaaaGreatDoor
namespace Go.Proofs.YtbfdchahapajaaaGreatDoor
open Go Go.RowKit
set_option linter.unusedVariables false
def fbS (b : ByteArray) (w m : Int) (a : Int) (o : ByteArray) : Nat → Int × ByteArray
  | 0 => (a, o)
  | i + 1 => fbS b w m (brD b a).1 (o ++ brB b a) i
def fbX (b : ByteArray) (w m : Int) : Nat → Int → ByteArray → List (Int × Bool)
  | 0, _, _ => []
  | k + 1, a, o => cond (brG b a w o m) (((brD b a).1, bhL b (brS b a)) :: fbX b w m k (brD b a).1 (o ++ brB b a)) []
def fbN (b : ByteArray) (w m a : Int) : Nat := (fbX b w m (b.size + 1) a ByteArray.empty).length
def fbA (b : ByteArray) (w m a : Int) (i : Nat) : Int := (fbS b w m a ByteArray.empty i).1
def fbO (b : ByteArray) (w m a : Int) (i : Nat) : ByteArray := (fbS b w m a ByteArray.empty i).2
def fbV (b : ByteArray) (w m a : Int) (i : Nat) : List Value := [.int .i64 (fbA b w m a (i + 1)), .bool (bhL b (brS b (fbA b w m a i)))]
def fbL (b : ByteArray) (w m a : Int) : List (List Value) := (List.range (fbN b w m a)).map (fbV b w m a)
def fbT (b : ByteArray) (w m a : Int) (y : Nat) : ByteArray := cond (Nat.blt y (fbN b w m a)) (fbO b w m a (y + 1)) ByteArray.empty
def fbE (b : ByteArray) (w m a : Int) (y : Nat) : Int × Int := cond (Nat.blt y (fbN b w m a)) (0, 0) (brE b (fbA b w m a y) w (fbO b w m a y) m)
def fbK (b : ByteArray) (w m a : Int) : Bool := (List.range (fbN b w m a + 1)).all (fun i => (brC b (fbA b w m a i)).2.1 != 0 || (brK b (fbA b w m a i) == 0 || brK b (fbA b w m a i) == 1)) && ((List.range (fbN b w m a)).all (fun i => brG b (fbA b w m a i) w (fbO b w m a i) m) && !brG b (fbA b w m a (fbN b w m a)) w (fbO b w m a (fbN b w m a)) m)
def fbU (b : ByteArray) (w m a : Int) (i : Nat) : Bool := (List.range i).all fun j => !bhL b (brS b (fbA b w m a j))
def fbR (b : ByteArray) (w m a : Int) : Nat := ((List.range (fbN b w m a)).find? fun j => bhL b (brS b (fbA b w m a j))).getD (fbN b w m a)
def fbZ (b : ByteArray) (w m a : Int) (i : Nat) : Int := cond (Nat.blt i (fbN b w m a)) (fbA b w m a (i + 1)) (fbA b w m a i)
def fdD (b : ByteArray) (a : Int) : Int := ((b.data.toList.getD (IntKind.wrap .i64 (a + 4)).toNat 0).toNat : Int)
def fd1 (b : ByteArray) (a : Int) : Int := a + (5 + [(0 : Int), 1, 2, 4].getD (bits .and .u8 (fdD b a) 3).toNat 0)
def fdF (b : ByteArray) (a : Int) : Int := fd1 b a + cond (bits .and .u8 ((fdD b a).fdiv (2 ^ (min (Int.toNat 5) 8))) 1 == 0) 1 0
def fhI (m : Int) : Bool := decide (m < 0) || decide (m > 1048576)
def fhG (b : ByteArray) (a m : Int) : Bool := !fhI m && ((hdE b a).1 == 0 && !decide (hhS b a > m))
def fhE (b : ByteArray) (a m : Int) : Int × Int := cond (fhI m) (2, 0) (cond ((hdE b a).1 == 0) (18, fdF b a) (hdE b a))
def frR (b : ByteArray) (a m : Int) : Nat := fbR b (hhW b a) m (hhN b a)
def frX (b : ByteArray) (a m : Int) : Int := fbZ b (hhW b a) m (hhN b a) (frR b a m)
def frF (b : ByteArray) (a m : Int) : Int × Int := fbE b (hhW b a) m (hhN b a) (frR b a m)
def frT (b : ByteArray) (a m : Int) : ByteArray := fbT b (hhW b a) m (hhN b a) (frR b a m)
def frE (b : ByteArray) (a m : Int) : Int × Int := cond (fhG b a m) (cond ((frF b a m).1 == 0 && (decide (hhS b a ≥ 0) && (hhS b a != ((frT b a m).size : Int)))) (27, frX b a m) (frF b a m)) (fhE b a m)
def frO (b : ByteArray) (a m : Int) : ByteArray := cond ((frE b a m).1 == 0) (frT b a m) ByteArray.empty
def frN (b : ByteArray) (a m : Int) : Int := cond ((frE b a m).1 == 0) (frX b a m) 0
end Go.Proofs.YtbfdchahapajaaaGreatDoor
namespace Go.Proofs.YtbfdchahapajaaaGreatDoor
open Go Go.RowKit
set_option linter.unusedVariables false
set_option linter.unusedSimpArgs false
set_option maxRecDepth 100000
def sFrFd : Spec where
  ι := ByteArray × Int
  dec l H := match l with
    | [.v (.string b), .v (.int .i64 a)] => some ((b, a), [])
    | _ => none
  args := fun (b, a) => [.v (.string b), .v (.int .i64 a)]
  pre := fun (b, a) => [⟨0 ≤ a, inferInstance⟩, ⟨a + 4 < b.size, inferInstance⟩, ⟨b.size ≤ 1000000, inferInstance⟩]
  out := fun (b, a) => .leaf (.v (.int .i64 (fdF b a))) []
theorem sFrFd_enc : ∀ l H n i ls, sFrFd.dec l H = some (i, ls) → l = renL (rho ls n) (sFrFd.args i) ∧ givenHp H ls = renH (rho ls n) (sFrFd.hp i) := by
  intro l H n i ls h
  simp only [sFrFd] at h
  repeat' split at h
  all_goals first
    | (cases h; done)
    | (cases h; exact ⟨rfl, rfl⟩)
def oFf (b : ByteArray) (a : Int) : Nat → Option LoopFam := omL [
  (1002, cutI True [(1, .v (.int .i64 a)), (5, .v (.int .u8 (fdD b a)))] []),
  (1003, cutI True [(1, .v (.int .i64 (fd1 b a))), (5, .v (.int .u8 (fdD b a)))] [])]
end Go.Proofs.YtbfdchahapajaaaGreatDoor
namespace Go.Proofs.YtbfdchahapajaaaGreatDoor
open Go Go.RowKit
set_option linter.unusedVariables false
set_option maxRecDepth 100000
def frFd_t (b : ByteArray) (a : Int) : Prop :=
 ((0 : Int) ≤ IntKind.wrap IntKind.i64 (a + (4 : Int)) ∧
 IntKind.wrap IntKind.i64 (a + (4 : Int)) < (↑(ByteArray.size b) : Int) ∧
 ∃ (x0 : Unit), True ∧ a = a ∧ (↑(UInt8.toNat (List.getD b.data.toList (Int.toNat (IntKind.wrap IntKind.i64 (a + (4 : Int)))) (0 : UInt8))) : Int) = fdD b a) ∧
 ∀ (x1 : Unit),
 True →
 ((0 : Int) ≤ bits BinOp.and IntKind.u8 (fdD b a) (3 : Int) ∧
 bits BinOp.and IntKind.u8 (fdD b a) (3 : Int) < (↑(4 : Nat) : Int) ∧
 ∃ (x2 : Unit),
 True ∧
 IntKind.wrap IntKind.i64
 (a + IntKind.wrap IntKind.i64 ((5 : Int) + List.getD [(0 : Int), (1 : Int), (2 : Int), (4 : Int)] (Int.toNat (bits BinOp.and IntKind.u8 (fdD b a) (3 : Int))) (0 : Int))) =
 fd1 b a ∧
 fdD b a = fdD b a) ∧
 ∀ (x3 : Unit),
 True →
 (0 : Int) ≤ (5 : Int) ∧
 ((bits BinOp.and IntKind.u8 (Int.fdiv (fdD b a) ((2 : Int) ^ min (Int.toNat (5 : Int)) (IntKind.bits IntKind.u8))) (1 : Int) == (0 : Int)) = true →
 IntKind.wrap IntKind.i64 (fd1 b a + (1 : Int)) = fdF b a) ∧
 ((bits BinOp.and IntKind.u8 (Int.fdiv (fdD b a) ((2 : Int) ^ min (Int.toNat (5 : Int)) (IntKind.bits IntKind.u8))) (1 : Int) == (0 : Int)) = false → fd1 b a = fdF b a)
theorem frFd_e (b : ByteArray) (a : Int) : frFd_t b a = vcG Tryz.prog (Gof []) (oFf b a) Tryz.f25 [.v (.string b), .v (.int .i64 a)] [] (.leaf ((.v (.int .i64 (fdF b a)))) ([])) := by kernel_rfl
end Go.Proofs.YtbfdchahapajaaaGreatDoor
namespace Go.Proofs.YtbfdchahapajaaaGreatDoor
open Go Go.RowKit
set_option linter.unusedVariables false
set_option linter.unusedSimpArgs false
set_option maxRecDepth 100000
theorem fg_and : ∀ k : Fin 256, 0 ≤ bits .and .u8 ((k.val : Nat) : Int) 3 ∧ bits .and .u8 ((k.val : Nat) : Int) 3 < 4 := by decide +kernel
theorem fg_dic : ∀ k : Fin 4, 0 ≤ [(0 : Int), 1, 2, 4].getD k.val 0 ∧ [(0 : Int), 1, 2, 4].getD k.val 0 ≤ 4 := by decide
theorem fdD_bd (b : ByteArray) (a : Int) : 0 ≤ bits .and .u8 (fdD b a) 3 ∧ bits .and .u8 (fdD b a) 3 < 4 := by
  unfold fdD
  exact fg_and ⟨(b.data.toList.getD (IntKind.wrap .i64 (a + 4)).toNat 0).toNat, UInt8.toNat_lt _⟩
theorem frFd_v (b : ByteArray) (a : Int) (h0 : 0 ≤ a) (h1 : a + 4 < b.size) (h2 : b.size ≤ 1000000) : frFd_t b a := by
  have hb := fdD_bd b a
  have hd := fg_dic ⟨(bits .and .u8 (fdD b a) 3).toNat, by omega⟩
  have hd : 0 ≤ [(0 : Int), 1, 2, 4].getD (bits .and .u8 (fdD b a) 3).toNat 0 ∧ [(0 : Int), 1, 2, 4].getD (bits .and .u8 (fdD b a) 3).toNat 0 ≤ 4 := hd
  refine ⟨⟨by rw [wr (by omega) (by omega)]; omega, by rw [wr (by omega) (by omega)]; omega, (), trivial, rfl, rfl⟩, fun _ _ => ⟨⟨hb.1, hb.2, (), trivial, ?_, rfl⟩, fun _ _ => ⟨by omega, fun e => ?_, fun e => ?_⟩⟩⟩
  · unfold fd1
    rw [wr (n := 5 + [(0 : Int), 1, 2, 4].getD (bits .and .u8 (fdD b a) 3).toNat 0) (by omega) (by omega), wr (by omega) (by omega)]
  · unfold fdF
    have e' : (bits .and .u8 ((fdD b a).fdiv (2 ^ (min (Int.toNat 5) 8))) 1 == 0) = true := e
    rw [e', wr (by unfold fd1; omega) (by unfold fd1; omega)]
    rfl
  · unfold fdF
    have e' : (bits .and .u8 ((fdD b a).fdiv (2 ^ (min (Int.toNat 5) 8))) 1 == 0) = false := e
    rw [e']
    exact (Int.add_zero _).symm
theorem frFd_sound : Sound Tryz.prog 25 sFrFd.ctr := sFrFd.sound (by kernel_rfl) sFrFd_enc fun ⟨b, a⟩ hc => by
  have h0 := hc _ (.head _)
  have h1 := hc _ (.tail _ (.head _))
  have h2 := hc _ (.tail _ (.tail _ (.head _)))
  exact satG AllOk.nil mixed Tryz.func25 (frFd_e b a) (frFd_v b a h0 h1 h2)
end Go.Proofs.YtbfdchahapajaaaGreatDoor
namespace Go.Proofs.YtbfdchahapajaaaGreatDoor
open Go Go.RowKit
set_option linter.unusedVariables false
set_option linter.unusedSimpArgs false
set_option maxRecDepth 100000
def sFrSt : Spec where
  ι := ByteArray × Int × ByteArray × Int × Int × Bool × Bool × Int
  own := true
  dec l H := match l with
    | [.p l0 0 0, .p l1 0 0, .p l2 0 0, .p l3 0 0, .p l4 0 0, .p l5 0 0] => match H l0 with
      | some (.cells 9 [.v (.string b)]) => match H l1 with
        | some (.cells 3 [.v (.int .i64 a)]) => match H l2 with
          | some (.cells 97 [.v (.int .i64 1), .v (.int .i64 4), .v (.int .i64 8), .v (.slice none 0 0), .v (.int .i64 (-1)), .v (.int .i64 0), .v (.int .i64 0), .v (.slice none 0 0), .v (.int .i64 (-1)), .v (.int .i64 0), .v (.int .i64 0), .v (.slice none 0 0), .v (.int .i64 (-1)), .v (.int .i64 0), .v (.int .i64 0), .v (.slice none 0 0)]) => match H l3 with
            | some (.cells 9 [.v (.string o)]) => match H l4 with
              | some (.cells 23 [.v (.int .i64 w), .v (.int .i64 z), .v (.bool g), .v (.bool c)]) => match H l5 with
                | some (.cells 3 [.v (.int .i64 m)]) => some ((b, a, o, w, z, g, c, m), [l0, l1, l2, l3, l4, l5])
                | _ => none
              | _ => none
            | _ => none
          | _ => none
        | _ => none
      | _ => none
    | _ => none
  args := fun (b, a, o, w, z, g, c, m) => [.p 0 0 0, .p 1 0 0, .p 2 0 0, .p 3 0 0, .p 4 0 0, .p 5 0 0]
  hp := fun (b, a, o, w, z, g, c, m) => [(0, .cells 9 [.v (.string b)]), (1, .cells 3 [.v (.int .i64 a)]), (2, .cells 97 [.v (.int .i64 1), .v (.int .i64 4), .v (.int .i64 8), .v (.slice none 0 0), .v (.int .i64 (-1)), .v (.int .i64 0), .v (.int .i64 0), .v (.slice none 0 0), .v (.int .i64 (-1)), .v (.int .i64 0), .v (.int .i64 0), .v (.slice none 0 0), .v (.int .i64 (-1)), .v (.int .i64 0), .v (.int .i64 0), .v (.slice none 0 0)]), (3, .cells 9 [.v (.string o)]), (4, .cells 23 [.v (.int .i64 w), .v (.int .i64 z), .v (.bool g), .v (.bool c)]), (5, .cells 3 [.v (.int .i64 m)])]
  pre := fun (b, a, o, w, z, g, c, m) => [⟨b.size ≤ 1000000, inferInstance⟩, ⟨(brC b a).2.1 = 0 → brK b a = 0 ∨ brK b a = 1, inferInstance⟩]
  out := fun (b, a, o, w, z, g, c, m) => .ite ⟨brG b a w o m = true, inferInstance⟩ (.leaf (.tu [.v (.bool (bhL b (brS b a))), .ag [.v (.int .i64 0), .v (.int .i64 0)]]) [(0, .cells 9 [.v (.string b)]), (1, .cells 3 [.v (.int .i64 (brD b a).1)]), (2, .cells 97 frV), (3, .cells 9 [.v (.string (o ++ brB b a))]), (4, .cells 23 [.v (.int .i64 w), .v (.int .i64 z), .v (.bool g), .v (.bool c)]), (5, .cells 3 [.v (.int .i64 m)])]) (.leaf (.tu [.v (.bool false), .ag [.v (.int .i64 (brE b a w o m).1), .v (.int .i64 (brE b a w o m).2)]]) [(0, .cells 9 [.v (.string b)]), (1, .cells 3 [.v (.int .i64 0)]), (2, .cells 97 zrV), (3, .cells 9 [.v (.string ByteArray.empty)]), (4, .cells 23 [.v (.int .i64 w), .v (.int .i64 z), .v (.bool g), .v (.bool c)]), (5, .cells 3 [.v (.int .i64 m)])])
theorem sFrSt_enc : ∀ l H n i ls, sFrSt.dec l H = some (i, ls) → l = renL (rho ls n) (sFrSt.args i) ∧ givenHp H ls = renH (rho ls n) (sFrSt.hp i) := by
  intro l H n i ls h
  simp only [sFrSt] at h
  repeat' split at h
  all_goals first
    | (cases h; done)
    | (cases h; exact ⟨rfl, rfl⟩)
    | (cases h; refine ⟨rfl, ?_⟩; simp only [givenHp, List.filterMap_cons, List.filterMap_nil, Option.map, *]; rfl)
def sFrTd : Spec where
  ι := ByteArray × Int × Int × ByteArray × Int × Int
  own := true
  dec l H := match l with
    | [.v (.string s), .ag [.v (.int .i64 e), .v (.int .i64 f)], .p l0 0 0, .p l1 0 0] => match H l0 with
      | some (.cells 9 [.v (.string o)]) => match H l1 with
        | some (.cells 26 [.v (.int .i64 e1), .v (.int .i64 f1)]) => some ((s, e, f, o, e1, f1), [l0, l1])
        | _ => none
      | _ => none
    | _ => none
  args := fun (s, e, f, o, e1, f1) => [.v (.string s), .ag [.v (.int .i64 e), .v (.int .i64 f)], .p 0 0 0, .p 1 0 0]
  hp := fun (s, e, f, o, e1, f1) => [(0, .cells 9 [.v (.string o)]), (1, .cells 26 [.v (.int .i64 e1), .v (.int .i64 f1)])]
  out := fun (s, e, f, o, e1, f1) => .leaf (.tu []) [(0, .cells 9 [.v (.string s)]), (1, .cells 26 [.v (.int .i64 e), .v (.int .i64 f)])]
theorem sFrTd_enc : ∀ l H n i ls, sFrTd.dec l H = some (i, ls) → l = renL (rho ls n) (sFrTd.args i) ∧ givenHp H ls = renH (rho ls n) (sFrTd.hp i) := by
  intro l H n i ls h
  simp only [sFrTd] at h
  repeat' split at h
  all_goals first
    | (cases h; done)
    | (cases h; exact ⟨rfl, rfl⟩)
    | (cases h; refine ⟨rfl, ?_⟩; simp only [givenHp, List.filterMap_cons, List.filterMap_nil, Option.map, *]; rfl)
def GFr1 : List (Nat × Ctr) := (46, sFrSt.ctr) :: (22, sFrTd.ctr) :: (25, sFrFd.ctr) :: GBf
def sFrHd : Spec where
  ι := ByteArray × Int × Int
  dec l H := match l with
    | [.v (.string b), .v (.int .i64 a), .v (.int .i64 m)] => some ((b, a, m), [])
    | _ => none
  args := fun (b, a, m) => [.v (.string b), .v (.int .i64 a), .v (.int .i64 m)]
  pre := fun (b, a, m) => [⟨b.size ≤ 1000000, inferInstance⟩, ⟨fhI m = false → (hdE b a).1 = 0 → m < hhS b a → 0 ≤ a ∧ a + 4 < b.size, inferInstance⟩]
  out := fun (b, a, m) => .ite ⟨fhG b a m = true, inferInstance⟩ (.leaf (.tu [.ag [.v (.int .i64 (hhW b a)), .v (.int .i64 (hhS b a)), .v (.bool (hhG b a)), .v (.bool (hhM b a))], .v (.int .i64 (hhN b a)), .ag [.v (.int .i64 0), .v (.int .i64 0)]]) []) (.leaf (.tu [.ag [.v (.int .i64 0), .v (.int .i64 0), .v (.bool false), .v (.bool false)], .v (.int .i64 0), .ag [.v (.int .i64 (fhE b a m).1), .v (.int .i64 (fhE b a m).2)]]) [])
theorem sFrHd_enc : ∀ l H n i ls, sFrHd.dec l H = some (i, ls) → l = renL (rho ls n) (sFrHd.args i) ∧ givenHp H ls = renH (rho ls n) (sFrHd.hp i) := by
  intro l H n i ls h
  simp only [sFrHd] at h
  repeat' split at h
  all_goals first
    | (cases h; done)
    | (cases h; exact ⟨rfl, rfl⟩)
def sFrBs : Spec where
  ι := ByteArray × Int × Int × Int × Bool × Bool × Int × ByteArray × Int × Int
  own := true
  dec l H := match l with
    | [.v (.string b), .v (.int .i64 a), .ag [.v (.int .i64 w), .v (.int .i64 z), .v (.bool g), .v (.bool c)], .v (.int .i64 m), .fn (.func 22) [] [.p l0 0 0, .p l1 0 0]] => match H l0 with
      | some (.cells 9 [.v (.string o)]) => match H l1 with
        | some (.cells 26 [.v (.int .i64 e), .v (.int .i64 f)]) => some ((b, a, w, z, g, c, m, o, e, f), [l0, l1])
        | _ => none
      | _ => none
    | _ => none
  args := fun (b, a, w, z, g, c, m, o, e, f) => [.v (.string b), .v (.int .i64 a), .ag [.v (.int .i64 w), .v (.int .i64 z), .v (.bool g), .v (.bool c)], .v (.int .i64 m), .fn (.func 22) [] [.p 0 0 0, .p 1 0 0]]
  hp := fun (b, a, w, z, g, c, m, o, e, f) => [(0, .cells 9 [.v (.string o)]), (1, .cells 26 [.v (.int .i64 e), .v (.int .i64 f)])]
  out := fun (b, a, w, z, g, c, m, o, e, f) => .leaf (.fn (.func 44) [] [.p 2000 0 0, .p 2001 0 0, .p 2002 0 0, .p 2003 0 0, .p 2004 0 0]) [(2000, .cells 9 [.v (.string b)]), (2001, .cells 3 [.v (.int .i64 a)]), (2002, .cells 23 [.v (.int .i64 w), .v (.int .i64 z), .v (.bool g), .v (.bool c)]), (2003, .cells 3 [.v (.int .i64 m)]), (2004, .cells 52 [.fn (.func 22) [] [.p 0 0 0, .p 1 0 0]]), (0, .cells 9 [.v (.string o)]), (1, .cells 26 [.v (.int .i64 e), .v (.int .i64 f)])]
theorem sFrBs_enc : ∀ l H n i ls, sFrBs.dec l H = some (i, ls) → l = renL (rho ls n) (sFrBs.args i) ∧ givenHp H ls = renH (rho ls n) (sFrBs.hp i) := by
  intro l H n i ls h
  simp only [sFrBs] at h
  repeat' split at h
  all_goals first
    | (cases h; done)
    | (cases h; exact ⟨rfl, rfl⟩)
    | (cases h; refine ⟨rfl, ?_⟩; simp only [givenHp, List.filterMap_cons, List.filterMap_nil, Option.map, *]; rfl)
def sFrRd : Spec where
  ι := ByteArray × Int × Int
  dec l H := match l with
    | [.v (.string b), .v (.int .i64 a), .v (.int .i64 m)] => some ((b, a, m), [])
    | _ => none
  args := fun (b, a, m) => [.v (.string b), .v (.int .i64 a), .v (.int .i64 m)]
  pre := fun (b, a, m) => [⟨b.size ≤ 1000000, inferInstance⟩, ⟨fhI m = false → (hdE b a).1 = 0 → m < hhS b a → 0 ≤ a ∧ a + 4 < b.size, inferInstance⟩, ⟨fhG b a m = true → fbK b (hhW b a) m (hhN b a) = true ∧ hhM b a = false, inferInstance⟩]
  out := fun (b, a, m) => .leaf (.tu [.v (.string (frO b a m)), .v (.int .i64 (frN b a m)), .ag [.v (.int .i64 (frE b a m).1), .v (.int .i64 (frE b a m).2)]]) []
theorem sFrRd_enc : ∀ l H n i ls, sFrRd.dec l H = some (i, ls) → l = renL (rho ls n) (sFrRd.args i) ∧ givenHp H ls = renH (rho ls n) (sFrRd.hp i) := by
  intro l H n i ls h
  simp only [sFrRd] at h
  repeat' split at h
  all_goals first
    | (cases h; done)
    | (cases h; exact ⟨rfl, rfl⟩)
def GFr2 : List (Nat × Ctr) := (21, sFrBs.ctr) :: GFr1
def GFr3 : List (Nat × Ctr) := (12, sFrHd.ctr) :: GFr2
def GFr4 : List (Nat × Ctr) := (9, sFrRd.ctr) :: GFr3
def fbC (b : ByteArray) (a w z : Int) (g c : Bool) (m : Int) (o : ByteArray) (e f : Int) : List (Nat × SBlk) := [(0, .cells 9 [.v (.string b)]), (1, .cells 3 [.v (.int .i64 a)]), (2, .cells 23 [.v (.int .i64 w), .v (.int .i64 z), .v (.bool g), .v (.bool c)]), (3, .cells 3 [.v (.int .i64 m)]), (4, .cells 52 [.fn (.func 22) [] [.p 5 0 0, .p 6 0 0]]), (5, .cells 9 [.v (.string o)]), (6, .cells 26 [.v (.int .i64 e), .v (.int .i64 f)])]
def oFb (l0 : Nat) (b : ByteArray) (a w z : Int) (g c : Bool) (m : Int) : Nat → Option LoopFamI := fun k => cond (Nat.beq k 0) (some ⟨Unit, fun _ => { ι := Nat, p := fun i => i ≤ fbN b w m a, tm := fun i => [(0, .v (.func (.yield l0) #[] #[])), (1, .p 0 0 0), (2, .p 1 0 0), (3, .p 2 0 0), (4, .p 3 0 0), (5, .p 4 0 0), (7, .p 1000 0 0), (8, .p 1001 0 0), (9, .fn (.func 46) [] [.p 0 0 0, .p 1 0 0, .p 1000 0 0, .p 1001 0 0, .p 2 0 0, .p 3 0 0])], hp := fun i => (1000, .cells 97 frV) :: (1001, .cells 9 [.v (.string (fbO b w m a i))]) :: fbC b (fbA b w m a i) w z g c m (fbO b w m a i) 0 0, μ := fun i => fbN b w m a - i, y := fun i => i }⟩) none
def fbH (b : ByteArray) (a w m : Int) (y : Nat) : List (Nat × SBlk) := [(5, .cells 9 [.v (.string (fbT b w m a y))]), (6, .cells 26 [.v (.int .i64 (fbE b w m a y).1), .v (.int .i64 (fbE b w m a y).2)])]
def frB (b : ByteArray) (a : Int) : SBlk := .cells 23 [.v (.int .i64 (hhW b a)), .v (.int .i64 (hhS b a)), .v (.bool (hhG b a)), .v (.bool (hhM b a))]
def rFr (b : ByteArray) (a m : Int) : RngInv := { f := 44, cap := [.p 500040 0 0, .p 500041 0 0, .p 500042 0 0, .p 500043 0 0, .p 500044 0 0], hpI := [(500040, .cells 9 [.v (.string b)]), (500041, .cells 3 [.v (.int .i64 (hhN b a))]), (500042, frB b a), (500043, .cells 3 [.v (.int .i64 m)]), (500044, .cells 52 [.fn (.func 22) [] [.p 100000 0 0, .p 100016 0 0]]), (100000, .cells 9 [.v (.string ByteArray.empty)]), (100016, .cells 26 [.v (.int .i64 0), .v (.int .i64 0)])], xs := fbL b (hhW b a) m (hhN b a), it := fbV b (hhW b a) m (hhN b a), tm := [(0, .v (.string b)), (7, .p 1001 0 0), (9, .p 1002 0 0)], hp := fun i => [(1001, .cells 3 [.v (.int .i64 (fbA b (hhW b a) m (hhN b a) i))]), (1002, frB b a)], p := fun i => i ≤ fbN b (hhW b a) m (hhN b a) ∧ fbU b (hhW b a) m (hhN b a) i = true, hpE := fun y => [(100000, .cells 9 [.v (.string (fbT b (hhW b a) m (hhN b a) y))]), (100016, .cells 26 [.v (.int .i64 (fbE b (hhW b a) m (hhN b a) y).1), .v (.int .i64 (fbE b (hhW b a) m (hhN b a) y).2)])], tmE := [(6, .p 100000 0 0), (8, .p 100016 0 0)] }
def oFr (b : ByteArray) (a m : Int) : Nat → Option LoopFam := omL [(0, .rng Unit fun _ => rFr b a m),
  (1009, cutI (fhG b a m = true) [(0, .v (.string b)), (6, .p 1001 0 0), (7, .p 1002 0 0), (8, .p 1003 0 0), (9, .p 1004 0 0)] [(1001, .cells 9 [.v (.string (frT b a m))]), (1002, .cells 3 [.v (.int .i64 (frX b a m))]), (1003, .cells 26 [.v (.int .i64 (frF b a m).1), .v (.int .i64 (frF b a m).2)]), (1004, frB b a)]),
  (1011, cutI (fhG b a m = true) [(0, .v (.string b)), (6, .p 1001 0 0), (7, .p 1002 0 0), (8, .p 1003 0 0), (9, .p 1004 0 0)] [(1001, .cells 9 [.v (.string (frT b a m))]), (1002, .cells 3 [.v (.int .i64 (frX b a m))]), (1003, .cells 26 [.v (.int .i64 (frE b a m).1), .v (.int .i64 (frE b a m).2)]), (1004, frB b a)])]
end Go.Proofs.YtbfdchahapajaaaGreatDoor
namespace Go.Proofs.YtbfdchahapajaaaGreatDoor
open Go Go.RowKit
set_option linter.unusedVariables false
set_option maxRecDepth 100000
def frHd_t (b : ByteArray) (a m : Int) : Prop :=
 (decide (m < (0 : Int)) = true →
 (fhG b a m = true → (0 : Int) = hhW b a ∧ (0 : Int) = hhS b a ∧ false = hhG b a ∧ false = hhM b a ∧ (0 : Int) = hhN b a ∧ (2 : Int) = (0 : Int) ∧ (0 : Int) = (0 : Int)) ∧
 (¬fhG b a m = true → (0 : Int) = (0 : Int) ∧ (0 : Int) = (0 : Int) ∧ false = false ∧ false = false ∧ (0 : Int) = (0 : Int) ∧ (2 : Int) = (fhE b a m).fst ∧ (0 : Int) = (fhE b a m).snd)) ∧
 (decide (m < (0 : Int)) = false →
 (decide (m > (1048576 : Int)) = true →
 (fhG b a m = true → (0 : Int) = hhW b a ∧ (0 : Int) = hhS b a ∧ false = hhG b a ∧ false = hhM b a ∧ (0 : Int) = hhN b a ∧ (2 : Int) = (0 : Int) ∧ (0 : Int) = (0 : Int)) ∧
 (¬fhG b a m = true → (0 : Int) = (0 : Int) ∧ (0 : Int) = (0 : Int) ∧ false = false ∧ false = false ∧ (0 : Int) = (0 : Int) ∧ (2 : Int) = (fhE b a m).fst ∧ (0 : Int) = (fhE b a m).snd)) ∧
 (decide (m > (1048576 : Int)) = false →
 ByteArray.size b ≤ (1000000 : Nat) ∧
 (((hdE b a).fst == (0 : Int)) = true →
 (decide (hhS b a > m) = true →
 (0 : Int) ≤ a ∧
 a + (4 : Int) < (↑(ByteArray.size b) : Int) ∧
 ByteArray.size b ≤ (1000000 : Nat) ∧
 (((18 : Int) != (0 : Int)) = true →
 (fhG b a m = true → (0 : Int) = hhW b a ∧ (0 : Int) = hhS b a ∧ false = hhG b a ∧ false = hhM b a ∧ (0 : Int) = hhN b a ∧ (18 : Int) = (0 : Int) ∧ fdF b a = (0 : Int)) ∧
 (¬fhG b a m = true →
 (0 : Int) = (0 : Int) ∧ (0 : Int) = (0 : Int) ∧ false = false ∧ false = false ∧ (0 : Int) = (0 : Int) ∧ (18 : Int) = (fhE b a m).fst ∧ fdF b a = (fhE b a m).snd)) ∧
 (((18 : Int) != (0 : Int)) = false →
 (fhG b a m = true → hhW b a = hhW b a ∧ hhS b a = hhS b a ∧ hhG b a = hhG b a ∧ hhM b a = hhM b a ∧ hhN b a = hhN b a ∧ (0 : Int) = (0 : Int) ∧ (0 : Int) = (0 : Int)) ∧
 (¬fhG b a m = true →
 hhW b a = (0 : Int) ∧ hhS b a = (0 : Int) ∧ hhG b a = false ∧ hhM b a = false ∧ hhN b a = (0 : Int) ∧ (0 : Int) = (fhE b a m).fst ∧ (0 : Int) = (fhE b a m).snd))) ∧
 (decide (hhS b a > m) = false →
 (((hdE b a).fst != (0 : Int)) = true →
 (fhG b a m = true → (0 : Int) = hhW b a ∧ (0 : Int) = hhS b a ∧ false = hhG b a ∧ false = hhM b a ∧ (0 : Int) = hhN b a ∧ (hdE b a).fst = (0 : Int) ∧ (hdE b a).snd = (0 : Int)) ∧
 (¬fhG b a m = true →
 (0 : Int) = (0 : Int) ∧ (0 : Int) = (0 : Int) ∧ false = false ∧ false = false ∧ (0 : Int) = (0 : Int) ∧ (hdE b a).fst = (fhE b a m).fst ∧ (hdE b a).snd = (fhE b a m).snd)) ∧
 (((hdE b a).fst != (0 : Int)) = false →
 (fhG b a m = true → hhW b a = hhW b a ∧ hhS b a = hhS b a ∧ hhG b a = hhG b a ∧ hhM b a = hhM b a ∧ hhN b a = hhN b a ∧ (0 : Int) = (0 : Int) ∧ (0 : Int) = (0 : Int)) ∧
 (¬fhG b a m = true →
 hhW b a = (0 : Int) ∧ hhS b a = (0 : Int) ∧ hhG b a = false ∧ hhM b a = false ∧ hhN b a = (0 : Int) ∧ (0 : Int) = (fhE b a m).fst ∧ (0 : Int) = (fhE b a m).snd)))) ∧
 (((hdE b a).fst == (0 : Int)) = false →
 (((hdE b a).fst != (0 : Int)) = true →
 (fhG b a m = true → (0 : Int) = hhW b a ∧ (0 : Int) = hhS b a ∧ false = hhG b a ∧ false = hhM b a ∧ (0 : Int) = hhN b a ∧ (hdE b a).fst = (0 : Int) ∧ (hdE b a).snd = (0 : Int)) ∧
 (¬fhG b a m = true →
 (0 : Int) = (0 : Int) ∧ (0 : Int) = (0 : Int) ∧ false = false ∧ false = false ∧ (0 : Int) = (0 : Int) ∧ (hdE b a).fst = (fhE b a m).fst ∧ (hdE b a).snd = (fhE b a m).snd)) ∧
 (((hdE b a).fst != (0 : Int)) = false →
 (fhG b a m = true → hhW b a = hhW b a ∧ hhS b a = hhS b a ∧ hhG b a = hhG b a ∧ hhM b a = hhM b a ∧ hhN b a = hhN b a ∧ (0 : Int) = (0 : Int) ∧ (0 : Int) = (0 : Int)) ∧
 (¬fhG b a m = true →
 hhW b a = (0 : Int) ∧ hhS b a = (0 : Int) ∧ hhG b a = false ∧ hhM b a = false ∧ hhN b a = (0 : Int) ∧ (0 : Int) = (fhE b a m).fst ∧ (0 : Int) = (fhE b a m).snd)))))
theorem frHd_e (b : ByteArray) (a m : Int) : frHd_t b a m = vcG Tryz.prog (Gof GFr2) (fun _ => none) Tryz.f12 [.v (.string b), .v (.int .i64 a), .v (.int .i64 m)] [] (.ite ⟨fhG b a m = true, inferInstance⟩ (.leaf (.tu [.ag [.v (.int .i64 (hhW b a)), .v (.int .i64 (hhS b a)), .v (.bool (hhG b a)), .v (.bool (hhM b a))], .v (.int .i64 (hhN b a)), .ag [.v (.int .i64 0), .v (.int .i64 0)]]) ([])) (.leaf (.tu [.ag [.v (.int .i64 0), .v (.int .i64 0), .v (.bool false), .v (.bool false)], .v (.int .i64 0), .ag [.v (.int .i64 (fhE b a m).1), .v (.int .i64 (fhE b a m).2)]]) ([]))) := by kernel_rfl
def frBs_t (b : ByteArray) (a w z : Int) (g c : Bool) (m : Int) (o : ByteArray) (e f : Int) : Prop :=
 b = b ∧ a = a ∧ w = w ∧ z = z ∧ g = g ∧ c = c ∧ m = m ∧ o = o ∧ e = e ∧ f = f
theorem frBs_e (b : ByteArray) (a w z : Int) (g c : Bool) (m : Int) (o : ByteArray) (e f : Int) : frBs_t b a w z g c m o e f = vcG Tryz.prog (Gof GFr1) (fun _ => none) Tryz.f21 [.v (.string b), .v (.int .i64 a), .ag [.v (.int .i64 w), .v (.int .i64 z), .v (.bool g), .v (.bool c)], .v (.int .i64 m), .fn (.func 22) [] [.p 0 0 0, .p 1 0 0]] [(0, .cells 9 [.v (.string o)]), (1, .cells 26 [.v (.int .i64 e), .v (.int .i64 f)])] (.leaf (.fn (.func 44) [] [.p 2000 0 0, .p 2001 0 0, .p 2002 0 0, .p 2003 0 0, .p 2004 0 0]) ([(2000, .cells 9 [.v (.string b)]), (2001, .cells 3 [.v (.int .i64 a)]), (2002, .cells 23 [.v (.int .i64 w), .v (.int .i64 z), .v (.bool g), .v (.bool c)]), (2003, .cells 3 [.v (.int .i64 m)]), (2004, .cells 52 [.fn (.func 22) [] [.p 0 0 0, .p 1 0 0]]), (0, .cells 9 [.v (.string o)]), (1, .cells 26 [.v (.int .i64 e), .v (.int .i64 f)])])) := by kernel_rfl
def frRd_t (b : ByteArray) (a m : Int) : Prop :=
 (fhG b a m = true →
 ByteArray.size b ≤ (1000000 : Nat) ∧
 (fhI m = false → (hdE b a).fst = (0 : Int) → m < hhS b a → (0 : Int) ≤ a ∧ a + (4 : Int) < (↑(ByteArray.size b) : Int)) ∧
 (((0 : Int) != (0 : Int)) = true → ByteArray.empty = frO b a m ∧ (0 : Int) = frN b a m ∧ (0 : Int) = (frE b a m).fst ∧ (0 : Int) = (frE b a m).snd) ∧
 (((0 : Int) != (0 : Int)) = false →
 (∃ (y0 : Unit),
 (ISatE Tryz.prog ((44 : Nat))
 [SV.p (500040 : Nat) (0 : Nat) (0 : Nat), SV.p (500041 : Nat) (0 : Nat) (0 : Nat), SV.p (500042 : Nat) (0 : Nat) (0 : Nat), SV.p (500043 : Nat) (0 : Nat) (0 : Nat),
 SV.p (500044 : Nat) (0 : Nat) (0 : Nat)]
 [((500040 : Nat), SBlk.cells (9 : TypeId) [SV.v (Value.string b)]), ((500041 : Nat), SBlk.cells (3 : TypeId) [SV.v (Value.int IntKind.i64 (hhN b a))]),
 ((500042 : Nat),
 SBlk.cells (23 : TypeId) [SV.v (Value.int IntKind.i64 (hhW b a)), SV.v (Value.int IntKind.i64 (hhS b a)), SV.v (Value.bool (hhG b a)), SV.v (Value.bool (hhM b a))]),
 ((500043 : Nat), SBlk.cells (3 : TypeId) [SV.v (Value.int IntKind.i64 m)]),
 ((500044 : Nat), SBlk.cells (52 : TypeId) [SV.fn (Fn.func (22 : FuncId)) [] [SV.p (100000 : Nat) (0 : Nat) (0 : Nat), SV.p (100016 : Nat) (0 : Nat) (0 : Nat)]]),
 ((100000 : Nat), SBlk.cells (9 : TypeId) [SV.v (Value.string ByteArray.empty)]),
 ((100016 : Nat), SBlk.cells (26 : TypeId) [SV.v (Value.int IntKind.i64 (0 : Int)), SV.v (Value.int IntKind.i64 (0 : Int))])]
 (List.map (fbV b (hhW b a) m (hhN b a)) (List.range (fbN b (hhW b a) m (hhN b a)))) fun (y : Nat) =>
 [((100000 : Nat), SBlk.cells (9 : TypeId) [SV.v (Value.string (fbT b (hhW b a) m (hhN b a) y))]),
 ((100016 : Nat),
 SBlk.cells (26 : TypeId) [SV.v (Value.int IntKind.i64 (fbE b (hhW b a) m (hhN b a) y).fst), SV.v (Value.int IntKind.i64 (fbE b (hhW b a) m (hhN b a) y).snd)])]) ∧
 (b = b ∧
 hhN b a = hhN b a ∧
 hhW b a = hhW b a ∧ hhS b a = hhS b a ∧ hhG b a = hhG b a ∧ hhM b a = hhM b a ∧ m = m ∧ ByteArray.empty = ByteArray.empty ∧ (0 : Int) = (0 : Int) ∧ (0 : Int) = (0 : Int)) ∧
 ((0 : Nat) ≤ fbN b (hhW b a) m (hhN b a) ∧ fbU b (hhW b a) m (hhN b a) (0 : Nat) = true) ∧
 (b = b ∧ hhN b a = fbA b (hhW b a) m (hhN b a) (0 : Nat) ∧ hhW b a = hhW b a ∧ hhS b a = hhS b a ∧ hhG b a = hhG b a ∧ hhM b a = hhM b a) ∧
 (∀ (i1 : Nat),
 i1 < List.length (List.map (fbV b (hhW b a) m (hhN b a)) (List.range (fbN b (hhW b a) m (hhN b a)))) →
 i1 ≤ fbN b (hhW b a) m (hhN b a) ∧ fbU b (hhW b a) m (hhN b a) i1 = true →
 (List.map (fbV b (hhW b a) m (hhN b a)) (List.range (fbN b (hhW b a) m (hhN b a))))[i1]? =
 some [Value.int IntKind.i64 (fbA b (hhW b a) m (hhN b a) (i1 + (1 : Nat))), Value.bool (bhL b (brS b (fbA b (hhW b a) m (hhN b a) i1)))] ∧
 List.length [Value.int IntKind.i64 (fbA b (hhW b a) m (hhN b a) (i1 + (1 : Nat))), Value.bool (bhL b (brS b (fbA b (hhW b a) m (hhN b a) i1)))] =
 List.length #[(30 : Nat), (31 : Nat)].toList ∧
 (bhL b (brS b (fbA b (hhW b a) m (hhN b a) i1)) = true →
 ∃ (x2 : Unit),
 fhG b a m = true ∧
 b = b ∧
 fbT b (hhW b a) m (hhN b a) i1 = frT b a m ∧
 fbA b (hhW b a) m (hhN b a) (i1 + (1 : Nat)) = frX b a m ∧
 (fbE b (hhW b a) m (hhN b a) i1).fst = (frF b a m).fst ∧
 (fbE b (hhW b a) m (hhN b a) i1).snd = (frF b a m).snd ∧ hhW b a = hhW b a ∧ hhS b a = hhS b a ∧ hhG b a = hhG b a ∧ hhM b a = hhM b a) ∧
 (bhL b (brS b (fbA b (hhW b a) m (hhN b a) i1)) = false →
 (i1 + (1 : Nat) ≤ fbN b (hhW b a) m (hhN b a) ∧ fbU b (hhW b a) m (hhN b a) (i1 + (1 : Nat)) = true) ∧
 fbA b (hhW b a) m (hhN b a) (i1 + (1 : Nat)) = fbA b (hhW b a) m (hhN b a) (i1 + (1 : Nat)) ∧
 hhW b a = hhW b a ∧ hhS b a = hhS b a ∧ hhG b a = hhG b a ∧ hhM b a = hhM b a)) ∧
 (List.length (List.map (fbV b (hhW b a) m (hhN b a)) (List.range (fbN b (hhW b a) m (hhN b a)))) ≤ fbN b (hhW b a) m (hhN b a) ∧
 fbU b (hhW b a) m (hhN b a) (List.length (List.map (fbV b (hhW b a) m (hhN b a)) (List.range (fbN b (hhW b a) m (hhN b a))))) = true →
 ∃ (x3 : Unit),
 fhG b a m = true ∧
 b = b ∧
 fbT b (hhW b a) m (hhN b a) (List.length (List.map (fbV b (hhW b a) m (hhN b a)) (List.range (fbN b (hhW b a) m (hhN b a))))) = frT b a m ∧
 fbA b (hhW b a) m (hhN b a) (List.length (List.map (fbV b (hhW b a) m (hhN b a)) (List.range (fbN b (hhW b a) m (hhN b a))))) = frX b a m ∧
 (fbE b (hhW b a) m (hhN b a) (List.length (List.map (fbV b (hhW b a) m (hhN b a)) (List.range (fbN b (hhW b a) m (hhN b a)))))).fst = (frF b a m).fst ∧
 (fbE b (hhW b a) m (hhN b a) (List.length (List.map (fbV b (hhW b a) m (hhN b a)) (List.range (fbN b (hhW b a) m (hhN b a)))))).snd = (frF b a m).snd ∧
 hhW b a = hhW b a ∧ hhS b a = hhS b a ∧ hhG b a = hhG b a ∧ hhM b a = hhM b a)) ∧
 ∀ (x4 : Unit),
 fhG b a m = true →
 ((((frF b a m).fst == (0 : Int)) = true →
 (decide (hhS b a ≥ (0 : Int)) = true →
 ((hhS b a != (↑(ByteArray.size (frT b a m)) : Int)) = true →
 ∃ (x5 : Unit),
 fhG b a m = true ∧
 b = b ∧
 frT b a m = frT b a m ∧
 frX b a m = frX b a m ∧
 (27 : Int) = (frE b a m).fst ∧ frX b a m = (frE b a m).snd ∧ hhW b a = hhW b a ∧ hhS b a = hhS b a ∧ hhG b a = hhG b a ∧ hhM b a = hhM b a) ∧
 ((hhS b a != (↑(ByteArray.size (frT b a m)) : Int)) = false →
 ∃ (x6 : Unit),
 fhG b a m = true ∧
 b = b ∧
 frT b a m = frT b a m ∧
 frX b a m = frX b a m ∧
 (frF b a m).fst = (frE b a m).fst ∧ (frF b a m).snd = (frE b a m).snd ∧ hhW b a = hhW b a ∧ hhS b a = hhS b a ∧ hhG b a = hhG b a ∧ hhM b a = hhM b a)) ∧
 (decide (hhS b a ≥ (0 : Int)) = false →
 ∃ (x7 : Unit),
 fhG b a m = true ∧
 b = b ∧
 frT b a m = frT b a m ∧
 frX b a m = frX b a m ∧
 (frF b a m).fst = (frE b a m).fst ∧ (frF b a m).snd = (frE b a m).snd ∧ hhW b a = hhW b a ∧ hhS b a = hhS b a ∧ hhG b a = hhG b a ∧ hhM b a = hhM b a)) ∧
 (((frF b a m).fst == (0 : Int)) = false →
 ∃ (x8 : Unit),
 fhG b a m = true ∧
 b = b ∧
 frT b a m = frT b a m ∧
 frX b a m = frX b a m ∧
 (frF b a m).fst = (frE b a m).fst ∧ (frF b a m).snd = (frE b a m).snd ∧ hhW b a = hhW b a ∧ hhS b a = hhS b a ∧ hhG b a = hhG b a ∧ hhM b a = hhM b a)) ∧
 ∀ (x9 : Unit),
 fhG b a m = true →
 (((frE b a m).fst == (0 : Int)) = true →
 (hhM b a = true →
 (decide (IntKind.wrap IntKind.i64 ((↑(ByteArray.size b) : Int) - frX b a m) < (4 : Int)) = true →
 (((5 : Int) != (0 : Int)) = true →
 ByteArray.empty = frO b a m ∧ (0 : Int) = frN b a m ∧ (5 : Int) = (frE b a m).fst ∧ (↑(ByteArray.size b) : Int) = (frE b a m).snd) ∧
 (((5 : Int) != (0 : Int)) = false →
 frT b a m = frO b a m ∧ IntKind.wrap IntKind.i64 (frX b a m + (4 : Int)) = frN b a m ∧ (0 : Int) = (frE b a m).fst ∧ (0 : Int) = (frE b a m).snd)) ∧
 (decide (IntKind.wrap IntKind.i64 ((↑(ByteArray.size b) : Int) - frX b a m) < (4 : Int)) = false →
 (0 : Int) ≤ frX b a m ∧
 frX b a m ≤ IntKind.wrap IntKind.i64 (frX b a m + (4 : Int)) ∧
 IntKind.wrap IntKind.i64 (frX b a m + (4 : Int)) ≤ (↑(ByteArray.size b) : Int) ∧ False ∧ False ∧ False)) ∧
 (hhM b a = false →
 (((frE b a m).fst != (0 : Int)) = true → ByteArray.empty = frO b a m ∧ (0 : Int) = frN b a m ∧ (frE b a m).fst = (frE b a m).fst ∧ (frE b a m).snd = (frE b a m).snd) ∧
 (((frE b a m).fst != (0 : Int)) = false → frT b a m = frO b a m ∧ frX b a m = frN b a m ∧ (0 : Int) = (frE b a m).fst ∧ (0 : Int) = (frE b a m).snd))) ∧
 (((frE b a m).fst == (0 : Int)) = false →
 (((frE b a m).fst != (0 : Int)) = true → ByteArray.empty = frO b a m ∧ (0 : Int) = frN b a m ∧ (frE b a m).fst = (frE b a m).fst ∧ (frE b a m).snd = (frE b a m).snd) ∧
 (((frE b a m).fst != (0 : Int)) = false → frT b a m = frO b a m ∧ frX b a m = frN b a m ∧ (0 : Int) = (frE b a m).fst ∧ (0 : Int) = (frE b a m).snd)))) ∧
 (¬fhG b a m = true →
 ByteArray.size b ≤ (1000000 : Nat) ∧
 (fhI m = false → (hdE b a).fst = (0 : Int) → m < hhS b a → (0 : Int) ≤ a ∧ a + (4 : Int) < (↑(ByteArray.size b) : Int)) ∧
 (((fhE b a m).fst != (0 : Int)) = true → ByteArray.empty = frO b a m ∧ (0 : Int) = frN b a m ∧ (fhE b a m).fst = (frE b a m).fst ∧ (fhE b a m).snd = (frE b a m).snd) ∧
 (((fhE b a m).fst != (0 : Int)) = false →
 (∃ (y10 : Unit),
 (ISatE Tryz.prog ((44 : Nat))
 [SV.p (500040 : Nat) (0 : Nat) (0 : Nat), SV.p (500041 : Nat) (0 : Nat) (0 : Nat), SV.p (500042 : Nat) (0 : Nat) (0 : Nat), SV.p (500043 : Nat) (0 : Nat) (0 : Nat),
 SV.p (500044 : Nat) (0 : Nat) (0 : Nat)]
 [((500040 : Nat), SBlk.cells (9 : TypeId) [SV.v (Value.string b)]), ((500041 : Nat), SBlk.cells (3 : TypeId) [SV.v (Value.int IntKind.i64 (hhN b a))]),
 ((500042 : Nat),
 SBlk.cells (23 : TypeId) [SV.v (Value.int IntKind.i64 (hhW b a)), SV.v (Value.int IntKind.i64 (hhS b a)), SV.v (Value.bool (hhG b a)), SV.v (Value.bool (hhM b a))]),
 ((500043 : Nat), SBlk.cells (3 : TypeId) [SV.v (Value.int IntKind.i64 m)]),
 ((500044 : Nat), SBlk.cells (52 : TypeId) [SV.fn (Fn.func (22 : FuncId)) [] [SV.p (100000 : Nat) (0 : Nat) (0 : Nat), SV.p (100016 : Nat) (0 : Nat) (0 : Nat)]]),
 ((100000 : Nat), SBlk.cells (9 : TypeId) [SV.v (Value.string ByteArray.empty)]),
 ((100016 : Nat), SBlk.cells (26 : TypeId) [SV.v (Value.int IntKind.i64 (0 : Int)), SV.v (Value.int IntKind.i64 (0 : Int))])]
 (List.map (fbV b (hhW b a) m (hhN b a)) (List.range (fbN b (hhW b a) m (hhN b a)))) fun (y : Nat) =>
 [((100000 : Nat), SBlk.cells (9 : TypeId) [SV.v (Value.string (fbT b (hhW b a) m (hhN b a) y))]),
 ((100016 : Nat),
 SBlk.cells (26 : TypeId) [SV.v (Value.int IntKind.i64 (fbE b (hhW b a) m (hhN b a) y).fst), SV.v (Value.int IntKind.i64 (fbE b (hhW b a) m (hhN b a) y).snd)])]) ∧
 (b = b ∧
 (0 : Int) = hhN b a ∧
 (0 : Int) = hhW b a ∧
 (0 : Int) = hhS b a ∧ false = hhG b a ∧ false = hhM b a ∧ m = m ∧ ByteArray.empty = ByteArray.empty ∧ (fhE b a m).fst = (0 : Int) ∧ (fhE b a m).snd = (0 : Int)) ∧
 ((0 : Nat) ≤ fbN b (hhW b a) m (hhN b a) ∧ fbU b (hhW b a) m (hhN b a) (0 : Nat) = true) ∧
 (b = b ∧ (0 : Int) = fbA b (hhW b a) m (hhN b a) (0 : Nat) ∧ (0 : Int) = hhW b a ∧ (0 : Int) = hhS b a ∧ false = hhG b a ∧ false = hhM b a) ∧
 (∀ (i11 : Nat),
 i11 < List.length (List.map (fbV b (hhW b a) m (hhN b a)) (List.range (fbN b (hhW b a) m (hhN b a)))) →
 i11 ≤ fbN b (hhW b a) m (hhN b a) ∧ fbU b (hhW b a) m (hhN b a) i11 = true →
 (List.map (fbV b (hhW b a) m (hhN b a)) (List.range (fbN b (hhW b a) m (hhN b a))))[i11]? =
 some [Value.int IntKind.i64 (fbA b (hhW b a) m (hhN b a) (i11 + (1 : Nat))), Value.bool (bhL b (brS b (fbA b (hhW b a) m (hhN b a) i11)))] ∧
 List.length [Value.int IntKind.i64 (fbA b (hhW b a) m (hhN b a) (i11 + (1 : Nat))), Value.bool (bhL b (brS b (fbA b (hhW b a) m (hhN b a) i11)))] =
 List.length #[(30 : Nat), (31 : Nat)].toList ∧
 (bhL b (brS b (fbA b (hhW b a) m (hhN b a) i11)) = true →
 ∃ (x12 : Unit),
 fhG b a m = true ∧
 b = b ∧
 fbT b (hhW b a) m (hhN b a) i11 = frT b a m ∧
 fbA b (hhW b a) m (hhN b a) (i11 + (1 : Nat)) = frX b a m ∧
 (fbE b (hhW b a) m (hhN b a) i11).fst = (frF b a m).fst ∧
 (fbE b (hhW b a) m (hhN b a) i11).snd = (frF b a m).snd ∧ hhW b a = hhW b a ∧ hhS b a = hhS b a ∧ hhG b a = hhG b a ∧ hhM b a = hhM b a) ∧
 (bhL b (brS b (fbA b (hhW b a) m (hhN b a) i11)) = false →
 (i11 + (1 : Nat) ≤ fbN b (hhW b a) m (hhN b a) ∧ fbU b (hhW b a) m (hhN b a) (i11 + (1 : Nat)) = true) ∧
 fbA b (hhW b a) m (hhN b a) (i11 + (1 : Nat)) = fbA b (hhW b a) m (hhN b a) (i11 + (1 : Nat)) ∧
 hhW b a = hhW b a ∧ hhS b a = hhS b a ∧ hhG b a = hhG b a ∧ hhM b a = hhM b a)) ∧
 (List.length (List.map (fbV b (hhW b a) m (hhN b a)) (List.range (fbN b (hhW b a) m (hhN b a)))) ≤ fbN b (hhW b a) m (hhN b a) ∧
 fbU b (hhW b a) m (hhN b a) (List.length (List.map (fbV b (hhW b a) m (hhN b a)) (List.range (fbN b (hhW b a) m (hhN b a))))) = true →
 ∃ (x13 : Unit),
 fhG b a m = true ∧
 b = b ∧
 fbT b (hhW b a) m (hhN b a) (List.length (List.map (fbV b (hhW b a) m (hhN b a)) (List.range (fbN b (hhW b a) m (hhN b a))))) = frT b a m ∧
 fbA b (hhW b a) m (hhN b a) (List.length (List.map (fbV b (hhW b a) m (hhN b a)) (List.range (fbN b (hhW b a) m (hhN b a))))) = frX b a m ∧
 (fbE b (hhW b a) m (hhN b a) (List.length (List.map (fbV b (hhW b a) m (hhN b a)) (List.range (fbN b (hhW b a) m (hhN b a)))))).fst = (frF b a m).fst ∧
 (fbE b (hhW b a) m (hhN b a) (List.length (List.map (fbV b (hhW b a) m (hhN b a)) (List.range (fbN b (hhW b a) m (hhN b a)))))).snd = (frF b a m).snd ∧
 hhW b a = hhW b a ∧ hhS b a = hhS b a ∧ hhG b a = hhG b a ∧ hhM b a = hhM b a)) ∧
 ∀ (x14 : Unit),
 fhG b a m = true →
 ((((frF b a m).fst == (0 : Int)) = true →
 (decide (hhS b a ≥ (0 : Int)) = true →
 ((hhS b a != (↑(ByteArray.size (frT b a m)) : Int)) = true →
 ∃ (x15 : Unit),
 fhG b a m = true ∧
 b = b ∧
 frT b a m = frT b a m ∧
 frX b a m = frX b a m ∧
 (27 : Int) = (frE b a m).fst ∧ frX b a m = (frE b a m).snd ∧ hhW b a = hhW b a ∧ hhS b a = hhS b a ∧ hhG b a = hhG b a ∧ hhM b a = hhM b a) ∧
 ((hhS b a != (↑(ByteArray.size (frT b a m)) : Int)) = false →
 ∃ (x16 : Unit),
 fhG b a m = true ∧
 b = b ∧
 frT b a m = frT b a m ∧
 frX b a m = frX b a m ∧
 (frF b a m).fst = (frE b a m).fst ∧ (frF b a m).snd = (frE b a m).snd ∧ hhW b a = hhW b a ∧ hhS b a = hhS b a ∧ hhG b a = hhG b a ∧ hhM b a = hhM b a)) ∧
 (decide (hhS b a ≥ (0 : Int)) = false →
 ∃ (x17 : Unit),
 fhG b a m = true ∧
 b = b ∧
 frT b a m = frT b a m ∧
 frX b a m = frX b a m ∧
 (frF b a m).fst = (frE b a m).fst ∧ (frF b a m).snd = (frE b a m).snd ∧ hhW b a = hhW b a ∧ hhS b a = hhS b a ∧ hhG b a = hhG b a ∧ hhM b a = hhM b a)) ∧
 (((frF b a m).fst == (0 : Int)) = false →
 ∃ (x18 : Unit),
 fhG b a m = true ∧
 b = b ∧
 frT b a m = frT b a m ∧
 frX b a m = frX b a m ∧
 (frF b a m).fst = (frE b a m).fst ∧ (frF b a m).snd = (frE b a m).snd ∧ hhW b a = hhW b a ∧ hhS b a = hhS b a ∧ hhG b a = hhG b a ∧ hhM b a = hhM b a)) ∧
 ∀ (x19 : Unit),
 fhG b a m = true →
 (((frE b a m).fst == (0 : Int)) = true →
 (hhM b a = true →
 (decide (IntKind.wrap IntKind.i64 ((↑(ByteArray.size b) : Int) - frX b a m) < (4 : Int)) = true →
 (((5 : Int) != (0 : Int)) = true →
 ByteArray.empty = frO b a m ∧ (0 : Int) = frN b a m ∧ (5 : Int) = (frE b a m).fst ∧ (↑(ByteArray.size b) : Int) = (frE b a m).snd) ∧
 (((5 : Int) != (0 : Int)) = false →
 frT b a m = frO b a m ∧ IntKind.wrap IntKind.i64 (frX b a m + (4 : Int)) = frN b a m ∧ (0 : Int) = (frE b a m).fst ∧ (0 : Int) = (frE b a m).snd)) ∧
 (decide (IntKind.wrap IntKind.i64 ((↑(ByteArray.size b) : Int) - frX b a m) < (4 : Int)) = false →
 (0 : Int) ≤ frX b a m ∧
 frX b a m ≤ IntKind.wrap IntKind.i64 (frX b a m + (4 : Int)) ∧
 IntKind.wrap IntKind.i64 (frX b a m + (4 : Int)) ≤ (↑(ByteArray.size b) : Int) ∧ False ∧ False ∧ False)) ∧
 (hhM b a = false →
 (((frE b a m).fst != (0 : Int)) = true → ByteArray.empty = frO b a m ∧ (0 : Int) = frN b a m ∧ (frE b a m).fst = (frE b a m).fst ∧ (frE b a m).snd = (frE b a m).snd) ∧
 (((frE b a m).fst != (0 : Int)) = false → frT b a m = frO b a m ∧ frX b a m = frN b a m ∧ (0 : Int) = (frE b a m).fst ∧ (0 : Int) = (frE b a m).snd))) ∧
 (((frE b a m).fst == (0 : Int)) = false →
 (((frE b a m).fst != (0 : Int)) = true → ByteArray.empty = frO b a m ∧ (0 : Int) = frN b a m ∧ (frE b a m).fst = (frE b a m).fst ∧ (frE b a m).snd = (frE b a m).snd) ∧
 (((frE b a m).fst != (0 : Int)) = false → frT b a m = frO b a m ∧ frX b a m = frN b a m ∧ (0 : Int) = (frE b a m).fst ∧ (0 : Int) = (frE b a m).snd))))
theorem frRd_e (b : ByteArray) (a m : Int) : frRd_t b a m = vcG Tryz.prog (Gof GFr3) (oFr b a m) Tryz.f9 [.v (.string b), .v (.int .i64 a), .v (.int .i64 m)] [] (.leaf (.tu [.v (.string (frO b a m)), .v (.int .i64 (frN b a m)), .ag [.v (.int .i64 (frE b a m).1), .v (.int .i64 (frE b a m).2)]]) ([])) := by kernel_rfl
def frSt_t (b : ByteArray) (a : Int) (o : ByteArray) (w z : Int) (g c : Bool) (m : Int) : Prop :=
 (brG b a w o m = true →
 ByteArray.size b ≤ (1000000 : Nat) ∧
 ((brC b a).snd.fst = (0 : Int) → brK b a = (0 : Int) ∨ brK b a = (1 : Int)) ∧
 (brG b a w o m = true →
 bhL b (brS b a) = bhL b (brS b a) ∧
 (0 : Int) = (0 : Int) ∧
 (0 : Int) = (0 : Int) ∧
 b = b ∧
 (brD b a).fst = (brD b a).fst ∧
 (1 : Int) = (1 : Int) ∧
 (4 : Int) = (4 : Int) ∧
 (8 : Int) = (8 : Int) ∧
 Value.slice none (0 : Nat) (0 : Nat) = Value.slice none (0 : Nat) (0 : Nat) ∧
 (-1 : Int) = (-1 : Int) ∧
 (0 : Int) = (0 : Int) ∧
 (0 : Int) = (0 : Int) ∧
 Value.slice none (0 : Nat) (0 : Nat) = Value.slice none (0 : Nat) (0 : Nat) ∧
 (-1 : Int) = (-1 : Int) ∧
 (0 : Int) = (0 : Int) ∧
 (0 : Int) = (0 : Int) ∧
 Value.slice none (0 : Nat) (0 : Nat) = Value.slice none (0 : Nat) (0 : Nat) ∧
 (-1 : Int) = (-1 : Int) ∧
 (0 : Int) = (0 : Int) ∧
 (0 : Int) = (0 : Int) ∧
 Value.slice none (0 : Nat) (0 : Nat) = Value.slice none (0 : Nat) (0 : Nat) ∧ o ++ brB b a = o ++ brB b a ∧ w = w ∧ z = z ∧ g = g ∧ c = c ∧ m = m) ∧
 (¬brG b a w o m = true →
 bhL b (brS b a) = false ∧
 (0 : Int) = (brE b a w o m).fst ∧
 (0 : Int) = (brE b a w o m).snd ∧
 b = b ∧
 (brD b a).fst = (0 : Int) ∧
 (1 : Int) = (0 : Int) ∧
 (4 : Int) = (0 : Int) ∧
 (8 : Int) = (0 : Int) ∧
 Value.slice none (0 : Nat) (0 : Nat) = Value.slice none (0 : Nat) (0 : Nat) ∧
 (-1 : Int) = (0 : Int) ∧
 (0 : Int) = (0 : Int) ∧
 (0 : Int) = (0 : Int) ∧
 Value.slice none (0 : Nat) (0 : Nat) = Value.slice none (0 : Nat) (0 : Nat) ∧
 (-1 : Int) = (0 : Int) ∧
 (0 : Int) = (0 : Int) ∧
 (0 : Int) = (0 : Int) ∧
 Value.slice none (0 : Nat) (0 : Nat) = Value.slice none (0 : Nat) (0 : Nat) ∧
 (-1 : Int) = (0 : Int) ∧
 (0 : Int) = (0 : Int) ∧
 (0 : Int) = (0 : Int) ∧
 Value.slice none (0 : Nat) (0 : Nat) = Value.slice none (0 : Nat) (0 : Nat) ∧
 o ++ brB b a = ByteArray.empty ∧ w = w ∧ z = z ∧ g = g ∧ c = c ∧ m = m)) ∧
 (¬brG b a w o m = true →
 ByteArray.size b ≤ (1000000 : Nat) ∧
 ((brC b a).snd.fst = (0 : Int) → brK b a = (0 : Int) ∨ brK b a = (1 : Int)) ∧
 (brG b a w o m = true →
 false = bhL b (brS b a) ∧
 (brE b a w o m).fst = (0 : Int) ∧
 (brE b a w o m).snd = (0 : Int) ∧
 b = b ∧
 (0 : Int) = (brD b a).fst ∧
 (0 : Int) = (1 : Int) ∧
 (0 : Int) = (4 : Int) ∧
 (0 : Int) = (8 : Int) ∧
 Value.slice none (0 : Nat) (0 : Nat) = Value.slice none (0 : Nat) (0 : Nat) ∧
 (0 : Int) = (-1 : Int) ∧
 (0 : Int) = (0 : Int) ∧
 (0 : Int) = (0 : Int) ∧
 Value.slice none (0 : Nat) (0 : Nat) = Value.slice none (0 : Nat) (0 : Nat) ∧
 (0 : Int) = (-1 : Int) ∧
 (0 : Int) = (0 : Int) ∧
 (0 : Int) = (0 : Int) ∧
 Value.slice none (0 : Nat) (0 : Nat) = Value.slice none (0 : Nat) (0 : Nat) ∧
 (0 : Int) = (-1 : Int) ∧
 (0 : Int) = (0 : Int) ∧
 (0 : Int) = (0 : Int) ∧
 Value.slice none (0 : Nat) (0 : Nat) = Value.slice none (0 : Nat) (0 : Nat) ∧
 ByteArray.empty = o ++ brB b a ∧ w = w ∧ z = z ∧ g = g ∧ c = c ∧ m = m) ∧
 (¬brG b a w o m = true →
 false = false ∧
 (brE b a w o m).fst = (brE b a w o m).fst ∧
 (brE b a w o m).snd = (brE b a w o m).snd ∧
 b = b ∧
 (0 : Int) = (0 : Int) ∧
 (0 : Int) = (0 : Int) ∧
 (0 : Int) = (0 : Int) ∧
 (0 : Int) = (0 : Int) ∧
 Value.slice none (0 : Nat) (0 : Nat) = Value.slice none (0 : Nat) (0 : Nat) ∧
 (0 : Int) = (0 : Int) ∧
 (0 : Int) = (0 : Int) ∧
 (0 : Int) = (0 : Int) ∧
 Value.slice none (0 : Nat) (0 : Nat) = Value.slice none (0 : Nat) (0 : Nat) ∧
 (0 : Int) = (0 : Int) ∧
 (0 : Int) = (0 : Int) ∧
 (0 : Int) = (0 : Int) ∧
 Value.slice none (0 : Nat) (0 : Nat) = Value.slice none (0 : Nat) (0 : Nat) ∧
 (0 : Int) = (0 : Int) ∧
 (0 : Int) = (0 : Int) ∧
 (0 : Int) = (0 : Int) ∧
 Value.slice none (0 : Nat) (0 : Nat) = Value.slice none (0 : Nat) (0 : Nat) ∧
 ByteArray.empty = ByteArray.empty ∧ w = w ∧ z = z ∧ g = g ∧ c = c ∧ m = m))
theorem frSt_e (b : ByteArray) (a : Int) (o : ByteArray) (w z : Int) (g c : Bool) (m : Int) : frSt_t b a o w z g c m = vcG Tryz.prog (Gof GBf) (fun _ => none) Tryz.f46 [.p 0 0 0, .p 1 0 0, .p 2 0 0, .p 3 0 0, .p 4 0 0, .p 5 0 0] [(0, .cells 9 [.v (.string b)]), (1, .cells 3 [.v (.int .i64 a)]), (2, .cells 97 frV), (3, .cells 9 [.v (.string o)]), (4, .cells 23 [.v (.int .i64 w), .v (.int .i64 z), .v (.bool g), .v (.bool c)]), (5, .cells 3 [.v (.int .i64 m)])] (.ite ⟨brG b a w o m = true, inferInstance⟩ (.leaf (.tu [.v (.bool (bhL b (brS b a))), .ag [.v (.int .i64 0), .v (.int .i64 0)]]) ([(0, .cells 9 [.v (.string b)]), (1, .cells 3 [.v (.int .i64 (brD b a).1)]), (2, .cells 97 frV), (3, .cells 9 [.v (.string (o ++ brB b a))]), (4, .cells 23 [.v (.int .i64 w), .v (.int .i64 z), .v (.bool g), .v (.bool c)]), (5, .cells 3 [.v (.int .i64 m)])])) (.leaf (.tu [.v (.bool false), .ag [.v (.int .i64 (brE b a w o m).1), .v (.int .i64 (brE b a w o m).2)]]) ([(0, .cells 9 [.v (.string b)]), (1, .cells 3 [.v (.int .i64 0)]), (2, .cells 97 zrV), (3, .cells 9 [.v (.string ByteArray.empty)]), (4, .cells 23 [.v (.int .i64 w), .v (.int .i64 z), .v (.bool g), .v (.bool c)]), (5, .cells 3 [.v (.int .i64 m)])]))) := by kernel_rfl
def frTd_t (s : ByteArray) (e f : Int) (o : ByteArray) (e1 f1 : Int) : Prop :=
 s = s ∧ e = e ∧ f = f
theorem frTd_e (s : ByteArray) (e f : Int) (o : ByteArray) (e1 f1 : Int) : frTd_t s e f o e1 f1 = vcG Tryz.prog (Gof GBf) (fun _ => none) Tryz.f22 [.v (.string s), .ag [.v (.int .i64 e), .v (.int .i64 f)], .p 0 0 0, .p 1 0 0] [(0, .cells 9 [.v (.string o)]), (1, .cells 26 [.v (.int .i64 e1), .v (.int .i64 f1)])] (.leaf (.tu []) ([(0, .cells 9 [.v (.string s)]), (1, .cells 26 [.v (.int .i64 e), .v (.int .i64 f)])])) := by kernel_rfl
def frIt_t (b : ByteArray) (a w z : Int) (g c : Bool) (m : Int) (l0 : Nat) : Prop :=
 ∃ (g0 : Unit),
 ∃ (x1 : Nat),
 Nat.le x1 (fbN b w m a) ∧
 ((0 : Nat), true) = (x1, true) ∧
 (Value.func (Fn.yield l0) #[] #[] = Value.func (Fn.yield l0) #[] #[] ∧
 (1 : Int) = (1 : Int) ∧
 (4 : Int) = (4 : Int) ∧
 (8 : Int) = (8 : Int) ∧
 Value.slice none (0 : Nat) (0 : Nat) = Value.slice none (0 : Nat) (0 : Nat) ∧
 (-1 : Int) = (-1 : Int) ∧
 (0 : Int) = (0 : Int) ∧
 (0 : Int) = (0 : Int) ∧
 Value.slice none (0 : Nat) (0 : Nat) = Value.slice none (0 : Nat) (0 : Nat) ∧
 (-1 : Int) = (-1 : Int) ∧
 (0 : Int) = (0 : Int) ∧
 (0 : Int) = (0 : Int) ∧
 Value.slice none (0 : Nat) (0 : Nat) = Value.slice none (0 : Nat) (0 : Nat) ∧
 (-1 : Int) = (-1 : Int) ∧
 (0 : Int) = (0 : Int) ∧
 (0 : Int) = (0 : Int) ∧
 Value.slice none (0 : Nat) (0 : Nat) = Value.slice none (0 : Nat) (0 : Nat) ∧
 ByteArray.empty = fbO b w m a x1 ∧
 b = b ∧ a = fbA b w m a x1 ∧ w = w ∧ z = z ∧ g = g ∧ c = c ∧ m = m ∧ ByteArray.empty = fbO b w m a x1 ∧ (0 : Int) = (0 : Int) ∧ (0 : Int) = (0 : Int)) ∧
 ∀ (x2 : Nat),
 Nat.le x2 (fbN b w m a) →
 (brG b (fbA b w m a x2) w (fbO b w m a x2) m = true →
 ByteArray.size b ≤ (1000000 : Nat) ∧
 ((brC b (fbA b w m a x2)).snd.fst = (0 : Int) → brK b (fbA b w m a x2) = (0 : Int) ∨ brK b (fbA b w m a x2) = (1 : Int)) ∧
 (((0 : Int) != (0 : Int)) = true →
 x2 = List.length (fbL b w m a) ∧ fbO b w m a x2 ++ brB b (fbA b w m a x2) = fbT b w m a x2 ∧ (0 : Int) = (fbE b w m a x2).fst ∧ (0 : Int) = (fbE b w m a x2).snd) ∧
 (((0 : Int) != (0 : Int)) = false →
 l0 = l0 ∧
 (fbL b w m a)[x2]? = some [Value.int IntKind.i64 (brD b (fbA b w m a x2)).fst, Value.bool (bhL b (brS b (fbA b w m a x2)))] ∧
 (∃ (y3 : Nat),
 Nat.le y3 (fbN b w m a) ∧
 (x2 + (1 : Nat), true) = (y3, true) ∧
 Nat.sub (fbN b w m a) y3 < Nat.sub (fbN b w m a) x2 ∧
 Value.func (Fn.yield l0) #[] #[] = Value.func (Fn.yield l0) #[] #[] ∧
 (1 : Int) = (1 : Int) ∧
 (4 : Int) = (4 : Int) ∧
 (8 : Int) = (8 : Int) ∧
 Value.slice none (0 : Nat) (0 : Nat) = Value.slice none (0 : Nat) (0 : Nat) ∧
 (-1 : Int) = (-1 : Int) ∧
 (0 : Int) = (0 : Int) ∧
 (0 : Int) = (0 : Int) ∧
 Value.slice none (0 : Nat) (0 : Nat) = Value.slice none (0 : Nat) (0 : Nat) ∧
 (-1 : Int) = (-1 : Int) ∧
 (0 : Int) = (0 : Int) ∧
 (0 : Int) = (0 : Int) ∧
 Value.slice none (0 : Nat) (0 : Nat) = Value.slice none (0 : Nat) (0 : Nat) ∧
 (-1 : Int) = (-1 : Int) ∧
 (0 : Int) = (0 : Int) ∧
 (0 : Int) = (0 : Int) ∧
 Value.slice none (0 : Nat) (0 : Nat) = Value.slice none (0 : Nat) (0 : Nat) ∧
 fbO b w m a x2 ++ brB b (fbA b w m a x2) = fbO b w m a y3 ∧
 b = b ∧
 (brD b (fbA b w m a x2)).fst = fbA b w m a y3 ∧
 w = w ∧
 z = z ∧
 g = g ∧
 c = c ∧
 m = m ∧
 fbO b w m a x2 ++ brB b (fbA b w m a x2) = fbO b w m a y3 ∧ (0 : Int) = (0 : Int) ∧ (0 : Int) = (0 : Int)) ∧
 fbO b w m a x2 ++ brB b (fbA b w m a x2) = fbT b w m a x2 ∧ (0 : Int) = (fbE b w m a x2).fst ∧ (0 : Int) = (fbE b w m a x2).snd)) ∧
 (¬brG b (fbA b w m a x2) w (fbO b w m a x2) m = true →
 ByteArray.size b ≤ (1000000 : Nat) ∧
 ((brC b (fbA b w m a x2)).snd.fst = (0 : Int) → brK b (fbA b w m a x2) = (0 : Int) ∨ brK b (fbA b w m a x2) = (1 : Int)) ∧
 (((brE b (fbA b w m a x2) w (fbO b w m a x2) m).fst != (0 : Int)) = true →
 x2 = List.length (fbL b w m a) ∧
 ByteArray.empty = fbT b w m a x2 ∧
 (brE b (fbA b w m a x2) w (fbO b w m a x2) m).fst = (fbE b w m a x2).fst ∧ (brE b (fbA b w m a x2) w (fbO b w m a x2) m).snd = (fbE b w m a x2).snd) ∧
 (((brE b (fbA b w m a x2) w (fbO b w m a x2) m).fst != (0 : Int)) = false →
 l0 = l0 ∧
 (fbL b w m a)[x2]? = some [Value.int IntKind.i64 (0 : Int), Value.bool false] ∧
 (∃ (y4 : Nat),
 Nat.le y4 (fbN b w m a) ∧
 (x2 + (1 : Nat), true) = (y4, true) ∧
 Nat.sub (fbN b w m a) y4 < Nat.sub (fbN b w m a) x2 ∧
 Value.func (Fn.yield l0) #[] #[] = Value.func (Fn.yield l0) #[] #[] ∧
 (0 : Int) = (1 : Int) ∧
 (0 : Int) = (4 : Int) ∧
 (0 : Int) = (8 : Int) ∧
 Value.slice none (0 : Nat) (0 : Nat) = Value.slice none (0 : Nat) (0 : Nat) ∧
 (0 : Int) = (-1 : Int) ∧
 (0 : Int) = (0 : Int) ∧
 (0 : Int) = (0 : Int) ∧
 Value.slice none (0 : Nat) (0 : Nat) = Value.slice none (0 : Nat) (0 : Nat) ∧
 (0 : Int) = (-1 : Int) ∧
 (0 : Int) = (0 : Int) ∧
 (0 : Int) = (0 : Int) ∧
 Value.slice none (0 : Nat) (0 : Nat) = Value.slice none (0 : Nat) (0 : Nat) ∧
 (0 : Int) = (-1 : Int) ∧
 (0 : Int) = (0 : Int) ∧
 (0 : Int) = (0 : Int) ∧
 Value.slice none (0 : Nat) (0 : Nat) = Value.slice none (0 : Nat) (0 : Nat) ∧
 ByteArray.empty = fbO b w m a y4 ∧
 b = b ∧
 (0 : Int) = fbA b w m a y4 ∧
 w = w ∧
 z = z ∧
 g = g ∧
 c = c ∧
 m = m ∧
 ByteArray.empty = fbO b w m a y4 ∧
 (brE b (fbA b w m a x2) w (fbO b w m a x2) m).fst = (0 : Int) ∧
 (brE b (fbA b w m a x2) w (fbO b w m a x2) m).snd = (0 : Int)) ∧
 ByteArray.empty = fbT b w m a x2 ∧
 (brE b (fbA b w m a x2) w (fbO b w m a x2) m).fst = (fbE b w m a x2).fst ∧ (brE b (fbA b w m a x2) w (fbO b w m a x2) m).snd = (fbE b w m a x2).snd))
theorem frIt_e (b : ByteArray) (a w z : Int) (g c : Bool) (m : Int) (l0 : Nat) : frIt_t b a w z g c m l0 = vcFIE Tryz.prog (Gof GFr1) l0 (fbL b w m a) (oFb l0 b a w z g c m) Tryz.f44 [.p 0 0 0, .p 1 0 0, .p 2 0 0, .p 3 0 0, .p 4 0 0] (fbC b a w z g c m ByteArray.empty 0 0) (fbH b a w m) := by kernel_rfl
end Go.Proofs.YtbfdchahapajaaaGreatDoor
namespace Go.Proofs.YtbfdchahapajaaaGreatDoor
open Go Go.RowKit
set_option linter.unusedVariables false
set_option linter.unusedSimpArgs false
set_option maxRecDepth 100000
theorem frSt_v (b : ByteArray) (a : Int) (o : ByteArray) (w z : Int) (g c : Bool) (m : Int) (hs : b.size ≤ 1000000) (hk : (brC b a).2.1 = 0 → brK b a = 0 ∨ brK b a = 1) : frSt_t b a o w z g c m :=
  ⟨fun h => ⟨hs, hk, fun _ => by simp, fun h' => absurd h h'⟩, fun h => ⟨hs, hk, fun h' => absurd h' h, fun _ => by simp⟩⟩
theorem frSt_sound : Sound Tryz.prog 46 sFrSt.ctr := sFrSt.sound (by kernel_rfl) sFrSt_enc fun ⟨b, a, o, w, z, g, c, m⟩ hc => by
  have h0 := hc _ (.head _)
  have h1 := hc _ (.tail _ (.head _))
  exact satG GBf_ok mixed Tryz.func46 (frSt_e b a o w z g c m) (frSt_v b a o w z g c m h0 h1)
theorem frTd_sound : Sound Tryz.prog 22 sFrTd.ctr := sFrTd.sound (by kernel_rfl) sFrTd_enc fun ⟨s, e, f, o, e1, f1⟩ hc => by
  exact satG GBf_ok mixed Tryz.func22 (frTd_e s e f o e1 f1) (⟨rfl, rfl, rfl⟩)
theorem GFr1_ok : AllOk Tryz.prog GFr1 := .cons frSt_sound <| .cons frTd_sound <| .cons frFd_sound <| GBf_ok
theorem frBs_sound : Sound Tryz.prog 21 sFrBs.ctr := sFrBs.sound (by kernel_rfl) sFrBs_enc fun ⟨b, a, w, z, g, c, m, o, e, f⟩ hc => by
  exact satG GFr1_ok mixed Tryz.func21 (frBs_e b a w z g c m o e f) (⟨rfl, rfl, rfl, rfl, rfl, rfl, rfl, rfl, rfl, rfl⟩)
theorem GFr2_ok : AllOk Tryz.prog GFr2 := .cons frBs_sound <| GFr1_ok
section
variable {b : ByteArray} {w m a : Int}
theorem fbS_succ : ∀ (i : Nat) (a : Int) (o : ByteArray), fbS b w m a o (i + 1) = ((brD b (fbS b w m a o i).1).1, (fbS b w m a o i).2 ++ brB b (fbS b w m a o i).1)
  | 0, a, o => rfl
  | i + 1, a, o => fbS_succ i (brD b a).1 (o ++ brB b a)
theorem fbA_succ (i : Nat) : fbA b w m a (i + 1) = (brD b (fbA b w m a i)).1 := by unfold fbA; rw [fbS_succ]
theorem fbO_succ (i : Nat) : fbO b w m a (i + 1) = fbO b w m a i ++ brB b (fbA b w m a i) := by unfold fbO fbA; rw [fbS_succ]
theorem fbL_len : (fbL b w m a).length = fbN b w m a := by simp [fbL]
theorem fbL_get {i : Nat} (h : i < fbN b w m a) : (fbL b w m a)[i]? = some (fbV b w m a i) := by simp [fbL, h]
theorem fbT_lt {i : Nat} (h : i < fbN b w m a) : fbT b w m a i = fbO b w m a i ++ brB b (fbA b w m a i) := by
  unfold fbT
  rw [show Nat.blt i (fbN b w m a) = true from by simpa using h, ← fbO_succ]; rfl
theorem fbE_lt {i : Nat} (h : i < fbN b w m a) : fbE b w m a i = (0, 0) := by
  unfold fbE
  rw [show Nat.blt i (fbN b w m a) = true from by simpa using h]; rfl
theorem fbT_n : fbT b w m a (fbN b w m a) = ByteArray.empty := by
  unfold fbT
  rw [show Nat.blt (fbN b w m a) (fbN b w m a) = false from by rw [← Bool.not_eq_true, Nat.blt_eq]; omega]; rfl
theorem fbE_n : fbE b w m a (fbN b w m a) = brE b (fbA b w m a (fbN b w m a)) w (fbO b w m a (fbN b w m a)) m := by
  unfold fbE
  rw [show Nat.blt (fbN b w m a) (fbN b w m a) = false from by rw [← Bool.not_eq_true, Nat.blt_eq]; omega]; rfl
theorem fbK_of (h : fbK b w m a = true) : (∀ i, i ≤ fbN b w m a → (brC b (fbA b w m a i)).2.1 = 0 → brK b (fbA b w m a i) = 0 ∨ brK b (fbA b w m a i) = 1) ∧ (∀ i, i < fbN b w m a → brG b (fbA b w m a i) w (fbO b w m a i) m = true) ∧ brG b (fbA b w m a (fbN b w m a)) w (fbO b w m a (fbN b w m a)) m = false := by
  unfold fbK at h
  simp only [Bool.and_eq_true, List.all_eq_true, List.mem_range, Bool.or_eq_true, bne_iff_ne, ne_eq, beq_iff_eq, Bool.not_eq_true'] at h
  refine ⟨fun i hi h0 => ?_, h.2.1, h.2.2⟩
  rcases h.1 i (by omega) with h1 | h1
  · exact absurd h0 h1
  · exact h1
theorem frIt_v (z : Int) (g c : Bool) (l0 : Nat) (hs : b.size ≤ 1000000) (hk : fbK b w m a = true) : frIt_t b a w z g c m l0 := by
  obtain ⟨k1, k2, k3⟩ := fbK_of hk
  refine ⟨(), 0, Nat.zero_le _, rfl, ⟨rfl, by simp [fbA, fbO, fbS]⟩, fun i hi => ⟨fun hG => ⟨hs, k1 i hi, fun h => absurd h (by decide), fun _ => ⟨rfl, ?_, ⟨i + 1, ?_, rfl, ?_, rfl, ?_⟩, ?_⟩⟩, fun hG => ⟨hs, k1 i hi, fun he => ?_, fun he => ?_⟩⟩⟩
  all_goals have hi : i ≤ fbN b w m a := hi
  · have : i ≠ fbN b w m a := fun h => by rw [h, k3] at hG; cases hG
    rw [fbL_get (by omega)]
    unfold fbV
    rw [fbA_succ]
  · have : i ≠ fbN b w m a := fun h => by rw [h, k3] at hG; cases hG
    show i + 1 ≤ fbN b w m a
    omega
  · have : i ≠ fbN b w m a := fun h => by rw [h, k3] at hG; cases hG
    show fbN b w m a - (i + 1) < fbN b w m a - i
    omega
  · rw [fbA_succ, fbO_succ]
    (repeat' (refine And.intro ?_ ?_)) <;> rfl
  · have : i ≠ fbN b w m a := fun h => by rw [h, k3] at hG; cases hG
    rw [fbT_lt (by omega), fbE_lt (by omega)]
    exact ⟨rfl, rfl, rfl⟩
  · have : i = fbN b w m a := by
      refine Nat.le_antisymm hi (Nat.le_of_not_lt fun h => hG (k2 i h))
    subst this
    rw [fbT_n, fbE_n, fbL_len]
    exact ⟨rfl, rfl, rfl, rfl⟩
  · refine absurd ?_ hG
    unfold brG
    simpa [bne] using he
theorem frIt_sat (hs : b.size ≤ 1000000) (hk : fbK b w m a = true) (z : Int) (g c : Bool) (r : Nat → Nat) (hr : ∀ x y, x ≤ 6 → y ≤ 6 → r x = r y → x = y) :
    ISatE Tryz.prog 44 [.p (r 0) 0 0, .p (r 1) 0 0, .p (r 2) 0 0, .p (r 3) 0 0, .p (r 4) 0 0]
      [(r 0, .cells 9 [.v (.string b)]), (r 1, .cells 3 [.v (.int .i64 a)]), (r 2, .cells 23 [.v (.int .i64 w), .v (.int .i64 z), .v (.bool g), .v (.bool c)]), (r 3, .cells 3 [.v (.int .i64 m)]), (r 4, .cells 52 [.fn (.func 22) [] [.p (r 5) 0 0, .p (r 6) 0 0]]), (r 5, .cells 9 [.v (.string ByteArray.empty)]), (r 6, .cells 26 [.v (.int .i64 0), .v (.int .i64 0)])]
      (fbL b w m a) (fun y => [(r 5, .cells 9 [.v (.string (fbT b w m a y))]), (r 6, .cells 26 [.v (.int .i64 (fbE b w m a y).1), .v (.int .i64 (fbE b w m a y).2)])]) := by
  have h0 : ISatE Tryz.prog 44 [.p 0 0 0, .p 1 0 0, .p 2 0 0, .p 3 0 0, .p 4 0 0] (fbC b a w z g c m ByteArray.empty 0 0) (fbL b w m a) (fbH b a w m) :=
    isatE_of_vcI (Ωi := fun l0 => oFb l0 b a w z g c m) GFr1_ok mixed Tryz.func44 (by kernel_rfl) fun l0 => by
      have := frIt_v (b := b) (w := w) (m := m) (a := a) z g c l0 hs hk
      rw [frIt_e] at this
      exact this
  exact h0.ren r (by
    intro x y hx hy e
    simp only [fbC, List.map_cons, List.map_nil, List.mem_cons, List.not_mem_nil, or_false] at hx hy
    exact hr x y (by omega) (by omega) e) rfl rfl
end
section
variable {b : ByteArray} {a m : Int}
theorem frHd_v (hs : b.size ≤ 1000000) (hk : fhI m = false → (hdE b a).1 = 0 → m < hhS b a → 0 ≤ a ∧ a + 4 < b.size) : frHd_t b a m := by
  have bad1 : fhI m = true → fhG b a m = false ∧ fhE b a m = (2, 0) := fun h => ⟨by unfold fhG; rw [h]; rfl, by unfold fhE; rw [h]; rfl⟩
  unfold frHd_t
  refine ⟨fun h1 => ?_, fun h1 => ⟨fun h2 => ?_, fun h2 => ?_⟩⟩
  · obtain ⟨e1, e2⟩ := bad1 (by unfold fhI; rw [h1]; rfl)
    simp [e1, e2]
  · obtain ⟨e1, e2⟩ := bad1 (by unfold fhI; rw [h1, h2]; rfl)
    simp [e1, e2]
  · have hI : fhI m = false := by unfold fhI; rw [h1, h2]; rfl
    refine ⟨hs, fun h3 => ⟨fun h4 => ?_, fun h4 => ⟨fun h5 => ?_, fun h5 => ?_⟩⟩, fun h3 => ⟨fun h5 => ?_, fun h5 => ?_⟩⟩
    · have hq := hk hI (by simpa using h3) (by simpa using h4)
      have hG : fhG b a m = false := by unfold fhG; rw [hI, h3, h4]; rfl
      have hE : fhE b a m = (18, fdF b a) := by unfold fhE; rw [hI, h3]; rfl
      refine ⟨hq.1, hq.2, hs, fun _ => ?_, fun h => absurd h (by decide)⟩
      simp [hG, hE]
    · exact absurd h5 (by simpa [bne] using h3)
    · have hG : fhG b a m = true := by unfold fhG; rw [hI, h3, h4]; rfl
      simp [hG]
    · have hG : fhG b a m = false := by unfold fhG; rw [hI, h3]; rfl
      have hE : fhE b a m = hdE b a := by unfold fhE; rw [hI, h3]; rfl
      simp [hG, hE]
    · exact absurd h3 (by simpa [bne] using h5)
theorem fbU_iff {b : ByteArray} {w m a : Int} {i : Nat} : fbU b w m a i = true ↔ ∀ j, j < i → bhL b (brS b (fbA b w m a j)) = false := by
  unfold fbU
  simp only [List.all_eq_true, List.mem_range, Bool.not_eq_true']
theorem fbR_at {b : ByteArray} {w m a : Int} {i : Nat} (hi : i < fbN b w m a) (hU : fbU b w m a i = true) (hl : bhL b (brS b (fbA b w m a i)) = true) : fbR b w m a = i := by
  unfold fbR
  rw [List.find?_range_eq_some.2 ⟨hl, by simpa using hi, fun j hj => by rw [fbU_iff.1 hU j hj]; rfl⟩]
  rfl
theorem fbR_n {b : ByteArray} {w m a : Int} (hU : fbU b w m a (fbN b w m a) = true) : fbR b w m a = fbN b w m a := by
  unfold fbR
  rw [List.find?_range_eq_none.2 (fun j hj => by rw [fbU_iff.1 hU j hj]; rfl)]
  rfl
theorem fbR_le {b : ByteArray} {w m a : Int} : fbR b w m a ≤ fbN b w m a := by
  unfold fbR
  cases h : (List.range (fbN b w m a)).find? fun j => bhL b (brS b (fbA b w m a j)) with
  | none => exact Nat.le_refl _
  | some i => exact Nat.le_of_lt (List.mem_range.1 (List.mem_of_find?_eq_some h))
theorem fbE_ok {b : ByteArray} {w m a : Int} (hk : fbK b w m a = true) {i : Nat} (hi : i ≤ fbN b w m a) (h : (fbE b w m a i).1 = 0) : (fbE b w m a i).2 = 0 := by
  by_cases hn : i = fbN b w m a
  · subst hn
    rw [fbE_n] at h ⊢
    have := (fbK_of hk).2.2
    unfold brG at this
    rw [h] at this
    cases this
  · rw [fbE_lt (by omega)]
theorem fbZ_lt {b : ByteArray} {w m a : Int} {i : Nat} (h : i < fbN b w m a) : fbZ b w m a i = fbA b w m a (i + 1) := by
  unfold fbZ
  rw [show Nat.blt i (fbN b w m a) = true from by simpa using h]; rfl
theorem fbZ_n {b : ByteArray} {w m a : Int} : fbZ b w m a (fbN b w m a) = fbA b w m a (fbN b w m a) := by
  unfold fbZ
  rw [show Nat.blt (fbN b w m a) (fbN b w m a) = false from by rw [← Bool.not_eq_true, Nat.blt_eq]; omega]; rfl
def rF (i : Nat) : Nat := cond (Nat.beq i 5) 100000 (cond (Nat.beq i 6) 100016 (500040 + i))
theorem rF_inj : ∀ x, x < 7 → ∀ y, y < 7 → rF x = rF y → x = y := by decide
theorem frRd_v (hs : b.size ≤ 1000000) (hk : fhI m = false → (hdE b a).1 = 0 → m < hhS b a → 0 ≤ a ∧ a + 4 < b.size) (h2 : fhG b a m = true → fbK b (hhW b a) m (hhN b a) = true ∧ hhM b a = false) : frRd_t b a m := by
  unfold frRd_t
  refine ⟨fun hG => ⟨hs, hk, fun h => absurd h (by decide), fun _ => ⟨⟨(), ?_, ?_, ⟨Nat.zero_le _, rfl⟩, ?_, fun i hi hp => ⟨?_, rfl, fun hl => ?_, fun hl => ⟨⟨?_, ?_⟩, ?_⟩⟩, fun hp => ?_⟩, fun _ _ => ⟨⟨fun e1 => ⟨fun e2 => ⟨fun e3 => ?_, fun e3 => ?_⟩, fun e2 => ?_⟩, fun e1 => ?_⟩, fun _ _ => ⟨fun e1 => ⟨fun hM => ?_, fun _ => ⟨fun e2 => ?_, fun e2 => ?_⟩⟩, fun e1 => ⟨fun e2 => ?_, fun e2 => ?_⟩⟩⟩⟩⟩, fun hG => ⟨hs, hk, fun h => ?_, fun h => ?_⟩⟩
  · exact frIt_sat hs (h2 hG).1 _ _ _ rF (fun x y hx hy => rF_inj x (by omega) y (by omega))
  · (repeat' (refine And.intro ?_ ?_)) <;> rfl
  · (repeat' (refine And.intro ?_ ?_)) <;> rfl
  · have hi' : i < fbN b (hhW b a) m (hhN b a) := by simpa using hi
    exact fbL_get hi'
  · have hi' : i < fbN b (hhW b a) m (hhN b a) := by simpa using hi
    have hR : frR b a m = i := fbR_at hi' hp.2 hl
    unfold frT frX frF
    rw [hR, fbZ_lt hi']
    exact ⟨(), hG, rfl, rfl, rfl, rfl, rfl, rfl, rfl, rfl, rfl⟩
  · have hi' : i < fbN b (hhW b a) m (hhN b a) := by simpa using hi
    exact hi'
  · refine fbU_iff.2 fun j hj => ?_
    by_cases h : j = i
    · rw [h]; exact hl
    · exact fbU_iff.1 hp.2 j (by omega)
  · (repeat' (refine And.intro ?_ ?_)) <;> rfl
  · have hn : List.length (List.map (fbV b (hhW b a) m (hhN b a)) (List.range (fbN b (hhW b a) m (hhN b a)))) = fbN b (hhW b a) m (hhN b a) := by simp
    rw [hn] at hp ⊢
    have hR : frR b a m = fbN b (hhW b a) m (hhN b a) := fbR_n hp.2
    unfold frT frX frF
    rw [hR, fbZ_n]
    exact ⟨(), hG, rfl, rfl, rfl, rfl, rfl, rfl, rfl, rfl, rfl⟩
  · have hE : frE b a m = (27, frX b a m) := by unfold frE; rw [hG, e1, e2, e3]; rfl
    rw [hE]
    exact ⟨(), hG, rfl, rfl, rfl, rfl, rfl, rfl, rfl, rfl, rfl⟩
  · have hE : frE b a m = frF b a m := by unfold frE; rw [hG, e1, e2, e3]; rfl
    rw [hE]
    exact ⟨(), hG, rfl, rfl, rfl, rfl, rfl, rfl, rfl, rfl, rfl⟩
  · have hE : frE b a m = frF b a m := by unfold frE; rw [hG, e1, e2]; rfl
    rw [hE]
    exact ⟨(), hG, rfl, rfl, rfl, rfl, rfl, rfl, rfl, rfl, rfl⟩
  · have hE : frE b a m = frF b a m := by unfold frE; rw [hG, e1]; rfl
    rw [hE]
    exact ⟨(), hG, rfl, rfl, rfl, rfl, rfl, rfl, rfl, rfl, rfl⟩
  · rw [(h2 hG).2] at hM; cases hM
  · exact absurd e2 (by simpa [bne] using e1)
  · have h0 : (frE b a m).1 = 0 := by simpa using e1
    have h1 : (frE b a m).2 = 0 := by
      revert h0
      unfold frE
      rw [hG]
      cases (frF b a m).1 == 0 && (decide (hhS b a ≥ 0) && (hhS b a != ((frT b a m).size : Int)))
      · exact fun h0 => fbE_ok (h2 hG).1 fbR_le h0
      · exact fun h0 => absurd (show (27 : Int) = 0 from h0) (by decide)
    unfold frO frN
    rw [e1, h0, h1]
    exact ⟨rfl, rfl, rfl, rfl⟩
  · unfold frO frN
    rw [e1]
    exact ⟨rfl, rfl, rfl, rfl⟩
  · exact absurd e1 (by simpa [bne] using e2)
  · have hG : fhG b a m = false := by simpa using hG
    have hE : frE b a m = fhE b a m := by unfold frE; rw [hG]; rfl
    unfold frO frN
    rw [hE, show ((fhE b a m).1 == 0) = false from by simpa [bne] using h]
    exact ⟨rfl, rfl, rfl, rfl⟩
  · have hG : fhG b a m = false := by simpa using hG
    have h0 : (fhE b a m).1 = 0 := by simpa [bne] using h
    refine absurd h0 ?_
    unfold fhE
    cases hI : fhI m
    · cases h3 : (hdE b a).1 == 0
      · simpa using h3
      · exact show ¬ (18 : Int) = 0 by decide
    · exact show ¬ (2 : Int) = 0 by decide
end
theorem frHd_sound : Sound Tryz.prog 12 sFrHd.ctr := sFrHd.sound (by kernel_rfl) sFrHd_enc fun ⟨b, a, m⟩ hc => by
  have h0 := hc _ (.head _)
  have h1 := hc _ (.tail _ (.head _))
  exact satG GFr2_ok mixed Tryz.func12 (frHd_e b a m) (frHd_v h0 h1)
theorem GFr3_ok : AllOk Tryz.prog GFr3 := .cons frHd_sound <| GFr2_ok
theorem frRd_sound : Sound Tryz.prog 9 sFrRd.ctr := sFrRd.sound (by kernel_rfl) sFrRd_enc fun ⟨b, a, m⟩ hc => by
  have h0 := hc _ (.head _)
  have h1 := hc _ (.tail _ (.head _))
  have h2 := hc _ (.tail _ (.tail _ (.head _)))
  exact satG GFr3_ok mixed Tryz.func9 (frRd_e b a m) (frRd_v h0 h1 h2)
theorem GFr4_ok : AllOk Tryz.prog GFr4 := .cons frRd_sound <| GFr3_ok
end Go.Proofs.YtbfdchahapajaaaGreatDoor
namespace Go.Proofs.YtbfdchahapajaaaGreatDoor
open Go Go.RowKit
set_option linter.unusedVariables false
def rhG (b : ByteArray) (a : Int) : Bool := (brC b a).2.1 == 0
def blS (b : ByteArray) (p : Int) : Int × Bool × Int × Int := cond (rhG b p) ((brC b p).1 + brX b p, bhL b (brS b p), cond (decide ((b.size : Int) - (brC b p).1 < brX b p)) (5, (b.size : Int)) (0, 0)) (0, false, (brC b p).2)
def blR (b : ByteArray) : Nat → Int × Int × Bool × Int × Int → Int × Int × Bool × Int × Int
  | 0, s => s
  | k + 1, s => cond (!s.2.2.1 && s.2.2.2.1 == 0) (blR b k (s.1 + 1, blS b s.2.1)) s
def blT (b : ByteArray) (a : Int) : Int × Int × Bool × Int × Int := blR b (b.size + 2) (0, hhN b a, false, hdE b a)
def blE (b : ByteArray) (a : Int) : Int × Int := cond ((blT b a).2.2.2.1 == 0 && hhM b a) (cond (decide ((b.size : Int) - (blT b a).2.1 < 4)) (5, (b.size : Int)) (0, 0)) (blT b a).2.2.2
def blN (b : ByteArray) (a : Int) : Int := cond ((blE b a).1 == 0) (blT b a).1 0
def blX (b : ByteArray) (a : Int) : Int := cond ((blE b a).1 == 0) (cond (hhM b a) ((blT b a).2.1 + 4) (blT b a).2.1) 0
def blI (b : ByteArray) (a : Int) (g : Nat × Int × Int × Bool × Int × Int) : Prop := blR b g.1 g.2 = blT b a ∧ (0 ≤ g.2.1 ∧ g.2.1 + (g.1 : Int) ≤ (b.size : Int) + 2) ∧ (0 ≤ g.2.2.1 ∧ g.2.2.1 ≤ 10000000) ∧ (g.2.2.2.2.1 = 0 → g.2.2.2.2.2 = 0) ∧ (g.2.2.2.1 = false → g.2.2.2.2.1 = 0 → g.2.2.1 ≤ (b.size : Int) ∧ (b.size : Int) - g.2.2.1 < (g.1 : Int))
def blJ (b : ByteArray) (a : Int) : Prop := 0 ≤ (blT b a).1 ∧ (0 ≤ (blT b a).2.1 ∧ (blT b a).2.1 ≤ 10000000) ∧ ((blT b a).2.2.2.1 = 0 → (blT b a).2.2.2.2 = 0)
end Go.Proofs.YtbfdchahapajaaaGreatDoor
namespace Go.Proofs.YtbfdchahapajaaaGreatDoor
open Go Go.RowKit
set_option linter.unusedVariables false
set_option linter.unusedSimpArgs false
set_option maxRecDepth 100000
def sRh : Spec where
  ι := ByteArray × Int
  dec l H := match l with
    | [.v (.string b), .v (.int .i64 a)] => some ((b, a), [])
    | _ => none
  args := fun (b, a) => [.v (.string b), .v (.int .i64 a)]
  pre := fun (b, a) => [⟨b.size ≤ 1000000, inferInstance⟩]
  out := fun (b, a) => .ite ⟨rhG b a = true, inferInstance⟩ (.leaf (.tu [.v (.int .i64 (brK b a)), .v (.int .i64 (brZ b a)), .v (.bool (bhL b (brS b a))), .v (.int .i64 (brC b a).1), .ag [.v (.int .i64 0), .v (.int .i64 0)]]) []) (.leaf (.tu [.v (.int .i64 0), .v (.int .i64 0), .v (.bool false), .v (.int .i64 0), .ag [.v (.int .i64 (brC b a).2.1), .v (.int .i64 (brC b a).2.2)]]) [])
theorem sRh_enc : ∀ l H n i ls, sRh.dec l H = some (i, ls) → l = renL (rho ls n) (sRh.args i) ∧ givenHp H ls = renH (rho ls n) (sRh.hp i) := by
  intro l H n i ls h
  simp only [sRh] at h
  repeat' split at h
  all_goals first
    | (cases h; done)
    | (cases h; exact ⟨rfl, rfl⟩)
def sFrBl : Spec where
  ι := ByteArray × Int
  dec l H := match l with
    | [.v (.string b), .v (.int .i64 a)] => some ((b, a), [])
    | _ => none
  args := fun (b, a) => [.v (.string b), .v (.int .i64 a)]
  pre := fun (b, a) => [⟨b.size ≤ 1000000, inferInstance⟩]
  out := fun (b, a) => .leaf (.tu [.v (.int .i64 (blN b a)), .v (.int .i64 (blX b a)), .ag [.v (.int .i64 (blE b a).1), .v (.int .i64 (blE b a).2)]]) []
theorem sFrBl_enc : ∀ l H n i ls, sFrBl.dec l H = some (i, ls) → l = renL (rho ls n) (sFrBl.args i) ∧ givenHp H ls = renH (rho ls n) (sFrBl.hp i) := by
  intro l H n i ls h
  simp only [sFrBl] at h
  repeat' split at h
  all_goals first
    | (cases h; done)
    | (cases h; exact ⟨rfl, rfl⟩)
def GGa : List (Nat × Ctr) := (24, sRh.ctr) :: GFr4
def GGb : List (Nat × Ctr) := (11, sFrBl.ctr) :: GGa
def oBl (b : ByteArray) (a : Int) : Nat → Option LoopFam := omL [
  (0, .one { ι := Nat × Int × Int × Bool × Int × Int, p := fun g => blI b a g, tm := fun g => [(0, .v (.string b)), (4, .v (.int .i64 g.2.1)), (5, .v (.int .i64 g.2.2.1)), (6, .p 1001 0 0), (7, .p 1002 0 0), (8, .v (.bool g.2.2.2.1))], hp := fun g => [(1001, .cells 26 [.v (.int .i64 g.2.2.2.2.1), .v (.int .i64 g.2.2.2.2.2)]), (1002, .cells 23 [.v (.int .i64 (hhW b a)), .v (.int .i64 (hhS b a)), .v (.bool (hhG b a)), .v (.bool (hhM b a))])], μ := fun g => g.1 }),
  (1012, cutI (blJ b a) [(0, .v (.string b)), (4, .v (.int .i64 (blT b a).1)), (5, .v (.int .i64 (blT b a).2.1)), (6, .p 1001 0 0), (7, .p 1002 0 0)] [(1001, .cells 26 [.v (.int .i64 (blT b a).2.2.2.1), .v (.int .i64 (blT b a).2.2.2.2)]), (1002, .cells 23 [.v (.int .i64 (hhW b a)), .v (.int .i64 (hhS b a)), .v (.bool (hhG b a)), .v (.bool (hhM b a))])])]
end Go.Proofs.YtbfdchahapajaaaGreatDoor
namespace Go.Proofs.YtbfdchahapajaaaGreatDoor
open Go Go.RowKit
set_option linter.unusedVariables false
set_option maxRecDepth 100000
def rhRd_t (b : ByteArray) (a : Int) : Prop :=
 vldC b (nwA b a) (nwE b a) (0 : Int) = true ∧
 ByteArray.size b ≤ (9223372036854775807 : Nat) ∧
 (((bhC b (nwA b a, nwE b a, (0 : Int))).snd.fst != (0 : Int)) = true →
 (rhG b a = true →
 (0 : Int) = brK b a ∧
 (0 : Int) = brZ b a ∧
 false = bhL b (brS b a) ∧ (0 : Int) = (brC b a).fst ∧ (bhC b (nwA b a, nwE b a, (0 : Int))).snd.fst = (0 : Int) ∧ (bhC b (nwA b a, nwE b a, (0 : Int))).snd.snd = (0 : Int)) ∧
 (¬rhG b a = true →
 (0 : Int) = (0 : Int) ∧
 (0 : Int) = (0 : Int) ∧
 false = false ∧ (0 : Int) = (0 : Int) ∧ (bhC b (nwA b a, nwE b a, (0 : Int))).snd.fst = (brC b a).snd.fst ∧ (bhC b (nwA b a, nwE b a, (0 : Int))).snd.snd = (brC b a).snd.snd)) ∧
 (((bhC b (nwA b a, nwE b a, (0 : Int))).snd.fst != (0 : Int)) = false →
 (rhG b a = true →
 bhK b (nwA b a, nwE b a, (0 : Int)) = brK b a ∧
 bhZ b (nwA b a, nwE b a, (0 : Int)) = brZ b a ∧
 bhL b (nwA b a, nwE b a, (0 : Int)) = bhL b (brS b a) ∧ (bhC b (nwA b a, nwE b a, (0 : Int))).fst = (brC b a).fst ∧ (0 : Int) = (0 : Int) ∧ (0 : Int) = (0 : Int)) ∧
 (¬rhG b a = true →
 bhK b (nwA b a, nwE b a, (0 : Int)) = (0 : Int) ∧
 bhZ b (nwA b a, nwE b a, (0 : Int)) = (0 : Int) ∧
 bhL b (nwA b a, nwE b a, (0 : Int)) = false ∧ (bhC b (nwA b a, nwE b a, (0 : Int))).fst = (0 : Int) ∧ (0 : Int) = (brC b a).snd.fst ∧ (0 : Int) = (brC b a).snd.snd))
theorem rhRd_e (b : ByteArray) (a : Int) : rhRd_t b a = vcG Tryz.prog (Gof GFr4) (fun _ => none) Tryz.f24 [.v (.string b), .v (.int .i64 a)] [] (.ite ⟨rhG b a = true, inferInstance⟩ (.leaf (.tu [.v (.int .i64 (brK b a)), .v (.int .i64 (brZ b a)), .v (.bool (bhL b (brS b a))), .v (.int .i64 (brC b a).1), .ag [.v (.int .i64 0), .v (.int .i64 0)]]) ([])) (.leaf (.tu [.v (.int .i64 0), .v (.int .i64 0), .v (.bool false), .v (.int .i64 0), .ag [.v (.int .i64 (brC b a).2.1), .v (.int .i64 (brC b a).2.2)]]) ([]))) := by kernel_rfl
def frBl_t (b : ByteArray) (a : Int) : Prop :=
 ByteArray.size b ≤ (1000000 : Nat) ∧
 ((∃ (x0 : Nat × Int × Int × Bool × Int × Int),
 (blR b x0.fst x0.snd = blT b a ∧
 ((0 : Int) ≤ x0.snd.fst ∧ x0.snd.fst + (↑x0.fst : Int) ≤ (↑(ByteArray.size b) : Int) + (2 : Int)) ∧
 ((0 : Int) ≤ x0.snd.snd.fst ∧ x0.snd.snd.fst ≤ (10000000 : Int)) ∧
 (x0.snd.snd.snd.snd.fst = (0 : Int) → x0.snd.snd.snd.snd.snd = (0 : Int)) ∧
 (x0.snd.snd.snd.fst = false → x0.snd.snd.snd.snd.fst = (0 : Int) → x0.snd.snd.fst ≤ (↑(ByteArray.size b) : Int) ∧ (↑(ByteArray.size b) : Int) - x0.snd.snd.fst < (↑x0.fst : Int))) ∧
 b = b ∧
 (0 : Int) = x0.snd.fst ∧
 hhN b a = x0.snd.snd.fst ∧
 false = x0.snd.snd.snd.fst ∧
 (hdE b a).fst = x0.snd.snd.snd.snd.fst ∧ (hdE b a).snd = x0.snd.snd.snd.snd.snd ∧ hhW b a = hhW b a ∧ hhS b a = hhS b a ∧ hhG b a = hhG b a ∧ hhM b a = hhM b a) ∧
 ∀ (x1 : Nat × Int × Int × Bool × Int × Int),
 blR b x1.fst x1.snd = blT b a ∧
 ((0 : Int) ≤ x1.snd.fst ∧ x1.snd.fst + (↑x1.fst : Int) ≤ (↑(ByteArray.size b) : Int) + (2 : Int)) ∧
 ((0 : Int) ≤ x1.snd.snd.fst ∧ x1.snd.snd.fst ≤ (10000000 : Int)) ∧
 (x1.snd.snd.snd.snd.fst = (0 : Int) → x1.snd.snd.snd.snd.snd = (0 : Int)) ∧
 (x1.snd.snd.snd.fst = false → x1.snd.snd.snd.snd.fst = (0 : Int) → x1.snd.snd.fst ≤ (↑(ByteArray.size b) : Int) ∧ (↑(ByteArray.size b) : Int) - x1.snd.snd.fst < (↑x1.fst : Int)) →
 ((!x1.snd.snd.snd.fst) = true →
 ((x1.snd.snd.snd.snd.fst == (0 : Int)) = true →
 (rhG b x1.snd.snd.fst = true →
 ByteArray.size b ≤ (1000000 : Nat) ∧
 ((brK b x1.snd.snd.fst == (1 : Int)) = true →
 (((0 : Int) == (0 : Int)) = true →
 (decide (IntKind.wrap IntKind.i64 ((↑(ByteArray.size b) : Int) - (brC b x1.snd.snd.fst).fst) < (1 : Int)) = true →
 ∃ (y2 : Nat × Int × Int × Bool × Int × Int),
 (blR b y2.fst y2.snd = blT b a ∧
 ((0 : Int) ≤ y2.snd.fst ∧ y2.snd.fst + (↑y2.fst : Int) ≤ (↑(ByteArray.size b) : Int) + (2 : Int)) ∧
 ((0 : Int) ≤ y2.snd.snd.fst ∧ y2.snd.snd.fst ≤ (10000000 : Int)) ∧
 (y2.snd.snd.snd.snd.fst = (0 : Int) → y2.snd.snd.snd.snd.snd = (0 : Int)) ∧
 (y2.snd.snd.snd.fst = false →
 y2.snd.snd.snd.snd.fst = (0 : Int) → y2.snd.snd.fst ≤ (↑(ByteArray.size b) : Int) ∧ (↑(ByteArray.size b) : Int) - y2.snd.snd.fst < (↑y2.fst : Int))) ∧
 y2.1 < x1.1 ∧
 b = b ∧
 IntKind.wrap IntKind.i64 (x1.snd.fst + (1 : Int)) = y2.snd.fst ∧
 IntKind.wrap IntKind.i64 ((brC b x1.snd.snd.fst).fst + (1 : Int)) = y2.snd.snd.fst ∧
 bhL b (brS b x1.snd.snd.fst) = y2.snd.snd.snd.fst ∧
 (5 : Int) = y2.snd.snd.snd.snd.fst ∧
 (↑(ByteArray.size b) : Int) = y2.snd.snd.snd.snd.snd ∧ hhW b a = hhW b a ∧ hhS b a = hhS b a ∧ hhG b a = hhG b a ∧ hhM b a = hhM b a) ∧
 (decide (IntKind.wrap IntKind.i64 ((↑(ByteArray.size b) : Int) - (brC b x1.snd.snd.fst).fst) < (1 : Int)) = false →
 ∃ (y3 : Nat × Int × Int × Bool × Int × Int),
 (blR b y3.fst y3.snd = blT b a ∧
 ((0 : Int) ≤ y3.snd.fst ∧ y3.snd.fst + (↑y3.fst : Int) ≤ (↑(ByteArray.size b) : Int) + (2 : Int)) ∧
 ((0 : Int) ≤ y3.snd.snd.fst ∧ y3.snd.snd.fst ≤ (10000000 : Int)) ∧
 (y3.snd.snd.snd.snd.fst = (0 : Int) → y3.snd.snd.snd.snd.snd = (0 : Int)) ∧
 (y3.snd.snd.snd.fst = false →
 y3.snd.snd.snd.snd.fst = (0 : Int) → y3.snd.snd.fst ≤ (↑(ByteArray.size b) : Int) ∧ (↑(ByteArray.size b) : Int) - y3.snd.snd.fst < (↑y3.fst : Int))) ∧
 y3.1 < x1.1 ∧
 b = b ∧
 IntKind.wrap IntKind.i64 (x1.snd.fst + (1 : Int)) = y3.snd.fst ∧
 IntKind.wrap IntKind.i64 ((brC b x1.snd.snd.fst).fst + (1 : Int)) = y3.snd.snd.fst ∧
 bhL b (brS b x1.snd.snd.fst) = y3.snd.snd.snd.fst ∧
 (0 : Int) = y3.snd.snd.snd.snd.fst ∧
 (0 : Int) = y3.snd.snd.snd.snd.snd ∧ hhW b a = hhW b a ∧ hhS b a = hhS b a ∧ hhG b a = hhG b a ∧ hhM b a = hhM b a)) ∧
 (((0 : Int) == (0 : Int)) = false →
 ∃ (y4 : Nat × Int × Int × Bool × Int × Int),
 (blR b y4.fst y4.snd = blT b a ∧
 ((0 : Int) ≤ y4.snd.fst ∧ y4.snd.fst + (↑y4.fst : Int) ≤ (↑(ByteArray.size b) : Int) + (2 : Int)) ∧
 ((0 : Int) ≤ y4.snd.snd.fst ∧ y4.snd.snd.fst ≤ (10000000 : Int)) ∧
 (y4.snd.snd.snd.snd.fst = (0 : Int) → y4.snd.snd.snd.snd.snd = (0 : Int)) ∧
 (y4.snd.snd.snd.fst = false →
 y4.snd.snd.snd.snd.fst = (0 : Int) → y4.snd.snd.fst ≤ (↑(ByteArray.size b) : Int) ∧ (↑(ByteArray.size b) : Int) - y4.snd.snd.fst < (↑y4.fst : Int))) ∧
 y4.1 < x1.1 ∧
 b = b ∧
 IntKind.wrap IntKind.i64 (x1.snd.fst + (1 : Int)) = y4.snd.fst ∧
 IntKind.wrap IntKind.i64 ((brC b x1.snd.snd.fst).fst + (1 : Int)) = y4.snd.snd.fst ∧
 bhL b (brS b x1.snd.snd.fst) = y4.snd.snd.snd.fst ∧
 (0 : Int) = y4.snd.snd.snd.snd.fst ∧
 (0 : Int) = y4.snd.snd.snd.snd.snd ∧ hhW b a = hhW b a ∧ hhS b a = hhS b a ∧ hhG b a = hhG b a ∧ hhM b a = hhM b a)) ∧
 ((brK b x1.snd.snd.fst == (1 : Int)) = false →
 (((0 : Int) == (0 : Int)) = true →
 (decide (IntKind.wrap IntKind.i64 ((↑(ByteArray.size b) : Int) - (brC b x1.snd.snd.fst).fst) < brZ b x1.snd.snd.fst) = true →
 ∃ (y5 : Nat × Int × Int × Bool × Int × Int),
 (blR b y5.fst y5.snd = blT b a ∧
 ((0 : Int) ≤ y5.snd.fst ∧ y5.snd.fst + (↑y5.fst : Int) ≤ (↑(ByteArray.size b) : Int) + (2 : Int)) ∧
 ((0 : Int) ≤ y5.snd.snd.fst ∧ y5.snd.snd.fst ≤ (10000000 : Int)) ∧
 (y5.snd.snd.snd.snd.fst = (0 : Int) → y5.snd.snd.snd.snd.snd = (0 : Int)) ∧
 (y5.snd.snd.snd.fst = false →
 y5.snd.snd.snd.snd.fst = (0 : Int) → y5.snd.snd.fst ≤ (↑(ByteArray.size b) : Int) ∧ (↑(ByteArray.size b) : Int) - y5.snd.snd.fst < (↑y5.fst : Int))) ∧
 y5.1 < x1.1 ∧
 b = b ∧
 IntKind.wrap IntKind.i64 (x1.snd.fst + (1 : Int)) = y5.snd.fst ∧
 IntKind.wrap IntKind.i64 ((brC b x1.snd.snd.fst).fst + brZ b x1.snd.snd.fst) = y5.snd.snd.fst ∧
 bhL b (brS b x1.snd.snd.fst) = y5.snd.snd.snd.fst ∧
 (5 : Int) = y5.snd.snd.snd.snd.fst ∧
 (↑(ByteArray.size b) : Int) = y5.snd.snd.snd.snd.snd ∧ hhW b a = hhW b a ∧ hhS b a = hhS b a ∧ hhG b a = hhG b a ∧ hhM b a = hhM b a) ∧
 (decide (IntKind.wrap IntKind.i64 ((↑(ByteArray.size b) : Int) - (brC b x1.snd.snd.fst).fst) < brZ b x1.snd.snd.fst) = false →
 ∃ (y6 : Nat × Int × Int × Bool × Int × Int),
 (blR b y6.fst y6.snd = blT b a ∧
 ((0 : Int) ≤ y6.snd.fst ∧ y6.snd.fst + (↑y6.fst : Int) ≤ (↑(ByteArray.size b) : Int) + (2 : Int)) ∧
 ((0 : Int) ≤ y6.snd.snd.fst ∧ y6.snd.snd.fst ≤ (10000000 : Int)) ∧
 (y6.snd.snd.snd.snd.fst = (0 : Int) → y6.snd.snd.snd.snd.snd = (0 : Int)) ∧
 (y6.snd.snd.snd.fst = false →
 y6.snd.snd.snd.snd.fst = (0 : Int) → y6.snd.snd.fst ≤ (↑(ByteArray.size b) : Int) ∧ (↑(ByteArray.size b) : Int) - y6.snd.snd.fst < (↑y6.fst : Int))) ∧
 y6.1 < x1.1 ∧
 b = b ∧
 IntKind.wrap IntKind.i64 (x1.snd.fst + (1 : Int)) = y6.snd.fst ∧
 IntKind.wrap IntKind.i64 ((brC b x1.snd.snd.fst).fst + brZ b x1.snd.snd.fst) = y6.snd.snd.fst ∧
 bhL b (brS b x1.snd.snd.fst) = y6.snd.snd.snd.fst ∧
 (0 : Int) = y6.snd.snd.snd.snd.fst ∧
 (0 : Int) = y6.snd.snd.snd.snd.snd ∧ hhW b a = hhW b a ∧ hhS b a = hhS b a ∧ hhG b a = hhG b a ∧ hhM b a = hhM b a)) ∧
 (((0 : Int) == (0 : Int)) = false →
 ∃ (y7 : Nat × Int × Int × Bool × Int × Int),
 (blR b y7.fst y7.snd = blT b a ∧
 ((0 : Int) ≤ y7.snd.fst ∧ y7.snd.fst + (↑y7.fst : Int) ≤ (↑(ByteArray.size b) : Int) + (2 : Int)) ∧
 ((0 : Int) ≤ y7.snd.snd.fst ∧ y7.snd.snd.fst ≤ (10000000 : Int)) ∧
 (y7.snd.snd.snd.snd.fst = (0 : Int) → y7.snd.snd.snd.snd.snd = (0 : Int)) ∧
 (y7.snd.snd.snd.fst = false →
 y7.snd.snd.snd.snd.fst = (0 : Int) → y7.snd.snd.fst ≤ (↑(ByteArray.size b) : Int) ∧ (↑(ByteArray.size b) : Int) - y7.snd.snd.fst < (↑y7.fst : Int))) ∧
 y7.1 < x1.1 ∧
 b = b ∧
 IntKind.wrap IntKind.i64 (x1.snd.fst + (1 : Int)) = y7.snd.fst ∧
 IntKind.wrap IntKind.i64 ((brC b x1.snd.snd.fst).fst + brZ b x1.snd.snd.fst) = y7.snd.snd.fst ∧
 bhL b (brS b x1.snd.snd.fst) = y7.snd.snd.snd.fst ∧
 (0 : Int) = y7.snd.snd.snd.snd.fst ∧
 (0 : Int) = y7.snd.snd.snd.snd.snd ∧ hhW b a = hhW b a ∧ hhS b a = hhS b a ∧ hhG b a = hhG b a ∧ hhM b a = hhM b a))) ∧
 (¬rhG b x1.snd.snd.fst = true →
 ByteArray.size b ≤ (1000000 : Nat) ∧
 (((0 : Int) == (1 : Int)) = true →
 (((brC b x1.snd.snd.fst).snd.fst == (0 : Int)) = true →
 (decide (IntKind.wrap IntKind.i64 ((↑(ByteArray.size b) : Int) - (0 : Int)) < (1 : Int)) = true →
 ∃ (y8 : Nat × Int × Int × Bool × Int × Int),
 (blR b y8.fst y8.snd = blT b a ∧
 ((0 : Int) ≤ y8.snd.fst ∧ y8.snd.fst + (↑y8.fst : Int) ≤ (↑(ByteArray.size b) : Int) + (2 : Int)) ∧
 ((0 : Int) ≤ y8.snd.snd.fst ∧ y8.snd.snd.fst ≤ (10000000 : Int)) ∧
 (y8.snd.snd.snd.snd.fst = (0 : Int) → y8.snd.snd.snd.snd.snd = (0 : Int)) ∧
 (y8.snd.snd.snd.fst = false →
 y8.snd.snd.snd.snd.fst = (0 : Int) → y8.snd.snd.fst ≤ (↑(ByteArray.size b) : Int) ∧ (↑(ByteArray.size b) : Int) - y8.snd.snd.fst < (↑y8.fst : Int))) ∧
 y8.1 < x1.1 ∧
 b = b ∧
 IntKind.wrap IntKind.i64 (x1.snd.fst + (1 : Int)) = y8.snd.fst ∧
 IntKind.wrap IntKind.i64 ((0 : Int) + (1 : Int)) = y8.snd.snd.fst ∧
 false = y8.snd.snd.snd.fst ∧
 (5 : Int) = y8.snd.snd.snd.snd.fst ∧
 (↑(ByteArray.size b) : Int) = y8.snd.snd.snd.snd.snd ∧ hhW b a = hhW b a ∧ hhS b a = hhS b a ∧ hhG b a = hhG b a ∧ hhM b a = hhM b a) ∧
 (decide (IntKind.wrap IntKind.i64 ((↑(ByteArray.size b) : Int) - (0 : Int)) < (1 : Int)) = false →
 ∃ (y9 : Nat × Int × Int × Bool × Int × Int),
 (blR b y9.fst y9.snd = blT b a ∧
 ((0 : Int) ≤ y9.snd.fst ∧ y9.snd.fst + (↑y9.fst : Int) ≤ (↑(ByteArray.size b) : Int) + (2 : Int)) ∧
 ((0 : Int) ≤ y9.snd.snd.fst ∧ y9.snd.snd.fst ≤ (10000000 : Int)) ∧
 (y9.snd.snd.snd.snd.fst = (0 : Int) → y9.snd.snd.snd.snd.snd = (0 : Int)) ∧
 (y9.snd.snd.snd.fst = false →
 y9.snd.snd.snd.snd.fst = (0 : Int) → y9.snd.snd.fst ≤ (↑(ByteArray.size b) : Int) ∧ (↑(ByteArray.size b) : Int) - y9.snd.snd.fst < (↑y9.fst : Int))) ∧
 y9.1 < x1.1 ∧
 b = b ∧
 IntKind.wrap IntKind.i64 (x1.snd.fst + (1 : Int)) = y9.snd.fst ∧
 IntKind.wrap IntKind.i64 ((0 : Int) + (1 : Int)) = y9.snd.snd.fst ∧
 false = y9.snd.snd.snd.fst ∧
 (brC b x1.snd.snd.fst).snd.fst = y9.snd.snd.snd.snd.fst ∧
 (brC b x1.snd.snd.fst).snd.snd = y9.snd.snd.snd.snd.snd ∧ hhW b a = hhW b a ∧ hhS b a = hhS b a ∧ hhG b a = hhG b a ∧ hhM b a = hhM b a)) ∧
 (((brC b x1.snd.snd.fst).snd.fst == (0 : Int)) = false →
 ∃ (y10 : Nat × Int × Int × Bool × Int × Int),
 (blR b y10.fst y10.snd = blT b a ∧
 ((0 : Int) ≤ y10.snd.fst ∧ y10.snd.fst + (↑y10.fst : Int) ≤ (↑(ByteArray.size b) : Int) + (2 : Int)) ∧
 ((0 : Int) ≤ y10.snd.snd.fst ∧ y10.snd.snd.fst ≤ (10000000 : Int)) ∧
 (y10.snd.snd.snd.snd.fst = (0 : Int) → y10.snd.snd.snd.snd.snd = (0 : Int)) ∧
 (y10.snd.snd.snd.fst = false →
 y10.snd.snd.snd.snd.fst = (0 : Int) → y10.snd.snd.fst ≤ (↑(ByteArray.size b) : Int) ∧ (↑(ByteArray.size b) : Int) - y10.snd.snd.fst < (↑y10.fst : Int))) ∧
 y10.1 < x1.1 ∧
 b = b ∧
 IntKind.wrap IntKind.i64 (x1.snd.fst + (1 : Int)) = y10.snd.fst ∧
 IntKind.wrap IntKind.i64 ((0 : Int) + (1 : Int)) = y10.snd.snd.fst ∧
 false = y10.snd.snd.snd.fst ∧
 (brC b x1.snd.snd.fst).snd.fst = y10.snd.snd.snd.snd.fst ∧
 (brC b x1.snd.snd.fst).snd.snd = y10.snd.snd.snd.snd.snd ∧ hhW b a = hhW b a ∧ hhS b a = hhS b a ∧ hhG b a = hhG b a ∧ hhM b a = hhM b a)) ∧
 (((0 : Int) == (1 : Int)) = false →
 (((brC b x1.snd.snd.fst).snd.fst == (0 : Int)) = true →
 (decide (IntKind.wrap IntKind.i64 ((↑(ByteArray.size b) : Int) - (0 : Int)) < (0 : Int)) = true →
 ∃ (y11 : Nat × Int × Int × Bool × Int × Int),
 (blR b y11.fst y11.snd = blT b a ∧
 ((0 : Int) ≤ y11.snd.fst ∧ y11.snd.fst + (↑y11.fst : Int) ≤ (↑(ByteArray.size b) : Int) + (2 : Int)) ∧
 ((0 : Int) ≤ y11.snd.snd.fst ∧ y11.snd.snd.fst ≤ (10000000 : Int)) ∧
 (y11.snd.snd.snd.snd.fst = (0 : Int) → y11.snd.snd.snd.snd.snd = (0 : Int)) ∧
 (y11.snd.snd.snd.fst = false →
 y11.snd.snd.snd.snd.fst = (0 : Int) →
 y11.snd.snd.fst ≤ (↑(ByteArray.size b) : Int) ∧ (↑(ByteArray.size b) : Int) - y11.snd.snd.fst < (↑y11.fst : Int))) ∧
 y11.1 < x1.1 ∧
 b = b ∧
 IntKind.wrap IntKind.i64 (x1.snd.fst + (1 : Int)) = y11.snd.fst ∧
 IntKind.wrap IntKind.i64 ((0 : Int) + (0 : Int)) = y11.snd.snd.fst ∧
 false = y11.snd.snd.snd.fst ∧
 (5 : Int) = y11.snd.snd.snd.snd.fst ∧
 (↑(ByteArray.size b) : Int) = y11.snd.snd.snd.snd.snd ∧ hhW b a = hhW b a ∧ hhS b a = hhS b a ∧ hhG b a = hhG b a ∧ hhM b a = hhM b a) ∧
 (decide (IntKind.wrap IntKind.i64 ((↑(ByteArray.size b) : Int) - (0 : Int)) < (0 : Int)) = false →
 ∃ (y12 : Nat × Int × Int × Bool × Int × Int),
 (blR b y12.fst y12.snd = blT b a ∧
 ((0 : Int) ≤ y12.snd.fst ∧ y12.snd.fst + (↑y12.fst : Int) ≤ (↑(ByteArray.size b) : Int) + (2 : Int)) ∧
 ((0 : Int) ≤ y12.snd.snd.fst ∧ y12.snd.snd.fst ≤ (10000000 : Int)) ∧
 (y12.snd.snd.snd.snd.fst = (0 : Int) → y12.snd.snd.snd.snd.snd = (0 : Int)) ∧
 (y12.snd.snd.snd.fst = false →
 y12.snd.snd.snd.snd.fst = (0 : Int) →
 y12.snd.snd.fst ≤ (↑(ByteArray.size b) : Int) ∧ (↑(ByteArray.size b) : Int) - y12.snd.snd.fst < (↑y12.fst : Int))) ∧
 y12.1 < x1.1 ∧
 b = b ∧
 IntKind.wrap IntKind.i64 (x1.snd.fst + (1 : Int)) = y12.snd.fst ∧
 IntKind.wrap IntKind.i64 ((0 : Int) + (0 : Int)) = y12.snd.snd.fst ∧
 false = y12.snd.snd.snd.fst ∧
 (brC b x1.snd.snd.fst).snd.fst = y12.snd.snd.snd.snd.fst ∧
 (brC b x1.snd.snd.fst).snd.snd = y12.snd.snd.snd.snd.snd ∧ hhW b a = hhW b a ∧ hhS b a = hhS b a ∧ hhG b a = hhG b a ∧ hhM b a = hhM b a)) ∧
 (((brC b x1.snd.snd.fst).snd.fst == (0 : Int)) = false →
 ∃ (y13 : Nat × Int × Int × Bool × Int × Int),
 (blR b y13.fst y13.snd = blT b a ∧
 ((0 : Int) ≤ y13.snd.fst ∧ y13.snd.fst + (↑y13.fst : Int) ≤ (↑(ByteArray.size b) : Int) + (2 : Int)) ∧
 ((0 : Int) ≤ y13.snd.snd.fst ∧ y13.snd.snd.fst ≤ (10000000 : Int)) ∧
 (y13.snd.snd.snd.snd.fst = (0 : Int) → y13.snd.snd.snd.snd.snd = (0 : Int)) ∧
 (y13.snd.snd.snd.fst = false →
 y13.snd.snd.snd.snd.fst = (0 : Int) → y13.snd.snd.fst ≤ (↑(ByteArray.size b) : Int) ∧ (↑(ByteArray.size b) : Int) - y13.snd.snd.fst < (↑y13.fst : Int))) ∧
 y13.1 < x1.1 ∧
 b = b ∧
 IntKind.wrap IntKind.i64 (x1.snd.fst + (1 : Int)) = y13.snd.fst ∧
 IntKind.wrap IntKind.i64 ((0 : Int) + (0 : Int)) = y13.snd.snd.fst ∧
 false = y13.snd.snd.snd.fst ∧
 (brC b x1.snd.snd.fst).snd.fst = y13.snd.snd.snd.snd.fst ∧
 (brC b x1.snd.snd.fst).snd.snd = y13.snd.snd.snd.snd.snd ∧ hhW b a = hhW b a ∧ hhS b a = hhS b a ∧ hhG b a = hhG b a ∧ hhM b a = hhM b a)))) ∧
 ((x1.snd.snd.snd.snd.fst == (0 : Int)) = false →
 ∃ (x14 : Unit),
 ((0 : Int) ≤ (blT b a).fst ∧
 ((0 : Int) ≤ (blT b a).snd.fst ∧ (blT b a).snd.fst ≤ (10000000 : Int)) ∧ ((blT b a).snd.snd.snd.fst = (0 : Int) → (blT b a).snd.snd.snd.snd = (0 : Int))) ∧
 b = b ∧
 x1.snd.fst = (blT b a).fst ∧
 x1.snd.snd.fst = (blT b a).snd.fst ∧
 x1.snd.snd.snd.snd.fst = (blT b a).snd.snd.snd.fst ∧
 x1.snd.snd.snd.snd.snd = (blT b a).snd.snd.snd.snd ∧ hhW b a = hhW b a ∧ hhS b a = hhS b a ∧ hhG b a = hhG b a ∧ hhM b a = hhM b a)) ∧
 ((!x1.snd.snd.snd.fst) = false →
 ∃ (x15 : Unit),
 ((0 : Int) ≤ (blT b a).fst ∧ ((0 : Int) ≤ (blT b a).snd.fst ∧ (blT b a).snd.fst ≤ (10000000 : Int)) ∧ ((blT b a).snd.snd.snd.fst = (0 : Int) → (blT b a).snd.snd.snd.snd = (0 : Int))) ∧
 b = b ∧
 x1.snd.fst = (blT b a).fst ∧
 x1.snd.snd.fst = (blT b a).snd.fst ∧
 x1.snd.snd.snd.snd.fst = (blT b a).snd.snd.snd.fst ∧
 x1.snd.snd.snd.snd.snd = (blT b a).snd.snd.snd.snd ∧ hhW b a = hhW b a ∧ hhS b a = hhS b a ∧ hhG b a = hhG b a ∧ hhM b a = hhM b a)) ∧
 ∀ (x16 : Unit),
 (0 : Int) ≤ (blT b a).fst ∧ ((0 : Int) ≤ (blT b a).snd.fst ∧ (blT b a).snd.fst ≤ (10000000 : Int)) ∧ ((blT b a).snd.snd.snd.fst = (0 : Int) → (blT b a).snd.snd.snd.snd = (0 : Int)) →
 (((blT b a).snd.snd.snd.fst == (0 : Int)) = true →
 (hhM b a = true →
 (decide (IntKind.wrap IntKind.i64 ((↑(ByteArray.size b) : Int) - (blT b a).snd.fst) < (4 : Int)) = true →
 (((5 : Int) != (0 : Int)) = true → (0 : Int) = blN b a ∧ (0 : Int) = blX b a ∧ (5 : Int) = (blE b a).fst ∧ (↑(ByteArray.size b) : Int) = (blE b a).snd) ∧
 (((5 : Int) != (0 : Int)) = false →
 (blT b a).fst = blN b a ∧ IntKind.wrap IntKind.i64 ((blT b a).snd.fst + (4 : Int)) = blX b a ∧ (0 : Int) = (blE b a).fst ∧ (0 : Int) = (blE b a).snd)) ∧
 (decide (IntKind.wrap IntKind.i64 ((↑(ByteArray.size b) : Int) - (blT b a).snd.fst) < (4 : Int)) = false →
 (((blT b a).snd.snd.snd.fst != (0 : Int)) = true →
 (0 : Int) = blN b a ∧ (0 : Int) = blX b a ∧ (blT b a).snd.snd.snd.fst = (blE b a).fst ∧ (blT b a).snd.snd.snd.snd = (blE b a).snd) ∧
 (((blT b a).snd.snd.snd.fst != (0 : Int)) = false →
 (blT b a).fst = blN b a ∧ IntKind.wrap IntKind.i64 ((blT b a).snd.fst + (4 : Int)) = blX b a ∧ (0 : Int) = (blE b a).fst ∧ (0 : Int) = (blE b a).snd))) ∧
 (hhM b a = false →
 (((blT b a).snd.snd.snd.fst != (0 : Int)) = true → (0 : Int) = blN b a ∧ (0 : Int) = blX b a ∧ (blT b a).snd.snd.snd.fst = (blE b a).fst ∧ (blT b a).snd.snd.snd.snd = (blE b a).snd) ∧
 (((blT b a).snd.snd.snd.fst != (0 : Int)) = false → (blT b a).fst = blN b a ∧ (blT b a).snd.fst = blX b a ∧ (0 : Int) = (blE b a).fst ∧ (0 : Int) = (blE b a).snd))) ∧
 (((blT b a).snd.snd.snd.fst == (0 : Int)) = false →
 (((blT b a).snd.snd.snd.fst != (0 : Int)) = true → (0 : Int) = blN b a ∧ (0 : Int) = blX b a ∧ (blT b a).snd.snd.snd.fst = (blE b a).fst ∧ (blT b a).snd.snd.snd.snd = (blE b a).snd) ∧
 (((blT b a).snd.snd.snd.fst != (0 : Int)) = false → (blT b a).fst = blN b a ∧ (blT b a).snd.fst = blX b a ∧ (0 : Int) = (blE b a).fst ∧ (0 : Int) = (blE b a).snd))
theorem frBl_e (b : ByteArray) (a : Int) : frBl_t b a = vcG Tryz.prog (Gof GGa) (oBl b a) Tryz.f11 [.v (.string b), .v (.int .i64 a)] [] (.leaf (.tu [.v (.int .i64 (blN b a)), .v (.int .i64 (blX b a)), .ag [.v (.int .i64 (blE b a).1), .v (.int .i64 (blE b a).2)]]) ([])) := by kernel_rfl
end Go.Proofs.YtbfdchahapajaaaGreatDoor
namespace Go.Proofs.YtbfdchahapajaaaGreatDoor
open Go Go.RowKit
set_option linter.unusedVariables false
set_option linter.unusedSimpArgs false
set_option maxRecDepth 100000
section
variable {b : ByteArray} {a : Int}
theorem rhRd_v (hs : b.size ≤ 1000000) : rhRd_t b a := by
  refine ⟨nw_vld b a, by omega, fun h => ⟨fun g => ?_, fun g => ⟨rfl, rfl, rfl, rfl, rfl, rfl⟩⟩, fun h => ⟨fun g => ⟨rfl, rfl, rfl, rfl, rfl, rfl⟩, fun g => ?_⟩⟩
  · have g : ((brC b a).2.1 == 0) = true := g
    have h : ((brC b a).2.1 != 0) = true := h
    rw [bne, g] at h
    cases h
  · have g : ¬ ((brC b a).2.1 == 0) = true := g
    have h : ((brC b a).2.1 != 0) = false := h
    exact absurd (by simpa using h) g
theorem rh_pos {p : Int} (h : rhG b p = true) : (brC b p).1 = p + 3 ∧ 0 ≤ p ∧ p + 3 ≤ b.size := by
  have h : (brC b p).2.1 = 0 := by unfold rhG at h; simpa using h
  have hC : (stB b (brS b p) 3).2.1 = 0 ∧ brC b p = stB b (brS b p) 3 := by
    unfold brC bhC at h ⊢
    revert h
    cases hq : (stB b (brS b p) 3).2.1 == 0 && bhK b (brS b p) == 3
    · intro h; exact ⟨h, rfl⟩
    · intro h
      simp only [Bool.and_eq_true, beq_iff_eq] at hq
      have h : faE (stB b (brS b p) 3).2.1 15 = 0 := h
      rw [hq.1] at h
      exact absurd h (by decide)
  have h3 : byE b (nwA b p) (nwE b p) 3 = 0 := hC.1
  rw [hC.2]
  have he : nwE b p = 0 := by
    by_cases he : nwE b p = 0
    · exact he
    · rw [(by_bad (n := 3) (s := b) (a := nwA b p) (f := 0) he).1] at h3; exact absurd h3 he
  have hn : nwB b p = false := by
    unfold nwE at he
    revert he
    cases nwB b p
    · intro _; rfl
    · intro h; exact absurd h (by decide)
  have ha : nwA b p = p := by unfold nwA; rw [hn]; rfl
  have hp : 0 ≤ p ∧ p ≤ (b.size : Int) := by
    simp only [nwB, Bool.or_eq_false_iff, decide_eq_false_iff_not] at hn
    omega
  rw [he, ha] at h3
  have hl : (3 : Int) ≤ (b.size : Int) - p := by
    by_cases hl : (b.size : Int) - p < 3
    · rw [(by_short (f := 0) (show (0 : Int) ≤ 3 by decide) hl).1] at h3; exact absurd h3 (by decide)
    · omega
  refine ⟨?_, hp.1, by omega⟩
  show byA b (nwA b p) (nwE b p) 3 = p + 3
  rw [he, ha, (by_good (f := 0) (show (0 : Int) ≤ 3 by decide) hl).2.2.1]
theorem brX_bd (p : Int) : 0 ≤ brX b p ∧ brX b p ≤ 2097152 := by
  have hz := bhZ_bd (s := b) (c := brS b p) (nw_vld b p)
  have hz' : 0 ≤ brZ b p ∧ brZ b p ≤ 2097152 := hz
  unfold brX
  cases brK b p == 1
  · exact hz'
  · exact ⟨show (0 : Int) ≤ 1 by decide, show (1 : Int) ≤ 2097152 by decide⟩
theorem blS_t {p : Int} (h : rhG b p = true) : blS b p = ((brC b p).1 + brX b p, bhL b (brS b p), cond (decide ((b.size : Int) - (brC b p).1 < brX b p)) (5, (b.size : Int)) (0, 0)) := by unfold blS; rw [h]; rfl
theorem blS_f {p : Int} (h : rhG b p = false) : blS b p = (0, false, (brC b p).2) := by unfold blS; rw [h]; rfl
theorem blI_step {k : Nat} {n p f : Int} (hs : b.size ≤ 1000000) (h : blI b a (k, n, p, false, 0, f)) : ∃ k', k = k' + 1 ∧ blI b a (k', n + 1, blS b p) := by
  obtain ⟨h1, h2, h3, h4, h5⟩ := h
  obtain ⟨q1, q2⟩ := h5 rfl rfl
  dsimp only at h2 h3 q1 q2
  cases k with
  | zero => exfalso; omega
  | succ k =>
    refine ⟨k, rfl, ?_⟩
    have h1' : blR b k (n + 1, blS b p) = blT b a := h1
    refine ⟨h1', by dsimp only; omega, ?_⟩
    cases hg : rhG b p
    · rw [blS_f hg]
      have hn : (brC b p).2.1 ≠ 0 := by unfold rhG at hg; simpa using hg
      exact ⟨⟨by dsimp only; omega, by dsimp only; omega⟩, fun h => absurd h hn, fun _ h => absurd h hn⟩
    · rw [blS_t hg]
      obtain ⟨e1, e2, e3⟩ := rh_pos hg
      have hx := brX_bd (b := b) p
      rw [e1]
      cases hd : decide ((b.size : Int) - (p + 3) < brX b p)
      · simp only [decide_eq_false_iff_not] at hd
        exact ⟨⟨by dsimp only; omega, by dsimp only; omega⟩, fun _ => rfl, fun _ _ => ⟨by dsimp only; omega, by dsimp only; omega⟩⟩
      · exact ⟨⟨by dsimp only; omega, by dsimp only; omega⟩, fun h => absurd (show (5 : Int) = 0 from h) (by decide), fun _ h => absurd (show (5 : Int) = 0 from h) (by decide)⟩
theorem blI_end {g : Nat × Int × Int × Bool × Int × Int} (h : blI b a g) (he : (!g.2.2.2.1 && g.2.2.2.2.1 == 0) = false) : g.2 = blT b a ∧ blJ b a := by
  obtain ⟨h1, h2, h3, h4, h5⟩ := h
  have e : g.2 = blT b a := by
    rw [← h1]
    cases g.1 with
    | zero => rfl
    | succ k => unfold blR; rw [he]; rfl
  refine ⟨e, ?_⟩
  unfold blJ
  rw [← e]
  exact ⟨h2.1, h3, h4⟩
theorem hd_okN : 0 ≤ hhN b a ∧ hhN b a ≤ b.size := by
  have hv := vld_iff.1 (hv5 (s := b) (a := a))
  unfold hhN
  cases hdOk b a
  · exact ⟨show (0 : Int) ≤ 0 by decide, show (0 : Int) ≤ _ by omega⟩
  · exact hv.1
theorem frBl_v (hs : b.size ≤ 1000000) : frBl_t b a := by
  have hN := hd_okN (b := b) (a := a)
  have goal : ∀ g : Nat × Int × Int × Bool × Int × Int, g.2.2.2.1 = false → g.2.2.2.2.1 = 0 → blI b a g → ∀ s : Int × Bool × Int × Int, blS b g.2.2.1 = s → ∃ y : Nat × Int × Int × Bool × Int × Int, blI b a y ∧ y.1 < g.1 ∧ g.2.1 + 1 = y.2.1 ∧ s = y.2.2 ∧ IntKind.wrap .i64 (g.2.1 + 1) = y.2.1 := by
    rintro ⟨k, n, p, l, e, f⟩ hl he hi s hS
    dsimp only at hl he hS
    subst hl he hS
    obtain ⟨k', rfl, hk⟩ := blI_step hs hi
    have h2 := hi.2.1
    dsimp only at h2
    exact ⟨_, hk, Nat.lt_succ_self _, rfl, rfl, wr (by dsimp only; omega) (by dsimp only; omega)⟩
  refine ⟨hs, ⟨⟨(b.size + 2, 0, hhN b a, false, hdE b a), ⟨rfl, ⟨by dsimp only; omega, by dsimp only; omega⟩, ⟨by dsimp only; omega, by dsimp only; omega⟩, fun h => (hd_two0 h).1, fun _ _ => ⟨by dsimp only; omega, by dsimp only; omega⟩⟩, rfl, rfl, rfl, rfl, rfl, rfl, rfl, rfl, rfl, rfl⟩, fun g hi => ⟨fun hl => ⟨fun he => ⟨fun hg => ⟨hs, fun hk => ⟨fun _ => ⟨fun hd => ?_, fun hd => ?_⟩, fun h => absurd h (by decide)⟩, fun hk => ⟨fun _ => ⟨fun hd => ?_, fun hd => ?_⟩, fun h => absurd h (by decide)⟩⟩, fun hg => ⟨hs, fun h => absurd h (by decide), fun _ => ⟨fun h => ?_, fun h => ?_⟩⟩⟩, fun he => ?_⟩, fun hl => ?_⟩⟩, fun _ hJ => ?_⟩
  all_goals try have hl : g.2.2.2.1 = false := by simpa using hl
  all_goals try have he : g.2.2.2.2.1 = 0 := by simpa using he
  · obtain ⟨e1, e2, e3⟩ := rh_pos hg
    have hX : brX b g.2.2.1 = 1 := by unfold brX; rw [hk]; rfl
    rw [e1, wr (by omega) (by omega)] at hd
    obtain ⟨y, hy, y1, y2, y3, y4⟩ := goal g hl he hi (g.2.2.1 + 3 + 1, bhL b (brS b g.2.2.1), 5, (b.size : Int)) (by rw [blS_t hg, hX, e1, hd]; rfl)
    exact ⟨y, hy, y1, rfl, y4, by rw [e1, wr (by omega) (by omega), ← y3], by rw [← y3], by rw [← y3], by rw [← y3], rfl, rfl, rfl, rfl⟩
  · obtain ⟨e1, e2, e3⟩ := rh_pos hg
    have hX : brX b g.2.2.1 = 1 := by unfold brX; rw [hk]; rfl
    rw [e1, wr (by omega) (by omega)] at hd
    obtain ⟨y, hy, y1, y2, y3, y4⟩ := goal g hl he hi (g.2.2.1 + 3 + 1, bhL b (brS b g.2.2.1), 0, 0) (by rw [blS_t hg, hX, e1, hd]; rfl)
    exact ⟨y, hy, y1, rfl, y4, by rw [e1, wr (by omega) (by omega), ← y3], by rw [← y3], by rw [← y3], by rw [← y3], rfl, rfl, rfl, rfl⟩
  · obtain ⟨e1, e2, e3⟩ := rh_pos hg
    have hX : brX b g.2.2.1 = brZ b g.2.2.1 := by unfold brX; rw [hk]; rfl
    have hx := brX_bd (b := b) g.2.2.1
    rw [hX] at hx
    rw [e1, wr (by omega) (by omega)] at hd
    obtain ⟨y, hy, y1, y2, y3, y4⟩ := goal g hl he hi (g.2.2.1 + 3 + brZ b g.2.2.1, bhL b (brS b g.2.2.1), 5, (b.size : Int)) (by rw [blS_t hg, hX, e1, hd]; rfl)
    exact ⟨y, hy, y1, rfl, y4, by rw [e1, wr (by omega) (by omega), ← y3], by rw [← y3], by rw [← y3], by rw [← y3], rfl, rfl, rfl, rfl⟩
  · obtain ⟨e1, e2, e3⟩ := rh_pos hg
    have hX : brX b g.2.2.1 = brZ b g.2.2.1 := by unfold brX; rw [hk]; rfl
    have hx := brX_bd (b := b) g.2.2.1
    rw [hX] at hx
    rw [e1, wr (by omega) (by omega)] at hd
    obtain ⟨y, hy, y1, y2, y3, y4⟩ := goal g hl he hi (g.2.2.1 + 3 + brZ b g.2.2.1, bhL b (brS b g.2.2.1), 0, 0) (by rw [blS_t hg, hX, e1, hd]; rfl)
    exact ⟨y, hy, y1, rfl, y4, by rw [e1, wr (by omega) (by omega), ← y3], by rw [← y3], by rw [← y3], by rw [← y3], rfl, rfl, rfl, rfl⟩
  · exact absurd (show rhG b g.2.2.1 = true from h) hg
  · have hg' : rhG b g.2.2.1 = false := by simpa using hg
    obtain ⟨y, hy, y1, y2, y3, y4⟩ := goal g hl he hi (0, false, (brC b g.2.2.1).2) (blS_f hg')
    exact ⟨y, hy, y1, rfl, y4, by rw [← y3]; rfl, by rw [← y3], by rw [← y3], by rw [← y3], rfl, rfl, rfl, rfl⟩
  · have he' : (g.2.2.2.2.1 == 0) = false := he
    obtain ⟨e, hJ⟩ := blI_end hi (by rw [he', Bool.and_false])
    rw [e]
    exact ⟨(), hJ, rfl, rfl, rfl, rfl, rfl, rfl, rfl, rfl, rfl⟩
  · have hl' : (!g.2.2.2.1) = false := hl
    obtain ⟨e, hJ⟩ := blI_end hi (by rw [hl', Bool.false_and])
    rw [e]
    exact ⟨(), hJ, rfl, rfl, rfl, rfl, rfl, rfl, rfl, rfl, rfl⟩
  · obtain ⟨j1, j2, j3⟩ := hJ
    unfold blN blX
    refine ⟨fun e0 => ⟨fun hM => ⟨fun hd => ⟨fun _ => ?_, fun h => absurd h (by decide)⟩, fun hd => ⟨fun h => ?_, fun h => ?_⟩⟩, fun hM => ⟨fun h => ?_, fun h => ?_⟩⟩, fun e0 => ⟨fun h => ?_, fun h => ?_⟩⟩
    · rw [wr (by omega) (by omega)] at hd
      have hE : blE b a = (5, (b.size : Int)) := by unfold blE; rw [e0, hM, hd]; rfl
      rw [hE]
      exact ⟨rfl, rfl, rfl, rfl⟩
    · exact absurd e0 (by simpa [bne] using h)
    · rw [wr (by omega) (by omega)] at hd
      have hE : blE b a = (0, 0) := by unfold blE; rw [e0, hM, hd]; rfl
      rw [hE, hM, wr (by omega) (by omega)]
      exact ⟨rfl, rfl, rfl, rfl⟩
    · exact absurd e0 (by simpa [bne] using h)
    · have z : (blT b a).2.2.2.1 = 0 := by simpa using e0
      have hE : blE b a = (0, 0) := by unfold blE; rw [e0, hM]; exact Prod.ext z (j3 z)
      rw [hE, hM]
      exact ⟨rfl, rfl, rfl, rfl⟩
    · have hE : blE b a = (blT b a).2.2.2 := by unfold blE; rw [e0]; rfl
      have e0' : (((blT b a).2.2.2).1 == 0) = false := e0
      rw [hE, e0']
      exact ⟨rfl, rfl, rfl, rfl⟩
    · exact absurd e0 (by simpa [bne] using h)
end
theorem rhRd_sound : Sound Tryz.prog 24 sRh.ctr := sRh.sound (by kernel_rfl) sRh_enc fun ⟨b, a⟩ hc => by
  have h0 := hc _ (.head _)
  exact satG GFr4_ok mixed Tryz.func24 (rhRd_e b a) (rhRd_v h0)
theorem GGa_ok : AllOk Tryz.prog GGa := .cons rhRd_sound <| GFr4_ok
theorem frBl_sound : Sound Tryz.prog 11 sFrBl.ctr := sFrBl.sound (by kernel_rfl) sFrBl_enc fun ⟨b, a⟩ hc => by
  have h0 := hc _ (.head _)
  exact satG GGa_ok mixed Tryz.func11 (frBl_e b a) (frBl_v h0)
theorem GGb_ok : AllOk Tryz.prog GGb := .cons frBl_sound <| GGa_ok
end Go.Proofs.YtbfdchahapajaaaGreatDoor
namespace Go.Proofs.YtbfdchahapajaaaGreatDoor
open Go Go.RowKit
set_option linter.unusedVariables false
def mg6 : ByteArray := ⟨#[40, 181, 47, 253, 0, 0]⟩
def hkM (i : Nat) : Int := cond (Nat.beq i 0) (-1) (cond (Nat.ble i 11) ((i : Int) - 1) 10)
def erW (i : Nat) : ByteArray := (⟨#[115, 117, 109, 32, 32, 32, 32, 32, 32, 32]⟩ : ByteArray).extract 0 (10 - i)
end Go.Proofs.YtbfdchahapajaaaGreatDoor
namespace Go.Proofs.YtbfdchahapajaaaGreatDoor
open Go Go.RowKit
set_option linter.unusedVariables false
set_option linter.unusedSimpArgs false
set_option maxRecDepth 100000
def oKh : Nat → Option LoopFam := omL [(0, .one { ι := Nat, p := fun i => i ≤ 63, tm := fun i => [(0, .v (.int .i64 1024)), (3, .v (.int .i64 (hkM i))), (5, .v (.int .i64 (i : Nat)))], hp := fun _ => [], μ := fun i => 63 - i })]
def oKe : Nat → Option LoopFam := omL [(0, .one { ι := Nat, p := fun i => i ≤ 7, tm := fun i => [(3, .v (.string (erW i)))], hp := fun _ => [], μ := fun i => 7 - i })]
def sKHi : Spec where
  ι := Int
  dec l H := match l with
    | [.v (.int .i64 n)] => some (n, [])
    | _ => none
  args := fun n => [.v (.int .i64 n)]
  pre := fun n => [⟨n = 1024, inferInstance⟩]
  out := fun n => .leaf (.v (.int .i64 10)) []
theorem sKHi_enc : ∀ l H n i ls, sKHi.dec l H = some (i, ls) → l = renL (rho ls n) (sKHi.args i) ∧ givenHp H ls = renH (rho ls n) (sKHi.hp i) := by
  intro l H n i ls h
  simp only [sKHi] at h
  repeat' split at h
  all_goals first
    | (cases h; done)
    | (cases h; exact ⟨rfl, rfl⟩)
def sKDe : Spec where
  ι := Int
  dec l H := match l with
    | [.v (.int .i64 n)] => some (n, [])
    | _ => none
  args := fun n => [.v (.int .i64 n)]
  pre := fun n => [⟨n = 1024, inferInstance⟩]
  out := fun n => .leaf (.v (.int .i64 0)) []
theorem sKDe_enc : ∀ l H n i ls, sKDe.dec l H = some (i, ls) → l = renL (rho ls n) (sKDe.args i) ∧ givenHp H ls = renH (rho ls n) (sKDe.hp i) := by
  intro l H n i ls h
  simp only [sKDe] at h
  repeat' split at h
  all_goals first
    | (cases h; done)
    | (cases h; exact ⟨rfl, rfl⟩)
def sKCk : Spec where
  ι := Int × Int × Bool × Bool
  dec l H := match l with
    | [.ag [.v (.int .i64 w), .v (.int .i64 z), .v (.bool g), .v (.bool c)]] => some ((w, z, g, c), [])
    | _ => none
  args := fun (w, z, g, c) => [.ag [.v (.int .i64 w), .v (.int .i64 z), .v (.bool g), .v (.bool c)]]
  pre := fun (w, z, g, c) => [⟨w = 1024, inferInstance⟩, ⟨z = -1, inferInstance⟩, ⟨g = false, inferInstance⟩, ⟨c = false, inferInstance⟩]
  out := fun (w, z, g, c) => .leaf (.v (.int .i64 0)) []
theorem sKCk_enc : ∀ l H n i ls, sKCk.dec l H = some (i, ls) → l = renL (rho ls n) (sKCk.args i) ∧ givenHp H ls = renH (rho ls n) (sKCk.hp i) := by
  intro l H n i ls h
  simp only [sKCk] at h
  repeat' split at h
  all_goals first
    | (cases h; done)
    | (cases h; exact ⟨rfl, rfl⟩)
def sKKi : Spec where
  ι := Int × Int × Bool × Bool
  dec l H := match l with
    | [.ag [.v (.int .i64 w), .v (.int .i64 z), .v (.bool g), .v (.bool c)]] => some ((w, z, g, c), [])
    | _ => none
  args := fun (w, z, g, c) => [.ag [.v (.int .i64 w), .v (.int .i64 z), .v (.bool g), .v (.bool c)]]
  pre := fun (w, z, g, c) => [⟨w = 1024, inferInstance⟩, ⟨z = -1, inferInstance⟩, ⟨g = false, inferInstance⟩, ⟨c = false, inferInstance⟩]
  out := fun (w, z, g, c) => .leaf (.v (.int .i64 0)) []
theorem sKKi_enc : ∀ l H n i ls, sKKi.dec l H = some (i, ls) → l = renL (rho ls n) (sKKi.args i) ∧ givenHp H ls = renH (rho ls n) (sKKi.hp i) := by
  intro l H n i ls h
  simp only [sKKi] at h
  repeat' split at h
  all_goals first
    | (cases h; done)
    | (cases h; exact ⟨rfl, rfl⟩)
def sKBy : Spec where
  ι := Int × Int × Bool × Bool
  dec l H := match l with
    | [.ag [.v (.int .i64 w), .v (.int .i64 z), .v (.bool g), .v (.bool c)]] => some ((w, z, g, c), [])
    | _ => none
  args := fun (w, z, g, c) => [.ag [.v (.int .i64 w), .v (.int .i64 z), .v (.bool g), .v (.bool c)]]
  pre := fun (w, z, g, c) => [⟨w = 1024, inferInstance⟩, ⟨z = -1, inferInstance⟩, ⟨g = false, inferInstance⟩, ⟨c = false, inferInstance⟩]
  out := fun (w, z, g, c) => .leaf (.tu [.v (.string mg6), .v (.int .i64 0)]) []
theorem sKBy_enc : ∀ l H n i ls, sKBy.dec l H = some (i, ls) → l = renL (rho ls n) (sKBy.args i) ∧ givenHp H ls = renH (rho ls n) (sKBy.hp i) := by
  intro l H n i ls h
  simp only [sKBy] at h
  repeat' split at h
  all_goals first
    | (cases h; done)
    | (cases h; exact ⟨rfl, rfl⟩)
def sKMk : Spec where
  ι := Int × Int × Bool × Bool × ByteArray × ByteArray
  dec l H := match l with
    | [.ag [.v (.int .i64 w), .v (.int .i64 z), .v (.bool g), .v (.bool c)], .v (.string s), .v (.string t)] => some ((w, z, g, c, s, t), [])
    | _ => none
  args := fun (w, z, g, c, s, t) => [.ag [.v (.int .i64 w), .v (.int .i64 z), .v (.bool g), .v (.bool c)], .v (.string s), .v (.string t)]
  pre := fun (w, z, g, c, s, t) => [⟨w = 1024, inferInstance⟩, ⟨z = -1, inferInstance⟩, ⟨g = false, inferInstance⟩, ⟨c = false, inferInstance⟩, ⟨s.size ≤ 1000000, inferInstance⟩]
  out := fun (w, z, g, c, s, t) => .leaf (.tu [.v (.string (mg6 ++ s)), .v (.int .i64 0)]) []
theorem sKMk_enc : ∀ l H n i ls, sKMk.dec l H = some (i, ls) → l = renL (rho ls n) (sKMk.args i) ∧ givenHp H ls = renH (rho ls n) (sKMk.hp i) := by
  intro l H n i ls h
  simp only [sKMk] at h
  repeat' split at h
  all_goals first
    | (cases h; done)
    | (cases h; exact ⟨rfl, rfl⟩)
def sKEr : Spec where
  ι := Int
  dec l H := match l with
    | [.v (.int .i64 e)] => some (e, [])
    | _ => none
  args := fun e => [.v (.int .i64 e)]
  pre := fun e => [⟨e = 13, inferInstance⟩]
  out := fun e => .leaf (.v (.string ⟨#[115, 117, 109]⟩)) []
theorem sKEr_enc : ∀ l H n i ls, sKEr.dec l H = some (i, ls) → l = renL (rho ls n) (sKEr.args i) ∧ givenHp H ls = renH (rho ls n) (sKEr.hp i) := by
  intro l H n i ls h
  simp only [sKEr] at h
  repeat' split at h
  all_goals first
    | (cases h; done)
    | (cases h; exact ⟨rfl, rfl⟩)
def sKIt : Spec where
  ι := Int
  dec l H := match l with
    | [.v (.int .i64 n)] => some (n, [])
    | _ => none
  args := fun n => [.v (.int .i64 n)]
  pre := fun n => [⟨n = 7, inferInstance⟩]
  out := fun n => .leaf (.v (.string ⟨#[55]⟩)) []
theorem sKIt_enc : ∀ l H n i ls, sKIt.dec l H = some (i, ls) → l = renL (rho ls n) (sKIt.args i) ∧ givenHp H ls = renH (rho ls n) (sKIt.hp i) := by
  intro l H n i ls h
  simp only [sKIt] at h
  repeat' split at h
  all_goals first
    | (cases h; done)
    | (cases h; exact ⟨rfl, rfl⟩)
def sKLe : Spec where
  ι := Int × Int
  dec l H := match l with
    | [.ag [.v (.int .i64 e), .v (.int .i64 a)]] => some ((e, a), [])
    | _ => none
  args := fun (e, a) => [.ag [.v (.int .i64 e), .v (.int .i64 a)]]
  pre := fun (e, a) => [⟨e = 13, inferInstance⟩, ⟨a = 7, inferInstance⟩]
  out := fun (e, a) => .leaf (.v (.string ⟨#[115, 117, 109, 32, 97, 116, 32, 55]⟩)) []
theorem sKLe_enc : ∀ l H n i ls, sKLe.dec l H = some (i, ls) → l = renL (rho ls n) (sKLe.args i) ∧ givenHp H ls = renH (rho ls n) (sKLe.hp i) := by
  intro l H n i ls h
  simp only [sKLe] at h
  repeat' split at h
  all_goals first
    | (cases h; done)
    | (cases h; exact ⟨rfl, rfl⟩)
def sKX0 : Spec where
  ι := Unit
  dec l H := match l with
    | [.ag [.v (.int .i64 0), .v (.int .i64 0)]] => some ((), [])
    | _ => none
  args := fun _ => [.ag [.v (.int .i64 0), .v (.int .i64 0)]]
  out := fun _ => .leaf (.v .nilIface) []
theorem sKX0_enc : ∀ l H n i ls, sKX0.dec l H = some (i, ls) → l = renL (rho ls n) (sKX0.args i) ∧ givenHp H ls = renH (rho ls n) (sKX0.hp i) := by
  intro l H n i ls h
  simp only [sKX0] at h
  repeat' split at h
  all_goals first
    | (cases h; done)
    | (cases h; exact ⟨rfl, rfl⟩)
def sKX1 : Spec where
  ι := Int × Int
  dec l H := match l with
    | [.ag [.v (.int .i64 e), .v (.int .i64 a)]] => some ((e, a), [])
    | _ => none
  args := fun (e, a) => [.ag [.v (.int .i64 e), .v (.int .i64 a)]]
  pre := fun (e, a) => [⟨e ≠ 0, inferInstance⟩]
  out := fun (e, a) => .leaf (.ifc 58 (.ag [.v (.int .i64 e), .v (.int .i64 a)])) []
theorem sKX1_enc : ∀ l H n i ls, sKX1.dec l H = some (i, ls) → l = renL (rho ls n) (sKX1.args i) ∧ givenHp H ls = renH (rho ls n) (sKX1.hp i) := by
  intro l H n i ls h
  simp only [sKX1] at h
  repeat' split at h
  all_goals first
    | (cases h; done)
    | (cases h; exact ⟨rfl, rfl⟩)
def GKa : List (Nat × Ctr) := (55, sKHi.ctr) :: (27, sKKi.ctr) :: (36, sKEr.ctr) :: (276, sKIt.ctr) :: (13, orC sKX0 sKX1) :: GGb
def GKb : List (Nat × Ctr) := (29, sKDe.ctr) :: (274, sKLe.ctr) :: GKa
def GKc : List (Nat × Ctr) := (26, sKCk.ctr) :: GKb
def GKd : List (Nat × Ctr) := (14, sKBy.ctr) :: GKc
def GKe : List (Nat × Ctr) := (6, sKMk.ctr) :: GKd
end Go.Proofs.YtbfdchahapajaaaGreatDoor
namespace Go.Proofs.YtbfdchahapajaaaGreatDoor
open Go Go.RowKit
set_option linter.unusedVariables false
set_option maxRecDepth 100000
def kHi_t  : Prop :=
 (∃ (x0 : Nat), Nat.le x0 (63 : Nat) ∧ (1024 : Int) = (1024 : Int) ∧ (-1 : Int) = hkM x0 ∧ (0 : Int) = (↑x0 : Int)) ∧
 ∀ (x1 : Nat),
 Nat.le x1 (63 : Nat) →
 (decide ((↑x1 : Int) < (63 : Int)) = true →
 (0 : Int) ≤ (↑x1 : Int) ∧
 (decide (Int.fdiv (1024 : Int) ((2 : Int) ^ min (Int.toNat (↑x1 : Int)) (IntKind.bits IntKind.i64)) > (0 : Int)) = true →
 ∃ (y2 : Nat),
 Nat.le y2 (63 : Nat) ∧
 Nat.sub (63 : Nat) y2 < Nat.sub (63 : Nat) x1 ∧ (1024 : Int) = (1024 : Int) ∧ (↑x1 : Int) = hkM y2 ∧ IntKind.wrap IntKind.i64 ((↑x1 : Int) + (1 : Int)) = (↑y2 : Int)) ∧
 (decide (Int.fdiv (1024 : Int) ((2 : Int) ^ min (Int.toNat (↑x1 : Int)) (IntKind.bits IntKind.i64)) > (0 : Int)) = false →
 ∃ (y3 : Nat),
 Nat.le y3 (63 : Nat) ∧
 Nat.sub (63 : Nat) y3 < Nat.sub (63 : Nat) x1 ∧ (1024 : Int) = (1024 : Int) ∧ hkM x1 = hkM y3 ∧ IntKind.wrap IntKind.i64 ((↑x1 : Int) + (1 : Int)) = (↑y3 : Int))) ∧
 (decide ((↑x1 : Int) < (63 : Int)) = false → hkM x1 = (10 : Int))
theorem kHi_e  : kHi_t  = vcG Tryz.prog (Gof GGb) (oKh) Tryz.f55 [.v (.int .i64 1024)] [] (.leaf (.v (.int .i64 10)) ([])) := by kernel_rfl
def kKi_t  : Prop :=
 (decide ((-1 : Int) < (0 : Int)) = true →
 (decide ((-1 : Int) < (0 : Int)) = true → (0 : Int) = (0 : Int)) ∧
 (decide ((-1 : Int) < (0 : Int)) = false →
 (decide ((-1 : Int) ≥ (256 : Int)) = true →
 (decide ((-1 : Int) < (65792 : Int)) = true → (1 : Int) = (0 : Int)) ∧
 (decide ((-1 : Int) < (65792 : Int)) = false →
 (decide ((-1 : Int) < (256 : Int)) = true → (2 : Int) = (0 : Int)) ∧
 (decide ((-1 : Int) < (256 : Int)) = false →
 (decide ((-1 : Int) < (4294967296 : Int)) = true → (2 : Int) = (0 : Int)) ∧ (decide ((-1 : Int) < (4294967296 : Int)) = false → (3 : Int) = (0 : Int))))) ∧
 (decide ((-1 : Int) ≥ (256 : Int)) = false →
 (decide ((-1 : Int) < (256 : Int)) = true → (2 : Int) = (0 : Int)) ∧
 (decide ((-1 : Int) < (256 : Int)) = false →
 (decide ((-1 : Int) < (4294967296 : Int)) = true → (2 : Int) = (0 : Int)) ∧ (decide ((-1 : Int) < (4294967296 : Int)) = false → (3 : Int) = (0 : Int)))))) ∧
 (decide ((-1 : Int) < (0 : Int)) = false →
 (false = true →
 (decide ((-1 : Int) < (256 : Int)) = true → (0 : Int) = (0 : Int)) ∧
 (decide ((-1 : Int) < (256 : Int)) = false →
 (decide ((-1 : Int) ≥ (256 : Int)) = true →
 (decide ((-1 : Int) < (65792 : Int)) = true → (1 : Int) = (0 : Int)) ∧
 (decide ((-1 : Int) < (65792 : Int)) = false →
 (decide ((-1 : Int) < (256 : Int)) = true → (2 : Int) = (0 : Int)) ∧
 (decide ((-1 : Int) < (256 : Int)) = false →
 (decide ((-1 : Int) < (4294967296 : Int)) = true → (2 : Int) = (0 : Int)) ∧ (decide ((-1 : Int) < (4294967296 : Int)) = false → (3 : Int) = (0 : Int))))) ∧
 (decide ((-1 : Int) ≥ (256 : Int)) = false →
 (decide ((-1 : Int) < (256 : Int)) = true → (2 : Int) = (0 : Int)) ∧
 (decide ((-1 : Int) < (256 : Int)) = false →
 (decide ((-1 : Int) < (4294967296 : Int)) = true → (2 : Int) = (0 : Int)) ∧ (decide ((-1 : Int) < (4294967296 : Int)) = false → (3 : Int) = (0 : Int)))))) ∧
 (false = false →
 (decide ((-1 : Int) ≥ (256 : Int)) = true →
 (decide ((-1 : Int) < (65792 : Int)) = true → (1 : Int) = (0 : Int)) ∧
 (decide ((-1 : Int) < (65792 : Int)) = false →
 (decide ((-1 : Int) < (256 : Int)) = true → (2 : Int) = (0 : Int)) ∧
 (decide ((-1 : Int) < (256 : Int)) = false →
 (decide ((-1 : Int) < (4294967296 : Int)) = true → (2 : Int) = (0 : Int)) ∧ (decide ((-1 : Int) < (4294967296 : Int)) = false → (3 : Int) = (0 : Int))))) ∧
 (decide ((-1 : Int) ≥ (256 : Int)) = false →
 (decide ((-1 : Int) < (256 : Int)) = true → (2 : Int) = (0 : Int)) ∧
 (decide ((-1 : Int) < (256 : Int)) = false →
 (decide ((-1 : Int) < (4294967296 : Int)) = true → (2 : Int) = (0 : Int)) ∧ (decide ((-1 : Int) < (4294967296 : Int)) = false → (3 : Int) = (0 : Int))))))
theorem kKi_e  : kKi_t  = vcG Tryz.prog (Gof GGb) (fun _ => none) Tryz.f27 [.ag [.v (.int .i64 1024), .v (.int .i64 (-1)), .v (.bool false), .v (.bool false)]] [] (.leaf (.v (.int .i64 0)) ([])) := by kernel_rfl
def kEr_t  : Prop :=
 (decide ((13 : Int) < (0 : Int)) = true →
 (ByteArray.mk (#[(117 : UInt8), (110 : UInt8), (107 : UInt8), (110 : UInt8), (111 : UInt8), (119 : UInt8), (110 : UInt8)])) = (ByteArray.mk (#[(115 : UInt8), (117 : UInt8), (109 : UInt8)]))) ∧
 (decide ((13 : Int) < (0 : Int)) = false →
 (decide ((13 : Int) ≥ (32 : Int)) = true →
 (ByteArray.mk (#[(117 : UInt8), (110 : UInt8), (107 : UInt8), (110 : UInt8), (111 : UInt8), (119 : UInt8), (110 : UInt8)])) = (ByteArray.mk (#[(115 : UInt8), (117 : UInt8), (109 : UInt8)]))) ∧
 (decide ((13 : Int) ≥ (32 : Int)) = false →
 (0 : Int) ≤ IntKind.wrap IntKind.i64 ((10 : Int) * (13 : Int)) ∧
 IntKind.wrap IntKind.i64 ((10 : Int) * (13 : Int)) ≤ IntKind.wrap IntKind.i64 (IntKind.wrap IntKind.i64 ((10 : Int) * (13 : Int)) + (10 : Int)) ∧
 IntKind.wrap IntKind.i64 (IntKind.wrap IntKind.i64 ((10 : Int) * (13 : Int)) + (10 : Int)) ≤
 (↑(ByteArray.size
 (ByteArray.mk (List.toArray
 (List.append
 (List.append
 (List.append
 [(111 : UInt8), (107 : UInt8), (32 : UInt8), (32 : UInt8), (32 : UInt8), (32 : UInt8), (32 : UInt8), (32 : UInt8), (32 : UInt8), (32 : UInt8), (110 : UInt8),
 (105 : UInt8), (108 : UInt8), (32 : UInt8), (32 : UInt8), (32 : UInt8), (32 : UInt8), (32 : UInt8), (32 : UInt8), (32 : UInt8), (114 : UInt8), (97 : UInt8),
 (110 : UInt8), (103 : UInt8), (101 : UInt8), (32 : UInt8), (32 : UInt8), (32 : UInt8), (32 : UInt8), (32 : UInt8), (102 : UInt8), (111 : UInt8), (114 : UInt8),
 (109 : UInt8), (32 : UInt8), (32 : UInt8), (32 : UInt8), (32 : UInt8), (32 : UInt8), (32 : UInt8)]
 [(108 : UInt8), (111 : UInt8), (110 : UInt8), (103 : UInt8), (32 : UInt8), (32 : UInt8), (32 : UInt8), (32 : UInt8), (32 : UInt8), (32 : UInt8), (115 : UInt8),
 (104 : UInt8), (111 : UInt8), (114 : UInt8), (116 : UInt8), (32 : UInt8), (32 : UInt8), (32 : UInt8), (32 : UInt8), (32 : UInt8), (102 : UInt8), (117 : UInt8),
 (108 : UInt8), (108 : UInt8), (32 : UInt8), (32 : UInt8), (32 : UInt8), (32 : UInt8), (32 : UInt8), (32 : UInt8), (109 : UInt8), (105 : UInt8), (115 : UInt8),
 (115 : UInt8), (105 : UInt8), (110 : UInt8), (103 : UInt8), (32 : UInt8), (32 : UInt8), (32 : UInt8)])
 (List.append
 [(101 : UInt8), (120 : UInt8), (105 : UInt8), (115 : UInt8), (116 : UInt8), (115 : UInt8), (32 : UInt8), (32 : UInt8), (32 : UInt8), (32 : UInt8), (111 : UInt8),
 (114 : UInt8), (100 : UInt8), (101 : UInt8), (114 : UInt8), (32 : UInt8), (32 : UInt8), (32 : UInt8), (32 : UInt8), (32 : UInt8), (115 : UInt8), (116 : UInt8),
 (97 : UInt8), (116 : UInt8), (101 : UInt8), (32 : UInt8), (32 : UInt8), (32 : UInt8), (32 : UInt8), (32 : UInt8), (107 : UInt8), (105 : UInt8), (110 : UInt8),
 (100 : UInt8), (32 : UInt8), (32 : UInt8), (32 : UInt8), (32 : UInt8), (32 : UInt8), (32 : UInt8)]
 [(110 : UInt8), (97 : UInt8), (109 : UInt8), (101 : UInt8), (32 : UInt8), (32 : UInt8), (32 : UInt8), (32 : UInt8), (32 : UInt8), (32 : UInt8), (115 : UInt8),
 (117 : UInt8), (109 : UInt8), (32 : UInt8), (32 : UInt8), (32 : UInt8), (32 : UInt8), (32 : UInt8), (32 : UInt8), (32 : UInt8), (109 : UInt8), (97 : UInt8),
 (103 : UInt8), (105 : UInt8), (99 : UInt8), (32 : UInt8), (32 : UInt8), (32 : UInt8), (32 : UInt8), (32 : UInt8), (114 : UInt8), (101 : UInt8), (115 : UInt8),
 (101 : UInt8), (114 : UInt8), (118 : UInt8), (101 : UInt8), (100 : UInt8), (32 : UInt8), (32 : UInt8)]))
 (List.append
 (List.append
 [(100 : UInt8), (105 : UInt8), (99 : UInt8), (116 : UInt8), (32 : UInt8), (32 : UInt8), (32 : UInt8), (32 : UInt8), (32 : UInt8), (32 : UInt8), (119 : UInt8),
 (105 : UInt8), (110 : UInt8), (100 : UInt8), (111 : UInt8), (119 : UInt8), (32 : UInt8), (32 : UInt8), (32 : UInt8), (32 : UInt8), (108 : UInt8), (105 : UInt8),
 (109 : UInt8), (105 : UInt8), (116 : UInt8), (32 : UInt8), (32 : UInt8), (32 : UInt8), (32 : UInt8), (32 : UInt8), (98 : UInt8), (108 : UInt8), (111 : UInt8),
 (99 : UInt8), (107 : UInt8), (32 : UInt8), (32 : UInt8), (32 : UInt8), (32 : UInt8), (32 : UInt8)]
 [(108 : UInt8), (105 : UInt8), (116 : UInt8), (101 : UInt8), (114 : UInt8), (97 : UInt8), (108 : UInt8), (115 : UInt8), (32 : UInt8), (32 : UInt8), (116 : UInt8),
 (114 : UInt8), (101 : UInt8), (101 : UInt8), (32 : UInt8), (32 : UInt8), (32 : UInt8), (32 : UInt8), (32 : UInt8), (32 : UInt8), (115 : UInt8), (116 : UInt8),
 (114 : UInt8), (101 : UInt8), (97 : UInt8), (109 : UInt8), (32 : UInt8), (32 : UInt8), (32 : UInt8), (32 : UInt8), (116 : UInt8), (97 : UInt8), (98 : UInt8),
 (108 : UInt8), (101 : UInt8), (32 : UInt8), (32 : UInt8), (32 : UInt8), (32 : UInt8), (32 : UInt8)])
 (List.append
 [(115 : UInt8), (101 : UInt8), (113 : UInt8), (117 : UInt8), (101 : UInt8), (110 : UInt8), (99 : UInt8), (101 : UInt8), (32 : UInt8), (32 : UInt8), (111 : UInt8),
 (102 : UInt8), (102 : UInt8), (115 : UInt8), (101 : UInt8), (116 : UInt8), (32 : UInt8), (32 : UInt8), (32 : UInt8), (32 : UInt8), (114 : UInt8), (101 : UInt8),
 (112 : UInt8), (101 : UInt8), (97 : UInt8), (116 : UInt8), (32 : UInt8), (32 : UInt8), (32 : UInt8), (32 : UInt8), (115 : UInt8), (105 : UInt8), (122 : UInt8),
 (101 : UInt8), (32 : UInt8), (32 : UInt8), (32 : UInt8), (32 : UInt8), (32 : UInt8), (32 : UInt8)]
 [(102 : UInt8), (97 : UInt8), (105 : UInt8), (108 : UInt8), (101 : UInt8), (100 : UInt8), (32 : UInt8), (32 : UInt8), (32 : UInt8), (32 : UInt8), (112 : UInt8),
 (105 : UInt8), (99 : UInt8), (107 : UInt8), (101 : UInt8), (100 : UInt8), (32 : UInt8), (32 : UInt8), (32 : UInt8), (32 : UInt8), (112 : UInt8), (111 : UInt8),
 (111 : UInt8), (108 : UInt8), (32 : UInt8), (32 : UInt8), (32 : UInt8), (32 : UInt8), (32 : UInt8), (32 : UInt8), (97 : UInt8), (99 : UInt8), (99 : UInt8),
 (117 : UInt8), (114 : UInt8), (97 : UInt8), (99 : UInt8), (121 : UInt8), (32 : UInt8), (32 : UInt8)])))))) :
 Int) ∧
 (∃ (x0 : Nat),
 Nat.le x0 (7 : Nat) ∧
 ByteArray.extract
 (ByteArray.mk (List.toArray
 (List.append
 (List.append
 (List.append
 [(111 : UInt8), (107 : UInt8), (32 : UInt8), (32 : UInt8), (32 : UInt8), (32 : UInt8), (32 : UInt8), (32 : UInt8), (32 : UInt8), (32 : UInt8), (110 : UInt8),
 (105 : UInt8), (108 : UInt8), (32 : UInt8), (32 : UInt8), (32 : UInt8), (32 : UInt8), (32 : UInt8), (32 : UInt8), (32 : UInt8), (114 : UInt8), (97 : UInt8),
 (110 : UInt8), (103 : UInt8), (101 : UInt8), (32 : UInt8), (32 : UInt8), (32 : UInt8), (32 : UInt8), (32 : UInt8), (102 : UInt8), (111 : UInt8), (114 : UInt8),
 (109 : UInt8), (32 : UInt8), (32 : UInt8), (32 : UInt8), (32 : UInt8), (32 : UInt8), (32 : UInt8)]
 [(108 : UInt8), (111 : UInt8), (110 : UInt8), (103 : UInt8), (32 : UInt8), (32 : UInt8), (32 : UInt8), (32 : UInt8), (32 : UInt8), (32 : UInt8), (115 : UInt8),
 (104 : UInt8), (111 : UInt8), (114 : UInt8), (116 : UInt8), (32 : UInt8), (32 : UInt8), (32 : UInt8), (32 : UInt8), (32 : UInt8), (102 : UInt8), (117 : UInt8),
 (108 : UInt8), (108 : UInt8), (32 : UInt8), (32 : UInt8), (32 : UInt8), (32 : UInt8), (32 : UInt8), (32 : UInt8), (109 : UInt8), (105 : UInt8), (115 : UInt8),
 (115 : UInt8), (105 : UInt8), (110 : UInt8), (103 : UInt8), (32 : UInt8), (32 : UInt8), (32 : UInt8)])
 (List.append
 [(101 : UInt8), (120 : UInt8), (105 : UInt8), (115 : UInt8), (116 : UInt8), (115 : UInt8), (32 : UInt8), (32 : UInt8), (32 : UInt8), (32 : UInt8), (111 : UInt8),
 (114 : UInt8), (100 : UInt8), (101 : UInt8), (114 : UInt8), (32 : UInt8), (32 : UInt8), (32 : UInt8), (32 : UInt8), (32 : UInt8), (115 : UInt8), (116 : UInt8),
 (97 : UInt8), (116 : UInt8), (101 : UInt8), (32 : UInt8), (32 : UInt8), (32 : UInt8), (32 : UInt8), (32 : UInt8), (107 : UInt8), (105 : UInt8), (110 : UInt8),
 (100 : UInt8), (32 : UInt8), (32 : UInt8), (32 : UInt8), (32 : UInt8), (32 : UInt8), (32 : UInt8)]
 [(110 : UInt8), (97 : UInt8), (109 : UInt8), (101 : UInt8), (32 : UInt8), (32 : UInt8), (32 : UInt8), (32 : UInt8), (32 : UInt8), (32 : UInt8), (115 : UInt8),
 (117 : UInt8), (109 : UInt8), (32 : UInt8), (32 : UInt8), (32 : UInt8), (32 : UInt8), (32 : UInt8), (32 : UInt8), (32 : UInt8), (109 : UInt8), (97 : UInt8),
 (103 : UInt8), (105 : UInt8), (99 : UInt8), (32 : UInt8), (32 : UInt8), (32 : UInt8), (32 : UInt8), (32 : UInt8), (114 : UInt8), (101 : UInt8), (115 : UInt8),
 (101 : UInt8), (114 : UInt8), (118 : UInt8), (101 : UInt8), (100 : UInt8), (32 : UInt8), (32 : UInt8)]))
 (List.append
 (List.append
 [(100 : UInt8), (105 : UInt8), (99 : UInt8), (116 : UInt8), (32 : UInt8), (32 : UInt8), (32 : UInt8), (32 : UInt8), (32 : UInt8), (32 : UInt8), (119 : UInt8),
 (105 : UInt8), (110 : UInt8), (100 : UInt8), (111 : UInt8), (119 : UInt8), (32 : UInt8), (32 : UInt8), (32 : UInt8), (32 : UInt8), (108 : UInt8), (105 : UInt8),
 (109 : UInt8), (105 : UInt8), (116 : UInt8), (32 : UInt8), (32 : UInt8), (32 : UInt8), (32 : UInt8), (32 : UInt8), (98 : UInt8), (108 : UInt8), (111 : UInt8),
 (99 : UInt8), (107 : UInt8), (32 : UInt8), (32 : UInt8), (32 : UInt8), (32 : UInt8), (32 : UInt8)]
 [(108 : UInt8), (105 : UInt8), (116 : UInt8), (101 : UInt8), (114 : UInt8), (97 : UInt8), (108 : UInt8), (115 : UInt8), (32 : UInt8), (32 : UInt8), (116 : UInt8),
 (114 : UInt8), (101 : UInt8), (101 : UInt8), (32 : UInt8), (32 : UInt8), (32 : UInt8), (32 : UInt8), (32 : UInt8), (32 : UInt8), (115 : UInt8), (116 : UInt8),
 (114 : UInt8), (101 : UInt8), (97 : UInt8), (109 : UInt8), (32 : UInt8), (32 : UInt8), (32 : UInt8), (32 : UInt8), (116 : UInt8), (97 : UInt8), (98 : UInt8),
 (108 : UInt8), (101 : UInt8), (32 : UInt8), (32 : UInt8), (32 : UInt8), (32 : UInt8), (32 : UInt8)])
 (List.append
 [(115 : UInt8), (101 : UInt8), (113 : UInt8), (117 : UInt8), (101 : UInt8), (110 : UInt8), (99 : UInt8), (101 : UInt8), (32 : UInt8), (32 : UInt8), (111 : UInt8),
 (102 : UInt8), (102 : UInt8), (115 : UInt8), (101 : UInt8), (116 : UInt8), (32 : UInt8), (32 : UInt8), (32 : UInt8), (32 : UInt8), (114 : UInt8), (101 : UInt8),
 (112 : UInt8), (101 : UInt8), (97 : UInt8), (116 : UInt8), (32 : UInt8), (32 : UInt8), (32 : UInt8), (32 : UInt8), (115 : UInt8), (105 : UInt8), (122 : UInt8),
 (101 : UInt8), (32 : UInt8), (32 : UInt8), (32 : UInt8), (32 : UInt8), (32 : UInt8), (32 : UInt8)]
 [(102 : UInt8), (97 : UInt8), (105 : UInt8), (108 : UInt8), (101 : UInt8), (100 : UInt8), (32 : UInt8), (32 : UInt8), (32 : UInt8), (32 : UInt8), (112 : UInt8),
 (105 : UInt8), (99 : UInt8), (107 : UInt8), (101 : UInt8), (100 : UInt8), (32 : UInt8), (32 : UInt8), (32 : UInt8), (32 : UInt8), (112 : UInt8), (111 : UInt8),
 (111 : UInt8), (108 : UInt8), (32 : UInt8), (32 : UInt8), (32 : UInt8), (32 : UInt8), (32 : UInt8), (32 : UInt8), (97 : UInt8), (99 : UInt8), (99 : UInt8),
 (117 : UInt8), (114 : UInt8), (97 : UInt8), (99 : UInt8), (121 : UInt8), (32 : UInt8), (32 : UInt8)])))))
 (Int.toNat (IntKind.wrap IntKind.i64 ((10 : Int) * (13 : Int)))) (Int.toNat (IntKind.wrap IntKind.i64 (IntKind.wrap IntKind.i64 ((10 : Int) * (13 : Int)) + (10 : Int)))) =
 erW x0) ∧
 ∀ (x1 : Nat),
 Nat.le x1 (7 : Nat) →
 (0 : Int) ≤ IntKind.wrap IntKind.i64 ((↑(ByteArray.size (erW x1)) : Int) - (1 : Int)) ∧
 IntKind.wrap IntKind.i64 ((↑(ByteArray.size (erW x1)) : Int) - (1 : Int)) < (↑(ByteArray.size (erW x1)) : Int) ∧
 (((↑(UInt8.toNat (List.getD (erW x1).data.toList (Int.toNat (IntKind.wrap IntKind.i64 ((↑(ByteArray.size (erW x1)) : Int) - (1 : Int)))) (0 : UInt8))) : Int) == (32 : Int)) =
 true →
 (0 : Int) ≤ (0 : Int) ∧
 (0 : Int) ≤ IntKind.wrap IntKind.i64 ((↑(ByteArray.size (erW x1)) : Int) - (1 : Int)) ∧
 IntKind.wrap IntKind.i64 ((↑(ByteArray.size (erW x1)) : Int) - (1 : Int)) ≤ (↑(ByteArray.size (erW x1)) : Int) ∧
 ∃ (y2 : Nat),
 Nat.le y2 (7 : Nat) ∧
 Nat.sub (7 : Nat) y2 < Nat.sub (7 : Nat) x1 ∧
 ByteArray.extract (erW x1) (Int.toNat (0 : Int)) (Int.toNat (IntKind.wrap IntKind.i64 ((↑(ByteArray.size (erW x1)) : Int) - (1 : Int)))) = erW y2) ∧
 (((↑(UInt8.toNat (List.getD (erW x1).data.toList (Int.toNat (IntKind.wrap IntKind.i64 ((↑(ByteArray.size (erW x1)) : Int) - (1 : Int)))) (0 : UInt8))) : Int) == (32 : Int)) =
 false →
 erW x1 = (ByteArray.mk (#[(115 : UInt8), (117 : UInt8), (109 : UInt8)])))))
theorem kEr_e  : kEr_t  = vcG Tryz.prog (Gof GGb) (oKe) Tryz.f36 [.v (.int .i64 13)] [] (.leaf (.v (.string ⟨#[115, 117, 109]⟩)) ([])) := by kernel_rfl
def kX0_t  : Prop :=
 (((0 : Int) == (0 : Int)) = true → Value.nilIface = Value.nilIface) ∧ (((0 : Int) == (0 : Int)) = false → False)
theorem kX0_e  : kX0_t  = vcG Tryz.prog (Gof GGb) (fun _ => none) Tryz.f13 [.ag [.v (.int .i64 0), .v (.int .i64 0)]] [] (.leaf (.v .nilIface) ([])) := by kernel_rfl
def kX1_t (e a : Int) : Prop :=
 ((e == (0 : Int)) = true → False) ∧ ((e == (0 : Int)) = false → e = e ∧ a = a)
theorem kX1_e (e a : Int) : kX1_t e a = vcG Tryz.prog (Gof GGb) (fun _ => none) Tryz.f13 [.ag [.v (.int .i64 e), .v (.int .i64 a)]] [] (.leaf (.ifc 58 (.ag [.v (.int .i64 e), .v (.int .i64 a)])) ([])) := by kernel_rfl
def kDe_t  : Prop :=
 (1024 : Int) = (1024 : Int) ∧
 (decide ((10 : Int) < (10 : Int)) = true → (-1 : Int) = (0 : Int)) ∧
 (decide ((10 : Int) < (10 : Int)) = false →
 (decide ((10 : Int) > (27 : Int)) = true → (-1 : Int) = (0 : Int)) ∧
 (decide ((10 : Int) > (27 : Int)) = false →
 (0 : Int) ≤ (3 : Int) ∧
 (0 : Int) ≤ (10 : Int) ∧
 (0 : Int) ≤ IntKind.wrap IntKind.i64 ((10 : Int) - (3 : Int)) ∧
 (0 : Int) ≤
 bits BinOp.or IntKind.i64 (IntKind.wrap IntKind.i64 (IntKind.wrap IntKind.i64 ((10 : Int) - (10 : Int)) * (2 : Int) ^ min (Int.toNat (3 : Int)) (IntKind.bits IntKind.i64)))
 (Int.fdiv (IntKind.wrap IntKind.i64 ((1024 : Int) - IntKind.wrap IntKind.i64 ((1 : Int) * (2 : Int) ^ min (Int.toNat (10 : Int)) (IntKind.bits IntKind.i64))))
 ((2 : Int) ^ min (Int.toNat (IntKind.wrap IntKind.i64 ((10 : Int) - (3 : Int)))) (IntKind.bits IntKind.i64))) ∧
 bits BinOp.or IntKind.i64 (IntKind.wrap IntKind.i64 (IntKind.wrap IntKind.i64 ((10 : Int) - (10 : Int)) * (2 : Int) ^ min (Int.toNat (3 : Int)) (IntKind.bits IntKind.i64)))
 (Int.fdiv (IntKind.wrap IntKind.i64 ((1024 : Int) - IntKind.wrap IntKind.i64 ((1 : Int) * (2 : Int) ^ min (Int.toNat (10 : Int)) (IntKind.bits IntKind.i64))))
 ((2 : Int) ^ min (Int.toNat (IntKind.wrap IntKind.i64 ((10 : Int) - (3 : Int)))) (IntKind.bits IntKind.i64))) ≤
 (255 : Int) ∧
 ((wdH
 (bits BinOp.or IntKind.i64
 (IntKind.wrap IntKind.i64 (IntKind.wrap IntKind.i64 ((10 : Int) - (10 : Int)) * (2 : Int) ^ min (Int.toNat (3 : Int)) (IntKind.bits IntKind.i64)))
 (Int.fdiv (IntKind.wrap IntKind.i64 ((1024 : Int) - IntKind.wrap IntKind.i64 ((1 : Int) * (2 : Int) ^ min (Int.toNat (10 : Int)) (IntKind.bits IntKind.i64))))
 ((2 : Int) ^ min (Int.toNat (IntKind.wrap IntKind.i64 ((10 : Int) - (3 : Int)))) (IntKind.bits IntKind.i64)))) !=
 (1024 : Int)) =
 true →
 (-1 : Int) = (0 : Int)) ∧
 ((wdH
 (bits BinOp.or IntKind.i64
 (IntKind.wrap IntKind.i64 (IntKind.wrap IntKind.i64 ((10 : Int) - (10 : Int)) * (2 : Int) ^ min (Int.toNat (3 : Int)) (IntKind.bits IntKind.i64)))
 (Int.fdiv (IntKind.wrap IntKind.i64 ((1024 : Int) - IntKind.wrap IntKind.i64 ((1 : Int) * (2 : Int) ^ min (Int.toNat (10 : Int)) (IntKind.bits IntKind.i64))))
 ((2 : Int) ^ min (Int.toNat (IntKind.wrap IntKind.i64 ((10 : Int) - (3 : Int)))) (IntKind.bits IntKind.i64)))) !=
 (1024 : Int)) =
 false →
 bits BinOp.or IntKind.i64 (IntKind.wrap IntKind.i64 (IntKind.wrap IntKind.i64 ((10 : Int) - (10 : Int)) * (2 : Int) ^ min (Int.toNat (3 : Int)) (IntKind.bits IntKind.i64)))
 (Int.fdiv (IntKind.wrap IntKind.i64 ((1024 : Int) - IntKind.wrap IntKind.i64 ((1 : Int) * (2 : Int) ^ min (Int.toNat (10 : Int)) (IntKind.bits IntKind.i64))))
 ((2 : Int) ^ min (Int.toNat (IntKind.wrap IntKind.i64 ((10 : Int) - (3 : Int)))) (IntKind.bits IntKind.i64))) =
 (0 : Int))))
theorem kDe_e  : kDe_t  = vcG Tryz.prog (Gof GKa) (fun _ => none) Tryz.f29 [.v (.int .i64 1024)] [] (.leaf (.v (.int .i64 0)) ([])) := by kernel_rfl
def kLe_t  : Prop :=
 (13 : Int) = (13 : Int) ∧
 (7 : Nat) ≤ (9223372036854775807 : Nat) ∧
 (7 : Int) = (7 : Int) ∧
 (8 : Nat) ≤ (9223372036854775807 : Nat) ∧
 (ByteArray.mk (#[(115 : UInt8), (117 : UInt8), (109 : UInt8)])) ++ (ByteArray.mk (#[(32 : UInt8), (97 : UInt8), (116 : UInt8), (32 : UInt8)])) ++ (ByteArray.mk (#[(55 : UInt8)])) =
 (ByteArray.mk (#[(115 : UInt8), (117 : UInt8), (109 : UInt8), (32 : UInt8), (97 : UInt8), (116 : UInt8), (32 : UInt8), (55 : UInt8)]))
theorem kLe_e  : kLe_t  = vcG Tryz.prog (Gof GKa) (fun _ => none) Tryz.f274 [.ag [.v (.int .i64 13), .v (.int .i64 7)]] [] (.leaf (.v (.string ⟨#[115, 117, 109, 32, 97, 116, 32, 55]⟩)) ([])) := by kernel_rfl
def kCk_t  : Prop :=
 (decide ((1024 : Int) < (0 : Int)) = true → (2 : Int) = (0 : Int)) ∧
 (decide ((1024 : Int) < (0 : Int)) = false →
 (decide ((1024 : Int) > (134217728 : Int)) = true → (2 : Int) = (0 : Int)) ∧
 (decide ((1024 : Int) > (134217728 : Int)) = false →
 (decide ((-1 : Int) < (-1 : Int)) = true → (2 : Int) = (0 : Int)) ∧
 (decide ((-1 : Int) < (-1 : Int)) = false →
 (decide ((-1 : Int) > (1099511627776 : Int)) = true → (2 : Int) = (0 : Int)) ∧
 (decide ((-1 : Int) > (1099511627776 : Int)) = false →
 (false = true →
 (((-1 : Int) != (1024 : Int)) = true → (2 : Int) = (0 : Int)) ∧
 (((-1 : Int) != (1024 : Int)) = false →
 ((!false) = true →
 (1024 : Int) = (1024 : Int) ∧ (decide ((0 : Int) < (0 : Int)) = true → (2 : Int) = (0 : Int)) ∧ (decide ((0 : Int) < (0 : Int)) = false → (0 : Int) = (0 : Int))) ∧
 ((!false) = false → (0 : Int) = (0 : Int)))) ∧
 (false = false →
 ((!false) = true →
 (1024 : Int) = (1024 : Int) ∧ (decide ((0 : Int) < (0 : Int)) = true → (2 : Int) = (0 : Int)) ∧ (decide ((0 : Int) < (0 : Int)) = false → (0 : Int) = (0 : Int))) ∧
 ((!false) = false → (0 : Int) = (0 : Int)))))))
theorem kCk_e  : kCk_t  = vcG Tryz.prog (Gof GKb) (fun _ => none) Tryz.f26 [.ag [.v (.int .i64 1024), .v (.int .i64 (-1)), .v (.bool false), .v (.bool false)]] [] (.leaf (.v (.int .i64 0)) ([])) := by kernel_rfl
def kBy_t  : Prop :=
 (1024 : Int) = (1024 : Int) ∧
 (-1 : Int) = (-1 : Int) ∧
 false = false ∧
 false = false ∧
 (((0 : Int) != (0 : Int)) = true → ByteArray.empty = mg6 ∧ (0 : Int) = (0 : Int)) ∧
 (((0 : Int) != (0 : Int)) = false →
 (1024 : Int) = (1024 : Int) ∧
 (-1 : Int) = (-1 : Int) ∧
 false = false ∧
 false = false ∧
 (0 : Int) ≤ (6 : Int) ∧
 (0 : Int) ≤ (0 : Int) ∧
 (0 : Int) < (↑(4 : Nat) : Int) ∧
 (4 : Nat) = List.length [(0 : Int), (2 : Int), (4 : Int), (8 : Int)] ∧
 (false = true →
 (false = true →
 (5 : Nat) * (1 : Nat) ≤ (140737488355328 : Nat) ∧
 (((0 : Int) == (1 : Int)) = true →
 ((List.getD [(0 : Int), (2 : Int), (4 : Int), (8 : Int)] (Int.toNat (0 : Int)) (0 : Int) == (0 : Int)) = true →
 strOfNums
 ([(40 : Int), (181 : Int), (47 : Int), (253 : Int)] ++
 [IntKind.wrap IntKind.u8
 (bits BinOp.or IntKind.i64
 (bits BinOp.or IntKind.i64 (IntKind.wrap IntKind.i64 ((0 : Int) * (2 : Int) ^ min (Int.toNat (6 : Int)) (IntKind.bits IntKind.i64)))
 (4 : Int))
 (32 : Int))]) =
 mg6 ∧
 (0 : Int) = (0 : Int)) ∧
 ((List.getD [(0 : Int), (2 : Int), (4 : Int), (8 : Int)] (Int.toNat (0 : Int)) (0 : Int) == (0 : Int)) = false →
 False ∧ False ∧ False ∧ False ∧ False ∧ False)) ∧
 (((0 : Int) == (1 : Int)) = false →
 (((0 : Int) == (0 : Int)) = true →
 (false = true →
 (((1 : Int) == (0 : Int)) = true →
 strOfNums
 ([(40 : Int), (181 : Int), (47 : Int), (253 : Int)] ++
 [IntKind.wrap IntKind.u8
 (bits BinOp.or IntKind.i64
 (bits BinOp.or IntKind.i64 (IntKind.wrap IntKind.i64 ((0 : Int) * (2 : Int) ^ min (Int.toNat (6 : Int)) (IntKind.bits IntKind.i64)))
 (4 : Int))
 (32 : Int))]) =
 mg6 ∧
 (0 : Int) = (0 : Int)) ∧
 (((1 : Int) == (0 : Int)) = false → False ∧ False ∧ False ∧ False ∧ False ∧ False)) ∧
 (false = false →
 ((List.getD [(0 : Int), (2 : Int), (4 : Int), (8 : Int)] (Int.toNat (0 : Int)) (0 : Int) == (0 : Int)) = true →
 strOfNums
 ([(40 : Int), (181 : Int), (47 : Int), (253 : Int)] ++
 [IntKind.wrap IntKind.u8
 (bits BinOp.or IntKind.i64
 (bits BinOp.or IntKind.i64 (IntKind.wrap IntKind.i64 ((0 : Int) * (2 : Int) ^ min (Int.toNat (6 : Int)) (IntKind.bits IntKind.i64)))
 (4 : Int))
 (32 : Int))]) =
 mg6 ∧
 (0 : Int) = (0 : Int)) ∧
 ((List.getD [(0 : Int), (2 : Int), (4 : Int), (8 : Int)] (Int.toNat (0 : Int)) (0 : Int) == (0 : Int)) = false →
 False ∧ False ∧ False ∧ False ∧ False ∧ False))) ∧
 (((0 : Int) == (0 : Int)) = false →
 ((List.getD [(0 : Int), (2 : Int), (4 : Int), (8 : Int)] (Int.toNat (0 : Int)) (0 : Int) == (0 : Int)) = true →
 strOfNums
 ([(40 : Int), (181 : Int), (47 : Int), (253 : Int)] ++
 [IntKind.wrap IntKind.u8
 (bits BinOp.or IntKind.i64
 (bits BinOp.or IntKind.i64 (IntKind.wrap IntKind.i64 ((0 : Int) * (2 : Int) ^ min (Int.toNat (6 : Int)) (IntKind.bits IntKind.i64)))
 (4 : Int))
 (32 : Int))]) =
 mg6 ∧
 (0 : Int) = (0 : Int)) ∧
 ((List.getD [(0 : Int), (2 : Int), (4 : Int), (8 : Int)] (Int.toNat (0 : Int)) (0 : Int) == (0 : Int)) = false →
 False ∧ False ∧ False ∧ False ∧ False ∧ False)))) ∧
 (false = false →
 (1024 : Int) = (1024 : Int) ∧
 (6 : Nat) * (1 : Nat) ≤ (140737488355328 : Nat) ∧
 (((0 : Int) == (1 : Int)) = true →
 ((List.getD [(0 : Int), (2 : Int), (4 : Int), (8 : Int)] (Int.toNat (0 : Int)) (0 : Int) == (0 : Int)) = true →
 strOfNums
 ([(40 : Int), (181 : Int), (47 : Int), (253 : Int)] ++
 [IntKind.wrap IntKind.u8
 (bits BinOp.or IntKind.i64 (IntKind.wrap IntKind.i64 ((0 : Int) * (2 : Int) ^ min (Int.toNat (6 : Int)) (IntKind.bits IntKind.i64)))
 (4 : Int)),
 IntKind.wrap IntKind.u8 (0 : Int)]) =
 mg6 ∧
 (0 : Int) = (0 : Int)) ∧
 ((List.getD [(0 : Int), (2 : Int), (4 : Int), (8 : Int)] (Int.toNat (0 : Int)) (0 : Int) == (0 : Int)) = false →
 False ∧ False ∧ False ∧ False ∧ False ∧ False)) ∧
 (((0 : Int) == (1 : Int)) = false →
 (((0 : Int) == (0 : Int)) = true →
 (false = true →
 (((1 : Int) == (0 : Int)) = true →
 strOfNums
 ([(40 : Int), (181 : Int), (47 : Int), (253 : Int)] ++
 [IntKind.wrap IntKind.u8
 (bits BinOp.or IntKind.i64 (IntKind.wrap IntKind.i64 ((0 : Int) * (2 : Int) ^ min (Int.toNat (6 : Int)) (IntKind.bits IntKind.i64)))
 (4 : Int)),
 IntKind.wrap IntKind.u8 (0 : Int)]) =
 mg6 ∧
 (0 : Int) = (0 : Int)) ∧
 (((1 : Int) == (0 : Int)) = false → False ∧ False ∧ False ∧ False ∧ False ∧ False)) ∧
 (false = false →
 ((List.getD [(0 : Int), (2 : Int), (4 : Int), (8 : Int)] (Int.toNat (0 : Int)) (0 : Int) == (0 : Int)) = true →
 strOfNums
 ([(40 : Int), (181 : Int), (47 : Int), (253 : Int)] ++
 [IntKind.wrap IntKind.u8
 (bits BinOp.or IntKind.i64 (IntKind.wrap IntKind.i64 ((0 : Int) * (2 : Int) ^ min (Int.toNat (6 : Int)) (IntKind.bits IntKind.i64)))
 (4 : Int)),
 IntKind.wrap IntKind.u8 (0 : Int)]) =
 mg6 ∧
 (0 : Int) = (0 : Int)) ∧
 ((List.getD [(0 : Int), (2 : Int), (4 : Int), (8 : Int)] (Int.toNat (0 : Int)) (0 : Int) == (0 : Int)) = false →
 False ∧ False ∧ False ∧ False ∧ False ∧ False))) ∧
 (((0 : Int) == (0 : Int)) = false →
 ((List.getD [(0 : Int), (2 : Int), (4 : Int), (8 : Int)] (Int.toNat (0 : Int)) (0 : Int) == (0 : Int)) = true →
 strOfNums
 ([(40 : Int), (181 : Int), (47 : Int), (253 : Int)] ++
 [IntKind.wrap IntKind.u8
 (bits BinOp.or IntKind.i64 (IntKind.wrap IntKind.i64 ((0 : Int) * (2 : Int) ^ min (Int.toNat (6 : Int)) (IntKind.bits IntKind.i64)))
 (4 : Int)),
 IntKind.wrap IntKind.u8 (0 : Int)]) =
 mg6 ∧
 (0 : Int) = (0 : Int)) ∧
 ((List.getD [(0 : Int), (2 : Int), (4 : Int), (8 : Int)] (Int.toNat (0 : Int)) (0 : Int) == (0 : Int)) = false →
 False ∧ False ∧ False ∧ False ∧ False ∧ False))))) ∧
 (false = false →
 (false = true →
 (5 : Nat) * (1 : Nat) ≤ (140737488355328 : Nat) ∧
 (((0 : Int) == (1 : Int)) = true →
 ((List.getD [(0 : Int), (2 : Int), (4 : Int), (8 : Int)] (Int.toNat (0 : Int)) (0 : Int) == (0 : Int)) = true →
 strOfNums
 ([(40 : Int), (181 : Int), (47 : Int), (253 : Int)] ++
 [IntKind.wrap IntKind.u8
 (bits BinOp.or IntKind.i64 (IntKind.wrap IntKind.i64 ((0 : Int) * (2 : Int) ^ min (Int.toNat (6 : Int)) (IntKind.bits IntKind.i64)))
 (32 : Int))]) =
 mg6 ∧
 (0 : Int) = (0 : Int)) ∧
 ((List.getD [(0 : Int), (2 : Int), (4 : Int), (8 : Int)] (Int.toNat (0 : Int)) (0 : Int) == (0 : Int)) = false →
 False ∧ False ∧ False ∧ False ∧ False ∧ False)) ∧
 (((0 : Int) == (1 : Int)) = false →
 (((0 : Int) == (0 : Int)) = true →
 (false = true →
 (((1 : Int) == (0 : Int)) = true →
 strOfNums
 ([(40 : Int), (181 : Int), (47 : Int), (253 : Int)] ++
 [IntKind.wrap IntKind.u8
 (bits BinOp.or IntKind.i64 (IntKind.wrap IntKind.i64 ((0 : Int) * (2 : Int) ^ min (Int.toNat (6 : Int)) (IntKind.bits IntKind.i64)))
 (32 : Int))]) =
 mg6 ∧
 (0 : Int) = (0 : Int)) ∧
 (((1 : Int) == (0 : Int)) = false → False ∧ False ∧ False ∧ False ∧ False ∧ False)) ∧
 (false = false →
 ((List.getD [(0 : Int), (2 : Int), (4 : Int), (8 : Int)] (Int.toNat (0 : Int)) (0 : Int) == (0 : Int)) = true →
 strOfNums
 ([(40 : Int), (181 : Int), (47 : Int), (253 : Int)] ++
 [IntKind.wrap IntKind.u8
 (bits BinOp.or IntKind.i64 (IntKind.wrap IntKind.i64 ((0 : Int) * (2 : Int) ^ min (Int.toNat (6 : Int)) (IntKind.bits IntKind.i64)))
 (32 : Int))]) =
 mg6 ∧
 (0 : Int) = (0 : Int)) ∧
 ((List.getD [(0 : Int), (2 : Int), (4 : Int), (8 : Int)] (Int.toNat (0 : Int)) (0 : Int) == (0 : Int)) = false →
 False ∧ False ∧ False ∧ False ∧ False ∧ False))) ∧
 (((0 : Int) == (0 : Int)) = false →
 ((List.getD [(0 : Int), (2 : Int), (4 : Int), (8 : Int)] (Int.toNat (0 : Int)) (0 : Int) == (0 : Int)) = true →
 strOfNums
 ([(40 : Int), (181 : Int), (47 : Int), (253 : Int)] ++
 [IntKind.wrap IntKind.u8
 (bits BinOp.or IntKind.i64 (IntKind.wrap IntKind.i64 ((0 : Int) * (2 : Int) ^ min (Int.toNat (6 : Int)) (IntKind.bits IntKind.i64)))
 (32 : Int))]) =
 mg6 ∧
 (0 : Int) = (0 : Int)) ∧
 ((List.getD [(0 : Int), (2 : Int), (4 : Int), (8 : Int)] (Int.toNat (0 : Int)) (0 : Int) == (0 : Int)) = false →
 False ∧ False ∧ False ∧ False ∧ False ∧ False)))) ∧
 (false = false →
 (1024 : Int) = (1024 : Int) ∧
 (6 : Nat) * (1 : Nat) ≤ (140737488355328 : Nat) ∧
 (((0 : Int) == (1 : Int)) = true →
 ((List.getD [(0 : Int), (2 : Int), (4 : Int), (8 : Int)] (Int.toNat (0 : Int)) (0 : Int) == (0 : Int)) = true →
 strOfNums
 ([(40 : Int), (181 : Int), (47 : Int), (253 : Int)] ++
 [IntKind.wrap IntKind.u8 (IntKind.wrap IntKind.i64 ((0 : Int) * (2 : Int) ^ min (Int.toNat (6 : Int)) (IntKind.bits IntKind.i64))),
 IntKind.wrap IntKind.u8 (0 : Int)]) =
 mg6 ∧
 (0 : Int) = (0 : Int)) ∧
 ((List.getD [(0 : Int), (2 : Int), (4 : Int), (8 : Int)] (Int.toNat (0 : Int)) (0 : Int) == (0 : Int)) = false →
 False ∧ False ∧ False ∧ False ∧ False ∧ False)) ∧
 (((0 : Int) == (1 : Int)) = false →
 (((0 : Int) == (0 : Int)) = true →
 (false = true →
 (((1 : Int) == (0 : Int)) = true →
 strOfNums
 ([(40 : Int), (181 : Int), (47 : Int), (253 : Int)] ++
 [IntKind.wrap IntKind.u8 (IntKind.wrap IntKind.i64 ((0 : Int) * (2 : Int) ^ min (Int.toNat (6 : Int)) (IntKind.bits IntKind.i64))),
 IntKind.wrap IntKind.u8 (0 : Int)]) =
 mg6 ∧
 (0 : Int) = (0 : Int)) ∧
 (((1 : Int) == (0 : Int)) = false → False ∧ False ∧ False ∧ False ∧ False ∧ False)) ∧
 (false = false →
 ((List.getD [(0 : Int), (2 : Int), (4 : Int), (8 : Int)] (Int.toNat (0 : Int)) (0 : Int) == (0 : Int)) = true →
 strOfNums
 ([(40 : Int), (181 : Int), (47 : Int), (253 : Int)] ++
 [IntKind.wrap IntKind.u8 (IntKind.wrap IntKind.i64 ((0 : Int) * (2 : Int) ^ min (Int.toNat (6 : Int)) (IntKind.bits IntKind.i64))),
 IntKind.wrap IntKind.u8 (0 : Int)]) =
 mg6 ∧
 (0 : Int) = (0 : Int)) ∧
 ((List.getD [(0 : Int), (2 : Int), (4 : Int), (8 : Int)] (Int.toNat (0 : Int)) (0 : Int) == (0 : Int)) = false →
 False ∧ False ∧ False ∧ False ∧ False ∧ False))) ∧
 (((0 : Int) == (0 : Int)) = false →
 ((List.getD [(0 : Int), (2 : Int), (4 : Int), (8 : Int)] (Int.toNat (0 : Int)) (0 : Int) == (0 : Int)) = true →
 strOfNums
 ([(40 : Int), (181 : Int), (47 : Int), (253 : Int)] ++
 [IntKind.wrap IntKind.u8 (IntKind.wrap IntKind.i64 ((0 : Int) * (2 : Int) ^ min (Int.toNat (6 : Int)) (IntKind.bits IntKind.i64))),
 IntKind.wrap IntKind.u8 (0 : Int)]) =
 mg6 ∧
 (0 : Int) = (0 : Int)) ∧
 ((List.getD [(0 : Int), (2 : Int), (4 : Int), (8 : Int)] (Int.toNat (0 : Int)) (0 : Int) == (0 : Int)) = false →
 False ∧ False ∧ False ∧ False ∧ False ∧ False))))))
theorem kBy_e  : kBy_t  = vcG Tryz.prog (Gof GKc) (fun _ => none) Tryz.f14 [.ag [.v (.int .i64 1024), .v (.int .i64 (-1)), .v (.bool false), .v (.bool false)]] [] (.leaf (.tu [.v (.string mg6), .v (.int .i64 0)]) ([])) := by kernel_rfl
def kMk_t (s t : ByteArray) : Prop :=
 (1024 : Int) = (1024 : Int) ∧
 (-1 : Int) = (-1 : Int) ∧
 false = false ∧
 false = false ∧
 (((0 : Int) != (0 : Int)) = true → ByteArray.empty = mg6 ++ s ∧ (0 : Int) = (0 : Int)) ∧
 (((0 : Int) != (0 : Int)) = false →
 ByteArray.size mg6 + ByteArray.size s ≤ (9223372036854775807 : Nat) ∧
 (false = true → False ∧ False ∧ False ∧ (0 : Int) = (0 : Int)) ∧ (false = false → mg6 ++ s = mg6 ++ s ∧ (0 : Int) = (0 : Int)))
theorem kMk_e (s t : ByteArray) : kMk_t s t = vcG Tryz.prog (Gof GKd) (fun _ => none) Tryz.f6 [.ag [.v (.int .i64 1024), .v (.int .i64 (-1)), .v (.bool false), .v (.bool false)], .v (.string s), .v (.string t)] [] (.leaf (.tu [.v (.string (mg6 ++ s)), .v (.int .i64 0)]) ([])) := by kernel_rfl
end Go.Proofs.YtbfdchahapajaaaGreatDoor
namespace Go.Proofs.YtbfdchahapajaaaGreatDoor
open Go Go.RowKit
set_option linter.unusedVariables false
set_option linter.unusedSimpArgs false
set_option maxRecDepth 100000
theorem hk_hi : ∀ i : Fin 63, decide (Int.fdiv (1024 : Int) ((2 : Int) ^ min i.val (IntKind.bits IntKind.i64)) > (0 : Int)) = Nat.ble i.val 10 := by decide +kernel
theorem hk_up : ∀ i : Fin 63, Nat.ble i.val 10 = true → ((i.val : Nat) : Int) = hkM (i.val + 1) := by decide +kernel
theorem hk_st : ∀ i : Fin 63, Nat.ble i.val 10 = false → hkM i.val = hkM (i.val + 1) := by decide +kernel
theorem kHi_v : kHi_t := by
  refine ⟨⟨0, Nat.zero_le _, rfl, rfl, rfl⟩, fun i hi => ⟨fun hlt => ?_, fun hge => ?_⟩⟩
  · have hlt : i < 63 := by simp only [decide_eq_true_eq] at hlt; omega
    have e := hk_hi ⟨i, hlt⟩
    refine ⟨Int.natCast_nonneg _, fun h => ⟨i + 1, hlt, by show 63 - (i + 1) < 63 - i; omega, rfl, ?_, by rw [wr (by omega) (by omega)]; rfl⟩, fun h => ⟨i + 1, hlt, by show 63 - (i + 1) < 63 - i; omega, rfl, ?_, by rw [wr (by omega) (by omega)]; rfl⟩⟩
    · exact hk_up ⟨i, hlt⟩ (e.symm.trans h)
    · exact hk_st ⟨i, hlt⟩ (e.symm.trans h)
  · have hi : i ≤ 63 := hi
    have : i = 63 := by simp at hge; omega
    subst this
    rfl
def erB (i : Nat) : Bool := decide (0 ≤ IntKind.wrap .i64 (((erW i).size : Int) - 1) ∧ IntKind.wrap .i64 (((erW i).size : Int) - 1) < ((erW i).size : Int)) && (cond ((((erW i).data.toList.getD (IntKind.wrap .i64 (((erW i).size : Int) - 1)).toNat 0).toNat : Int) == 32) (decide ((i + 1 ≤ 7) ∧ (erW i).extract (Int.toNat 0) (IntKind.wrap .i64 (((erW i).size : Int) - 1)).toNat = erW (i + 1))) (decide (erW i = ⟨#[115, 117, 109]⟩)))
theorem er_all : ∀ i : Fin 8, erB i.val = true := by decide +kernel
theorem kEr_v : kEr_t := by
  refine ⟨fun h => absurd h (by decide), fun _ => ⟨fun h => absurd h (by decide), fun _ => ⟨by decide, by decide, by decide +kernel, ⟨0, Nat.zero_le _, by decide +kernel⟩, fun i hi => ?_⟩⟩⟩
  have hi : i ≤ 7 := hi
  have h := er_all ⟨i, by omega⟩
  dsimp only [erB] at h
  rw [Bool.and_eq_true, decide_eq_true_eq] at h
  obtain ⟨⟨h1, h2⟩, h3⟩ := h
  refine ⟨h1, h2, fun hc => ?_, fun hc => ?_⟩
  · rw [hc] at h3
    obtain ⟨q1, q2⟩ := of_decide_eq_true h3
    exact ⟨by decide, h1, by omega, i + 1, q1, by show 7 - (i + 1) < 7 - i; omega, q2⟩
  · rw [hc] at h3
    exact of_decide_eq_true h3
set_option synthInstance.maxSize 100000 in
set_option synthInstance.maxHeartbeats 0 in
theorem kKi_v : kKi_t := by unfold kKi_t; decide +kernel
theorem kX0_v : kX0_t := ⟨fun _ => rfl, fun h => absurd h (by decide)⟩
theorem kX1_v (e a : Int) (h : e ≠ 0) : kX1_t e a := ⟨fun h' => absurd (by simpa using h') h, fun _ => ⟨rfl, rfl⟩⟩
set_option synthInstance.maxSize 100000 in
set_option synthInstance.maxHeartbeats 0 in
theorem kDe_v : kDe_t := by unfold kDe_t; decide +kernel
set_option synthInstance.maxSize 100000 in
set_option synthInstance.maxHeartbeats 0 in
theorem kLe_v : kLe_t := by unfold kLe_t; decide +kernel
set_option synthInstance.maxSize 100000 in
set_option synthInstance.maxHeartbeats 0 in
theorem kCk_v : kCk_t := by unfold kCk_t; decide +kernel
set_option synthInstance.maxSize 100000 in
set_option synthInstance.maxHeartbeats 0 in
theorem kBy_v : kBy_t := by unfold kBy_t; decide +kernel
theorem kMk_v (s t : ByteArray) (h : s.size ≤ 1000000) : kMk_t s t := by
  refine ⟨rfl, rfl, rfl, rfl, fun h => absurd h (by decide), fun _ => ⟨?_, fun h => absurd h (by decide), fun _ => ⟨rfl, rfl⟩⟩⟩
  show 6 + s.size ≤ _
  omega
theorem kIt_sat : Sat Tryz.prog 276 [.v (.int .i64 7)] [] (.v (.string ⟨#[55]⟩)) [] := by
  refine sat_of_calls (fun w => ?_) rfl rfl
  refine (Go.Proofs.Tryz.strconv_Itoa_small 7 (by decide) w).mono ?_
  rintro e w' ⟨rfl, rfl⟩
  refine ⟨?_, Below.refl _ _⟩
  have hd : (Lib.decDigits 7) = [55] := by decide +kernel
  rw [hd]
  rfl
theorem kHi_sound : Sound Tryz.prog 55 sKHi.ctr := sKHi.sound (by kernel_rfl) sKHi_enc fun (n : Int) hc => by
  obtain rfl : n = 1024 := hc _ (.head _)
  exact satG GGb_ok mixed Tryz.func55 kHi_e kHi_v
theorem kKi_sound : Sound Tryz.prog 27 sKKi.ctr := sKKi.sound (by kernel_rfl) sKKi_enc fun (w, z, g, c) hc => by
  obtain rfl : w = 1024 := hc _ (.head _)
  obtain rfl : z = -1 := hc _ (.tail _ (.head _))
  obtain rfl : g = false := hc _ (.tail _ (.tail _ (.head _)))
  obtain rfl : c = false := hc _ (.tail _ (.tail _ (.tail _ (.head _))))
  exact satG GGb_ok mixed Tryz.func27 kKi_e kKi_v
theorem kEr_sound : Sound Tryz.prog 36 sKEr.ctr := sKEr.sound (by kernel_rfl) sKEr_enc fun (e : Int) hc => by
  obtain rfl : e = 13 := hc _ (.head _)
  exact satG GGb_ok mixed Tryz.func36 kEr_e kEr_v
theorem kIt_sound : Sound Tryz.prog 276 sKIt.ctr := sKIt.sound (by kernel_rfl) sKIt_enc fun (n : Int) hc => by
  obtain rfl : n = 7 := hc _ (.head _)
  exact kIt_sat
theorem kX0_sound : Sound Tryz.prog 13 sKX0.ctr := sKX0.sound (by kernel_rfl) sKX0_enc fun _ hc => by
  exact satG GGb_ok mixed Tryz.func13 (kX0_e ) (kX0_v)
theorem kX1_sound : Sound Tryz.prog 13 sKX1.ctr := sKX1.sound (by kernel_rfl) sKX1_enc fun ⟨e, a⟩ hc => by
  have h0 := hc _ (.head _)
  exact satG GGb_ok mixed Tryz.func13 (kX1_e e a) (kX1_v e a h0)
theorem GKa_ok : AllOk Tryz.prog GKa := .cons kHi_sound <| .cons kKi_sound <| .cons kEr_sound <| .cons kIt_sound <| .cons (orC_sound kX0_sound kX1_sound) <| GGb_ok
theorem kDe_sound : Sound Tryz.prog 29 sKDe.ctr := sKDe.sound (by kernel_rfl) sKDe_enc fun (n : Int) hc => by
  obtain rfl : n = 1024 := hc _ (.head _)
  exact satG GKa_ok mixed Tryz.func29 kDe_e kDe_v
theorem kLe_sound : Sound Tryz.prog 274 sKLe.ctr := sKLe.sound (by kernel_rfl) sKLe_enc fun (e, a) hc => by
  obtain rfl : e = 13 := hc _ (.head _)
  obtain rfl : a = 7 := hc _ (.tail _ (.head _))
  exact satG GKa_ok mixed Tryz.func274 kLe_e kLe_v
theorem GKb_ok : AllOk Tryz.prog GKb := .cons kDe_sound <| .cons kLe_sound <| GKa_ok
theorem kCk_sound : Sound Tryz.prog 26 sKCk.ctr := sKCk.sound (by kernel_rfl) sKCk_enc fun (w, z, g, c) hc => by
  obtain rfl : w = 1024 := hc _ (.head _)
  obtain rfl : z = -1 := hc _ (.tail _ (.head _))
  obtain rfl : g = false := hc _ (.tail _ (.tail _ (.head _)))
  obtain rfl : c = false := hc _ (.tail _ (.tail _ (.tail _ (.head _))))
  exact satG GKb_ok mixed Tryz.func26 kCk_e kCk_v
theorem GKc_ok : AllOk Tryz.prog GKc := .cons kCk_sound <| GKb_ok
theorem kBy_sound : Sound Tryz.prog 14 sKBy.ctr := sKBy.sound (by kernel_rfl) sKBy_enc fun (w, z, g, c) hc => by
  obtain rfl : w = 1024 := hc _ (.head _)
  obtain rfl : z = -1 := hc _ (.tail _ (.head _))
  obtain rfl : g = false := hc _ (.tail _ (.tail _ (.head _)))
  obtain rfl : c = false := hc _ (.tail _ (.tail _ (.tail _ (.head _))))
  exact satG GKc_ok mixed Tryz.func14 kBy_e kBy_v
theorem GKd_ok : AllOk Tryz.prog GKd := .cons kBy_sound <| GKc_ok
theorem kMk_sound : Sound Tryz.prog 6 sKMk.ctr := sKMk.sound (by kernel_rfl) sKMk_enc fun (w, z, g, c, s, t) hc => by
  obtain rfl : w = 1024 := hc _ (.head _)
  obtain rfl : z = -1 := hc _ (.tail _ (.head _))
  obtain rfl : g = false := hc _ (.tail _ (.tail _ (.head _)))
  obtain rfl : c = false := hc _ (.tail _ (.tail _ (.tail _ (.head _))))
  exact satG GKd_ok mixed Tryz.func6 (kMk_e s t) (kMk_v s t (hc _ (.tail _ (.tail _ (.tail _ (.tail _ (.head _)))))))
theorem GKe_ok : AllOk Tryz.prog GKe := .cons kMk_sound <| GKd_ok
end Go.Proofs.YtbfdchahapajaaaGreatDoor
namespace Go.Proofs.YtbfdchahapajaaaGreatDoor
open Go Go.RowKit
set_option linter.unusedVariables false
set_option linter.unusedSimpArgs false
set_option maxRecDepth 100000
def sFlt : Spec where
  ι := ByteArray × Int × Int × Int
  dec l H := match l with
    | [.v (.string b), .v (.int .i64 m), .v (.int .i64 e), .v (.int .i64 a)] => some ((b, m, e, a), [])
    | _ => none
  args := fun (b, m, e, a) => [.v (.string b), .v (.int .i64 m), .v (.int .i64 e), .v (.int .i64 a)]
  pre := fun (b, m, e, a) => [⟨b.size ≤ 1000000, inferInstance⟩, ⟨fhI m = false → (hdE b 0).1 = 0 → m < hhS b 0 → (0 : Int) ≤ 0 ∧ (0 : Int) + 4 < b.size, inferInstance⟩, ⟨fhG b 0 m = true → fbK b (hhW b 0) m (hhN b 0) = true ∧ hhM b 0 = false, inferInstance⟩, ⟨frO b 0 m = ByteArray.empty, inferInstance⟩, ⟨frN b 0 m = 0, inferInstance⟩, ⟨frE b 0 m = (e, a), inferInstance⟩]
  out := fun (b, m, e, a) => .leaf (.v (.bool true)) []
theorem sFlt_enc : ∀ l H n i ls, sFlt.dec l H = some (i, ls) → l = renL (rho ls n) (sFlt.args i) ∧ givenHp H ls = renH (rho ls n) (sFlt.hp i) := by
  intro l H n i ls h
  simp only [sFlt] at h
  repeat' split at h
  all_goals first
    | (cases h; done)
    | (cases h; exact ⟨rfl, rfl⟩)
def sTrue : Spec where
  ι := Unit
  dec l H := match l with
    | [] => some ((), [])
    | _ => none
  args := fun _ => []
  out := fun _ => .leaf (.v (.bool true)) []
theorem sTrue_enc : ∀ l H n i ls, sTrue.dec l H = some (i, ls) → l = renL (rho ls n) (sTrue.args i) ∧ givenHp H ls = renH (rho ls n) (sTrue.hp i) := by
  intro l H n i ls h
  simp only [sTrue] at h
  repeat' split at h
  all_goals first
    | (cases h; done)
    | (cases h; exact ⟨rfl, rfl⟩)
def GLa : List (Nat × Ctr) := (10, sFlt.ctr) :: (5, sTrue.ctr) :: GKe
end Go.Proofs.YtbfdchahapajaaaGreatDoor

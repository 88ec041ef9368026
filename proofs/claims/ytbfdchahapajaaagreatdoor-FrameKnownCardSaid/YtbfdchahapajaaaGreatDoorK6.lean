/-
  Texts joined: Kzt, Kw. Conditions: each theorem's own.
-/
import Derived.Test.YtbfdchahapajaaaGreatDoorK5
import Derived.Test.YtbfdchahapajaaaGreatDoorK3
namespace Go.Proofs.YtbfdchahapajaaaGreatDoor
open Go Go.RowKit
set_option linter.unusedVariables false
set_option maxRecDepth 100000
def lFlt_t (b : ByteArray) (m e a : Int) : Prop :=
 ByteArray.size b ≤ (1000000 : Nat) ∧
 (fhI m = false → (hdE b (0 : Int)).fst = (0 : Int) → m < hhS b (0 : Int) → (0 : Int) ≤ (0 : Int) ∧ (0 : Int) + (4 : Int) < (↑(ByteArray.size b) : Int)) ∧
 (fhG b (0 : Int) m = true → fbK b (hhW b (0 : Int)) m (hhN b (0 : Int)) = true ∧ hhM b (0 : Int) = false) ∧
 ((ByteArray.toList (frO b (0 : Int) m) == ByteArray.toList ByteArray.empty) = true →
 ((frN b (0 : Int) m == (0 : Int)) = true → ((frE b (0 : Int) m).fst == e && ((frE b (0 : Int) m).snd == a && true)) = true) ∧ ((frN b (0 : Int) m == (0 : Int)) = false → false = true)) ∧
 ((ByteArray.toList (frO b (0 : Int) m) == ByteArray.toList ByteArray.empty) = false → false = true)
theorem lFlt_e (b : ByteArray) (m e a : Int) : lFlt_t b m e a = vcG Tryz.prog (Gof GKe) (fun _ => none) Tryz.f10 [.v (.string b), .v (.int .i64 m), .v (.int .i64 e), .v (.int .i64 a)] [] (.leaf (.v (.bool true)) ([])) := by kernel_rfl
def lAwk_t  : Prop :=
 ByteArray.size (ByteArray.mk (#[(40 : UInt8), (181 : UInt8), (47 : UInt8), (253 : UInt8), (0 : UInt8), (0 : UInt8), (35 : UInt8), (0 : UInt8), (0 : UInt8), (97 : UInt8)])) ≤ (1000000 : Nat) ∧
 (fhI (9 : Int) = false →
 (hdE (ByteArray.mk (#[(40 : UInt8), (181 : UInt8), (47 : UInt8), (253 : UInt8), (0 : UInt8), (0 : UInt8), (35 : UInt8), (0 : UInt8), (0 : UInt8), (97 : UInt8)])) (0 : Int)).fst = (0 : Int) →
 (9 : Int) < hhS (ByteArray.mk (#[(40 : UInt8), (181 : UInt8), (47 : UInt8), (253 : UInt8), (0 : UInt8), (0 : UInt8), (35 : UInt8), (0 : UInt8), (0 : UInt8), (97 : UInt8)])) (0 : Int) →
 (0 : Int) ≤ (0 : Int) ∧
 (0 : Int) + (4 : Int) <
 (↑(ByteArray.size (ByteArray.mk (#[(40 : UInt8), (181 : UInt8), (47 : UInt8), (253 : UInt8), (0 : UInt8), (0 : UInt8), (35 : UInt8), (0 : UInt8), (0 : UInt8), (97 : UInt8)]))) : Int)) ∧
 (fhG (ByteArray.mk (#[(40 : UInt8), (181 : UInt8), (47 : UInt8), (253 : UInt8), (0 : UInt8), (0 : UInt8), (35 : UInt8), (0 : UInt8), (0 : UInt8), (97 : UInt8)])) (0 : Int) (9 : Int) = true →
 fbK (ByteArray.mk (#[(40 : UInt8), (181 : UInt8), (47 : UInt8), (253 : UInt8), (0 : UInt8), (0 : UInt8), (35 : UInt8), (0 : UInt8), (0 : UInt8), (97 : UInt8)]))
 (hhW (ByteArray.mk (#[(40 : UInt8), (181 : UInt8), (47 : UInt8), (253 : UInt8), (0 : UInt8), (0 : UInt8), (35 : UInt8), (0 : UInt8), (0 : UInt8), (97 : UInt8)])) (0 : Int)) (9 : Int)
 (hhN (ByteArray.mk (#[(40 : UInt8), (181 : UInt8), (47 : UInt8), (253 : UInt8), (0 : UInt8), (0 : UInt8), (35 : UInt8), (0 : UInt8), (0 : UInt8), (97 : UInt8)])) (0 : Int)) =
 true ∧
 hhM (ByteArray.mk (#[(40 : UInt8), (181 : UInt8), (47 : UInt8), (253 : UInt8), (0 : UInt8), (0 : UInt8), (35 : UInt8), (0 : UInt8), (0 : UInt8), (97 : UInt8)])) (0 : Int) = false) ∧
 ((ByteArray.toList
 (frO (ByteArray.mk (#[(40 : UInt8), (181 : UInt8), (47 : UInt8), (253 : UInt8), (0 : UInt8), (0 : UInt8), (35 : UInt8), (0 : UInt8), (0 : UInt8), (97 : UInt8)])) (0 : Int) (9 : Int)) ==
 ByteArray.toList (ByteArray.mk (#[(97 : UInt8), (97 : UInt8), (97 : UInt8), (97 : UInt8)]))) =
 true →
 ((frN (ByteArray.mk (#[(40 : UInt8), (181 : UInt8), (47 : UInt8), (253 : UInt8), (0 : UInt8), (0 : UInt8), (35 : UInt8), (0 : UInt8), (0 : UInt8), (97 : UInt8)])) (0 : Int) (9 : Int) ==
 (10 : Int)) =
 true →
 ((frE (ByteArray.mk (#[(40 : UInt8), (181 : UInt8), (47 : UInt8), (253 : UInt8), (0 : UInt8), (0 : UInt8), (35 : UInt8), (0 : UInt8), (0 : UInt8), (97 : UInt8)])) (0 : Int) (9 : Int)).fst ==
 (0 : Int) &&
 ((frE (ByteArray.mk (#[(40 : UInt8), (181 : UInt8), (47 : UInt8), (253 : UInt8), (0 : UInt8), (0 : UInt8), (35 : UInt8), (0 : UInt8), (0 : UInt8), (97 : UInt8)])) (0 : Int)
 (9 : Int)).snd ==
 (0 : Int) &&
 true)) =
 true) ∧
 ((frN (ByteArray.mk (#[(40 : UInt8), (181 : UInt8), (47 : UInt8), (253 : UInt8), (0 : UInt8), (0 : UInt8), (35 : UInt8), (0 : UInt8), (0 : UInt8), (97 : UInt8)])) (0 : Int) (9 : Int) ==
 (10 : Int)) =
 false →
 false = true)) ∧
 ((ByteArray.toList
 (frO (ByteArray.mk (#[(40 : UInt8), (181 : UInt8), (47 : UInt8), (253 : UInt8), (0 : UInt8), (0 : UInt8), (35 : UInt8), (0 : UInt8), (0 : UInt8), (97 : UInt8)])) (0 : Int) (9 : Int)) ==
 ByteArray.toList (ByteArray.mk (#[(97 : UInt8), (97 : UInt8), (97 : UInt8), (97 : UInt8)]))) =
 false →
 false = true)
theorem lAwk_e  : lAwk_t  = vcG Tryz.prog (Gof GKe) (fun _ => none) Tryz.f5 [] [] (.leaf (.v (.bool true)) ([])) := by kernel_rfl
def lawKn_t  : Prop :=
 ByteArray.size (ByteArray.mk (#[(40 : UInt8), (181 : UInt8), (47 : UInt8), (253 : UInt8), (0 : UInt8), (0 : UInt8), (35 : UInt8), (0 : UInt8), (0 : UInt8), (97 : UInt8), (0 : UInt8)])) ≤ (1000000 : Nat) ∧
 (fhI (4 : Int) = false →
 (hdE (ByteArray.mk (#[(40 : UInt8), (181 : UInt8), (47 : UInt8), (253 : UInt8), (0 : UInt8), (0 : UInt8), (35 : UInt8), (0 : UInt8), (0 : UInt8), (97 : UInt8), (0 : UInt8)])) (0 : Int)).fst =
 (0 : Int) →
 (4 : Int) < hhS (ByteArray.mk (#[(40 : UInt8), (181 : UInt8), (47 : UInt8), (253 : UInt8), (0 : UInt8), (0 : UInt8), (35 : UInt8), (0 : UInt8), (0 : UInt8), (97 : UInt8), (0 : UInt8)])) (0 : Int) →
 (0 : Int) ≤ (0 : Int) ∧
 (0 : Int) + (4 : Int) <
 (↑(ByteArray.size (ByteArray.mk (#[(40 : UInt8), (181 : UInt8), (47 : UInt8), (253 : UInt8), (0 : UInt8), (0 : UInt8), (35 : UInt8), (0 : UInt8), (0 : UInt8), (97 : UInt8), (0 : UInt8)]))) :
 Int)) ∧
 (fhG (ByteArray.mk (#[(40 : UInt8), (181 : UInt8), (47 : UInt8), (253 : UInt8), (0 : UInt8), (0 : UInt8), (35 : UInt8), (0 : UInt8), (0 : UInt8), (97 : UInt8), (0 : UInt8)])) (0 : Int) (4 : Int) =
 true →
 fbK (ByteArray.mk (#[(40 : UInt8), (181 : UInt8), (47 : UInt8), (253 : UInt8), (0 : UInt8), (0 : UInt8), (35 : UInt8), (0 : UInt8), (0 : UInt8), (97 : UInt8), (0 : UInt8)]))
 (hhW (ByteArray.mk (#[(40 : UInt8), (181 : UInt8), (47 : UInt8), (253 : UInt8), (0 : UInt8), (0 : UInt8), (35 : UInt8), (0 : UInt8), (0 : UInt8), (97 : UInt8), (0 : UInt8)])) (0 : Int))
 (4 : Int)
 (hhN (ByteArray.mk (#[(40 : UInt8), (181 : UInt8), (47 : UInt8), (253 : UInt8), (0 : UInt8), (0 : UInt8), (35 : UInt8), (0 : UInt8), (0 : UInt8), (97 : UInt8), (0 : UInt8)])) (0 : Int)) =
 true ∧
 hhM (ByteArray.mk (#[(40 : UInt8), (181 : UInt8), (47 : UInt8), (253 : UInt8), (0 : UInt8), (0 : UInt8), (35 : UInt8), (0 : UInt8), (0 : UInt8), (97 : UInt8), (0 : UInt8)])) (0 : Int) = false) ∧
 ((!ByteArray.toList
 (frO (ByteArray.mk (#[(40 : UInt8), (181 : UInt8), (47 : UInt8), (253 : UInt8), (0 : UInt8), (0 : UInt8), (35 : UInt8), (0 : UInt8), (0 : UInt8), (97 : UInt8), (0 : UInt8)])) (0 : Int)
 (4 : Int)) ==
 ByteArray.toList (ByteArray.mk (#[(97 : UInt8), (97 : UInt8), (97 : UInt8), (97 : UInt8)]))) =
 true →
 false = true) ∧
 ((!ByteArray.toList
 (frO (ByteArray.mk (#[(40 : UInt8), (181 : UInt8), (47 : UInt8), (253 : UInt8), (0 : UInt8), (0 : UInt8), (35 : UInt8), (0 : UInt8), (0 : UInt8), (97 : UInt8), (0 : UInt8)])) (0 : Int)
 (4 : Int)) ==
 ByteArray.toList (ByteArray.mk (#[(97 : UInt8), (97 : UInt8), (97 : UInt8), (97 : UInt8)]))) =
 false →
 ((frN (ByteArray.mk (#[(40 : UInt8), (181 : UInt8), (47 : UInt8), (253 : UInt8), (0 : UInt8), (0 : UInt8), (35 : UInt8), (0 : UInt8), (0 : UInt8), (97 : UInt8), (0 : UInt8)])) (0 : Int)
 (4 : Int) !=
 (10 : Int)) =
 true →
 false = true) ∧
 ((frN (ByteArray.mk (#[(40 : UInt8), (181 : UInt8), (47 : UInt8), (253 : UInt8), (0 : UInt8), (0 : UInt8), (35 : UInt8), (0 : UInt8), (0 : UInt8), (97 : UInt8), (0 : UInt8)])) (0 : Int)
 (4 : Int) !=
 (10 : Int)) =
 false →
 ((!((frE (ByteArray.mk (#[(40 : UInt8), (181 : UInt8), (47 : UInt8), (253 : UInt8), (0 : UInt8), (0 : UInt8), (35 : UInt8), (0 : UInt8), (0 : UInt8), (97 : UInt8), (0 : UInt8)])) (0 : Int)
 (4 : Int)).fst ==
 (0 : Int) &&
 ((frE (ByteArray.mk (#[(40 : UInt8), (181 : UInt8), (47 : UInt8), (253 : UInt8), (0 : UInt8), (0 : UInt8), (35 : UInt8), (0 : UInt8), (0 : UInt8), (97 : UInt8), (0 : UInt8)]))
 (0 : Int) (4 : Int)).snd ==
 (0 : Int) &&
 true))) =
 true →
 false = true) ∧
 ((!((frE (ByteArray.mk (#[(40 : UInt8), (181 : UInt8), (47 : UInt8), (253 : UInt8), (0 : UInt8), (0 : UInt8), (35 : UInt8), (0 : UInt8), (0 : UInt8), (97 : UInt8), (0 : UInt8)])) (0 : Int)
 (4 : Int)).fst ==
 (0 : Int) &&
 ((frE (ByteArray.mk (#[(40 : UInt8), (181 : UInt8), (47 : UInt8), (253 : UInt8), (0 : UInt8), (0 : UInt8), (35 : UInt8), (0 : UInt8), (0 : UInt8), (97 : UInt8), (0 : UInt8)]))
 (0 : Int) (4 : Int)).snd ==
 (0 : Int) &&
 true))) =
 false →
 ByteArray.size (ByteArray.mk (#[(40 : UInt8), (181 : UInt8), (47 : UInt8), (253 : UInt8), (0 : UInt8), (0 : UInt8), (35 : UInt8), (0 : UInt8), (0 : UInt8), (97 : UInt8)])) ≤
 (1000000 : Nat) ∧
 (fhI (3 : Int) = false →
 (hdE (ByteArray.mk (#[(40 : UInt8), (181 : UInt8), (47 : UInt8), (253 : UInt8), (0 : UInt8), (0 : UInt8), (35 : UInt8), (0 : UInt8), (0 : UInt8), (97 : UInt8)])) (0 : Int)).fst =
 (0 : Int) →
 (3 : Int) <
 hhS (ByteArray.mk (#[(40 : UInt8), (181 : UInt8), (47 : UInt8), (253 : UInt8), (0 : UInt8), (0 : UInt8), (35 : UInt8), (0 : UInt8), (0 : UInt8), (97 : UInt8)])) (0 : Int) →
 (0 : Int) ≤ (0 : Int) ∧
 (0 : Int) + (4 : Int) <
 (↑(ByteArray.size
 (ByteArray.mk (#[(40 : UInt8), (181 : UInt8), (47 : UInt8), (253 : UInt8), (0 : UInt8), (0 : UInt8), (35 : UInt8), (0 : UInt8), (0 : UInt8), (97 : UInt8)]))) :
 Int)) ∧
 (fhG (ByteArray.mk (#[(40 : UInt8), (181 : UInt8), (47 : UInt8), (253 : UInt8), (0 : UInt8), (0 : UInt8), (35 : UInt8), (0 : UInt8), (0 : UInt8), (97 : UInt8)])) (0 : Int) (3 : Int) =
 true →
 fbK (ByteArray.mk (#[(40 : UInt8), (181 : UInt8), (47 : UInt8), (253 : UInt8), (0 : UInt8), (0 : UInt8), (35 : UInt8), (0 : UInt8), (0 : UInt8), (97 : UInt8)]))
 (hhW (ByteArray.mk (#[(40 : UInt8), (181 : UInt8), (47 : UInt8), (253 : UInt8), (0 : UInt8), (0 : UInt8), (35 : UInt8), (0 : UInt8), (0 : UInt8), (97 : UInt8)])) (0 : Int))
 (3 : Int)
 (hhN (ByteArray.mk (#[(40 : UInt8), (181 : UInt8), (47 : UInt8), (253 : UInt8), (0 : UInt8), (0 : UInt8), (35 : UInt8), (0 : UInt8), (0 : UInt8), (97 : UInt8)]))
 (0 : Int)) =
 true ∧
 hhM (ByteArray.mk (#[(40 : UInt8), (181 : UInt8), (47 : UInt8), (253 : UInt8), (0 : UInt8), (0 : UInt8), (35 : UInt8), (0 : UInt8), (0 : UInt8), (97 : UInt8)])) (0 : Int) =
 false) ∧
 frO (ByteArray.mk (#[(40 : UInt8), (181 : UInt8), (47 : UInt8), (253 : UInt8), (0 : UInt8), (0 : UInt8), (35 : UInt8), (0 : UInt8), (0 : UInt8), (97 : UInt8)])) (0 : Int)
 (3 : Int) =
 ByteArray.empty ∧
 frN (ByteArray.mk (#[(40 : UInt8), (181 : UInt8), (47 : UInt8), (253 : UInt8), (0 : UInt8), (0 : UInt8), (35 : UInt8), (0 : UInt8), (0 : UInt8), (97 : UInt8)])) (0 : Int)
 (3 : Int) =
 (0 : Int) ∧
 frE (ByteArray.mk (#[(40 : UInt8), (181 : UInt8), (47 : UInt8), (253 : UInt8), (0 : UInt8), (0 : UInt8), (35 : UInt8), (0 : UInt8), (0 : UInt8), (97 : UInt8)])) (0 : Int)
 (3 : Int) =
 ((18 : Int), (6 : Int)) ∧
 ((!true) = true → false = true) ∧
 ((!true) = false →
 ByteArray.size
 (ByteArray.mk (#[(40 : UInt8), (181 : UInt8), (47 : UInt8), (253 : UInt8), (32 : UInt8), (5 : UInt8), (35 : UInt8), (0 : UInt8), (0 : UInt8), (97 : UInt8)])) ≤
 (1000000 : Nat) ∧
 (fhI (9 : Int) = false →
 (hdE (ByteArray.mk (#[(40 : UInt8), (181 : UInt8), (47 : UInt8), (253 : UInt8), (32 : UInt8), (5 : UInt8), (35 : UInt8), (0 : UInt8), (0 : UInt8), (97 : UInt8)]))
 (0 : Int)).fst =
 (0 : Int) →
 (9 : Int) <
 hhS
 (ByteArray.mk (#[(40 : UInt8), (181 : UInt8), (47 : UInt8), (253 : UInt8), (32 : UInt8), (5 : UInt8), (35 : UInt8), (0 : UInt8), (0 : UInt8), (97 : UInt8)]))
 (0 : Int) →
 (0 : Int) ≤ (0 : Int) ∧
 (0 : Int) + (4 : Int) <
 (↑(ByteArray.size
 (ByteArray.mk (#[(40 : UInt8), (181 : UInt8), (47 : UInt8), (253 : UInt8), (32 : UInt8), (5 : UInt8), (35 : UInt8), (0 : UInt8), (0 : UInt8),
 (97 : UInt8)]))) :
 Int)) ∧
 (fhG (ByteArray.mk (#[(40 : UInt8), (181 : UInt8), (47 : UInt8), (253 : UInt8), (32 : UInt8), (5 : UInt8), (35 : UInt8), (0 : UInt8), (0 : UInt8), (97 : UInt8)]))
 (0 : Int) (9 : Int) =
 true →
 fbK (ByteArray.mk (#[(40 : UInt8), (181 : UInt8), (47 : UInt8), (253 : UInt8), (32 : UInt8), (5 : UInt8), (35 : UInt8), (0 : UInt8), (0 : UInt8), (97 : UInt8)]))
 (hhW
 (ByteArray.mk (#[(40 : UInt8), (181 : UInt8), (47 : UInt8), (253 : UInt8), (32 : UInt8), (5 : UInt8), (35 : UInt8), (0 : UInt8), (0 : UInt8), (97 : UInt8)]))
 (0 : Int))
 (9 : Int)
 (hhN
 (ByteArray.mk (#[(40 : UInt8), (181 : UInt8), (47 : UInt8), (253 : UInt8), (32 : UInt8), (5 : UInt8), (35 : UInt8), (0 : UInt8), (0 : UInt8), (97 : UInt8)]))
 (0 : Int)) =
 true ∧
 hhM (ByteArray.mk (#[(40 : UInt8), (181 : UInt8), (47 : UInt8), (253 : UInt8), (32 : UInt8), (5 : UInt8), (35 : UInt8), (0 : UInt8), (0 : UInt8), (97 : UInt8)]))
 (0 : Int) =
 false) ∧
 frO (ByteArray.mk (#[(40 : UInt8), (181 : UInt8), (47 : UInt8), (253 : UInt8), (32 : UInt8), (5 : UInt8), (35 : UInt8), (0 : UInt8), (0 : UInt8), (97 : UInt8)]))
 (0 : Int) (9 : Int) =
 ByteArray.empty ∧
 frN (ByteArray.mk (#[(40 : UInt8), (181 : UInt8), (47 : UInt8), (253 : UInt8), (32 : UInt8), (5 : UInt8), (35 : UInt8), (0 : UInt8), (0 : UInt8), (97 : UInt8)]))
 (0 : Int) (9 : Int) =
 (0 : Int) ∧
 frE (ByteArray.mk (#[(40 : UInt8), (181 : UInt8), (47 : UInt8), (253 : UInt8), (32 : UInt8), (5 : UInt8), (35 : UInt8), (0 : UInt8), (0 : UInt8), (97 : UInt8)]))
 (0 : Int) (9 : Int) =
 ((27 : Int), (10 : Int)) ∧
 ((!true) = true → false = true) ∧
 ((!true) = false →
 ByteArray.size
 (ByteArray.mk (#[(40 : UInt8), (181 : UInt8), (47 : UInt8), (253 : UInt8), (32 : UInt8), (5 : UInt8), (35 : UInt8), (0 : UInt8), (0 : UInt8),
 (97 : UInt8)])) ≤
 (1000000 : Nat) ∧
 (fhI (4 : Int) = false →
 (hdE
 (ByteArray.mk (#[(40 : UInt8), (181 : UInt8), (47 : UInt8), (253 : UInt8), (32 : UInt8), (5 : UInt8), (35 : UInt8), (0 : UInt8), (0 : UInt8),
 (97 : UInt8)]))
 (0 : Int)).fst =
 (0 : Int) →
 (4 : Int) <
 hhS
 (ByteArray.mk (#[(40 : UInt8), (181 : UInt8), (47 : UInt8), (253 : UInt8), (32 : UInt8), (5 : UInt8), (35 : UInt8), (0 : UInt8), (0 : UInt8),
 (97 : UInt8)]))
 (0 : Int) →
 (0 : Int) ≤ (0 : Int) ∧
 (0 : Int) + (4 : Int) <
 (↑(ByteArray.size
 (ByteArray.mk (#[(40 : UInt8), (181 : UInt8), (47 : UInt8), (253 : UInt8), (32 : UInt8), (5 : UInt8), (35 : UInt8), (0 : UInt8), (0 : UInt8),
 (97 : UInt8)]))) :
 Int)) ∧
 (fhG
 (ByteArray.mk (#[(40 : UInt8), (181 : UInt8), (47 : UInt8), (253 : UInt8), (32 : UInt8), (5 : UInt8), (35 : UInt8), (0 : UInt8), (0 : UInt8),
 (97 : UInt8)]))
 (0 : Int) (4 : Int) =
 true →
 fbK
 (ByteArray.mk (#[(40 : UInt8), (181 : UInt8), (47 : UInt8), (253 : UInt8), (32 : UInt8), (5 : UInt8), (35 : UInt8), (0 : UInt8), (0 : UInt8),
 (97 : UInt8)]))
 (hhW
 (ByteArray.mk (#[(40 : UInt8), (181 : UInt8), (47 : UInt8), (253 : UInt8), (32 : UInt8), (5 : UInt8), (35 : UInt8), (0 : UInt8), (0 : UInt8),
 (97 : UInt8)]))
 (0 : Int))
 (4 : Int)
 (hhN
 (ByteArray.mk (#[(40 : UInt8), (181 : UInt8), (47 : UInt8), (253 : UInt8), (32 : UInt8), (5 : UInt8), (35 : UInt8), (0 : UInt8), (0 : UInt8),
 (97 : UInt8)]))
 (0 : Int)) =
 true ∧
 hhM
 (ByteArray.mk (#[(40 : UInt8), (181 : UInt8), (47 : UInt8), (253 : UInt8), (32 : UInt8), (5 : UInt8), (35 : UInt8), (0 : UInt8), (0 : UInt8),
 (97 : UInt8)]))
 (0 : Int) =
 false) ∧
 frO
 (ByteArray.mk (#[(40 : UInt8), (181 : UInt8), (47 : UInt8), (253 : UInt8), (32 : UInt8), (5 : UInt8), (35 : UInt8), (0 : UInt8), (0 : UInt8),
 (97 : UInt8)]))
 (0 : Int) (4 : Int) =
 ByteArray.empty ∧
 frN
 (ByteArray.mk (#[(40 : UInt8), (181 : UInt8), (47 : UInt8), (253 : UInt8), (32 : UInt8), (5 : UInt8), (35 : UInt8), (0 : UInt8), (0 : UInt8),
 (97 : UInt8)]))
 (0 : Int) (4 : Int) =
 (0 : Int) ∧
 frE
 (ByteArray.mk (#[(40 : UInt8), (181 : UInt8), (47 : UInt8), (253 : UInt8), (32 : UInt8), (5 : UInt8), (35 : UInt8), (0 : UInt8), (0 : UInt8),
 (97 : UInt8)]))
 (0 : Int) (4 : Int) =
 ((18 : Int), (5 : Int)) ∧
 ((!true) = true → false = true) ∧
 ((!true) = false →
 ByteArray.size ByteArray.empty ≤ (1000000 : Nat) ∧
 (fhI (9 : Int) = false →
 (hdE ByteArray.empty (0 : Int)).fst = (0 : Int) →
 (9 : Int) < hhS ByteArray.empty (0 : Int) →
 (0 : Int) ≤ (0 : Int) ∧ (0 : Int) + (4 : Int) < (↑(ByteArray.size ByteArray.empty) : Int)) ∧
 (fhG ByteArray.empty (0 : Int) (9 : Int) = true →
 fbK ByteArray.empty (hhW ByteArray.empty (0 : Int)) (9 : Int) (hhN ByteArray.empty (0 : Int)) = true ∧
 hhM ByteArray.empty (0 : Int) = false) ∧
 frO ByteArray.empty (0 : Int) (9 : Int) = ByteArray.empty ∧
 frN ByteArray.empty (0 : Int) (9 : Int) = (0 : Int) ∧
 frE ByteArray.empty (0 : Int) (9 : Int) = ((5 : Int), (0 : Int)) ∧
 ((!true) = true → false = true) ∧
 ((!true) = false →
 ByteArray.size
 (ByteArray.mk (#[(40 : UInt8), (181 : UInt8), (47 : UInt8), (253 : UInt8), (0 : UInt8), (0 : UInt8), (35 : UInt8),
 (0 : UInt8), (0 : UInt8), (97 : UInt8)])) ≤
 (1000000 : Nat) ∧
 (fhI (-1 : Int) = false →
 (hdE
 (ByteArray.mk (#[(40 : UInt8), (181 : UInt8), (47 : UInt8), (253 : UInt8), (0 : UInt8), (0 : UInt8), (35 : UInt8),
 (0 : UInt8), (0 : UInt8), (97 : UInt8)]))
 (0 : Int)).fst =
 (0 : Int) →
 (-1 : Int) <
 hhS
 (ByteArray.mk (#[(40 : UInt8), (181 : UInt8), (47 : UInt8), (253 : UInt8), (0 : UInt8), (0 : UInt8), (35 : UInt8),
 (0 : UInt8), (0 : UInt8), (97 : UInt8)]))
 (0 : Int) →
 (0 : Int) ≤ (0 : Int) ∧
 (0 : Int) + (4 : Int) <
 (↑(ByteArray.size
 (ByteArray.mk (#[(40 : UInt8), (181 : UInt8), (47 : UInt8), (253 : UInt8), (0 : UInt8), (0 : UInt8),
 (35 : UInt8), (0 : UInt8), (0 : UInt8), (97 : UInt8)]))) :
 Int)) ∧
 (fhG
 (ByteArray.mk (#[(40 : UInt8), (181 : UInt8), (47 : UInt8), (253 : UInt8), (0 : UInt8), (0 : UInt8), (35 : UInt8),
 (0 : UInt8), (0 : UInt8), (97 : UInt8)]))
 (0 : Int) (-1 : Int) =
 true →
 fbK
 (ByteArray.mk (#[(40 : UInt8), (181 : UInt8), (47 : UInt8), (253 : UInt8), (0 : UInt8), (0 : UInt8), (35 : UInt8),
 (0 : UInt8), (0 : UInt8), (97 : UInt8)]))
 (hhW
 (ByteArray.mk (#[(40 : UInt8), (181 : UInt8), (47 : UInt8), (253 : UInt8), (0 : UInt8), (0 : UInt8),
 (35 : UInt8), (0 : UInt8), (0 : UInt8), (97 : UInt8)]))
 (0 : Int))
 (-1 : Int)
 (hhN
 (ByteArray.mk (#[(40 : UInt8), (181 : UInt8), (47 : UInt8), (253 : UInt8), (0 : UInt8), (0 : UInt8),
 (35 : UInt8), (0 : UInt8), (0 : UInt8), (97 : UInt8)]))
 (0 : Int)) =
 true ∧
 hhM
 (ByteArray.mk (#[(40 : UInt8), (181 : UInt8), (47 : UInt8), (253 : UInt8), (0 : UInt8), (0 : UInt8), (35 : UInt8),
 (0 : UInt8), (0 : UInt8), (97 : UInt8)]))
 (0 : Int) =
 false) ∧
 frO
 (ByteArray.mk (#[(40 : UInt8), (181 : UInt8), (47 : UInt8), (253 : UInt8), (0 : UInt8), (0 : UInt8), (35 : UInt8),
 (0 : UInt8), (0 : UInt8), (97 : UInt8)]))
 (0 : Int) (-1 : Int) =
 ByteArray.empty ∧
 frN
 (ByteArray.mk (#[(40 : UInt8), (181 : UInt8), (47 : UInt8), (253 : UInt8), (0 : UInt8), (0 : UInt8), (35 : UInt8),
 (0 : UInt8), (0 : UInt8), (97 : UInt8)]))
 (0 : Int) (-1 : Int) =
 (0 : Int) ∧
 frE
 (ByteArray.mk (#[(40 : UInt8), (181 : UInt8), (47 : UInt8), (253 : UInt8), (0 : UInt8), (0 : UInt8),
 (35 : UInt8), (0 : UInt8), (0 : UInt8), (97 : UInt8)]))
 (0 : Int) (-1 : Int) =
 ((2 : Int), (0 : Int)) ∧
 ((!true) = true → false = true) ∧
 ((!true) = false →
 ByteArray.size
 (ByteArray.mk (#[(40 : UInt8), (181 : UInt8), (47 : UInt8), (253 : UInt8), (0 : UInt8), (0 : UInt8),
 (35 : UInt8), (0 : UInt8), (0 : UInt8), (97 : UInt8)])) ≤
 (1000000 : Nat) ∧
 (0 : Int) ≤ (0 : Int) ∧
 (0 : Int) ≤ (9 : Int) ∧
 (9 : Int) ≤
 (↑(ByteArray.size
 (ByteArray.mk (#[(40 : UInt8), (181 : UInt8), (47 : UInt8), (253 : UInt8), (0 : UInt8),
 (0 : UInt8), (35 : UInt8), (0 : UInt8), (0 : UInt8), (97 : UInt8)]))) :
 Int) ∧
 ByteArray.size
 (ByteArray.extract
 (ByteArray.mk (#[(40 : UInt8), (181 : UInt8), (47 : UInt8), (253 : UInt8), (0 : UInt8),
 (0 : UInt8), (35 : UInt8), (0 : UInt8), (0 : UInt8), (97 : UInt8)]))
 (Int.toNat (0 : Int)) (Int.toNat (9 : Int))) ≤
 (1000000 : Nat) ∧
 (fhG
 (ByteArray.mk (#[(40 : UInt8), (181 : UInt8), (47 : UInt8), (253 : UInt8), (0 : UInt8),
 (0 : UInt8), (35 : UInt8), (0 : UInt8), (0 : UInt8), (97 : UInt8)]))
 (0 : Int) (9 : Int) =
 true →
 ByteArray.size
 (ByteArray.mk (#[(40 : UInt8), (181 : UInt8), (47 : UInt8), (253 : UInt8), (0 : UInt8),
 (0 : UInt8), (35 : UInt8), (0 : UInt8), (0 : UInt8), (97 : UInt8)])) ≤
 (1000000 : Nat) ∧
 (fhI (9 : Int) = false →
 (hdE
 (ByteArray.mk (#[(40 : UInt8), (181 : UInt8), (47 : UInt8), (253 : UInt8),
 (0 : UInt8), (0 : UInt8), (35 : UInt8), (0 : UInt8), (0 : UInt8),
 (97 : UInt8)]))
 (0 : Int)).fst =
 (0 : Int) →
 (9 : Int) <
 hhS
 (ByteArray.mk (#[(40 : UInt8), (181 : UInt8), (47 : UInt8), (253 : UInt8),
 (0 : UInt8), (0 : UInt8), (35 : UInt8), (0 : UInt8), (0 : UInt8),
 (97 : UInt8)]))
 (0 : Int) →
 (0 : Int) ≤ (0 : Int) ∧
 (0 : Int) + (4 : Int) <
 (↑(ByteArray.size
 (ByteArray.mk (#[(40 : UInt8), (181 : UInt8), (47 : UInt8), (253 : UInt8),
 (0 : UInt8), (0 : UInt8), (35 : UInt8), (0 : UInt8),
 (0 : UInt8), (97 : UInt8)]))) :
 Int)) ∧
 (0 : Int) ≤ (6 : Int) ∧
 (6 : Int) ≤
 (↑(ByteArray.size
 (ByteArray.mk (#[(40 : UInt8), (181 : UInt8), (47 : UInt8), (253 : UInt8),
 (0 : UInt8), (0 : UInt8), (35 : UInt8), (0 : UInt8), (0 : UInt8),
 (97 : UInt8)]))) :
 Int) ∧
 (↑(ByteArray.size
 (ByteArray.mk (#[(40 : UInt8), (181 : UInt8), (47 : UInt8), (253 : UInt8),
 (0 : UInt8), (0 : UInt8), (35 : UInt8), (0 : UInt8),
 (0 : UInt8), (97 : UInt8)]))) :
 Int) ≤
 (↑(ByteArray.size
 (ByteArray.mk (#[(40 : UInt8), (181 : UInt8), (47 : UInt8), (253 : UInt8),
 (0 : UInt8), (0 : UInt8), (35 : UInt8), (0 : UInt8),
 (0 : UInt8), (97 : UInt8)]))) :
 Int) ∧
 hhW
 (ByteArray.mk (#[(40 : UInt8), (181 : UInt8), (47 : UInt8), (253 : UInt8),
 (0 : UInt8), (0 : UInt8), (35 : UInt8), (0 : UInt8), (0 : UInt8),
 (97 : UInt8)]))
 (0 : Int) =
 (1024 : Int) ∧
 hhS
 (ByteArray.mk (#[(40 : UInt8), (181 : UInt8), (47 : UInt8), (253 : UInt8),
 (0 : UInt8), (0 : UInt8), (35 : UInt8), (0 : UInt8),
 (0 : UInt8), (97 : UInt8)]))
 (0 : Int) =
 (-1 : Int) ∧
 hhG
 (ByteArray.mk (#[(40 : UInt8), (181 : UInt8), (47 : UInt8), (253 : UInt8),
 (0 : UInt8), (0 : UInt8), (35 : UInt8), (0 : UInt8),
 (0 : UInt8), (97 : UInt8)]))
 (0 : Int) =
 false ∧
 hhM
 (ByteArray.mk (#[(40 : UInt8), (181 : UInt8), (47 : UInt8), (253 : UInt8),
 (0 : UInt8), (0 : UInt8), (35 : UInt8), (0 : UInt8),
 (0 : UInt8), (97 : UInt8)]))
 (0 : Int) =
 false ∧
 ByteArray.size
 (ByteArray.extract
 (ByteArray.mk (#[(40 : UInt8), (181 : UInt8), (47 : UInt8),
 (253 : UInt8), (0 : UInt8), (0 : UInt8), (35 : UInt8),
 (0 : UInt8), (0 : UInt8), (97 : UInt8)]))
 (Int.toNat (6 : Int))
 (Int.toNat
 (↑(ByteArray.size
 (ByteArray.mk (#[(40 : UInt8), (181 : UInt8), (47 : UInt8),
 (253 : UInt8), (0 : UInt8), (0 : UInt8),
 (35 : UInt8), (0 : UInt8), (0 : UInt8),
 (97 : UInt8)]))) :
 Int))) ≤
 (1000000 : Nat) ∧
 (13 : Int) ≠ (0 : Int) ∧
 ((blN
 (ByteArray.mk (#[(40 : UInt8), (181 : UInt8), (47 : UInt8),
 (253 : UInt8), (0 : UInt8), (0 : UInt8),
 (35 : UInt8), (0 : UInt8), (0 : UInt8),
 (97 : UInt8)]))
 (0 : Int) ==
 (1 : Int)) =
 true →
 ((blX
 (ByteArray.mk (#[(40 : UInt8), (181 : UInt8), (47 : UInt8),
 (253 : UInt8), (0 : UInt8), (0 : UInt8),
 (35 : UInt8), (0 : UInt8), (0 : UInt8),
 (97 : UInt8)]))
 (0 : Int) ==
 (10 : Int)) =
 true →
 (((blE
 (ByteArray.mk (#[(40 : UInt8), (181 : UInt8),
 (47 : UInt8), (253 : UInt8),
 (0 : UInt8), (0 : UInt8),
 (35 : UInt8), (0 : UInt8),
 (0 : UInt8), (97 : UInt8)]))
 (0 : Int)).fst ==
 (0 : Int) &&
 ((blE
 (ByteArray.mk (#[(40 : UInt8), (181 : UInt8),
 (47 : UInt8), (253 : UInt8),
 (0 : UInt8), (0 : UInt8),
 (35 : UInt8), (0 : UInt8),
 (0 : UInt8), (97 : UInt8)]))
 (0 : Int)).snd ==
 (0 : Int) &&
 true)) =
 true →
 (((blE
 (ByteArray.extract
 (ByteArray.mk (#[(40 : UInt8), (181 : UInt8),
 (47 : UInt8), (253 : UInt8),
 (0 : UInt8), (0 : UInt8),
 (35 : UInt8), (0 : UInt8),
 (0 : UInt8), (97 : UInt8)]))
 (Int.toNat (0 : Int))
 (Int.toNat (9 : Int)))
 (0 : Int)).fst ==
 (5 : Int) &&
 ((blE
 (ByteArray.extract
 (ByteArray.mk (#[(40 : UInt8), (181 : UInt8),
 (47 : UInt8), (253 : UInt8),
 (0 : UInt8), (0 : UInt8),
 (35 : UInt8), (0 : UInt8),
 (0 : UInt8), (97 : UInt8)]))
 (Int.toNat (0 : Int))
 (Int.toNat (9 : Int)))
 (0 : Int)).snd ==
 (9 : Int) &&
 true)) =
 true →
 (((0 : Int) == (0 : Int) &&
 ((0 : Int) == (0 : Int) && true)) =
 true →
 ((ByteArray.toList
 (mg6 ++
 ByteArray.extract
 (ByteArray.mk (#[(40 : UInt8),
 (181 : UInt8),
 (47 : UInt8),
 (253 : UInt8),
 (0 : UInt8), (0 : UInt8),
 (35 : UInt8), (0 : UInt8),
 (0 : UInt8),
 (97 : UInt8)]))
 (Int.toNat (6 : Int))
 (Int.toNat
 (↑(ByteArray.size
 (ByteArray.mk (#[(40 : UInt8),
 (181 : UInt8),
 (47 : UInt8),
 (253 : UInt8),
 (0 : UInt8),
 (0 : UInt8),
 (35 : UInt8),
 (0 : UInt8),
 (0 : UInt8),
 (97 : UInt8)]))) :
 Int))) ==
 ByteArray.toList
 (ByteArray.mk (#[(40 : UInt8), (181 : UInt8),
 (47 : UInt8), (253 : UInt8),
 (0 : UInt8), (0 : UInt8),
 (35 : UInt8), (0 : UInt8),
 (0 : UInt8),
 (97 : UInt8)]))) =
 true →
 (((0 : Int) == (0 : Int)) = true →
 (13 : Int) = (13 : Int) ∧
 (7 : Int) = (7 : Int) ∧
 ((ByteArray.toList
 (ByteArray.mk (#[(115 : UInt8),
 (117 : UInt8),
 (109 : UInt8),
 (32 : UInt8),
 (97 : UInt8),
 (116 : UInt8),
 (32 : UInt8),
 (55 : UInt8)])) ==
 ByteArray.toList
 (ByteArray.mk (#[(115 : UInt8),
 (117 : UInt8),
 (109 : UInt8),
 (32 : UInt8),
 (97 : UInt8),
 (116 : UInt8),
 (32 : UInt8),
 (55 : UInt8)]))) =
 true →
 true = true) ∧
 ((ByteArray.toList
 (ByteArray.mk (#[(115 : UInt8),
 (117 : UInt8),
 (109 : UInt8),
 (32 : UInt8),
 (97 : UInt8),
 (116 : UInt8),
 (32 : UInt8),
 (55 : UInt8)])) ==
 ByteArray.toList
 (ByteArray.mk (#[(115 : UInt8),
 (117 : UInt8),
 (109 : UInt8),
 (32 : UInt8),
 (97 : UInt8),
 (116 : UInt8),
 (32 : UInt8),
 (55 : UInt8)]))) =
 false →
 false = true)) ∧
 (((0 : Int) == (0 : Int)) = false →
 false = true)) ∧
 ((ByteArray.toList
 (mg6 ++
 ByteArray.extract
 (ByteArray.mk (#[(40 : UInt8),
 (181 : UInt8),
 (47 : UInt8),
 (253 : UInt8),
 (0 : UInt8), (0 : UInt8),
 (35 : UInt8), (0 : UInt8),
 (0 : UInt8),
 (97 : UInt8)]))
 (Int.toNat (6 : Int))
 (Int.toNat
 (↑(ByteArray.size
 (ByteArray.mk (#[(40 : UInt8),
 (181 : UInt8),
 (47 : UInt8),
 (253 : UInt8),
 (0 : UInt8),
 (0 : UInt8),
 (35 : UInt8),
 (0 : UInt8),
 (0 : UInt8),
 (97 : UInt8)]))) :
 Int))) ==
 ByteArray.toList
 (ByteArray.mk (#[(40 : UInt8), (181 : UInt8),
 (47 : UInt8), (253 : UInt8),
 (0 : UInt8), (0 : UInt8),
 (35 : UInt8), (0 : UInt8),
 (0 : UInt8),
 (97 : UInt8)]))) =
 false →
 false = true)) ∧
 (((0 : Int) == (0 : Int) &&
 ((0 : Int) == (0 : Int) && true)) =
 false →
 false = true)) ∧
 (((blE
 (ByteArray.extract
 (ByteArray.mk (#[(40 : UInt8), (181 : UInt8),
 (47 : UInt8), (253 : UInt8),
 (0 : UInt8), (0 : UInt8),
 (35 : UInt8), (0 : UInt8),
 (0 : UInt8), (97 : UInt8)]))
 (Int.toNat (0 : Int))
 (Int.toNat (9 : Int)))
 (0 : Int)).fst ==
 (5 : Int) &&
 ((blE
 (ByteArray.extract
 (ByteArray.mk (#[(40 : UInt8), (181 : UInt8),
 (47 : UInt8), (253 : UInt8),
 (0 : UInt8), (0 : UInt8),
 (35 : UInt8), (0 : UInt8),
 (0 : UInt8), (97 : UInt8)]))
 (Int.toNat (0 : Int))
 (Int.toNat (9 : Int)))
 (0 : Int)).snd ==
 (9 : Int) &&
 true)) =
 false →
 false = true)) ∧
 (((blE
 (ByteArray.mk (#[(40 : UInt8), (181 : UInt8),
 (47 : UInt8), (253 : UInt8),
 (0 : UInt8), (0 : UInt8),
 (35 : UInt8), (0 : UInt8),
 (0 : UInt8), (97 : UInt8)]))
 (0 : Int)).fst ==
 (0 : Int) &&
 ((blE
 (ByteArray.mk (#[(40 : UInt8), (181 : UInt8),
 (47 : UInt8), (253 : UInt8),
 (0 : UInt8), (0 : UInt8),
 (35 : UInt8), (0 : UInt8),
 (0 : UInt8), (97 : UInt8)]))
 (0 : Int)).snd ==
 (0 : Int) &&
 true)) =
 false →
 false = true)) ∧
 ((blX
 (ByteArray.mk (#[(40 : UInt8), (181 : UInt8), (47 : UInt8),
 (253 : UInt8), (0 : UInt8), (0 : UInt8),
 (35 : UInt8), (0 : UInt8), (0 : UInt8),
 (97 : UInt8)]))
 (0 : Int) ==
 (10 : Int)) =
 false →
 false = true)) ∧
 ((blN
 (ByteArray.mk (#[(40 : UInt8), (181 : UInt8), (47 : UInt8),
 (253 : UInt8), (0 : UInt8), (0 : UInt8),
 (35 : UInt8), (0 : UInt8), (0 : UInt8),
 (97 : UInt8)]))
 (0 : Int) ==
 (1 : Int)) =
 false →
 false = true)) ∧
 (¬fhG
 (ByteArray.mk (#[(40 : UInt8), (181 : UInt8), (47 : UInt8), (253 : UInt8), (0 : UInt8),
 (0 : UInt8), (35 : UInt8), (0 : UInt8), (0 : UInt8), (97 : UInt8)]))
 (0 : Int) (9 : Int) =
 true →
 ByteArray.size
 (ByteArray.mk (#[(40 : UInt8), (181 : UInt8), (47 : UInt8), (253 : UInt8), (0 : UInt8),
 (0 : UInt8), (35 : UInt8), (0 : UInt8), (0 : UInt8), (97 : UInt8)])) ≤
 (1000000 : Nat) ∧
 (fhI (9 : Int) = false →
 (hdE
 (ByteArray.mk (#[(40 : UInt8), (181 : UInt8), (47 : UInt8), (253 : UInt8),
 (0 : UInt8), (0 : UInt8), (35 : UInt8), (0 : UInt8), (0 : UInt8),
 (97 : UInt8)]))
 (0 : Int)).fst =
 (0 : Int) →
 (9 : Int) <
 hhS
 (ByteArray.mk (#[(40 : UInt8), (181 : UInt8), (47 : UInt8), (253 : UInt8),
 (0 : UInt8), (0 : UInt8), (35 : UInt8), (0 : UInt8), (0 : UInt8),
 (97 : UInt8)]))
 (0 : Int) →
 (0 : Int) ≤ (0 : Int) ∧
 (0 : Int) + (4 : Int) <
 (↑(ByteArray.size
 (ByteArray.mk (#[(40 : UInt8), (181 : UInt8), (47 : UInt8), (253 : UInt8),
 (0 : UInt8), (0 : UInt8), (35 : UInt8), (0 : UInt8),
 (0 : UInt8), (97 : UInt8)]))) :
 Int)) ∧
 (0 : Int) ≤ (6 : Int) ∧
 (6 : Int) ≤
 (↑(ByteArray.size
 (ByteArray.mk (#[(40 : UInt8), (181 : UInt8), (47 : UInt8), (253 : UInt8),
 (0 : UInt8), (0 : UInt8), (35 : UInt8), (0 : UInt8), (0 : UInt8),
 (97 : UInt8)]))) :
 Int) ∧
 (↑(ByteArray.size
 (ByteArray.mk (#[(40 : UInt8), (181 : UInt8), (47 : UInt8), (253 : UInt8),
 (0 : UInt8), (0 : UInt8), (35 : UInt8), (0 : UInt8),
 (0 : UInt8), (97 : UInt8)]))) :
 Int) ≤
 (↑(ByteArray.size
 (ByteArray.mk (#[(40 : UInt8), (181 : UInt8), (47 : UInt8), (253 : UInt8),
 (0 : UInt8), (0 : UInt8), (35 : UInt8), (0 : UInt8),
 (0 : UInt8), (97 : UInt8)]))) :
 Int) ∧
 (0 : Int) = (1024 : Int) ∧
 (0 : Int) = (-1 : Int) ∧
 false = false ∧
 false = false ∧
 ByteArray.size
 (ByteArray.extract
 (ByteArray.mk (#[(40 : UInt8), (181 : UInt8), (47 : UInt8),
 (253 : UInt8), (0 : UInt8), (0 : UInt8), (35 : UInt8),
 (0 : UInt8), (0 : UInt8), (97 : UInt8)]))
 (Int.toNat (6 : Int))
 (Int.toNat
 (↑(ByteArray.size
 (ByteArray.mk (#[(40 : UInt8), (181 : UInt8), (47 : UInt8),
 (253 : UInt8), (0 : UInt8), (0 : UInt8),
 (35 : UInt8), (0 : UInt8), (0 : UInt8),
 (97 : UInt8)]))) :
 Int))) ≤
 (1000000 : Nat) ∧
 (13 : Int) ≠ (0 : Int) ∧
 ((blN
 (ByteArray.mk (#[(40 : UInt8), (181 : UInt8), (47 : UInt8),
 (253 : UInt8), (0 : UInt8), (0 : UInt8),
 (35 : UInt8), (0 : UInt8), (0 : UInt8),
 (97 : UInt8)]))
 (0 : Int) ==
 (1 : Int)) =
 true →
 ((blX
 (ByteArray.mk (#[(40 : UInt8), (181 : UInt8), (47 : UInt8),
 (253 : UInt8), (0 : UInt8), (0 : UInt8),
 (35 : UInt8), (0 : UInt8), (0 : UInt8),
 (97 : UInt8)]))
 (0 : Int) ==
 (10 : Int)) =
 true →
 (((blE
 (ByteArray.mk (#[(40 : UInt8), (181 : UInt8),
 (47 : UInt8), (253 : UInt8),
 (0 : UInt8), (0 : UInt8),
 (35 : UInt8), (0 : UInt8),
 (0 : UInt8), (97 : UInt8)]))
 (0 : Int)).fst ==
 (0 : Int) &&
 ((blE
 (ByteArray.mk (#[(40 : UInt8), (181 : UInt8),
 (47 : UInt8), (253 : UInt8),
 (0 : UInt8), (0 : UInt8),
 (35 : UInt8), (0 : UInt8),
 (0 : UInt8), (97 : UInt8)]))
 (0 : Int)).snd ==
 (0 : Int) &&
 true)) =
 true →
 (((blE
 (ByteArray.extract
 (ByteArray.mk (#[(40 : UInt8), (181 : UInt8),
 (47 : UInt8), (253 : UInt8),
 (0 : UInt8), (0 : UInt8),
 (35 : UInt8), (0 : UInt8),
 (0 : UInt8), (97 : UInt8)]))
 (Int.toNat (0 : Int))
 (Int.toNat (9 : Int)))
 (0 : Int)).fst ==
 (5 : Int) &&
 ((blE
 (ByteArray.extract
 (ByteArray.mk (#[(40 : UInt8), (181 : UInt8),
 (47 : UInt8), (253 : UInt8),
 (0 : UInt8), (0 : UInt8),
 (35 : UInt8), (0 : UInt8),
 (0 : UInt8), (97 : UInt8)]))
 (Int.toNat (0 : Int))
 (Int.toNat (9 : Int)))
 (0 : Int)).snd ==
 (9 : Int) &&
 true)) =
 true →
 (((fhE
 (ByteArray.mk (#[(40 : UInt8), (181 : UInt8),
 (47 : UInt8), (253 : UInt8),
 (0 : UInt8), (0 : UInt8),
 (35 : UInt8), (0 : UInt8),
 (0 : UInt8), (97 : UInt8)]))
 (0 : Int) (9 : Int)).fst ==
 (0 : Int) &&
 ((fhE
 (ByteArray.mk (#[(40 : UInt8), (181 : UInt8),
 (47 : UInt8), (253 : UInt8),
 (0 : UInt8), (0 : UInt8),
 (35 : UInt8), (0 : UInt8),
 (0 : UInt8), (97 : UInt8)]))
 (0 : Int) (9 : Int)).snd ==
 (0 : Int) &&
 true)) =
 true →
 ((ByteArray.toList
 (mg6 ++
 ByteArray.extract
 (ByteArray.mk (#[(40 : UInt8),
 (181 : UInt8),
 (47 : UInt8),
 (253 : UInt8),
 (0 : UInt8), (0 : UInt8),
 (35 : UInt8), (0 : UInt8),
 (0 : UInt8),
 (97 : UInt8)]))
 (Int.toNat (6 : Int))
 (Int.toNat
 (↑(ByteArray.size
 (ByteArray.mk (#[(40 : UInt8),
 (181 : UInt8),
 (47 : UInt8),
 (253 : UInt8),
 (0 : UInt8),
 (0 : UInt8),
 (35 : UInt8),
 (0 : UInt8),
 (0 : UInt8),
 (97 : UInt8)]))) :
 Int))) ==
 ByteArray.toList
 (ByteArray.mk (#[(40 : UInt8), (181 : UInt8),
 (47 : UInt8), (253 : UInt8),
 (0 : UInt8), (0 : UInt8),
 (35 : UInt8), (0 : UInt8),
 (0 : UInt8),
 (97 : UInt8)]))) =
 true →
 (((0 : Int) == (0 : Int)) = true →
 (13 : Int) = (13 : Int) ∧
 (7 : Int) = (7 : Int) ∧
 ((ByteArray.toList
 (ByteArray.mk (#[(115 : UInt8),
 (117 : UInt8),
 (109 : UInt8),
 (32 : UInt8),
 (97 : UInt8),
 (116 : UInt8),
 (32 : UInt8),
 (55 : UInt8)])) ==
 ByteArray.toList
 (ByteArray.mk (#[(115 : UInt8),
 (117 : UInt8),
 (109 : UInt8),
 (32 : UInt8),
 (97 : UInt8),
 (116 : UInt8),
 (32 : UInt8),
 (55 : UInt8)]))) =
 true →
 true = true) ∧
 ((ByteArray.toList
 (ByteArray.mk (#[(115 : UInt8),
 (117 : UInt8),
 (109 : UInt8),
 (32 : UInt8),
 (97 : UInt8),
 (116 : UInt8),
 (32 : UInt8),
 (55 : UInt8)])) ==
 ByteArray.toList
 (ByteArray.mk (#[(115 : UInt8),
 (117 : UInt8),
 (109 : UInt8),
 (32 : UInt8),
 (97 : UInt8),
 (116 : UInt8),
 (32 : UInt8),
 (55 : UInt8)]))) =
 false →
 false = true)) ∧
 (((0 : Int) == (0 : Int)) = false →
 false = true)) ∧
 ((ByteArray.toList
 (mg6 ++
 ByteArray.extract
 (ByteArray.mk (#[(40 : UInt8),
 (181 : UInt8),
 (47 : UInt8),
 (253 : UInt8),
 (0 : UInt8), (0 : UInt8),
 (35 : UInt8), (0 : UInt8),
 (0 : UInt8),
 (97 : UInt8)]))
 (Int.toNat (6 : Int))
 (Int.toNat
 (↑(ByteArray.size
 (ByteArray.mk (#[(40 : UInt8),
 (181 : UInt8),
 (47 : UInt8),
 (253 : UInt8),
 (0 : UInt8),
 (0 : UInt8),
 (35 : UInt8),
 (0 : UInt8),
 (0 : UInt8),
 (97 : UInt8)]))) :
 Int))) ==
 ByteArray.toList
 (ByteArray.mk (#[(40 : UInt8), (181 : UInt8),
 (47 : UInt8), (253 : UInt8),
 (0 : UInt8), (0 : UInt8),
 (35 : UInt8), (0 : UInt8),
 (0 : UInt8),
 (97 : UInt8)]))) =
 false →
 false = true)) ∧
 (((fhE
 (ByteArray.mk (#[(40 : UInt8), (181 : UInt8),
 (47 : UInt8), (253 : UInt8),
 (0 : UInt8), (0 : UInt8),
 (35 : UInt8), (0 : UInt8),
 (0 : UInt8), (97 : UInt8)]))
 (0 : Int) (9 : Int)).fst ==
 (0 : Int) &&
 ((fhE
 (ByteArray.mk (#[(40 : UInt8), (181 : UInt8),
 (47 : UInt8), (253 : UInt8),
 (0 : UInt8), (0 : UInt8),
 (35 : UInt8), (0 : UInt8),
 (0 : UInt8), (97 : UInt8)]))
 (0 : Int) (9 : Int)).snd ==
 (0 : Int) &&
 true)) =
 false →
 false = true)) ∧
 (((blE
 (ByteArray.extract
 (ByteArray.mk (#[(40 : UInt8), (181 : UInt8),
 (47 : UInt8), (253 : UInt8),
 (0 : UInt8), (0 : UInt8),
 (35 : UInt8), (0 : UInt8),
 (0 : UInt8), (97 : UInt8)]))
 (Int.toNat (0 : Int))
 (Int.toNat (9 : Int)))
 (0 : Int)).fst ==
 (5 : Int) &&
 ((blE
 (ByteArray.extract
 (ByteArray.mk (#[(40 : UInt8), (181 : UInt8),
 (47 : UInt8), (253 : UInt8),
 (0 : UInt8), (0 : UInt8),
 (35 : UInt8), (0 : UInt8),
 (0 : UInt8), (97 : UInt8)]))
 (Int.toNat (0 : Int))
 (Int.toNat (9 : Int)))
 (0 : Int)).snd ==
 (9 : Int) &&
 true)) =
 false →
 false = true)) ∧
 (((blE
 (ByteArray.mk (#[(40 : UInt8), (181 : UInt8),
 (47 : UInt8), (253 : UInt8),
 (0 : UInt8), (0 : UInt8),
 (35 : UInt8), (0 : UInt8),
 (0 : UInt8), (97 : UInt8)]))
 (0 : Int)).fst ==
 (0 : Int) &&
 ((blE
 (ByteArray.mk (#[(40 : UInt8), (181 : UInt8),
 (47 : UInt8), (253 : UInt8),
 (0 : UInt8), (0 : UInt8),
 (35 : UInt8), (0 : UInt8),
 (0 : UInt8), (97 : UInt8)]))
 (0 : Int)).snd ==
 (0 : Int) &&
 true)) =
 false →
 false = true)) ∧
 ((blX
 (ByteArray.mk (#[(40 : UInt8), (181 : UInt8), (47 : UInt8),
 (253 : UInt8), (0 : UInt8), (0 : UInt8),
 (35 : UInt8), (0 : UInt8), (0 : UInt8),
 (97 : UInt8)]))
 (0 : Int) ==
 (10 : Int)) =
 false →
 false = true)) ∧
 ((blN
 (ByteArray.mk (#[(40 : UInt8), (181 : UInt8), (47 : UInt8),
 (253 : UInt8), (0 : UInt8), (0 : UInt8),
 (35 : UInt8), (0 : UInt8), (0 : UInt8),
 (97 : UInt8)]))
 (0 : Int) ==
 (1 : Int)) =
 false →
 false = true))))))))))
theorem lawKn_e  : lawKn_t  = vcG Tryz.prog (Gof GLa) (fun _ => none) Tryz.f4 [] [] (.leaf (.v (.bool true)) ([])) := by kernel_rfl
end Go.Proofs.YtbfdchahapajaaaGreatDoor
namespace Go.Proofs.YtbfdchahapajaaaGreatDoor
open Go Go.RowKit
set_option linter.unusedVariables false
set_option linter.unusedSimpArgs false
set_option maxRecDepth 100000
theorem lFlt_v (b : ByteArray) (m e a : Int) (h0 : b.size ≤ 1000000) (h1 : fhI m = false → (hdE b 0).1 = 0 → m < hhS b 0 → (0 : Int) ≤ 0 ∧ (0 : Int) + 4 < b.size) (h2 : fhG b 0 m = true → fbK b (hhW b 0) m (hhN b 0) = true ∧ hhM b 0 = false) (h3 : frO b 0 m = ByteArray.empty) (h4 : frN b 0 m = 0) (h5 : frE b 0 m = (e, a)) : lFlt_t b m e a := by
  unfold lFlt_t
  rw [h3, h4, h5]
  exact ⟨h0, h1, h2, fun _ => ⟨fun _ => by simp, fun h => absurd h (by decide)⟩, fun h => by simp at h⟩
set_option synthInstance.maxSize 100000 in
set_option synthInstance.maxHeartbeats 0 in
theorem lAwk_v : lAwk_t := by
  unfold lAwk_t
  decide +kernel
set_option synthInstance.maxSize 100000 in
set_option synthInstance.maxHeartbeats 0 in
theorem lawKn_v : lawKn_t := by
  unfold lawKn_t
  decide +kernel
theorem lFlt_sound : Sound Tryz.prog 10 sFlt.ctr := sFlt.sound (by kernel_rfl) sFlt_enc fun ⟨b, m, e, a⟩ hc => by
  have h0 := hc _ (.head _)
  have h1 := hc _ (.tail _ (.head _))
  have h2 := hc _ (.tail _ (.tail _ (.head _)))
  have h3 := hc _ (.tail _ (.tail _ (.tail _ (.head _))))
  have h4 := hc _ (.tail _ (.tail _ (.tail _ (.tail _ (.head _)))))
  have h5 := hc _ (.tail _ (.tail _ (.tail _ (.tail _ (.tail _ (.head _))))))
  exact satG GKe_ok mixed Tryz.func10 (lFlt_e b m e a) (lFlt_v b m e a h0 h1 h2 h3 h4 h5)
theorem lAwk_sound : Sound Tryz.prog 5 sTrue.ctr := sTrue.sound (by kernel_rfl) sTrue_enc fun _ hc => by
  exact satG GKe_ok mixed Tryz.func5 (lAwk_e ) (lAwk_v)
theorem GLa_ok : AllOk Tryz.prog GLa := .cons lFlt_sound <| .cons lAwk_sound <| GKe_ok
theorem fknown_any (W : World) : Calls Tryz.prog 4 #[] W fun e w' => e = .returned (.bool true) ∧ Below W.heap.size W w' :=
  law_true (us := []) (satG GLa_ok mixed Tryz.func4 lawKn_e lawKn_v) (.inr rfl) (by simp only [Reps])
end Go.Proofs.YtbfdchahapajaaaGreatDoor

/-
  Texts joined: C7Kt, C7G, C7H, C7M, C7At, C7B, C7N, C7P, C6Kt, C6M. Conditions: each theorem's own.
-/
import Derived.Test.YtfbdocfhgjfboaaK4
import Derived.Test.YtfbdocfhgjfboaaK3
/-
  The conditions of the functions told in the text before, and that they are the executor's. Conditions: none.
-/
namespace Go.Proofs.Ytfbdocfhgjfboaa
open Go Go.RowKit
set_option linter.unusedVariables false
set_option maxRecDepth 100000
def lawSt7_t (nums : List Int) (cell : Int) : Prop :=
 (chk (lensN nums) = (0 : Int) →
 List.length (lensN nums) ≤ (4294967296 : Nat) ∧
 List.length (lensN nums) ≤ (4294967296 : Nat) ∧
 (chk (lensN nums) = (0 : Int) →
 List.length (lensN nums) ≤ (4294967296 : Nat) ∧
 (((0 : Int) != (0 : Int)) = true → false = true) ∧
 (((0 : Int) != (0 : Int)) = false →
 ((chk (lensN nums) != (0 : Int)) = true → false = true) ∧
 ((chk (lensN nums) != (0 : Int)) = false →
 (((0 : Int) != (0 : Int)) = true → false = true) ∧
 (((0 : Int) != (0 : Int)) = false →
 (((↑(List.length (codL (lensN nums))) : Int) != (↑(List.length (lensN nums)) : Int)) = true → false = true) ∧
 (((↑(List.length (codL (lensN nums))) : Int) != (↑(List.length (lensN nums)) : Int)) = false →
 (decide (mostI (lensN nums) < (1 : Int)) = true → false = true) ∧
 (decide (mostI (lensN nums) < (1 : Int)) = false →
 (decide (mostI (lensN nums) > (11 : Int)) = true → false = true) ∧
 (decide (mostI (lensN nums) > (11 : Int)) = false →
 (0 : Int) ≤ IntKind.wrap IntKind.u64 (mostI (lensN nums)) ∧
 (((↑(List.length (tblL (lensN nums))) : Int) !=
 IntKind.wrap IntKind.i64 ((1 : Int) * (2 : Int) ^ min (Int.toNat (IntKind.wrap IntKind.u64 (mostI (lensN nums)))) (IntKind.bits IntKind.i64))) =
 true →
 false = true) ∧
 (((↑(List.length (tblL (lensN nums))) : Int) !=
 IntKind.wrap IntKind.i64 ((1 : Int) * (2 : Int) ^ min (Int.toNat (IntKind.wrap IntKind.u64 (mostI (lensN nums)))) (IntKind.bits IntKind.i64))) =
 false →
 (↑(List.length (tblL (lensN nums))) : Int) ≤ (4611686018427387904 : Int) ∧
 ∃ (g0 : Nat × Nat),
 ((0 : Int) ≤ md cell (↑(List.length (tblL (lensN nums))) : Int) ∧
 md cell (↑(List.length (tblL (lensN nums))) : Int) < (↑(List.length (tblL (lensN nums))) : Int) ∧
 Int.toNat (md cell (↑(List.length (tblL (lensN nums))) : Int)) < List.length (tblL (lensN nums)) ∧
 ∃ (x1 : Unit),
 (g0.fst < nI (lensN nums) ∧ aI (lensN nums) g0.fst ≤ g0.snd ∧ g0.snd < aI (lensN nums) g0.fst + wI (lensN nums) g0.fst) ∧
 mostI (lensN nums) = mostI (lensN nums) ∧
 md cell (↑(List.length (tblL (lensN nums))) : Int) = (↑g0.snd : Int) ∧
 List.getD (List.getD (tblL (lensN nums)) (Int.toNat (md cell (↑(List.length (tblL (lensN nums))) : Int))) []) (0 : Nat) (0 : Int) =
 (↑(kI (lensN nums) g0.fst) : Int) ∧
 codL (lensN nums) = codL (lensN nums) ∧ tblL (lensN nums) = tblL (lensN nums)) ∧
 ∀ (x2 : Unit),
 g0.fst < nI (lensN nums) ∧ aI (lensN nums) g0.fst ≤ g0.snd ∧ g0.snd < aI (lensN nums) g0.fst + wI (lensN nums) g0.fst →
 (decide ((↑(kI (lensN nums) g0.fst) : Int) < (0 : Int)) = true → false = true) ∧
 (decide ((↑(kI (lensN nums) g0.fst) : Int) < (0 : Int)) = false →
 (decide ((↑(kI (lensN nums) g0.fst) : Int) ≥ (↑(List.length (codL (lensN nums))) : Int)) = true → false = true) ∧
 (decide ((↑(kI (lensN nums) g0.fst) : Int) ≥ (↑(List.length (codL (lensN nums))) : Int)) = false →
 (0 : Int) ≤ (↑(kI (lensN nums) g0.fst) : Int) ∧
 (↑(kI (lensN nums) g0.fst) : Int) < (↑(List.length (codL (lensN nums))) : Int) ∧
 Int.toNat (↑(kI (lensN nums) g0.fst) : Int) < List.length (codL (lensN nums)) ∧
 (decide
 (List.getD (List.getD (codL (lensN nums)) (Int.toNat (↑(kI (lensN nums) g0.fst) : Int)) []) (0 : Nat) (0 : Int) <
 (1 : Int)) =
 true →
 false = true) ∧
 (decide
 (List.getD (List.getD (codL (lensN nums)) (Int.toNat (↑(kI (lensN nums) g0.fst) : Int)) []) (0 : Nat) (0 : Int) <
 (1 : Int)) =
 false →
 (0 : Int) ≤ (↑(kI (lensN nums) g0.fst) : Int) ∧
 (↑(kI (lensN nums) g0.fst) : Int) < (↑(List.length (codL (lensN nums))) : Int) ∧
 Int.toNat (↑(kI (lensN nums) g0.fst) : Int) < List.length (codL (lensN nums)) ∧
 (decide
 (List.getD (List.getD (codL (lensN nums)) (Int.toNat (↑(kI (lensN nums) g0.fst) : Int)) []) (0 : Nat) (0 : Int) >
 mostI (lensN nums)) =
 true →
 false = true) ∧
 (decide
 (List.getD (List.getD (codL (lensN nums)) (Int.toNat (↑(kI (lensN nums) g0.fst) : Int)) []) (0 : Nat) (0 : Int) >
 mostI (lensN nums)) =
 false →
 (0 : Int) ≤ (↑g0.snd : Int) ∧
 (↑g0.snd : Int) < (↑(List.length (tblL (lensN nums))) : Int) ∧
 Int.toNat (↑g0.snd : Int) < List.length (tblL (lensN nums)) ∧
 (0 : Int) ≤ (↑(kI (lensN nums) g0.fst) : Int) ∧
 (↑(kI (lensN nums) g0.fst) : Int) < (↑(List.length (codL (lensN nums))) : Int) ∧
 Int.toNat (↑(kI (lensN nums) g0.fst) : Int) < List.length (codL (lensN nums)) ∧
 ((List.getD (List.getD (tblL (lensN nums)) (Int.toNat (↑g0.snd : Int)) []) (1 : Nat) (0 : Int) !=
 List.getD (List.getD (codL (lensN nums)) (Int.toNat (↑(kI (lensN nums) g0.fst) : Int)) [])
 (0 : Nat) (0 : Int)) =
 true →
 false = true) ∧
 ((List.getD (List.getD (tblL (lensN nums)) (Int.toNat (↑g0.snd : Int)) []) (1 : Nat) (0 : Int) !=
 List.getD (List.getD (codL (lensN nums)) (Int.toNat (↑(kI (lensN nums) g0.fst) : Int)) [])
 (0 : Nat) (0 : Int)) =
 false →
 (0 : Int) ≤ (↑(kI (lensN nums) g0.fst) : Int) ∧
 (↑(kI (lensN nums) g0.fst) : Int) < (↑(List.length (codL (lensN nums))) : Int) ∧
 Int.toNat (↑(kI (lensN nums) g0.fst) : Int) < List.length (codL (lensN nums)) ∧
 (0 : Int) ≤
 IntKind.wrap IntKind.u64
 (IntKind.wrap IntKind.i64
 (mostI (lensN nums) -
 List.getD
 (List.getD (codL (lensN nums)) (Int.toNat (↑(kI (lensN nums) g0.fst) : Int)) [])
 (0 : Nat) (0 : Int))) ∧
 (0 : Int) ≤ (↑(kI (lensN nums) g0.fst) : Int) ∧
 (↑(kI (lensN nums) g0.fst) : Int) < (↑(List.length (codL (lensN nums))) : Int) ∧
 Int.toNat (↑(kI (lensN nums) g0.fst) : Int) < List.length (codL (lensN nums)) ∧
 ((Int.fdiv (↑g0.snd : Int)
 ((2 : Int) ^
 min
 (Int.toNat
 (IntKind.wrap IntKind.u64
 (IntKind.wrap IntKind.i64
 (mostI (lensN nums) -
 List.getD
 (List.getD (codL (lensN nums))
 (Int.toNat (↑(kI (lensN nums) g0.fst) : Int)) [])
 (0 : Nat) (0 : Int)))))
 (IntKind.bits IntKind.i64)) !=
 List.getD
 (List.getD (codL (lensN nums)) (Int.toNat (↑(kI (lensN nums) g0.fst) : Int))
 [])
 (1 : Nat) (0 : Int)) =
 true →
 false = true) ∧
 ((Int.fdiv (↑g0.snd : Int)
 ((2 : Int) ^
 min
 (Int.toNat
 (IntKind.wrap IntKind.u64
 (IntKind.wrap IntKind.i64
 (mostI (lensN nums) -
 List.getD
 (List.getD (codL (lensN nums))
 (Int.toNat (↑(kI (lensN nums) g0.fst) : Int)) [])
 (0 : Nat) (0 : Int)))))
 (IntKind.bits IntKind.i64)) !=
 List.getD
 (List.getD (codL (lensN nums)) (Int.toNat (↑(kI (lensN nums) g0.fst) : Int))
 [])
 (1 : Nat) (0 : Int)) =
 false →
 ∃ (g3 : Nat),
 (∃ (x4 : Nat),
 (g3 < nI (lensN nums) ∧ x4 ≤ List.length (lensN nums)) ∧
 (↑(kI (lensN nums) g0.fst) : Int) = (↑(kI (lensN nums) g3) : Int) ∧
 (0 : Int) = (↑x4 : Int) ∧ codL (lensN nums) = codL (lensN nums)) ∧
 ∀ (x5 : Nat),
 g3 < nI (lensN nums) ∧ x5 ≤ List.length (lensN nums) →
 (decide ((↑x5 : Int) < (↑(List.length (codL (lensN nums))) : Int)) = true →
 (((↑x5 : Int) == (↑(kI (lensN nums) g3) : Int)) = true →
 ∃ (y6 : Nat),
 (g3 < nI (lensN nums) ∧ y6 ≤ List.length (lensN nums)) ∧
 Nat.sub (List.length (lensN nums)) y6 <
 Nat.sub (List.length (lensN nums)) x5 ∧
 (↑(kI (lensN nums) g3) : Int) =
 (↑(kI (lensN nums) g3) : Int) ∧
 IntKind.wrap IntKind.i64 ((↑x5 : Int) + (1 : Int)) =
 (↑y6 : Int) ∧
 codL (lensN nums) = codL (lensN nums)) ∧
 (((↑x5 : Int) == (↑(kI (lensN nums) g3) : Int)) = false →
 (0 : Int) ≤ (↑x5 : Int) ∧
 (↑x5 : Int) < (↑(List.length (codL (lensN nums))) : Int) ∧
 Int.toNat (↑x5 : Int) < List.length (codL (lensN nums)) ∧
 ((List.getD
 (List.getD (codL (lensN nums))
 (Int.toNat (↑x5 : Int)) [])
 (0 : Nat) (0 : Int) ==
 (0 : Int)) =
 true →
 ∃ (y7 : Nat),
 (g3 < nI (lensN nums) ∧ y7 ≤ List.length (lensN nums)) ∧
 Nat.sub (List.length (lensN nums)) y7 <
 Nat.sub (List.length (lensN nums)) x5 ∧
 (↑(kI (lensN nums) g3) : Int) =
 (↑(kI (lensN nums) g3) : Int) ∧
 IntKind.wrap IntKind.i64
 ((↑x5 : Int) + (1 : Int)) =
 (↑y7 : Int) ∧
 codL (lensN nums) = codL (lensN nums)) ∧
 ((List.getD
 (List.getD (codL (lensN nums))
 (Int.toNat (↑x5 : Int)) [])
 (0 : Nat) (0 : Int) ==
 (0 : Int)) =
 false →
 (0 : Int) ≤ (↑x5 : Int) ∧
 (↑x5 : Int) <
 (↑(List.length (codL (lensN nums))) : Int) ∧
 Int.toNat (↑x5 : Int) <
 List.length (codL (lensN nums)) ∧
 (0 : Int) ≤ (↑(kI (lensN nums) g3) : Int) ∧
 (↑(kI (lensN nums) g3) : Int) <
 (↑(List.length (codL (lensN nums))) : Int) ∧
 Int.toNat (↑(kI (lensN nums) g3) : Int) <
 List.length (codL (lensN nums)) ∧
 (decide
 (List.getD
 (List.getD (codL (lensN nums))
 (Int.toNat (↑x5 : Int)) [])
 (0 : Nat) (0 : Int) <
 List.getD
 (List.getD (codL (lensN nums))
 (Int.toNat
 (↑(kI (lensN nums) g3) : Int))
 [])
 (0 : Nat) (0 : Int)) =
 true →
 (0 : Int) ≤
 (↑(kI (lensN nums) g3) : Int) ∧
 (↑(kI (lensN nums) g3) : Int) <
 (↑(List.length
 (codL (lensN nums))) :
 Int) ∧
 Int.toNat
 (↑(kI (lensN nums) g3) : Int) <
 List.length (codL (lensN nums)) ∧
 (0 : Int) ≤
 (↑(kI (lensN nums) g3) : Int) ∧
 (↑(kI (lensN nums) g3) : Int) <
 (↑(List.length
 (codL (lensN nums))) :
 Int) ∧
 Int.toNat
 (↑(kI (lensN nums) g3) :
 Int) <
 List.length
 (codL (lensN nums)) ∧
 (0 : Int) ≤ (↑x5 : Int) ∧
 (↑x5 : Int) <
 (↑(List.length
 (codL
 (lensN nums))) :
 Int) ∧
 Int.toNat (↑x5 : Int) <
 List.length
 (codL
 (lensN nums)) ∧
 (0 : Int) ≤
 IntKind.wrap
 IntKind.u64
 (IntKind.wrap
 IntKind.i64
 (List.getD
 (List.getD
 (codL
 (lensN
 nums))
 (Int.toNat
 (↑(kI
 (lensN
 nums)
 g3) :
 Int))
 [])
 (0 : Nat)
 (0 : Int) -
 List.getD
 (List.getD
 (codL
 (lensN
 nums))
 (Int.toNat
 (↑x5 :
 Int))
 [])
 (0 : Nat)
 (0 :
 Int))) ∧
 (0 : Int) ≤
 (↑x5 : Int) ∧
 (↑x5 : Int) <
 (↑(List.length
 (codL
 (lensN
 nums))) :
 Int) ∧
 Int.toNat
 (↑x5 :
 Int) <
 List.length
 (codL
 (lensN
 nums)) ∧
 ((Int.fdiv
 (List.getD
 (List.getD
 (codL
 (lensN
 nums))
 (Int.toNat
 (↑(kI
 (lensN
 nums)
 g3) :
 Int))
 [])
 (1 :
 Nat)
 (0 :
 Int))
 ((2 :
 Int) ^
 min
 (Int.toNat
 (IntKind.wrap
 IntKind.u64
 (IntKind.wrap
 IntKind.i64
 (List.getD
 (List.getD
 (codL
 (lensN
 nums))
 (Int.toNat
 (↑(kI
 (lensN
 nums)
 g3) :
 Int))
 [])
 (0 :
 Nat)
 (0 :
 Int) -
 List.getD
 (List.getD
 (codL
 (lensN
 nums))
 (Int.toNat
 (↑x5 :
 Int))
 [])
 (0 :
 Nat)
 (0 :
 Int)))))
 (IntKind.bits
 IntKind.i64)) ==
 List.getD
 (List.getD
 (codL
 (lensN
 nums))
 (Int.toNat
 (↑x5 :
 Int))
 [])
 (1 :
 Nat)
 (0 :
 Int)) =
 true →
 false =
 true) ∧
 ((Int.fdiv
 (List.getD
 (List.getD
 (codL
 (lensN
 nums))
 (Int.toNat
 (↑(kI
 (lensN
 nums)
 g3) :
 Int))
 [])
 (1 :
 Nat)
 (0 :
 Int))
 ((2 :
 Int) ^
 min
 (Int.toNat
 (IntKind.wrap
 IntKind.u64
 (IntKind.wrap
 IntKind.i64
 (List.getD
 (List.getD
 (codL
 (lensN
 nums))
 (Int.toNat
 (↑(kI
 (lensN
 nums)
 g3) :
 Int))
 [])
 (0 :
 Nat)
 (0 :
 Int) -
 List.getD
 (List.getD
 (codL
 (lensN
 nums))
 (Int.toNat
 (↑x5 :
 Int))
 [])
 (0 :
 Nat)
 (0 :
 Int)))))
 (IntKind.bits
 IntKind.i64)) ==
 List.getD
 (List.getD
 (codL
 (lensN
 nums))
 (Int.toNat
 (↑x5 :
 Int))
 [])
 (1 :
 Nat)
 (0 :
 Int)) =
 false →
 (0 : Int) ≤
 (↑x5 :
 Int) ∧
 (↑x5 :
 Int) <
 (↑(List.length
 (codL
 (lensN
 nums))) :
 Int) ∧
 Int.toNat
 (↑x5 :
 Int) <
 List.length
 (codL
 (lensN
 nums)) ∧
 (0 :
 Int) ≤
 (↑(kI
 (lensN
 nums)
 g3) :
 Int) ∧
 (↑(kI
 (lensN
 nums)
 g3) :
 Int) <
 (↑(List.length
 (codL
 (lensN
 nums))) :
 Int) ∧
 Int.toNat
 (↑(kI
 (lensN
 nums)
 g3) :
 Int) <
 List.length
 (codL
 (lensN
 nums)) ∧
 ((List.getD
 (List.getD
 (codL
 (lensN
 nums))
 (Int.toNat
 (↑x5 :
 Int))
 [])
 (0 :
 Nat)
 (0 :
 Int) ==
 List.getD
 (List.getD
 (codL
 (lensN
 nums))
 (Int.toNat
 (↑(kI
 (lensN
 nums)
 g3) :
 Int))
 [])
 (0 :
 Nat)
 (0 :
 Int)) =
 true →
 (0 :
 Int) ≤
 (↑x5 :
 Int) ∧
 (↑x5 :
 Int) <
 (↑(List.length
 (codL
 (lensN
 nums))) :
 Int) ∧
 Int.toNat
 (↑x5 :
 Int) <
 List.length
 (codL
 (lensN
 nums)) ∧
 (0 :
 Int) ≤
 (↑(kI
 (lensN
 nums)
 g3) :
 Int) ∧
 (↑(kI
 (lensN
 nums)
 g3) :
 Int) <
 (↑(List.length
 (codL
 (lensN
 nums))) :
 Int) ∧
 Int.toNat
 (↑(kI
 (lensN
 nums)
 g3) :
 Int) <
 List.length
 (codL
 (lensN
 nums)) ∧
 ((List.getD
 (List.getD
 (codL
 (lensN
 nums))
 (Int.toNat
 (↑x5 :
 Int))
 [])
 (1 :
 Nat)
 (0 :
 Int) ==
 List.getD
 (List.getD
 (codL
 (lensN
 nums))
 (Int.toNat
 (↑(kI
 (lensN
 nums)
 g3) :
 Int))
 [])
 (1 :
 Nat)
 (0 :
 Int)) =
 true →
 false =
 true) ∧
 ((List.getD
 (List.getD
 (codL
 (lensN
 nums))
 (Int.toNat
 (↑x5 :
 Int))
 [])
 (1 :
 Nat)
 (0 :
 Int) ==
 List.getD
 (List.getD
 (codL
 (lensN
 nums))
 (Int.toNat
 (↑(kI
 (lensN
 nums)
 g3) :
 Int))
 [])
 (1 :
 Nat)
 (0 :
 Int)) =
 false →
 ∃
 (y8
 :
 Nat),
 (g3 <
 nI
 (lensN
 nums) ∧
 y8 ≤
 List.length
 (lensN
 nums)) ∧
 Nat.sub
 (List.length
 (lensN
 nums))
 y8 <
 Nat.sub
 (List.length
 (lensN
 nums))
 x5 ∧
 (↑(kI
 (lensN
 nums)
 g3) :
 Int) =
 (↑(kI
 (lensN
 nums)
 g3) :
 Int) ∧
 IntKind.wrap
 IntKind.i64
 ((↑x5 :
 Int) +
 (1 :
 Int)) =
 (↑y8 :
 Int) ∧
 codL
 (lensN
 nums) =
 codL
 (lensN
 nums))) ∧
 ((List.getD
 (List.getD
 (codL
 (lensN
 nums))
 (Int.toNat
 (↑x5 :
 Int))
 [])
 (0 :
 Nat)
 (0 :
 Int) ==
 List.getD
 (List.getD
 (codL
 (lensN
 nums))
 (Int.toNat
 (↑(kI
 (lensN
 nums)
 g3) :
 Int))
 [])
 (0 :
 Nat)
 (0 :
 Int)) =
 false →
 ∃
 (y9
 :
 Nat),
 (g3 <
 nI
 (lensN
 nums) ∧
 y9 ≤
 List.length
 (lensN
 nums)) ∧
 Nat.sub
 (List.length
 (lensN
 nums))
 y9 <
 Nat.sub
 (List.length
 (lensN
 nums))
 x5 ∧
 (↑(kI
 (lensN
 nums)
 g3) :
 Int) =
 (↑(kI
 (lensN
 nums)
 g3) :
 Int) ∧
 IntKind.wrap
 IntKind.i64
 ((↑x5 :
 Int) +
 (1 :
 Int)) =
 (↑y9 :
 Int) ∧
 codL
 (lensN
 nums) =
 codL
 (lensN
 nums)))) ∧
 (decide
 (List.getD
 (List.getD (codL (lensN nums))
 (Int.toNat (↑x5 : Int)) [])
 (0 : Nat) (0 : Int) <
 List.getD
 (List.getD (codL (lensN nums))
 (Int.toNat
 (↑(kI (lensN nums) g3) : Int))
 [])
 (0 : Nat) (0 : Int)) =
 false →
 (0 : Int) ≤ (↑x5 : Int) ∧
 (↑x5 : Int) <
 (↑(List.length
 (codL (lensN nums))) :
 Int) ∧
 Int.toNat (↑x5 : Int) <
 List.length (codL (lensN nums)) ∧
 (0 : Int) ≤
 (↑(kI (lensN nums) g3) : Int) ∧
 (↑(kI (lensN nums) g3) : Int) <
 (↑(List.length
 (codL (lensN nums))) :
 Int) ∧
 Int.toNat
 (↑(kI (lensN nums) g3) :
 Int) <
 List.length
 (codL (lensN nums)) ∧
 ((List.getD
 (List.getD
 (codL
 (lensN nums))
 (Int.toNat
 (↑x5 : Int))
 [])
 (0 : Nat)
 (0 : Int) ==
 List.getD
 (List.getD
 (codL
 (lensN nums))
 (Int.toNat
 (↑(kI
 (lensN
 nums)
 g3) :
 Int))
 [])
 (0 : Nat)
 (0 : Int)) =
 true →
 (0 : Int) ≤ (↑x5 : Int) ∧
 (↑x5 : Int) <
 (↑(List.length
 (codL
 (lensN
 nums))) :
 Int) ∧
 Int.toNat
 (↑x5 : Int) <
 List.length
 (codL
 (lensN
 nums)) ∧
 (0 : Int) ≤
 (↑(kI
 (lensN
 nums)
 g3) :
 Int) ∧
 (↑(kI (lensN nums)
 g3) :
 Int) <
 (↑(List.length
 (codL
 (lensN
 nums))) :
 Int) ∧
 Int.toNat
 (↑(kI
 (lensN
 nums)
 g3) :
 Int) <
 List.length
 (codL
 (lensN
 nums)) ∧
 ((List.getD
 (List.getD
 (codL
 (lensN
 nums))
 (Int.toNat
 (↑x5 :
 Int))
 [])
 (1 :
 Nat)
 (0 :
 Int) ==
 List.getD
 (List.getD
 (codL
 (lensN
 nums))
 (Int.toNat
 (↑(kI
 (lensN
 nums)
 g3) :
 Int))
 [])
 (1 :
 Nat)
 (0 :
 Int)) =
 true →
 false =
 true) ∧
 ((List.getD
 (List.getD
 (codL
 (lensN
 nums))
 (Int.toNat
 (↑x5 :
 Int))
 [])
 (1 :
 Nat)
 (0 :
 Int) ==
 List.getD
 (List.getD
 (codL
 (lensN
 nums))
 (Int.toNat
 (↑(kI
 (lensN
 nums)
 g3) :
 Int))
 [])
 (1 :
 Nat)
 (0 :
 Int)) =
 false →
 ∃ (y10 :
 Nat),
 (g3 <
 nI
 (lensN
 nums) ∧
 y10 ≤
 List.length
 (lensN
 nums)) ∧
 Nat.sub
 (List.length
 (lensN
 nums))
 y10 <
 Nat.sub
 (List.length
 (lensN
 nums))
 x5 ∧
 (↑(kI
 (lensN
 nums)
 g3) :
 Int) =
 (↑(kI
 (lensN
 nums)
 g3) :
 Int) ∧
 IntKind.wrap
 IntKind.i64
 ((↑x5 :
 Int) +
 (1 :
 Int)) =
 (↑y10 :
 Int) ∧
 codL
 (lensN
 nums) =
 codL
 (lensN
 nums))) ∧
 ((List.getD
 (List.getD
 (codL
 (lensN nums))
 (Int.toNat
 (↑x5 : Int))
 [])
 (0 : Nat)
 (0 : Int) ==
 List.getD
 (List.getD
 (codL
 (lensN nums))
 (Int.toNat
 (↑(kI
 (lensN
 nums)
 g3) :
 Int))
 [])
 (0 : Nat)
 (0 : Int)) =
 false →
 ∃ (y11 : Nat),
 (g3 < nI (lensN nums) ∧
 y11 ≤
 List.length
 (lensN nums)) ∧
 Nat.sub
 (List.length
 (lensN nums))
 y11 <
 Nat.sub
 (List.length
 (lensN nums))
 x5 ∧
 (↑(kI (lensN nums)
 g3) :
 Int) =
 (↑(kI
 (lensN
 nums)
 g3) :
 Int) ∧
 IntKind.wrap
 IntKind.i64
 ((↑x5 :
 Int) +
 (1 :
 Int)) =
 (↑y11 : Int) ∧
 codL
 (lensN
 nums) =
 codL
 (lensN
 nums)))))) ∧
 (decide ((↑x5 : Int) < (↑(List.length (codL (lensN nums))) : Int)) =
 false →
 true = true))))))))))))))) ∧
 (¬chk (lensN nums) = (0 : Int) →
 List.length (lensN nums) ≤ (4294967296 : Nat) ∧
 (((0 : Int) != (0 : Int)) = true → false = true) ∧
 (((0 : Int) != (0 : Int)) = false →
 ((chk (lensN nums) != (0 : Int)) = true → false = true) ∧
 ((chk (lensN nums) != (0 : Int)) = false →
 ((chk (lensN nums) != (0 : Int)) = true → false = true) ∧
 ((chk (lensN nums) != (0 : Int)) = false →
 (((↑(List.length (codL (lensN nums))) : Int) != (↑(List.length (lensN nums)) : Int)) = true → false = true) ∧
 (((↑(List.length (codL (lensN nums))) : Int) != (↑(List.length (lensN nums)) : Int)) = false →
 (decide (mostI (lensN nums) < (1 : Int)) = true → false = true) ∧
 (decide (mostI (lensN nums) < (1 : Int)) = false →
 (decide (mostI (lensN nums) > (11 : Int)) = true → false = true) ∧
 (decide (mostI (lensN nums) > (11 : Int)) = false →
 (0 : Int) ≤ IntKind.wrap IntKind.u64 (mostI (lensN nums)) ∧
 (((0 : Int) != IntKind.wrap IntKind.i64 ((1 : Int) * (2 : Int) ^ min (Int.toNat (IntKind.wrap IntKind.u64 (mostI (lensN nums)))) (IntKind.bits IntKind.i64))) =
 true →
 false = true) ∧
 (((0 : Int) !=
 IntKind.wrap IntKind.i64 ((1 : Int) * (2 : Int) ^ min (Int.toNat (IntKind.wrap IntKind.u64 (mostI (lensN nums)))) (IntKind.bits IntKind.i64))) =
 false →
 (0 : Int) ≤ (4611686018427387904 : Int) ∧
 ∃ (g12 : Nat × Nat),
 (False ∧
 False ∧
 False ∧
 ∃ (x13 : Unit),
 (g12.fst < nI (lensN nums) ∧ aI (lensN nums) g12.fst ≤ g12.snd ∧ g12.snd < aI (lensN nums) g12.fst + wI (lensN nums) g12.fst) ∧
 mostI (lensN nums) = mostI (lensN nums) ∧
 md cell (0 : Int) = (↑g12.snd : Int) ∧ False ∧ codL (lensN nums) = codL (lensN nums) ∧ List.length (tblL (lensN nums)) = (0 : Nat)) ∧
 ∀ (x14 : Unit),
 g12.fst < nI (lensN nums) ∧ aI (lensN nums) g12.fst ≤ g12.snd ∧ g12.snd < aI (lensN nums) g12.fst + wI (lensN nums) g12.fst →
 (decide ((↑(kI (lensN nums) g12.fst) : Int) < (0 : Int)) = true → false = true) ∧
 (decide ((↑(kI (lensN nums) g12.fst) : Int) < (0 : Int)) = false →
 (decide ((↑(kI (lensN nums) g12.fst) : Int) ≥ (↑(List.length (codL (lensN nums))) : Int)) = true → false = true) ∧
 (decide ((↑(kI (lensN nums) g12.fst) : Int) ≥ (↑(List.length (codL (lensN nums))) : Int)) = false →
 (0 : Int) ≤ (↑(kI (lensN nums) g12.fst) : Int) ∧
 (↑(kI (lensN nums) g12.fst) : Int) < (↑(List.length (codL (lensN nums))) : Int) ∧
 Int.toNat (↑(kI (lensN nums) g12.fst) : Int) < List.length (codL (lensN nums)) ∧
 (decide
 (List.getD (List.getD (codL (lensN nums)) (Int.toNat (↑(kI (lensN nums) g12.fst) : Int)) []) (0 : Nat) (0 : Int) <
 (1 : Int)) =
 true →
 false = true) ∧
 (decide
 (List.getD (List.getD (codL (lensN nums)) (Int.toNat (↑(kI (lensN nums) g12.fst) : Int)) []) (0 : Nat) (0 : Int) <
 (1 : Int)) =
 false →
 (0 : Int) ≤ (↑(kI (lensN nums) g12.fst) : Int) ∧
 (↑(kI (lensN nums) g12.fst) : Int) < (↑(List.length (codL (lensN nums))) : Int) ∧
 Int.toNat (↑(kI (lensN nums) g12.fst) : Int) < List.length (codL (lensN nums)) ∧
 (decide
 (List.getD (List.getD (codL (lensN nums)) (Int.toNat (↑(kI (lensN nums) g12.fst) : Int)) []) (0 : Nat) (0 : Int) >
 mostI (lensN nums)) =
 true →
 false = true) ∧
 (decide
 (List.getD (List.getD (codL (lensN nums)) (Int.toNat (↑(kI (lensN nums) g12.fst) : Int)) []) (0 : Nat) (0 : Int) >
 mostI (lensN nums)) =
 false →
 (0 : Int) ≤ (↑g12.snd : Int) ∧
 (↑g12.snd : Int) < (↑(List.length (tblL (lensN nums))) : Int) ∧
 Int.toNat (↑g12.snd : Int) < List.length (tblL (lensN nums)) ∧
 (0 : Int) ≤ (↑(kI (lensN nums) g12.fst) : Int) ∧
 (↑(kI (lensN nums) g12.fst) : Int) < (↑(List.length (codL (lensN nums))) : Int) ∧
 Int.toNat (↑(kI (lensN nums) g12.fst) : Int) < List.length (codL (lensN nums)) ∧
 ((List.getD (List.getD (tblL (lensN nums)) (Int.toNat (↑g12.snd : Int)) []) (1 : Nat) (0 : Int) !=
 List.getD (List.getD (codL (lensN nums)) (Int.toNat (↑(kI (lensN nums) g12.fst) : Int)) [])
 (0 : Nat) (0 : Int)) =
 true →
 false = true) ∧
 ((List.getD (List.getD (tblL (lensN nums)) (Int.toNat (↑g12.snd : Int)) []) (1 : Nat) (0 : Int) !=
 List.getD (List.getD (codL (lensN nums)) (Int.toNat (↑(kI (lensN nums) g12.fst) : Int)) [])
 (0 : Nat) (0 : Int)) =
 false →
 (0 : Int) ≤ (↑(kI (lensN nums) g12.fst) : Int) ∧
 (↑(kI (lensN nums) g12.fst) : Int) < (↑(List.length (codL (lensN nums))) : Int) ∧
 Int.toNat (↑(kI (lensN nums) g12.fst) : Int) < List.length (codL (lensN nums)) ∧
 (0 : Int) ≤
 IntKind.wrap IntKind.u64
 (IntKind.wrap IntKind.i64
 (mostI (lensN nums) -
 List.getD
 (List.getD (codL (lensN nums)) (Int.toNat (↑(kI (lensN nums) g12.fst) : Int)) [])
 (0 : Nat) (0 : Int))) ∧
 (0 : Int) ≤ (↑(kI (lensN nums) g12.fst) : Int) ∧
 (↑(kI (lensN nums) g12.fst) : Int) < (↑(List.length (codL (lensN nums))) : Int) ∧
 Int.toNat (↑(kI (lensN nums) g12.fst) : Int) < List.length (codL (lensN nums)) ∧
 ((Int.fdiv (↑g12.snd : Int)
 ((2 : Int) ^
 min
 (Int.toNat
 (IntKind.wrap IntKind.u64
 (IntKind.wrap IntKind.i64
 (mostI (lensN nums) -
 List.getD
 (List.getD (codL (lensN nums))
 (Int.toNat (↑(kI (lensN nums) g12.fst) : Int)) [])
 (0 : Nat) (0 : Int)))))
 (IntKind.bits IntKind.i64)) !=
 List.getD
 (List.getD (codL (lensN nums)) (Int.toNat (↑(kI (lensN nums) g12.fst) : Int))
 [])
 (1 : Nat) (0 : Int)) =
 true →
 false = true) ∧
 ((Int.fdiv (↑g12.snd : Int)
 ((2 : Int) ^
 min
 (Int.toNat
 (IntKind.wrap IntKind.u64
 (IntKind.wrap IntKind.i64
 (mostI (lensN nums) -
 List.getD
 (List.getD (codL (lensN nums))
 (Int.toNat (↑(kI (lensN nums) g12.fst) : Int)) [])
 (0 : Nat) (0 : Int)))))
 (IntKind.bits IntKind.i64)) !=
 List.getD
 (List.getD (codL (lensN nums)) (Int.toNat (↑(kI (lensN nums) g12.fst) : Int))
 [])
 (1 : Nat) (0 : Int)) =
 false →
 ∃ (g15 : Nat),
 (∃ (x16 : Nat),
 (g15 < nI (lensN nums) ∧ x16 ≤ List.length (lensN nums)) ∧
 (↑(kI (lensN nums) g12.fst) : Int) = (↑(kI (lensN nums) g15) : Int) ∧
 (0 : Int) = (↑x16 : Int) ∧ codL (lensN nums) = codL (lensN nums)) ∧
 ∀ (x17 : Nat),
 g15 < nI (lensN nums) ∧ x17 ≤ List.length (lensN nums) →
 (decide ((↑x17 : Int) < (↑(List.length (codL (lensN nums))) : Int)) = true →
 (((↑x17 : Int) == (↑(kI (lensN nums) g15) : Int)) = true →
 ∃ (y18 : Nat),
 (g15 < nI (lensN nums) ∧ y18 ≤ List.length (lensN nums)) ∧
 Nat.sub (List.length (lensN nums)) y18 <
 Nat.sub (List.length (lensN nums)) x17 ∧
 (↑(kI (lensN nums) g15) : Int) =
 (↑(kI (lensN nums) g15) : Int) ∧
 IntKind.wrap IntKind.i64 ((↑x17 : Int) + (1 : Int)) =
 (↑y18 : Int) ∧
 codL (lensN nums) = codL (lensN nums)) ∧
 (((↑x17 : Int) == (↑(kI (lensN nums) g15) : Int)) = false →
 (0 : Int) ≤ (↑x17 : Int) ∧
 (↑x17 : Int) < (↑(List.length (codL (lensN nums))) : Int) ∧
 Int.toNat (↑x17 : Int) < List.length (codL (lensN nums)) ∧
 ((List.getD
 (List.getD (codL (lensN nums))
 (Int.toNat (↑x17 : Int)) [])
 (0 : Nat) (0 : Int) ==
 (0 : Int)) =
 true →
 ∃ (y19 : Nat),
 (g15 < nI (lensN nums) ∧
 y19 ≤ List.length (lensN nums)) ∧
 Nat.sub (List.length (lensN nums)) y19 <
 Nat.sub (List.length (lensN nums)) x17 ∧
 (↑(kI (lensN nums) g15) : Int) =
 (↑(kI (lensN nums) g15) : Int) ∧
 IntKind.wrap IntKind.i64
 ((↑x17 : Int) + (1 : Int)) =
 (↑y19 : Int) ∧
 codL (lensN nums) = codL (lensN nums)) ∧
 ((List.getD
 (List.getD (codL (lensN nums))
 (Int.toNat (↑x17 : Int)) [])
 (0 : Nat) (0 : Int) ==
 (0 : Int)) =
 false →
 (0 : Int) ≤ (↑x17 : Int) ∧
 (↑x17 : Int) <
 (↑(List.length (codL (lensN nums))) : Int) ∧
 Int.toNat (↑x17 : Int) <
 List.length (codL (lensN nums)) ∧
 (0 : Int) ≤ (↑(kI (lensN nums) g15) : Int) ∧
 (↑(kI (lensN nums) g15) : Int) <
 (↑(List.length (codL (lensN nums))) : Int) ∧
 Int.toNat (↑(kI (lensN nums) g15) : Int) <
 List.length (codL (lensN nums)) ∧
 (decide
 (List.getD
 (List.getD (codL (lensN nums))
 (Int.toNat (↑x17 : Int)) [])
 (0 : Nat) (0 : Int) <
 List.getD
 (List.getD (codL (lensN nums))
 (Int.toNat
 (↑(kI (lensN nums) g15) :
 Int))
 [])
 (0 : Nat) (0 : Int)) =
 true →
 (0 : Int) ≤
 (↑(kI (lensN nums) g15) : Int) ∧
 (↑(kI (lensN nums) g15) : Int) <
 (↑(List.length
 (codL (lensN nums))) :
 Int) ∧
 Int.toNat
 (↑(kI (lensN nums) g15) : Int) <
 List.length (codL (lensN nums)) ∧
 (0 : Int) ≤
 (↑(kI (lensN nums) g15) : Int) ∧
 (↑(kI (lensN nums) g15) : Int) <
 (↑(List.length
 (codL (lensN nums))) :
 Int) ∧
 Int.toNat
 (↑(kI (lensN nums) g15) :
 Int) <
 List.length
 (codL (lensN nums)) ∧
 (0 : Int) ≤ (↑x17 : Int) ∧
 (↑x17 : Int) <
 (↑(List.length
 (codL
 (lensN nums))) :
 Int) ∧
 Int.toNat (↑x17 : Int) <
 List.length
 (codL
 (lensN nums)) ∧
 (0 : Int) ≤
 IntKind.wrap
 IntKind.u64
 (IntKind.wrap
 IntKind.i64
 (List.getD
 (List.getD
 (codL
 (lensN
 nums))
 (Int.toNat
 (↑(kI
 (lensN
 nums)
 g15) :
 Int))
 [])
 (0 : Nat)
 (0 : Int) -
 List.getD
 (List.getD
 (codL
 (lensN
 nums))
 (Int.toNat
 (↑x17 :
 Int))
 [])
 (0 : Nat)
 (0 :
 Int))) ∧
 (0 : Int) ≤
 (↑x17 : Int) ∧
 (↑x17 : Int) <
 (↑(List.length
 (codL
 (lensN
 nums))) :
 Int) ∧
 Int.toNat
 (↑x17 :
 Int) <
 List.length
 (codL
 (lensN
 nums)) ∧
 ((Int.fdiv
 (List.getD
 (List.getD
 (codL
 (lensN
 nums))
 (Int.toNat
 (↑(kI
 (lensN
 nums)
 g15) :
 Int))
 [])
 (1 :
 Nat)
 (0 :
 Int))
 ((2 :
 Int) ^
 min
 (Int.toNat
 (IntKind.wrap
 IntKind.u64
 (IntKind.wrap
 IntKind.i64
 (List.getD
 (List.getD
 (codL
 (lensN
 nums))
 (Int.toNat
 (↑(kI
 (lensN
 nums)
 g15) :
 Int))
 [])
 (0 :
 Nat)
 (0 :
 Int) -
 List.getD
 (List.getD
 (codL
 (lensN
 nums))
 (Int.toNat
 (↑x17 :
 Int))
 [])
 (0 :
 Nat)
 (0 :
 Int)))))
 (IntKind.bits
 IntKind.i64)) ==
 List.getD
 (List.getD
 (codL
 (lensN
 nums))
 (Int.toNat
 (↑x17 :
 Int))
 [])
 (1 :
 Nat)
 (0 :
 Int)) =
 true →
 false =
 true) ∧
 ((Int.fdiv
 (List.getD
 (List.getD
 (codL
 (lensN
 nums))
 (Int.toNat
 (↑(kI
 (lensN
 nums)
 g15) :
 Int))
 [])
 (1 :
 Nat)
 (0 :
 Int))
 ((2 :
 Int) ^
 min
 (Int.toNat
 (IntKind.wrap
 IntKind.u64
 (IntKind.wrap
 IntKind.i64
 (List.getD
 (List.getD
 (codL
 (lensN
 nums))
 (Int.toNat
 (↑(kI
 (lensN
 nums)
 g15) :
 Int))
 [])
 (0 :
 Nat)
 (0 :
 Int) -
 List.getD
 (List.getD
 (codL
 (lensN
 nums))
 (Int.toNat
 (↑x17 :
 Int))
 [])
 (0 :
 Nat)
 (0 :
 Int)))))
 (IntKind.bits
 IntKind.i64)) ==
 List.getD
 (List.getD
 (codL
 (lensN
 nums))
 (Int.toNat
 (↑x17 :
 Int))
 [])
 (1 :
 Nat)
 (0 :
 Int)) =
 false →
 (0 : Int) ≤
 (↑x17 :
 Int) ∧
 (↑x17 :
 Int) <
 (↑(List.length
 (codL
 (lensN
 nums))) :
 Int) ∧
 Int.toNat
 (↑x17 :
 Int) <
 List.length
 (codL
 (lensN
 nums)) ∧
 (0 :
 Int) ≤
 (↑(kI
 (lensN
 nums)
 g15) :
 Int) ∧
 (↑(kI
 (lensN
 nums)
 g15) :
 Int) <
 (↑(List.length
 (codL
 (lensN
 nums))) :
 Int) ∧
 Int.toNat
 (↑(kI
 (lensN
 nums)
 g15) :
 Int) <
 List.length
 (codL
 (lensN
 nums)) ∧
 ((List.getD
 (List.getD
 (codL
 (lensN
 nums))
 (Int.toNat
 (↑x17 :
 Int))
 [])
 (0 :
 Nat)
 (0 :
 Int) ==
 List.getD
 (List.getD
 (codL
 (lensN
 nums))
 (Int.toNat
 (↑(kI
 (lensN
 nums)
 g15) :
 Int))
 [])
 (0 :
 Nat)
 (0 :
 Int)) =
 true →
 (0 :
 Int) ≤
 (↑x17 :
 Int) ∧
 (↑x17 :
 Int) <
 (↑(List.length
 (codL
 (lensN
 nums))) :
 Int) ∧
 Int.toNat
 (↑x17 :
 Int) <
 List.length
 (codL
 (lensN
 nums)) ∧
 (0 :
 Int) ≤
 (↑(kI
 (lensN
 nums)
 g15) :
 Int) ∧
 (↑(kI
 (lensN
 nums)
 g15) :
 Int) <
 (↑(List.length
 (codL
 (lensN
 nums))) :
 Int) ∧
 Int.toNat
 (↑(kI
 (lensN
 nums)
 g15) :
 Int) <
 List.length
 (codL
 (lensN
 nums)) ∧
 ((List.getD
 (List.getD
 (codL
 (lensN
 nums))
 (Int.toNat
 (↑x17 :
 Int))
 [])
 (1 :
 Nat)
 (0 :
 Int) ==
 List.getD
 (List.getD
 (codL
 (lensN
 nums))
 (Int.toNat
 (↑(kI
 (lensN
 nums)
 g15) :
 Int))
 [])
 (1 :
 Nat)
 (0 :
 Int)) =
 true →
 false =
 true) ∧
 ((List.getD
 (List.getD
 (codL
 (lensN
 nums))
 (Int.toNat
 (↑x17 :
 Int))
 [])
 (1 :
 Nat)
 (0 :
 Int) ==
 List.getD
 (List.getD
 (codL
 (lensN
 nums))
 (Int.toNat
 (↑(kI
 (lensN
 nums)
 g15) :
 Int))
 [])
 (1 :
 Nat)
 (0 :
 Int)) =
 false →
 ∃
 (y20
 :
 Nat),
 (g15 <
 nI
 (lensN
 nums) ∧
 y20 ≤
 List.length
 (lensN
 nums)) ∧
 Nat.sub
 (List.length
 (lensN
 nums))
 y20 <
 Nat.sub
 (List.length
 (lensN
 nums))
 x17 ∧
 (↑(kI
 (lensN
 nums)
 g15) :
 Int) =
 (↑(kI
 (lensN
 nums)
 g15) :
 Int) ∧
 IntKind.wrap
 IntKind.i64
 ((↑x17 :
 Int) +
 (1 :
 Int)) =
 (↑y20 :
 Int) ∧
 codL
 (lensN
 nums) =
 codL
 (lensN
 nums))) ∧
 ((List.getD
 (List.getD
 (codL
 (lensN
 nums))
 (Int.toNat
 (↑x17 :
 Int))
 [])
 (0 :
 Nat)
 (0 :
 Int) ==
 List.getD
 (List.getD
 (codL
 (lensN
 nums))
 (Int.toNat
 (↑(kI
 (lensN
 nums)
 g15) :
 Int))
 [])
 (0 :
 Nat)
 (0 :
 Int)) =
 false →
 ∃
 (y21
 :
 Nat),
 (g15 <
 nI
 (lensN
 nums) ∧
 y21 ≤
 List.length
 (lensN
 nums)) ∧
 Nat.sub
 (List.length
 (lensN
 nums))
 y21 <
 Nat.sub
 (List.length
 (lensN
 nums))
 x17 ∧
 (↑(kI
 (lensN
 nums)
 g15) :
 Int) =
 (↑(kI
 (lensN
 nums)
 g15) :
 Int) ∧
 IntKind.wrap
 IntKind.i64
 ((↑x17 :
 Int) +
 (1 :
 Int)) =
 (↑y21 :
 Int) ∧
 codL
 (lensN
 nums) =
 codL
 (lensN
 nums)))) ∧
 (decide
 (List.getD
 (List.getD (codL (lensN nums))
 (Int.toNat (↑x17 : Int)) [])
 (0 : Nat) (0 : Int) <
 List.getD
 (List.getD (codL (lensN nums))
 (Int.toNat
 (↑(kI (lensN nums) g15) :
 Int))
 [])
 (0 : Nat) (0 : Int)) =
 false →
 (0 : Int) ≤ (↑x17 : Int) ∧
 (↑x17 : Int) <
 (↑(List.length
 (codL (lensN nums))) :
 Int) ∧
 Int.toNat (↑x17 : Int) <
 List.length (codL (lensN nums)) ∧
 (0 : Int) ≤
 (↑(kI (lensN nums) g15) : Int) ∧
 (↑(kI (lensN nums) g15) : Int) <
 (↑(List.length
 (codL (lensN nums))) :
 Int) ∧
 Int.toNat
 (↑(kI (lensN nums) g15) :
 Int) <
 List.length
 (codL (lensN nums)) ∧
 ((List.getD
 (List.getD
 (codL
 (lensN nums))
 (Int.toNat
 (↑x17 : Int))
 [])
 (0 : Nat)
 (0 : Int) ==
 List.getD
 (List.getD
 (codL
 (lensN nums))
 (Int.toNat
 (↑(kI
 (lensN
 nums)
 g15) :
 Int))
 [])
 (0 : Nat)
 (0 : Int)) =
 true →
 (0 : Int) ≤ (↑x17 : Int) ∧
 (↑x17 : Int) <
 (↑(List.length
 (codL
 (lensN
 nums))) :
 Int) ∧
 Int.toNat
 (↑x17 : Int) <
 List.length
 (codL
 (lensN
 nums)) ∧
 (0 : Int) ≤
 (↑(kI
 (lensN
 nums)
 g15) :
 Int) ∧
 (↑(kI (lensN nums)
 g15) :
 Int) <
 (↑(List.length
 (codL
 (lensN
 nums))) :
 Int) ∧
 Int.toNat
 (↑(kI
 (lensN
 nums)
 g15) :
 Int) <
 List.length
 (codL
 (lensN
 nums)) ∧
 ((List.getD
 (List.getD
 (codL
 (lensN
 nums))
 (Int.toNat
 (↑x17 :
 Int))
 [])
 (1 :
 Nat)
 (0 :
 Int) ==
 List.getD
 (List.getD
 (codL
 (lensN
 nums))
 (Int.toNat
 (↑(kI
 (lensN
 nums)
 g15) :
 Int))
 [])
 (1 :
 Nat)
 (0 :
 Int)) =
 true →
 false =
 true) ∧
 ((List.getD
 (List.getD
 (codL
 (lensN
 nums))
 (Int.toNat
 (↑x17 :
 Int))
 [])
 (1 :
 Nat)
 (0 :
 Int) ==
 List.getD
 (List.getD
 (codL
 (lensN
 nums))
 (Int.toNat
 (↑(kI
 (lensN
 nums)
 g15) :
 Int))
 [])
 (1 :
 Nat)
 (0 :
 Int)) =
 false →
 ∃ (y22 :
 Nat),
 (g15 <
 nI
 (lensN
 nums) ∧
 y22 ≤
 List.length
 (lensN
 nums)) ∧
 Nat.sub
 (List.length
 (lensN
 nums))
 y22 <
 Nat.sub
 (List.length
 (lensN
 nums))
 x17 ∧
 (↑(kI
 (lensN
 nums)
 g15) :
 Int) =
 (↑(kI
 (lensN
 nums)
 g15) :
 Int) ∧
 IntKind.wrap
 IntKind.i64
 ((↑x17 :
 Int) +
 (1 :
 Int)) =
 (↑y22 :
 Int) ∧
 codL
 (lensN
 nums) =
 codL
 (lensN
 nums))) ∧
 ((List.getD
 (List.getD
 (codL
 (lensN nums))
 (Int.toNat
 (↑x17 : Int))
 [])
 (0 : Nat)
 (0 : Int) ==
 List.getD
 (List.getD
 (codL
 (lensN nums))
 (Int.toNat
 (↑(kI
 (lensN
 nums)
 g15) :
 Int))
 [])
 (0 : Nat)
 (0 : Int)) =
 false →
 ∃ (y23 : Nat),
 (g15 < nI (lensN nums) ∧
 y23 ≤
 List.length
 (lensN nums)) ∧
 Nat.sub
 (List.length
 (lensN nums))
 y23 <
 Nat.sub
 (List.length
 (lensN nums))
 x17 ∧
 (↑(kI (lensN nums)
 g15) :
 Int) =
 (↑(kI
 (lensN
 nums)
 g15) :
 Int) ∧
 IntKind.wrap
 IntKind.i64
 ((↑x17 :
 Int) +
 (1 :
 Int)) =
 (↑y23 : Int) ∧
 codL
 (lensN
 nums) =
 codL
 (lensN
 nums)))))) ∧
 (decide ((↑x17 : Int) < (↑(List.length (codL (lensN nums))) : Int)) =
 false →
 true = true)))))))))))))))) ∧
 (¬chk (lensN nums) = (0 : Int) →
 List.length (lensN nums) ≤ (4294967296 : Nat) ∧
 List.length (lensN nums) ≤ (4294967296 : Nat) ∧
 (chk (lensN nums) = (0 : Int) →
 List.length (lensN nums) ≤ (4294967296 : Nat) ∧
 ((chk (lensN nums) != (0 : Int)) = true → false = true) ∧
 ((chk (lensN nums) != (0 : Int)) = false →
 ((chk (lensN nums) != (0 : Int)) = true → false = true) ∧
 ((chk (lensN nums) != (0 : Int)) = false →
 (((0 : Int) != (0 : Int)) = true → false = true) ∧
 (((0 : Int) != (0 : Int)) = false →
 (((0 : Int) != (↑(List.length (lensN nums)) : Int)) = true → false = true) ∧
 (((0 : Int) != (↑(List.length (lensN nums)) : Int)) = false →
 (decide (mostI (lensN nums) < (1 : Int)) = true → false = true) ∧
 (decide (mostI (lensN nums) < (1 : Int)) = false →
 (decide (mostI (lensN nums) > (11 : Int)) = true → false = true) ∧
 (decide (mostI (lensN nums) > (11 : Int)) = false →
 (0 : Int) ≤ IntKind.wrap IntKind.u64 (mostI (lensN nums)) ∧
 (((↑(List.length (tblL (lensN nums))) : Int) !=
 IntKind.wrap IntKind.i64 ((1 : Int) * (2 : Int) ^ min (Int.toNat (IntKind.wrap IntKind.u64 (mostI (lensN nums)))) (IntKind.bits IntKind.i64))) =
 true →
 false = true) ∧
 (((↑(List.length (tblL (lensN nums))) : Int) !=
 IntKind.wrap IntKind.i64 ((1 : Int) * (2 : Int) ^ min (Int.toNat (IntKind.wrap IntKind.u64 (mostI (lensN nums)))) (IntKind.bits IntKind.i64))) =
 false →
 (↑(List.length (tblL (lensN nums))) : Int) ≤ (4611686018427387904 : Int) ∧
 ∃ (g24 : Nat × Nat),
 ((0 : Int) ≤ md cell (↑(List.length (tblL (lensN nums))) : Int) ∧
 md cell (↑(List.length (tblL (lensN nums))) : Int) < (↑(List.length (tblL (lensN nums))) : Int) ∧
 Int.toNat (md cell (↑(List.length (tblL (lensN nums))) : Int)) < List.length (tblL (lensN nums)) ∧
 ∃ (x25 : Unit),
 (g24.fst < nI (lensN nums) ∧ aI (lensN nums) g24.fst ≤ g24.snd ∧ g24.snd < aI (lensN nums) g24.fst + wI (lensN nums) g24.fst) ∧
 mostI (lensN nums) = mostI (lensN nums) ∧
 md cell (↑(List.length (tblL (lensN nums))) : Int) = (↑g24.snd : Int) ∧
 List.getD (List.getD (tblL (lensN nums)) (Int.toNat (md cell (↑(List.length (tblL (lensN nums))) : Int))) []) (0 : Nat) (0 : Int) =
 (↑(kI (lensN nums) g24.fst) : Int) ∧
 List.length (codL (lensN nums)) = (0 : Nat) ∧ tblL (lensN nums) = tblL (lensN nums)) ∧
 ∀ (x26 : Unit),
 g24.fst < nI (lensN nums) ∧ aI (lensN nums) g24.fst ≤ g24.snd ∧ g24.snd < aI (lensN nums) g24.fst + wI (lensN nums) g24.fst →
 (decide ((↑(kI (lensN nums) g24.fst) : Int) < (0 : Int)) = true → false = true) ∧
 (decide ((↑(kI (lensN nums) g24.fst) : Int) < (0 : Int)) = false →
 (decide ((↑(kI (lensN nums) g24.fst) : Int) ≥ (↑(List.length (codL (lensN nums))) : Int)) = true → false = true) ∧
 (decide ((↑(kI (lensN nums) g24.fst) : Int) ≥ (↑(List.length (codL (lensN nums))) : Int)) = false →
 (0 : Int) ≤ (↑(kI (lensN nums) g24.fst) : Int) ∧
 (↑(kI (lensN nums) g24.fst) : Int) < (↑(List.length (codL (lensN nums))) : Int) ∧
 Int.toNat (↑(kI (lensN nums) g24.fst) : Int) < List.length (codL (lensN nums)) ∧
 (decide
 (List.getD (List.getD (codL (lensN nums)) (Int.toNat (↑(kI (lensN nums) g24.fst) : Int)) []) (0 : Nat) (0 : Int) <
 (1 : Int)) =
 true →
 false = true) ∧
 (decide
 (List.getD (List.getD (codL (lensN nums)) (Int.toNat (↑(kI (lensN nums) g24.fst) : Int)) []) (0 : Nat) (0 : Int) <
 (1 : Int)) =
 false →
 (0 : Int) ≤ (↑(kI (lensN nums) g24.fst) : Int) ∧
 (↑(kI (lensN nums) g24.fst) : Int) < (↑(List.length (codL (lensN nums))) : Int) ∧
 Int.toNat (↑(kI (lensN nums) g24.fst) : Int) < List.length (codL (lensN nums)) ∧
 (decide
 (List.getD (List.getD (codL (lensN nums)) (Int.toNat (↑(kI (lensN nums) g24.fst) : Int)) []) (0 : Nat) (0 : Int) >
 mostI (lensN nums)) =
 true →
 false = true) ∧
 (decide
 (List.getD (List.getD (codL (lensN nums)) (Int.toNat (↑(kI (lensN nums) g24.fst) : Int)) []) (0 : Nat) (0 : Int) >
 mostI (lensN nums)) =
 false →
 (0 : Int) ≤ (↑g24.snd : Int) ∧
 (↑g24.snd : Int) < (↑(List.length (tblL (lensN nums))) : Int) ∧
 Int.toNat (↑g24.snd : Int) < List.length (tblL (lensN nums)) ∧
 (0 : Int) ≤ (↑(kI (lensN nums) g24.fst) : Int) ∧
 (↑(kI (lensN nums) g24.fst) : Int) < (↑(List.length (codL (lensN nums))) : Int) ∧
 Int.toNat (↑(kI (lensN nums) g24.fst) : Int) < List.length (codL (lensN nums)) ∧
 ((List.getD (List.getD (tblL (lensN nums)) (Int.toNat (↑g24.snd : Int)) []) (1 : Nat) (0 : Int) !=
 List.getD (List.getD (codL (lensN nums)) (Int.toNat (↑(kI (lensN nums) g24.fst) : Int)) [])
 (0 : Nat) (0 : Int)) =
 true →
 false = true) ∧
 ((List.getD (List.getD (tblL (lensN nums)) (Int.toNat (↑g24.snd : Int)) []) (1 : Nat) (0 : Int) !=
 List.getD (List.getD (codL (lensN nums)) (Int.toNat (↑(kI (lensN nums) g24.fst) : Int)) [])
 (0 : Nat) (0 : Int)) =
 false →
 (0 : Int) ≤ (↑(kI (lensN nums) g24.fst) : Int) ∧
 (↑(kI (lensN nums) g24.fst) : Int) < (↑(List.length (codL (lensN nums))) : Int) ∧
 Int.toNat (↑(kI (lensN nums) g24.fst) : Int) < List.length (codL (lensN nums)) ∧
 (0 : Int) ≤
 IntKind.wrap IntKind.u64
 (IntKind.wrap IntKind.i64
 (mostI (lensN nums) -
 List.getD
 (List.getD (codL (lensN nums)) (Int.toNat (↑(kI (lensN nums) g24.fst) : Int)) [])
 (0 : Nat) (0 : Int))) ∧
 (0 : Int) ≤ (↑(kI (lensN nums) g24.fst) : Int) ∧
 (↑(kI (lensN nums) g24.fst) : Int) < (↑(List.length (codL (lensN nums))) : Int) ∧
 Int.toNat (↑(kI (lensN nums) g24.fst) : Int) < List.length (codL (lensN nums)) ∧
 ((Int.fdiv (↑g24.snd : Int)
 ((2 : Int) ^
 min
 (Int.toNat
 (IntKind.wrap IntKind.u64
 (IntKind.wrap IntKind.i64
 (mostI (lensN nums) -
 List.getD
 (List.getD (codL (lensN nums))
 (Int.toNat (↑(kI (lensN nums) g24.fst) : Int)) [])
 (0 : Nat) (0 : Int)))))
 (IntKind.bits IntKind.i64)) !=
 List.getD
 (List.getD (codL (lensN nums)) (Int.toNat (↑(kI (lensN nums) g24.fst) : Int))
 [])
 (1 : Nat) (0 : Int)) =
 true →
 false = true) ∧
 ((Int.fdiv (↑g24.snd : Int)
 ((2 : Int) ^
 min
 (Int.toNat
 (IntKind.wrap IntKind.u64
 (IntKind.wrap IntKind.i64
 (mostI (lensN nums) -
 List.getD
 (List.getD (codL (lensN nums))
 (Int.toNat (↑(kI (lensN nums) g24.fst) : Int)) [])
 (0 : Nat) (0 : Int)))))
 (IntKind.bits IntKind.i64)) !=
 List.getD
 (List.getD (codL (lensN nums)) (Int.toNat (↑(kI (lensN nums) g24.fst) : Int))
 [])
 (1 : Nat) (0 : Int)) =
 false →
 ∃ (g27 : Nat),
 (∃ (x28 : Nat),
 (g27 < nI (lensN nums) ∧ x28 ≤ List.length (lensN nums)) ∧
 (↑(kI (lensN nums) g24.fst) : Int) = (↑(kI (lensN nums) g27) : Int) ∧
 (0 : Int) = (↑x28 : Int) ∧ codL (lensN nums) = codL (lensN nums)) ∧
 ∀ (x29 : Nat),
 g27 < nI (lensN nums) ∧ x29 ≤ List.length (lensN nums) →
 (decide ((↑x29 : Int) < (↑(List.length (codL (lensN nums))) : Int)) = true →
 (((↑x29 : Int) == (↑(kI (lensN nums) g27) : Int)) = true →
 ∃ (y30 : Nat),
 (g27 < nI (lensN nums) ∧ y30 ≤ List.length (lensN nums)) ∧
 Nat.sub (List.length (lensN nums)) y30 <
 Nat.sub (List.length (lensN nums)) x29 ∧
 (↑(kI (lensN nums) g27) : Int) =
 (↑(kI (lensN nums) g27) : Int) ∧
 IntKind.wrap IntKind.i64 ((↑x29 : Int) + (1 : Int)) =
 (↑y30 : Int) ∧
 codL (lensN nums) = codL (lensN nums)) ∧
 (((↑x29 : Int) == (↑(kI (lensN nums) g27) : Int)) = false →
 (0 : Int) ≤ (↑x29 : Int) ∧
 (↑x29 : Int) < (↑(List.length (codL (lensN nums))) : Int) ∧
 Int.toNat (↑x29 : Int) < List.length (codL (lensN nums)) ∧
 ((List.getD
 (List.getD (codL (lensN nums))
 (Int.toNat (↑x29 : Int)) [])
 (0 : Nat) (0 : Int) ==
 (0 : Int)) =
 true →
 ∃ (y31 : Nat),
 (g27 < nI (lensN nums) ∧
 y31 ≤ List.length (lensN nums)) ∧
 Nat.sub (List.length (lensN nums)) y31 <
 Nat.sub (List.length (lensN nums)) x29 ∧
 (↑(kI (lensN nums) g27) : Int) =
 (↑(kI (lensN nums) g27) : Int) ∧
 IntKind.wrap IntKind.i64
 ((↑x29 : Int) + (1 : Int)) =
 (↑y31 : Int) ∧
 codL (lensN nums) = codL (lensN nums)) ∧
 ((List.getD
 (List.getD (codL (lensN nums))
 (Int.toNat (↑x29 : Int)) [])
 (0 : Nat) (0 : Int) ==
 (0 : Int)) =
 false →
 (0 : Int) ≤ (↑x29 : Int) ∧
 (↑x29 : Int) <
 (↑(List.length (codL (lensN nums))) : Int) ∧
 Int.toNat (↑x29 : Int) <
 List.length (codL (lensN nums)) ∧
 (0 : Int) ≤ (↑(kI (lensN nums) g27) : Int) ∧
 (↑(kI (lensN nums) g27) : Int) <
 (↑(List.length (codL (lensN nums))) : Int) ∧
 Int.toNat (↑(kI (lensN nums) g27) : Int) <
 List.length (codL (lensN nums)) ∧
 (decide
 (List.getD
 (List.getD (codL (lensN nums))
 (Int.toNat (↑x29 : Int)) [])
 (0 : Nat) (0 : Int) <
 List.getD
 (List.getD (codL (lensN nums))
 (Int.toNat
 (↑(kI (lensN nums) g27) :
 Int))
 [])
 (0 : Nat) (0 : Int)) =
 true →
 (0 : Int) ≤
 (↑(kI (lensN nums) g27) : Int) ∧
 (↑(kI (lensN nums) g27) : Int) <
 (↑(List.length
 (codL (lensN nums))) :
 Int) ∧
 Int.toNat
 (↑(kI (lensN nums) g27) : Int) <
 List.length (codL (lensN nums)) ∧
 (0 : Int) ≤
 (↑(kI (lensN nums) g27) : Int) ∧
 (↑(kI (lensN nums) g27) : Int) <
 (↑(List.length
 (codL (lensN nums))) :
 Int) ∧
 Int.toNat
 (↑(kI (lensN nums) g27) :
 Int) <
 List.length
 (codL (lensN nums)) ∧
 (0 : Int) ≤ (↑x29 : Int) ∧
 (↑x29 : Int) <
 (↑(List.length
 (codL
 (lensN nums))) :
 Int) ∧
 Int.toNat (↑x29 : Int) <
 List.length
 (codL
 (lensN nums)) ∧
 (0 : Int) ≤
 IntKind.wrap
 IntKind.u64
 (IntKind.wrap
 IntKind.i64
 (List.getD
 (List.getD
 (codL
 (lensN
 nums))
 (Int.toNat
 (↑(kI
 (lensN
 nums)
 g27) :
 Int))
 [])
 (0 : Nat)
 (0 : Int) -
 List.getD
 (List.getD
 (codL
 (lensN
 nums))
 (Int.toNat
 (↑x29 :
 Int))
 [])
 (0 : Nat)
 (0 :
 Int))) ∧
 (0 : Int) ≤
 (↑x29 : Int) ∧
 (↑x29 : Int) <
 (↑(List.length
 (codL
 (lensN
 nums))) :
 Int) ∧
 Int.toNat
 (↑x29 :
 Int) <
 List.length
 (codL
 (lensN
 nums)) ∧
 ((Int.fdiv
 (List.getD
 (List.getD
 (codL
 (lensN
 nums))
 (Int.toNat
 (↑(kI
 (lensN
 nums)
 g27) :
 Int))
 [])
 (1 :
 Nat)
 (0 :
 Int))
 ((2 :
 Int) ^
 min
 (Int.toNat
 (IntKind.wrap
 IntKind.u64
 (IntKind.wrap
 IntKind.i64
 (List.getD
 (List.getD
 (codL
 (lensN
 nums))
 (Int.toNat
 (↑(kI
 (lensN
 nums)
 g27) :
 Int))
 [])
 (0 :
 Nat)
 (0 :
 Int) -
 List.getD
 (List.getD
 (codL
 (lensN
 nums))
 (Int.toNat
 (↑x29 :
 Int))
 [])
 (0 :
 Nat)
 (0 :
 Int)))))
 (IntKind.bits
 IntKind.i64)) ==
 List.getD
 (List.getD
 (codL
 (lensN
 nums))
 (Int.toNat
 (↑x29 :
 Int))
 [])
 (1 :
 Nat)
 (0 :
 Int)) =
 true →
 false =
 true) ∧
 ((Int.fdiv
 (List.getD
 (List.getD
 (codL
 (lensN
 nums))
 (Int.toNat
 (↑(kI
 (lensN
 nums)
 g27) :
 Int))
 [])
 (1 :
 Nat)
 (0 :
 Int))
 ((2 :
 Int) ^
 min
 (Int.toNat
 (IntKind.wrap
 IntKind.u64
 (IntKind.wrap
 IntKind.i64
 (List.getD
 (List.getD
 (codL
 (lensN
 nums))
 (Int.toNat
 (↑(kI
 (lensN
 nums)
 g27) :
 Int))
 [])
 (0 :
 Nat)
 (0 :
 Int) -
 List.getD
 (List.getD
 (codL
 (lensN
 nums))
 (Int.toNat
 (↑x29 :
 Int))
 [])
 (0 :
 Nat)
 (0 :
 Int)))))
 (IntKind.bits
 IntKind.i64)) ==
 List.getD
 (List.getD
 (codL
 (lensN
 nums))
 (Int.toNat
 (↑x29 :
 Int))
 [])
 (1 :
 Nat)
 (0 :
 Int)) =
 false →
 (0 : Int) ≤
 (↑x29 :
 Int) ∧
 (↑x29 :
 Int) <
 (↑(List.length
 (codL
 (lensN
 nums))) :
 Int) ∧
 Int.toNat
 (↑x29 :
 Int) <
 List.length
 (codL
 (lensN
 nums)) ∧
 (0 :
 Int) ≤
 (↑(kI
 (lensN
 nums)
 g27) :
 Int) ∧
 (↑(kI
 (lensN
 nums)
 g27) :
 Int) <
 (↑(List.length
 (codL
 (lensN
 nums))) :
 Int) ∧
 Int.toNat
 (↑(kI
 (lensN
 nums)
 g27) :
 Int) <
 List.length
 (codL
 (lensN
 nums)) ∧
 ((List.getD
 (List.getD
 (codL
 (lensN
 nums))
 (Int.toNat
 (↑x29 :
 Int))
 [])
 (0 :
 Nat)
 (0 :
 Int) ==
 List.getD
 (List.getD
 (codL
 (lensN
 nums))
 (Int.toNat
 (↑(kI
 (lensN
 nums)
 g27) :
 Int))
 [])
 (0 :
 Nat)
 (0 :
 Int)) =
 true →
 (0 :
 Int) ≤
 (↑x29 :
 Int) ∧
 (↑x29 :
 Int) <
 (↑(List.length
 (codL
 (lensN
 nums))) :
 Int) ∧
 Int.toNat
 (↑x29 :
 Int) <
 List.length
 (codL
 (lensN
 nums)) ∧
 (0 :
 Int) ≤
 (↑(kI
 (lensN
 nums)
 g27) :
 Int) ∧
 (↑(kI
 (lensN
 nums)
 g27) :
 Int) <
 (↑(List.length
 (codL
 (lensN
 nums))) :
 Int) ∧
 Int.toNat
 (↑(kI
 (lensN
 nums)
 g27) :
 Int) <
 List.length
 (codL
 (lensN
 nums)) ∧
 ((List.getD
 (List.getD
 (codL
 (lensN
 nums))
 (Int.toNat
 (↑x29 :
 Int))
 [])
 (1 :
 Nat)
 (0 :
 Int) ==
 List.getD
 (List.getD
 (codL
 (lensN
 nums))
 (Int.toNat
 (↑(kI
 (lensN
 nums)
 g27) :
 Int))
 [])
 (1 :
 Nat)
 (0 :
 Int)) =
 true →
 false =
 true) ∧
 ((List.getD
 (List.getD
 (codL
 (lensN
 nums))
 (Int.toNat
 (↑x29 :
 Int))
 [])
 (1 :
 Nat)
 (0 :
 Int) ==
 List.getD
 (List.getD
 (codL
 (lensN
 nums))
 (Int.toNat
 (↑(kI
 (lensN
 nums)
 g27) :
 Int))
 [])
 (1 :
 Nat)
 (0 :
 Int)) =
 false →
 ∃
 (y32
 :
 Nat),
 (g27 <
 nI
 (lensN
 nums) ∧
 y32 ≤
 List.length
 (lensN
 nums)) ∧
 Nat.sub
 (List.length
 (lensN
 nums))
 y32 <
 Nat.sub
 (List.length
 (lensN
 nums))
 x29 ∧
 (↑(kI
 (lensN
 nums)
 g27) :
 Int) =
 (↑(kI
 (lensN
 nums)
 g27) :
 Int) ∧
 IntKind.wrap
 IntKind.i64
 ((↑x29 :
 Int) +
 (1 :
 Int)) =
 (↑y32 :
 Int) ∧
 codL
 (lensN
 nums) =
 codL
 (lensN
 nums))) ∧
 ((List.getD
 (List.getD
 (codL
 (lensN
 nums))
 (Int.toNat
 (↑x29 :
 Int))
 [])
 (0 :
 Nat)
 (0 :
 Int) ==
 List.getD
 (List.getD
 (codL
 (lensN
 nums))
 (Int.toNat
 (↑(kI
 (lensN
 nums)
 g27) :
 Int))
 [])
 (0 :
 Nat)
 (0 :
 Int)) =
 false →
 ∃
 (y33
 :
 Nat),
 (g27 <
 nI
 (lensN
 nums) ∧
 y33 ≤
 List.length
 (lensN
 nums)) ∧
 Nat.sub
 (List.length
 (lensN
 nums))
 y33 <
 Nat.sub
 (List.length
 (lensN
 nums))
 x29 ∧
 (↑(kI
 (lensN
 nums)
 g27) :
 Int) =
 (↑(kI
 (lensN
 nums)
 g27) :
 Int) ∧
 IntKind.wrap
 IntKind.i64
 ((↑x29 :
 Int) +
 (1 :
 Int)) =
 (↑y33 :
 Int) ∧
 codL
 (lensN
 nums) =
 codL
 (lensN
 nums)))) ∧
 (decide
 (List.getD
 (List.getD (codL (lensN nums))
 (Int.toNat (↑x29 : Int)) [])
 (0 : Nat) (0 : Int) <
 List.getD
 (List.getD (codL (lensN nums))
 (Int.toNat
 (↑(kI (lensN nums) g27) :
 Int))
 [])
 (0 : Nat) (0 : Int)) =
 false →
 (0 : Int) ≤ (↑x29 : Int) ∧
 (↑x29 : Int) <
 (↑(List.length
 (codL (lensN nums))) :
 Int) ∧
 Int.toNat (↑x29 : Int) <
 List.length (codL (lensN nums)) ∧
 (0 : Int) ≤
 (↑(kI (lensN nums) g27) : Int) ∧
 (↑(kI (lensN nums) g27) : Int) <
 (↑(List.length
 (codL (lensN nums))) :
 Int) ∧
 Int.toNat
 (↑(kI (lensN nums) g27) :
 Int) <
 List.length
 (codL (lensN nums)) ∧
 ((List.getD
 (List.getD
 (codL
 (lensN nums))
 (Int.toNat
 (↑x29 : Int))
 [])
 (0 : Nat)
 (0 : Int) ==
 List.getD
 (List.getD
 (codL
 (lensN nums))
 (Int.toNat
 (↑(kI
 (lensN
 nums)
 g27) :
 Int))
 [])
 (0 : Nat)
 (0 : Int)) =
 true →
 (0 : Int) ≤ (↑x29 : Int) ∧
 (↑x29 : Int) <
 (↑(List.length
 (codL
 (lensN
 nums))) :
 Int) ∧
 Int.toNat
 (↑x29 : Int) <
 List.length
 (codL
 (lensN
 nums)) ∧
 (0 : Int) ≤
 (↑(kI
 (lensN
 nums)
 g27) :
 Int) ∧
 (↑(kI (lensN nums)
 g27) :
 Int) <
 (↑(List.length
 (codL
 (lensN
 nums))) :
 Int) ∧
 Int.toNat
 (↑(kI
 (lensN
 nums)
 g27) :
 Int) <
 List.length
 (codL
 (lensN
 nums)) ∧
 ((List.getD
 (List.getD
 (codL
 (lensN
 nums))
 (Int.toNat
 (↑x29 :
 Int))
 [])
 (1 :
 Nat)
 (0 :
 Int) ==
 List.getD
 (List.getD
 (codL
 (lensN
 nums))
 (Int.toNat
 (↑(kI
 (lensN
 nums)
 g27) :
 Int))
 [])
 (1 :
 Nat)
 (0 :
 Int)) =
 true →
 false =
 true) ∧
 ((List.getD
 (List.getD
 (codL
 (lensN
 nums))
 (Int.toNat
 (↑x29 :
 Int))
 [])
 (1 :
 Nat)
 (0 :
 Int) ==
 List.getD
 (List.getD
 (codL
 (lensN
 nums))
 (Int.toNat
 (↑(kI
 (lensN
 nums)
 g27) :
 Int))
 [])
 (1 :
 Nat)
 (0 :
 Int)) =
 false →
 ∃ (y34 :
 Nat),
 (g27 <
 nI
 (lensN
 nums) ∧
 y34 ≤
 List.length
 (lensN
 nums)) ∧
 Nat.sub
 (List.length
 (lensN
 nums))
 y34 <
 Nat.sub
 (List.length
 (lensN
 nums))
 x29 ∧
 (↑(kI
 (lensN
 nums)
 g27) :
 Int) =
 (↑(kI
 (lensN
 nums)
 g27) :
 Int) ∧
 IntKind.wrap
 IntKind.i64
 ((↑x29 :
 Int) +
 (1 :
 Int)) =
 (↑y34 :
 Int) ∧
 codL
 (lensN
 nums) =
 codL
 (lensN
 nums))) ∧
 ((List.getD
 (List.getD
 (codL
 (lensN nums))
 (Int.toNat
 (↑x29 : Int))
 [])
 (0 : Nat)
 (0 : Int) ==
 List.getD
 (List.getD
 (codL
 (lensN nums))
 (Int.toNat
 (↑(kI
 (lensN
 nums)
 g27) :
 Int))
 [])
 (0 : Nat)
 (0 : Int)) =
 false →
 ∃ (y35 : Nat),
 (g27 < nI (lensN nums) ∧
 y35 ≤
 List.length
 (lensN nums)) ∧
 Nat.sub
 (List.length
 (lensN nums))
 y35 <
 Nat.sub
 (List.length
 (lensN nums))
 x29 ∧
 (↑(kI (lensN nums)
 g27) :
 Int) =
 (↑(kI
 (lensN
 nums)
 g27) :
 Int) ∧
 IntKind.wrap
 IntKind.i64
 ((↑x29 :
 Int) +
 (1 :
 Int)) =
 (↑y35 : Int) ∧
 codL
 (lensN
 nums) =
 codL
 (lensN
 nums)))))) ∧
 (decide ((↑x29 : Int) < (↑(List.length (codL (lensN nums))) : Int)) =
 false →
 true = true))))))))))))))) ∧
 (¬chk (lensN nums) = (0 : Int) →
 List.length (lensN nums) ≤ (4294967296 : Nat) ∧
 ((chk (lensN nums) != (0 : Int)) = true → false = true) ∧
 ((chk (lensN nums) != (0 : Int)) = false →
 ((chk (lensN nums) != (0 : Int)) = true → false = true) ∧
 ((chk (lensN nums) != (0 : Int)) = false →
 ((chk (lensN nums) != (0 : Int)) = true → false = true) ∧
 ((chk (lensN nums) != (0 : Int)) = false →
 (((0 : Int) != (↑(List.length (lensN nums)) : Int)) = true → false = true) ∧
 (((0 : Int) != (↑(List.length (lensN nums)) : Int)) = false →
 (decide (mostI (lensN nums) < (1 : Int)) = true → false = true) ∧
 (decide (mostI (lensN nums) < (1 : Int)) = false →
 (decide (mostI (lensN nums) > (11 : Int)) = true → false = true) ∧
 (decide (mostI (lensN nums) > (11 : Int)) = false →
 (0 : Int) ≤ IntKind.wrap IntKind.u64 (mostI (lensN nums)) ∧
 (((0 : Int) != IntKind.wrap IntKind.i64 ((1 : Int) * (2 : Int) ^ min (Int.toNat (IntKind.wrap IntKind.u64 (mostI (lensN nums)))) (IntKind.bits IntKind.i64))) =
 true →
 false = true) ∧
 (((0 : Int) !=
 IntKind.wrap IntKind.i64 ((1 : Int) * (2 : Int) ^ min (Int.toNat (IntKind.wrap IntKind.u64 (mostI (lensN nums)))) (IntKind.bits IntKind.i64))) =
 false →
 (0 : Int) ≤ (4611686018427387904 : Int) ∧
 ∃ (g36 : Nat × Nat),
 (False ∧
 False ∧
 False ∧
 ∃ (x37 : Unit),
 (g36.fst < nI (lensN nums) ∧ aI (lensN nums) g36.fst ≤ g36.snd ∧ g36.snd < aI (lensN nums) g36.fst + wI (lensN nums) g36.fst) ∧
 mostI (lensN nums) = mostI (lensN nums) ∧
 md cell (0 : Int) = (↑g36.snd : Int) ∧
 False ∧ List.length (codL (lensN nums)) = (0 : Nat) ∧ List.length (tblL (lensN nums)) = (0 : Nat)) ∧
 ∀ (x38 : Unit),
 g36.fst < nI (lensN nums) ∧ aI (lensN nums) g36.fst ≤ g36.snd ∧ g36.snd < aI (lensN nums) g36.fst + wI (lensN nums) g36.fst →
 (decide ((↑(kI (lensN nums) g36.fst) : Int) < (0 : Int)) = true → false = true) ∧
 (decide ((↑(kI (lensN nums) g36.fst) : Int) < (0 : Int)) = false →
 (decide ((↑(kI (lensN nums) g36.fst) : Int) ≥ (↑(List.length (codL (lensN nums))) : Int)) = true → false = true) ∧
 (decide ((↑(kI (lensN nums) g36.fst) : Int) ≥ (↑(List.length (codL (lensN nums))) : Int)) = false →
 (0 : Int) ≤ (↑(kI (lensN nums) g36.fst) : Int) ∧
 (↑(kI (lensN nums) g36.fst) : Int) < (↑(List.length (codL (lensN nums))) : Int) ∧
 Int.toNat (↑(kI (lensN nums) g36.fst) : Int) < List.length (codL (lensN nums)) ∧
 (decide
 (List.getD (List.getD (codL (lensN nums)) (Int.toNat (↑(kI (lensN nums) g36.fst) : Int)) []) (0 : Nat) (0 : Int) <
 (1 : Int)) =
 true →
 false = true) ∧
 (decide
 (List.getD (List.getD (codL (lensN nums)) (Int.toNat (↑(kI (lensN nums) g36.fst) : Int)) []) (0 : Nat) (0 : Int) <
 (1 : Int)) =
 false →
 (0 : Int) ≤ (↑(kI (lensN nums) g36.fst) : Int) ∧
 (↑(kI (lensN nums) g36.fst) : Int) < (↑(List.length (codL (lensN nums))) : Int) ∧
 Int.toNat (↑(kI (lensN nums) g36.fst) : Int) < List.length (codL (lensN nums)) ∧
 (decide
 (List.getD (List.getD (codL (lensN nums)) (Int.toNat (↑(kI (lensN nums) g36.fst) : Int)) []) (0 : Nat) (0 : Int) >
 mostI (lensN nums)) =
 true →
 false = true) ∧
 (decide
 (List.getD (List.getD (codL (lensN nums)) (Int.toNat (↑(kI (lensN nums) g36.fst) : Int)) []) (0 : Nat) (0 : Int) >
 mostI (lensN nums)) =
 false →
 (0 : Int) ≤ (↑g36.snd : Int) ∧
 (↑g36.snd : Int) < (↑(List.length (tblL (lensN nums))) : Int) ∧
 Int.toNat (↑g36.snd : Int) < List.length (tblL (lensN nums)) ∧
 (0 : Int) ≤ (↑(kI (lensN nums) g36.fst) : Int) ∧
 (↑(kI (lensN nums) g36.fst) : Int) < (↑(List.length (codL (lensN nums))) : Int) ∧
 Int.toNat (↑(kI (lensN nums) g36.fst) : Int) < List.length (codL (lensN nums)) ∧
 ((List.getD (List.getD (tblL (lensN nums)) (Int.toNat (↑g36.snd : Int)) []) (1 : Nat) (0 : Int) !=
 List.getD (List.getD (codL (lensN nums)) (Int.toNat (↑(kI (lensN nums) g36.fst) : Int)) [])
 (0 : Nat) (0 : Int)) =
 true →
 false = true) ∧
 ((List.getD (List.getD (tblL (lensN nums)) (Int.toNat (↑g36.snd : Int)) []) (1 : Nat) (0 : Int) !=
 List.getD (List.getD (codL (lensN nums)) (Int.toNat (↑(kI (lensN nums) g36.fst) : Int)) [])
 (0 : Nat) (0 : Int)) =
 false →
 (0 : Int) ≤ (↑(kI (lensN nums) g36.fst) : Int) ∧
 (↑(kI (lensN nums) g36.fst) : Int) < (↑(List.length (codL (lensN nums))) : Int) ∧
 Int.toNat (↑(kI (lensN nums) g36.fst) : Int) < List.length (codL (lensN nums)) ∧
 (0 : Int) ≤
 IntKind.wrap IntKind.u64
 (IntKind.wrap IntKind.i64
 (mostI (lensN nums) -
 List.getD
 (List.getD (codL (lensN nums)) (Int.toNat (↑(kI (lensN nums) g36.fst) : Int)) [])
 (0 : Nat) (0 : Int))) ∧
 (0 : Int) ≤ (↑(kI (lensN nums) g36.fst) : Int) ∧
 (↑(kI (lensN nums) g36.fst) : Int) < (↑(List.length (codL (lensN nums))) : Int) ∧
 Int.toNat (↑(kI (lensN nums) g36.fst) : Int) < List.length (codL (lensN nums)) ∧
 ((Int.fdiv (↑g36.snd : Int)
 ((2 : Int) ^
 min
 (Int.toNat
 (IntKind.wrap IntKind.u64
 (IntKind.wrap IntKind.i64
 (mostI (lensN nums) -
 List.getD
 (List.getD (codL (lensN nums))
 (Int.toNat (↑(kI (lensN nums) g36.fst) : Int)) [])
 (0 : Nat) (0 : Int)))))
 (IntKind.bits IntKind.i64)) !=
 List.getD
 (List.getD (codL (lensN nums)) (Int.toNat (↑(kI (lensN nums) g36.fst) : Int))
 [])
 (1 : Nat) (0 : Int)) =
 true →
 false = true) ∧
 ((Int.fdiv (↑g36.snd : Int)
 ((2 : Int) ^
 min
 (Int.toNat
 (IntKind.wrap IntKind.u64
 (IntKind.wrap IntKind.i64
 (mostI (lensN nums) -
 List.getD
 (List.getD (codL (lensN nums))
 (Int.toNat (↑(kI (lensN nums) g36.fst) : Int)) [])
 (0 : Nat) (0 : Int)))))
 (IntKind.bits IntKind.i64)) !=
 List.getD
 (List.getD (codL (lensN nums)) (Int.toNat (↑(kI (lensN nums) g36.fst) : Int))
 [])
 (1 : Nat) (0 : Int)) =
 false →
 ∃ (g39 : Nat),
 (∃ (x40 : Nat),
 (g39 < nI (lensN nums) ∧ x40 ≤ List.length (lensN nums)) ∧
 (↑(kI (lensN nums) g36.fst) : Int) = (↑(kI (lensN nums) g39) : Int) ∧
 (0 : Int) = (↑x40 : Int) ∧ codL (lensN nums) = codL (lensN nums)) ∧
 ∀ (x41 : Nat),
 g39 < nI (lensN nums) ∧ x41 ≤ List.length (lensN nums) →
 (decide ((↑x41 : Int) < (↑(List.length (codL (lensN nums))) : Int)) = true →
 (((↑x41 : Int) == (↑(kI (lensN nums) g39) : Int)) = true →
 ∃ (y42 : Nat),
 (g39 < nI (lensN nums) ∧ y42 ≤ List.length (lensN nums)) ∧
 Nat.sub (List.length (lensN nums)) y42 <
 Nat.sub (List.length (lensN nums)) x41 ∧
 (↑(kI (lensN nums) g39) : Int) =
 (↑(kI (lensN nums) g39) : Int) ∧
 IntKind.wrap IntKind.i64 ((↑x41 : Int) + (1 : Int)) =
 (↑y42 : Int) ∧
 codL (lensN nums) = codL (lensN nums)) ∧
 (((↑x41 : Int) == (↑(kI (lensN nums) g39) : Int)) = false →
 (0 : Int) ≤ (↑x41 : Int) ∧
 (↑x41 : Int) < (↑(List.length (codL (lensN nums))) : Int) ∧
 Int.toNat (↑x41 : Int) < List.length (codL (lensN nums)) ∧
 ((List.getD
 (List.getD (codL (lensN nums))
 (Int.toNat (↑x41 : Int)) [])
 (0 : Nat) (0 : Int) ==
 (0 : Int)) =
 true →
 ∃ (y43 : Nat),
 (g39 < nI (lensN nums) ∧
 y43 ≤ List.length (lensN nums)) ∧
 Nat.sub (List.length (lensN nums)) y43 <
 Nat.sub (List.length (lensN nums)) x41 ∧
 (↑(kI (lensN nums) g39) : Int) =
 (↑(kI (lensN nums) g39) : Int) ∧
 IntKind.wrap IntKind.i64
 ((↑x41 : Int) + (1 : Int)) =
 (↑y43 : Int) ∧
 codL (lensN nums) = codL (lensN nums)) ∧
 ((List.getD
 (List.getD (codL (lensN nums))
 (Int.toNat (↑x41 : Int)) [])
 (0 : Nat) (0 : Int) ==
 (0 : Int)) =
 false →
 (0 : Int) ≤ (↑x41 : Int) ∧
 (↑x41 : Int) <
 (↑(List.length (codL (lensN nums))) : Int) ∧
 Int.toNat (↑x41 : Int) <
 List.length (codL (lensN nums)) ∧
 (0 : Int) ≤ (↑(kI (lensN nums) g39) : Int) ∧
 (↑(kI (lensN nums) g39) : Int) <
 (↑(List.length (codL (lensN nums))) : Int) ∧
 Int.toNat (↑(kI (lensN nums) g39) : Int) <
 List.length (codL (lensN nums)) ∧
 (decide
 (List.getD
 (List.getD (codL (lensN nums))
 (Int.toNat (↑x41 : Int)) [])
 (0 : Nat) (0 : Int) <
 List.getD
 (List.getD (codL (lensN nums))
 (Int.toNat
 (↑(kI (lensN nums) g39) :
 Int))
 [])
 (0 : Nat) (0 : Int)) =
 true →
 (0 : Int) ≤
 (↑(kI (lensN nums) g39) : Int) ∧
 (↑(kI (lensN nums) g39) : Int) <
 (↑(List.length
 (codL (lensN nums))) :
 Int) ∧
 Int.toNat
 (↑(kI (lensN nums) g39) : Int) <
 List.length (codL (lensN nums)) ∧
 (0 : Int) ≤
 (↑(kI (lensN nums) g39) : Int) ∧
 (↑(kI (lensN nums) g39) : Int) <
 (↑(List.length
 (codL (lensN nums))) :
 Int) ∧
 Int.toNat
 (↑(kI (lensN nums) g39) :
 Int) <
 List.length
 (codL (lensN nums)) ∧
 (0 : Int) ≤ (↑x41 : Int) ∧
 (↑x41 : Int) <
 (↑(List.length
 (codL
 (lensN nums))) :
 Int) ∧
 Int.toNat (↑x41 : Int) <
 List.length
 (codL
 (lensN nums)) ∧
 (0 : Int) ≤
 IntKind.wrap
 IntKind.u64
 (IntKind.wrap
 IntKind.i64
 (List.getD
 (List.getD
 (codL
 (lensN
 nums))
 (Int.toNat
 (↑(kI
 (lensN
 nums)
 g39) :
 Int))
 [])
 (0 : Nat)
 (0 : Int) -
 List.getD
 (List.getD
 (codL
 (lensN
 nums))
 (Int.toNat
 (↑x41 :
 Int))
 [])
 (0 : Nat)
 (0 :
 Int))) ∧
 (0 : Int) ≤
 (↑x41 : Int) ∧
 (↑x41 : Int) <
 (↑(List.length
 (codL
 (lensN
 nums))) :
 Int) ∧
 Int.toNat
 (↑x41 :
 Int) <
 List.length
 (codL
 (lensN
 nums)) ∧
 ((Int.fdiv
 (List.getD
 (List.getD
 (codL
 (lensN
 nums))
 (Int.toNat
 (↑(kI
 (lensN
 nums)
 g39) :
 Int))
 [])
 (1 :
 Nat)
 (0 :
 Int))
 ((2 :
 Int) ^
 min
 (Int.toNat
 (IntKind.wrap
 IntKind.u64
 (IntKind.wrap
 IntKind.i64
 (List.getD
 (List.getD
 (codL
 (lensN
 nums))
 (Int.toNat
 (↑(kI
 (lensN
 nums)
 g39) :
 Int))
 [])
 (0 :
 Nat)
 (0 :
 Int) -
 List.getD
 (List.getD
 (codL
 (lensN
 nums))
 (Int.toNat
 (↑x41 :
 Int))
 [])
 (0 :
 Nat)
 (0 :
 Int)))))
 (IntKind.bits
 IntKind.i64)) ==
 List.getD
 (List.getD
 (codL
 (lensN
 nums))
 (Int.toNat
 (↑x41 :
 Int))
 [])
 (1 :
 Nat)
 (0 :
 Int)) =
 true →
 false =
 true) ∧
 ((Int.fdiv
 (List.getD
 (List.getD
 (codL
 (lensN
 nums))
 (Int.toNat
 (↑(kI
 (lensN
 nums)
 g39) :
 Int))
 [])
 (1 :
 Nat)
 (0 :
 Int))
 ((2 :
 Int) ^
 min
 (Int.toNat
 (IntKind.wrap
 IntKind.u64
 (IntKind.wrap
 IntKind.i64
 (List.getD
 (List.getD
 (codL
 (lensN
 nums))
 (Int.toNat
 (↑(kI
 (lensN
 nums)
 g39) :
 Int))
 [])
 (0 :
 Nat)
 (0 :
 Int) -
 List.getD
 (List.getD
 (codL
 (lensN
 nums))
 (Int.toNat
 (↑x41 :
 Int))
 [])
 (0 :
 Nat)
 (0 :
 Int)))))
 (IntKind.bits
 IntKind.i64)) ==
 List.getD
 (List.getD
 (codL
 (lensN
 nums))
 (Int.toNat
 (↑x41 :
 Int))
 [])
 (1 :
 Nat)
 (0 :
 Int)) =
 false →
 (0 : Int) ≤
 (↑x41 :
 Int) ∧
 (↑x41 :
 Int) <
 (↑(List.length
 (codL
 (lensN
 nums))) :
 Int) ∧
 Int.toNat
 (↑x41 :
 Int) <
 List.length
 (codL
 (lensN
 nums)) ∧
 (0 :
 Int) ≤
 (↑(kI
 (lensN
 nums)
 g39) :
 Int) ∧
 (↑(kI
 (lensN
 nums)
 g39) :
 Int) <
 (↑(List.length
 (codL
 (lensN
 nums))) :
 Int) ∧
 Int.toNat
 (↑(kI
 (lensN
 nums)
 g39) :
 Int) <
 List.length
 (codL
 (lensN
 nums)) ∧
 ((List.getD
 (List.getD
 (codL
 (lensN
 nums))
 (Int.toNat
 (↑x41 :
 Int))
 [])
 (0 :
 Nat)
 (0 :
 Int) ==
 List.getD
 (List.getD
 (codL
 (lensN
 nums))
 (Int.toNat
 (↑(kI
 (lensN
 nums)
 g39) :
 Int))
 [])
 (0 :
 Nat)
 (0 :
 Int)) =
 true →
 (0 :
 Int) ≤
 (↑x41 :
 Int) ∧
 (↑x41 :
 Int) <
 (↑(List.length
 (codL
 (lensN
 nums))) :
 Int) ∧
 Int.toNat
 (↑x41 :
 Int) <
 List.length
 (codL
 (lensN
 nums)) ∧
 (0 :
 Int) ≤
 (↑(kI
 (lensN
 nums)
 g39) :
 Int) ∧
 (↑(kI
 (lensN
 nums)
 g39) :
 Int) <
 (↑(List.length
 (codL
 (lensN
 nums))) :
 Int) ∧
 Int.toNat
 (↑(kI
 (lensN
 nums)
 g39) :
 Int) <
 List.length
 (codL
 (lensN
 nums)) ∧
 ((List.getD
 (List.getD
 (codL
 (lensN
 nums))
 (Int.toNat
 (↑x41 :
 Int))
 [])
 (1 :
 Nat)
 (0 :
 Int) ==
 List.getD
 (List.getD
 (codL
 (lensN
 nums))
 (Int.toNat
 (↑(kI
 (lensN
 nums)
 g39) :
 Int))
 [])
 (1 :
 Nat)
 (0 :
 Int)) =
 true →
 false =
 true) ∧
 ((List.getD
 (List.getD
 (codL
 (lensN
 nums))
 (Int.toNat
 (↑x41 :
 Int))
 [])
 (1 :
 Nat)
 (0 :
 Int) ==
 List.getD
 (List.getD
 (codL
 (lensN
 nums))
 (Int.toNat
 (↑(kI
 (lensN
 nums)
 g39) :
 Int))
 [])
 (1 :
 Nat)
 (0 :
 Int)) =
 false →
 ∃
 (y44
 :
 Nat),
 (g39 <
 nI
 (lensN
 nums) ∧
 y44 ≤
 List.length
 (lensN
 nums)) ∧
 Nat.sub
 (List.length
 (lensN
 nums))
 y44 <
 Nat.sub
 (List.length
 (lensN
 nums))
 x41 ∧
 (↑(kI
 (lensN
 nums)
 g39) :
 Int) =
 (↑(kI
 (lensN
 nums)
 g39) :
 Int) ∧
 IntKind.wrap
 IntKind.i64
 ((↑x41 :
 Int) +
 (1 :
 Int)) =
 (↑y44 :
 Int) ∧
 codL
 (lensN
 nums) =
 codL
 (lensN
 nums))) ∧
 ((List.getD
 (List.getD
 (codL
 (lensN
 nums))
 (Int.toNat
 (↑x41 :
 Int))
 [])
 (0 :
 Nat)
 (0 :
 Int) ==
 List.getD
 (List.getD
 (codL
 (lensN
 nums))
 (Int.toNat
 (↑(kI
 (lensN
 nums)
 g39) :
 Int))
 [])
 (0 :
 Nat)
 (0 :
 Int)) =
 false →
 ∃
 (y45
 :
 Nat),
 (g39 <
 nI
 (lensN
 nums) ∧
 y45 ≤
 List.length
 (lensN
 nums)) ∧
 Nat.sub
 (List.length
 (lensN
 nums))
 y45 <
 Nat.sub
 (List.length
 (lensN
 nums))
 x41 ∧
 (↑(kI
 (lensN
 nums)
 g39) :
 Int) =
 (↑(kI
 (lensN
 nums)
 g39) :
 Int) ∧
 IntKind.wrap
 IntKind.i64
 ((↑x41 :
 Int) +
 (1 :
 Int)) =
 (↑y45 :
 Int) ∧
 codL
 (lensN
 nums) =
 codL
 (lensN
 nums)))) ∧
 (decide
 (List.getD
 (List.getD (codL (lensN nums))
 (Int.toNat (↑x41 : Int)) [])
 (0 : Nat) (0 : Int) <
 List.getD
 (List.getD (codL (lensN nums))
 (Int.toNat
 (↑(kI (lensN nums) g39) :
 Int))
 [])
 (0 : Nat) (0 : Int)) =
 false →
 (0 : Int) ≤ (↑x41 : Int) ∧
 (↑x41 : Int) <
 (↑(List.length
 (codL (lensN nums))) :
 Int) ∧
 Int.toNat (↑x41 : Int) <
 List.length (codL (lensN nums)) ∧
 (0 : Int) ≤
 (↑(kI (lensN nums) g39) : Int) ∧
 (↑(kI (lensN nums) g39) : Int) <
 (↑(List.length
 (codL (lensN nums))) :
 Int) ∧
 Int.toNat
 (↑(kI (lensN nums) g39) :
 Int) <
 List.length
 (codL (lensN nums)) ∧
 ((List.getD
 (List.getD
 (codL
 (lensN nums))
 (Int.toNat
 (↑x41 : Int))
 [])
 (0 : Nat)
 (0 : Int) ==
 List.getD
 (List.getD
 (codL
 (lensN nums))
 (Int.toNat
 (↑(kI
 (lensN
 nums)
 g39) :
 Int))
 [])
 (0 : Nat)
 (0 : Int)) =
 true →
 (0 : Int) ≤ (↑x41 : Int) ∧
 (↑x41 : Int) <
 (↑(List.length
 (codL
 (lensN
 nums))) :
 Int) ∧
 Int.toNat
 (↑x41 : Int) <
 List.length
 (codL
 (lensN
 nums)) ∧
 (0 : Int) ≤
 (↑(kI
 (lensN
 nums)
 g39) :
 Int) ∧
 (↑(kI (lensN nums)
 g39) :
 Int) <
 (↑(List.length
 (codL
 (lensN
 nums))) :
 Int) ∧
 Int.toNat
 (↑(kI
 (lensN
 nums)
 g39) :
 Int) <
 List.length
 (codL
 (lensN
 nums)) ∧
 ((List.getD
 (List.getD
 (codL
 (lensN
 nums))
 (Int.toNat
 (↑x41 :
 Int))
 [])
 (1 :
 Nat)
 (0 :
 Int) ==
 List.getD
 (List.getD
 (codL
 (lensN
 nums))
 (Int.toNat
 (↑(kI
 (lensN
 nums)
 g39) :
 Int))
 [])
 (1 :
 Nat)
 (0 :
 Int)) =
 true →
 false =
 true) ∧
 ((List.getD
 (List.getD
 (codL
 (lensN
 nums))
 (Int.toNat
 (↑x41 :
 Int))
 [])
 (1 :
 Nat)
 (0 :
 Int) ==
 List.getD
 (List.getD
 (codL
 (lensN
 nums))
 (Int.toNat
 (↑(kI
 (lensN
 nums)
 g39) :
 Int))
 [])
 (1 :
 Nat)
 (0 :
 Int)) =
 false →
 ∃ (y46 :
 Nat),
 (g39 <
 nI
 (lensN
 nums) ∧
 y46 ≤
 List.length
 (lensN
 nums)) ∧
 Nat.sub
 (List.length
 (lensN
 nums))
 y46 <
 Nat.sub
 (List.length
 (lensN
 nums))
 x41 ∧
 (↑(kI
 (lensN
 nums)
 g39) :
 Int) =
 (↑(kI
 (lensN
 nums)
 g39) :
 Int) ∧
 IntKind.wrap
 IntKind.i64
 ((↑x41 :
 Int) +
 (1 :
 Int)) =
 (↑y46 :
 Int) ∧
 codL
 (lensN
 nums) =
 codL
 (lensN
 nums))) ∧
 ((List.getD
 (List.getD
 (codL
 (lensN nums))
 (Int.toNat
 (↑x41 : Int))
 [])
 (0 : Nat)
 (0 : Int) ==
 List.getD
 (List.getD
 (codL
 (lensN nums))
 (Int.toNat
 (↑(kI
 (lensN
 nums)
 g39) :
 Int))
 [])
 (0 : Nat)
 (0 : Int)) =
 false →
 ∃ (y47 : Nat),
 (g39 < nI (lensN nums) ∧
 y47 ≤
 List.length
 (lensN nums)) ∧
 Nat.sub
 (List.length
 (lensN nums))
 y47 <
 Nat.sub
 (List.length
 (lensN nums))
 x41 ∧
 (↑(kI (lensN nums)
 g39) :
 Int) =
 (↑(kI
 (lensN
 nums)
 g39) :
 Int) ∧
 IntKind.wrap
 IntKind.i64
 ((↑x41 :
 Int) +
 (1 :
 Int)) =
 (↑y47 : Int) ∧
 codL
 (lensN
 nums) =
 codL
 (lensN
 nums)))))) ∧
 (decide ((↑x41 : Int) < (↑(List.length (codL (lensN nums))) : Int)) =
 false →
 true = true))))))))))))))))
--end
theorem lawSt7_e (nums : List Int) (cell : Int) : lawSt7_t nums cell = vcG Try.prog (Gof G7g) (oSts (lensN nums)) Try.f3 [.dat (.ints .i64 nums), .v (.int .i64 cell)] [] (.leaf ((.v (.bool true))) ([])) := by kernel_rfl
def lawCe7_t (nums : List Int) : Prop :=
 (chk (lensN nums) = (0 : Int) →
 List.length (lensN nums) ≤ (4294967296 : Nat) ∧
 (chk (lensN nums) = (0 : Int) →
 List.length (lensN nums) ≤ (4294967296 : Nat) ∧
 List.length (lensN nums) ≤ (4294967296 : Nat) ∧
 (((0 : Int) != (0 : Int)) = true → false = true) ∧
 (((0 : Int) != (0 : Int)) = false →
 (((0 : Int) != (0 : Int)) = true → false = true) ∧
 (((0 : Int) != (0 : Int)) = false →
 ((chk (lensN nums) != (0 : Int)) = true → false = true) ∧
 ((chk (lensN nums) != (0 : Int)) = false →
 (((↑(List.length (codL (lensN nums))) : Int) != (↑(List.length (lensN nums)) : Int)) = true → false = true) ∧
 (((↑(List.length (codL (lensN nums))) : Int) != (↑(List.length (lensN nums)) : Int)) = false →
 (decide (mostI (lensN nums) < (1 : Int)) = true → false = true) ∧
 (decide (mostI (lensN nums) < (1 : Int)) = false →
 (decide (mostI (lensN nums) > (11 : Int)) = true → false = true) ∧
 (decide (mostI (lensN nums) > (11 : Int)) = false →
 (∃ (x0 : Nat),
 Nat.le x0 (nI (lensN nums)) ∧
 mostI (lensN nums) = mostI (lensN nums) ∧
 (0 : Int) = (↑(aI (lensN nums) x0) : Int) ∧ lensN nums = lensN nums ∧ tblL (lensN nums) = tblL (lensN nums) ∧ codL (lensN nums) = codL (lensN nums)) ∧
 ∀ (x1 : Nat),
 Nat.le x1 (nI (lensN nums)) →
 (decide ((↑(aI (lensN nums) x1) : Int) < (↑(List.length (tblL (lensN nums))) : Int)) = true →
 ∃ (g2 : Nat),
 ((0 : Int) ≤ (↑(aI (lensN nums) x1) : Int) ∧
 (↑(aI (lensN nums) x1) : Int) < (↑(List.length (tblL (lensN nums))) : Int) ∧
 Int.toNat (↑(aI (lensN nums) x1) : Int) < List.length (tblL (lensN nums)) ∧
 ∃ (x3 : Unit),
 Nat.le (Nat.succ g2) (nI (lensN nums)) ∧
 mostI (lensN nums) = mostI (lensN nums) ∧
 (↑(aI (lensN nums) x1) : Int) = (↑(aI (lensN nums) g2) : Int) ∧
 List.getD (List.getD (tblL (lensN nums)) (Int.toNat (↑(aI (lensN nums) x1) : Int)) []) (0 : Nat) (0 : Int) =
 (↑(kI (lensN nums) g2) : Int) ∧
 lensN nums = lensN nums ∧ tblL (lensN nums) = tblL (lensN nums) ∧ codL (lensN nums) = codL (lensN nums)) ∧
 ∀ (x4 : Unit),
 Nat.le (Nat.succ g2) (nI (lensN nums)) →
 (decide ((↑(kI (lensN nums) g2) : Int) < (0 : Int)) = true → false = true) ∧
 (decide ((↑(kI (lensN nums) g2) : Int) < (0 : Int)) = false →
 (decide ((↑(kI (lensN nums) g2) : Int) ≥ (↑(List.length (lensN nums)) : Int)) = true → false = true) ∧
 (decide ((↑(kI (lensN nums) g2) : Int) ≥ (↑(List.length (lensN nums)) : Int)) = false →
 (0 : Int) ≤ (↑(kI (lensN nums) g2) : Int) ∧
 (↑(kI (lensN nums) g2) : Int) < (↑(List.length (lensN nums)) : Int) ∧
 Int.toNat (↑(kI (lensN nums) g2) : Int) < List.length (lensN nums) ∧
 (decide (List.getD (lensN nums) (Int.toNat (↑(kI (lensN nums) g2) : Int)) (0 : Int) < (1 : Int)) = true → false = true) ∧
 (decide (List.getD (lensN nums) (Int.toNat (↑(kI (lensN nums) g2) : Int)) (0 : Int) < (1 : Int)) = false →
 (0 : Int) ≤ (↑(kI (lensN nums) g2) : Int) ∧
 (↑(kI (lensN nums) g2) : Int) < (↑(List.length (lensN nums)) : Int) ∧
 Int.toNat (↑(kI (lensN nums) g2) : Int) < List.length (lensN nums) ∧
 (decide (List.getD (lensN nums) (Int.toNat (↑(kI (lensN nums) g2) : Int)) (0 : Int) > mostI (lensN nums)) = true →
 false = true) ∧
 (decide (List.getD (lensN nums) (Int.toNat (↑(kI (lensN nums) g2) : Int)) (0 : Int) > mostI (lensN nums)) = false →
 (0 : Int) ≤ (↑(aI (lensN nums) g2) : Int) ∧
 (↑(aI (lensN nums) g2) : Int) < (↑(List.length (tblL (lensN nums))) : Int) ∧
 Int.toNat (↑(aI (lensN nums) g2) : Int) < List.length (tblL (lensN nums)) ∧
 ((List.getD (List.getD (tblL (lensN nums)) (Int.toNat (↑(aI (lensN nums) g2) : Int)) []) (2 : Nat)
 (0 : Int) !=
 (0 : Int)) =
 true →
 false = true) ∧
 ((List.getD (List.getD (tblL (lensN nums)) (Int.toNat (↑(aI (lensN nums) g2) : Int)) []) (2 : Nat)
 (0 : Int) !=
 (0 : Int)) =
 false →
 (0 : Int) ≤ (↑(kI (lensN nums) g2) : Int) ∧
 (↑(kI (lensN nums) g2) : Int) < (↑(List.length (lensN nums)) : Int) ∧
 Int.toNat (↑(kI (lensN nums) g2) : Int) < List.length (lensN nums) ∧
 (0 : Int) ≤
 IntKind.wrap IntKind.u64
 (IntKind.wrap IntKind.i64
 (mostI (lensN nums) -
 List.getD (lensN nums) (Int.toNat (↑(kI (lensN nums) g2) : Int)) (0 : Int))) ∧
 ∃ (g5 : Nat),
 (∃ (x6 : Nat),
 (g5 < nI (lensN nums) ∧ x6 ≤ wI (lensN nums) g5) ∧
 mostI (lensN nums) = mostI (lensN nums) ∧
 (↑(aI (lensN nums) g2) : Int) = (↑(aI (lensN nums) g5) : Int) ∧
 (↑(kI (lensN nums) g2) : Int) = (↑(kI (lensN nums) g5) : Int) ∧
 IntKind.wrap IntKind.i64
 ((1 : Int) *
 (2 : Int) ^
 min
 (Int.toNat
 (IntKind.wrap IntKind.u64
 (IntKind.wrap IntKind.i64
 (mostI (lensN nums) -
 List.getD (lensN nums) (Int.toNat (↑(kI (lensN nums) g2) : Int))
 (0 : Int)))))
 (IntKind.bits IntKind.i64)) =
 (↑(wI (lensN nums) g5) : Int) ∧
 (0 : Int) = (↑x6 : Int) ∧
 lensN nums = lensN nums ∧
 tblL (lensN nums) = tblL (lensN nums) ∧
 codL (lensN nums) = codL (lensN nums)) ∧
 ∀ (x7 : Nat),
 g5 < nI (lensN nums) ∧ x7 ≤ wI (lensN nums) g5 →
 (decide ((↑x7 : Int) < (↑(wI (lensN nums) g5) : Int)) = true →
 (decide
 (IntKind.wrap IntKind.i64 ((↑(aI (lensN nums) g5) : Int) + (↑x7 : Int)) ≥
 (↑(List.length (tblL (lensN nums))) : Int)) =
 true →
 false = true) ∧
 (decide
 (IntKind.wrap IntKind.i64 ((↑(aI (lensN nums) g5) : Int) + (↑x7 : Int)) ≥
 (↑(List.length (tblL (lensN nums))) : Int)) =
 false →
 (0 : Int) ≤
 IntKind.wrap IntKind.i64 ((↑(aI (lensN nums) g5) : Int) + (↑x7 : Int)) ∧
 IntKind.wrap IntKind.i64 ((↑(aI (lensN nums) g5) : Int) + (↑x7 : Int)) <
 (↑(List.length (tblL (lensN nums))) : Int) ∧
 Int.toNat
 (IntKind.wrap IntKind.i64
 ((↑(aI (lensN nums) g5) : Int) + (↑x7 : Int))) <
 List.length (tblL (lensN nums)) ∧
 (0 : Int) ≤ (↑(aI (lensN nums) g5) : Int) ∧
 (↑(aI (lensN nums) g5) : Int) <
 (↑(List.length (tblL (lensN nums))) : Int) ∧
 Int.toNat (↑(aI (lensN nums) g5) : Int) <
 List.length (tblL (lensN nums)) ∧
 ((!(List.getD
 (List.getD (tblL (lensN nums))
 (Int.toNat
 (IntKind.wrap IntKind.i64
 ((↑(aI (lensN nums) g5) : Int) + (↑x7 : Int))))
 [])
 ((0 : Nat)) (0 : Int) ==
 List.getD
 (List.getD (tblL (lensN nums))
 (Int.toNat (↑(aI (lensN nums) g5) : Int)) [])
 ((0 : Nat)) (0 : Int) &&
 (List.getD
 (List.getD (tblL (lensN nums))
 (Int.toNat
 (IntKind.wrap IntKind.i64
 ((↑(aI (lensN nums) g5) : Int) + (↑x7 : Int))))
 [])
 ((1 : Nat)) (0 : Int) ==
 List.getD
 (List.getD (tblL (lensN nums))
 (Int.toNat (↑(aI (lensN nums) g5) : Int)) [])
 ((1 : Nat)) (0 : Int) &&
 (List.getD
 (List.getD (tblL (lensN nums))
 (Int.toNat
 (IntKind.wrap IntKind.i64
 ((↑(aI (lensN nums) g5) : Int) +
 (↑x7 : Int))))
 [])
 ((2 : Nat)) (0 : Int) ==
 List.getD
 (List.getD (tblL (lensN nums))
 (Int.toNat (↑(aI (lensN nums) g5) : Int)) [])
 ((2 : Nat)) (0 : Int) &&
 true)))) =
 true →
 false = true) ∧
 ((!(List.getD
 (List.getD (tblL (lensN nums))
 (Int.toNat
 (IntKind.wrap IntKind.i64
 ((↑(aI (lensN nums) g5) : Int) + (↑x7 : Int))))
 [])
 ((0 : Nat)) (0 : Int) ==
 List.getD
 (List.getD (tblL (lensN nums))
 (Int.toNat (↑(aI (lensN nums) g5) : Int)) [])
 ((0 : Nat)) (0 : Int) &&
 (List.getD
 (List.getD (tblL (lensN nums))
 (Int.toNat
 (IntKind.wrap IntKind.i64
 ((↑(aI (lensN nums) g5) : Int) + (↑x7 : Int))))
 [])
 ((1 : Nat)) (0 : Int) ==
 List.getD
 (List.getD (tblL (lensN nums))
 (Int.toNat (↑(aI (lensN nums) g5) : Int)) [])
 ((1 : Nat)) (0 : Int) &&
 (List.getD
 (List.getD (tblL (lensN nums))
 (Int.toNat
 (IntKind.wrap IntKind.i64
 ((↑(aI (lensN nums) g5) : Int) +
 (↑x7 : Int))))
 [])
 ((2 : Nat)) (0 : Int) ==
 List.getD
 (List.getD (tblL (lensN nums))
 (Int.toNat (↑(aI (lensN nums) g5) : Int)) [])
 ((2 : Nat)) (0 : Int) &&
 true)))) =
 false →
 ∃ (y8 : Nat),
 (g5 < nI (lensN nums) ∧ y8 ≤ wI (lensN nums) g5) ∧
 Nat.sub (wI (lensN nums) g5) y8 <
 Nat.sub (wI (lensN nums) g5) x7 ∧
 mostI (lensN nums) = mostI (lensN nums) ∧
 (↑(aI (lensN nums) g5) : Int) =
 (↑(aI (lensN nums) g5) : Int) ∧
 (↑(kI (lensN nums) g5) : Int) =
 (↑(kI (lensN nums) g5) : Int) ∧
 (↑(wI (lensN nums) g5) : Int) =
 (↑(wI (lensN nums) g5) : Int) ∧
 IntKind.wrap IntKind.i64 ((↑x7 : Int) + (1 : Int)) =
 (↑y8 : Int) ∧
 lensN nums = lensN nums ∧
 tblL (lensN nums) = tblL (lensN nums) ∧
 codL (lensN nums) = codL (lensN nums)))) ∧
 (decide ((↑x7 : Int) < (↑(wI (lensN nums) g5) : Int)) = false →
 (decide
 (IntKind.wrap IntKind.i64
 ((↑(aI (lensN nums) g5) : Int) + (↑(wI (lensN nums) g5) : Int)) <
 (↑(List.length (tblL (lensN nums))) : Int)) =
 true →
 ∃ (g9 : Nat),
 ((0 : Int) ≤
 IntKind.wrap IntKind.i64
 ((↑(aI (lensN nums) g5) : Int) + (↑(wI (lensN nums) g5) : Int)) ∧
 IntKind.wrap IntKind.i64
 ((↑(aI (lensN nums) g5) : Int) + (↑(wI (lensN nums) g5) : Int)) <
 (↑(List.length (tblL (lensN nums))) : Int) ∧
 Int.toNat
 (IntKind.wrap IntKind.i64
 ((↑(aI (lensN nums) g5) : Int) + (↑(wI (lensN nums) g5) : Int))) <
 List.length (tblL (lensN nums)) ∧
 ∃ (x10 : Unit),
 Nat.le (Nat.succ (g9 + (1 : Nat))) (nI (lensN nums)) ∧
 mostI (lensN nums) = mostI (lensN nums) ∧
 IntKind.wrap IntKind.i64
 ((↑(aI (lensN nums) g5) : Int) +
 (↑(wI (lensN nums) g5) : Int)) =
 (↑(aI (lensN nums) (g9 + (1 : Nat))) : Int) ∧
 (↑(kI (lensN nums) g5) : Int) = (↑(kI (lensN nums) g9) : Int) ∧
 List.getD
 (List.getD (tblL (lensN nums))
 (Int.toNat
 (IntKind.wrap IntKind.i64
 ((↑(aI (lensN nums) g5) : Int) +
 (↑(wI (lensN nums) g5) : Int))))
 [])
 (0 : Nat) (0 : Int) =
 (↑(kI (lensN nums) (g9 + (1 : Nat))) : Int) ∧
 lensN nums = lensN nums ∧
 tblL (lensN nums) = tblL (lensN nums) ∧
 codL (lensN nums) = codL (lensN nums)) ∧
 ∀ (x11 : Unit),
 Nat.le (Nat.succ (g9 + (1 : Nat))) (nI (lensN nums)) →
 (decide ((↑(kI (lensN nums) (g9 + (1 : Nat))) : Int) < (0 : Int)) = true →
 false = true) ∧
 (decide ((↑(kI (lensN nums) (g9 + (1 : Nat))) : Int) < (0 : Int)) =
 false →
 (decide
 ((↑(kI (lensN nums) (g9 + (1 : Nat))) : Int) ≥
 (↑(List.length (lensN nums)) : Int)) =
 true →
 false = true) ∧
 (decide
 ((↑(kI (lensN nums) (g9 + (1 : Nat))) : Int) ≥
 (↑(List.length (lensN nums)) : Int)) =
 false →
 (0 : Int) ≤ (↑(kI (lensN nums) (g9 + (1 : Nat))) : Int) ∧
 (↑(kI (lensN nums) (g9 + (1 : Nat))) : Int) <
 (↑(List.length (lensN nums)) : Int) ∧
 Int.toNat (↑(kI (lensN nums) (g9 + (1 : Nat))) : Int) <
 List.length (lensN nums) ∧
 (0 : Int) ≤ (↑(kI (lensN nums) g9) : Int) ∧
 (↑(kI (lensN nums) g9) : Int) <
 (↑(List.length (lensN nums)) : Int) ∧
 Int.toNat (↑(kI (lensN nums) g9) : Int) <
 List.length (lensN nums) ∧
 (decide
 (List.getD (lensN nums)
 (Int.toNat
 (↑(kI (lensN nums) (g9 + (1 : Nat))) :
 Int))
 (0 : Int) >
 List.getD (lensN nums)
 (Int.toNat (↑(kI (lensN nums) g9) : Int))
 (0 : Int)) =
 true →
 false = true) ∧
 (decide
 (List.getD (lensN nums)
 (Int.toNat
 (↑(kI (lensN nums) (g9 + (1 : Nat))) :
 Int))
 (0 : Int) >
 List.getD (lensN nums)
 (Int.toNat (↑(kI (lensN nums) g9) : Int))
 (0 : Int)) =
 false →
 (0 : Int) ≤
 (↑(kI (lensN nums) (g9 + (1 : Nat))) : Int) ∧
 (↑(kI (lensN nums) (g9 + (1 : Nat))) : Int) <
 (↑(List.length (lensN nums)) : Int) ∧
 Int.toNat
 (↑(kI (lensN nums) (g9 + (1 : Nat))) :
 Int) <
 List.length (lensN nums) ∧
 (0 : Int) ≤ (↑(kI (lensN nums) g9) : Int) ∧
 (↑(kI (lensN nums) g9) : Int) <
 (↑(List.length (lensN nums)) : Int) ∧
 Int.toNat
 (↑(kI (lensN nums) g9) : Int) <
 List.length (lensN nums) ∧
 ((List.getD (lensN nums)
 (Int.toNat
 (↑(kI (lensN nums)
 (g9 + (1 : Nat))) :
 Int))
 (0 : Int) ==
 List.getD (lensN nums)
 (Int.toNat
 (↑(kI (lensN nums) g9) :
 Int))
 (0 : Int)) =
 true →
 (decide
 ((↑(kI (lensN nums)
 (g9 +
 (1 : Nat))) :
 Int) ≤
 (↑(kI (lensN nums) g9) :
 Int)) =
 true →
 false = true) ∧
 (decide
 ((↑(kI (lensN nums)
 (g9 +
 (1 : Nat))) :
 Int) ≤
 (↑(kI (lensN nums) g9) :
 Int)) =
 false →
 (0 : Int) ≤
 (↑(kI (lensN nums)
 (g9 + (1 : Nat))) :
 Int) ∧
 (↑(kI (lensN nums)
 (g9 +
 (1 : Nat))) :
 Int) <
 (↑(List.length
 (codL
 (lensN nums))) :
 Int) ∧
 Int.toNat
 (↑(kI (lensN nums)
 (g9 +
 (1 :
 Nat))) :
 Int) <
 List.length
 (codL
 (lensN nums)) ∧
 (0 : Int) ≤
 (↑(kI (lensN nums)
 g9) :
 Int) ∧
 (↑(kI (lensN nums)
 g9) :
 Int) <
 (↑(List.length
 (codL
 (lensN
 nums))) :
 Int) ∧
 Int.toNat
 (↑(kI
 (lensN
 nums)
 g9) :
 Int) <
 List.length
 (codL
 (lensN
 nums)) ∧
 ((List.getD
 (List.getD
 (codL
 (lensN
 nums))
 (Int.toNat
 (↑(kI
 (lensN
 nums)
 (g9 +
 (1 :
 Nat))) :
 Int))
 [])
 (1 :
 Nat)
 (0 :
 Int) !=
 IntKind.wrap
 IntKind.i64
 (List.getD
 (List.getD
 (codL
 (lensN
 nums))
 (Int.toNat
 (↑(kI
 (lensN
 nums)
 g9) :
 Int))
 [])
 (1 :
 Nat)
 (0 :
 Int) +
 (1 :
 Int))) =
 true →
 false =
 true) ∧
 ((List.getD
 (List.getD
 (codL
 (lensN
 nums))
 (Int.toNat
 (↑(kI
 (lensN
 nums)
 (g9 +
 (1 :
 Nat))) :
 Int))
 [])
 (1 :
 Nat)
 (0 :
 Int) !=
 IntKind.wrap
 IntKind.i64
 (List.getD
 (List.getD
 (codL
 (lensN
 nums))
 (Int.toNat
 (↑(kI
 (lensN
 nums)
 g9) :
 Int))
 [])
 (1 :
 Nat)
 (0 :
 Int) +
 (1 :
 Int))) =
 false →
 ∃ (y12 : Nat),
 Nat.le y12
 (nI
 (lensN
 nums)) ∧
 Nat.sub
 (nI
 (lensN
 nums))
 y12 <
 Nat.sub
 (nI
 (lensN
 nums))
 x1 ∧
 mostI
 (lensN
 nums) =
 mostI
 (lensN
 nums) ∧
 (↑(aI
 (lensN
 nums)
 (g9 +
 (1 :
 Nat))) :
 Int) =
 (↑(aI
 (lensN
 nums)
 y12) :
 Int) ∧
 lensN
 nums =
 lensN
 nums ∧
 tblL
 (lensN
 nums) =
 tblL
 (lensN
 nums) ∧
 codL
 (lensN
 nums) =
 codL
 (lensN
 nums)))) ∧
 ((List.getD (lensN nums)
 (Int.toNat
 (↑(kI (lensN nums)
 (g9 + (1 : Nat))) :
 Int))
 (0 : Int) ==
 List.getD (lensN nums)
 (Int.toNat
 (↑(kI (lensN nums) g9) :
 Int))
 (0 : Int)) =
 false →
 ∃ (y13 : Nat),
 Nat.le y13 (nI (lensN nums)) ∧
 Nat.sub (nI (lensN nums))
 y13 <
 Nat.sub (nI (lensN nums))
 x1 ∧
 mostI (lensN nums) =
 mostI (lensN nums) ∧
 (↑(aI (lensN nums)
 (g9 +
 (1 : Nat))) :
 Int) =
 (↑(aI (lensN nums)
 y13) :
 Int) ∧
 lensN nums =
 lensN nums ∧
 tblL (lensN nums) =
 tblL
 (lensN nums) ∧
 codL (lensN nums) =
 codL
 (lensN
 nums)))))) ∧
 (decide
 (IntKind.wrap IntKind.i64
 ((↑(aI (lensN nums) g5) : Int) + (↑(wI (lensN nums) g5) : Int)) <
 (↑(List.length (tblL (lensN nums))) : Int)) =
 false →
 ∃ (y14 : Nat),
 Nat.le y14 (nI (lensN nums)) ∧
 Nat.sub (nI (lensN nums)) y14 < Nat.sub (nI (lensN nums)) x1 ∧
 mostI (lensN nums) = mostI (lensN nums) ∧
 IntKind.wrap IntKind.i64
 ((↑(aI (lensN nums) g5) : Int) + (↑(wI (lensN nums) g5) : Int)) =
 (↑(aI (lensN nums) y14) : Int) ∧
 lensN nums = lensN nums ∧
 tblL (lensN nums) = tblL (lensN nums) ∧
 codL (lensN nums) = codL (lensN nums))))))))) ∧
 (decide ((↑(aI (lensN nums) x1) : Int) < (↑(List.length (tblL (lensN nums))) : Int)) = false → true = true)))))))) ∧
 (¬chk (lensN nums) = (0 : Int) →
 List.length (lensN nums) ≤ (4294967296 : Nat) ∧
 List.length (lensN nums) ≤ (4294967296 : Nat) ∧
 (((0 : Int) != (0 : Int)) = true → false = true) ∧
 (((0 : Int) != (0 : Int)) = false →
 ((chk (lensN nums) != (0 : Int)) = true → false = true) ∧
 ((chk (lensN nums) != (0 : Int)) = false →
 ((chk (lensN nums) != (0 : Int)) = true → false = true) ∧
 ((chk (lensN nums) != (0 : Int)) = false →
 (((0 : Int) != (↑(List.length (lensN nums)) : Int)) = true → false = true) ∧
 (((0 : Int) != (↑(List.length (lensN nums)) : Int)) = false →
 (decide (mostI (lensN nums) < (1 : Int)) = true → false = true) ∧
 (decide (mostI (lensN nums) < (1 : Int)) = false →
 (decide (mostI (lensN nums) > (11 : Int)) = true → false = true) ∧
 (decide (mostI (lensN nums) > (11 : Int)) = false →
 (∃ (x15 : Nat),
 Nat.le x15 (nI (lensN nums)) ∧
 mostI (lensN nums) = mostI (lensN nums) ∧
 (0 : Int) = (↑(aI (lensN nums) x15) : Int) ∧
 lensN nums = lensN nums ∧ tblL (lensN nums) = tblL (lensN nums) ∧ List.length (codL (lensN nums)) = (0 : Nat)) ∧
 ∀ (x16 : Nat),
 Nat.le x16 (nI (lensN nums)) →
 (decide ((↑(aI (lensN nums) x16) : Int) < (↑(List.length (tblL (lensN nums))) : Int)) = true →
 ∃ (g17 : Nat),
 ((0 : Int) ≤ (↑(aI (lensN nums) x16) : Int) ∧
 (↑(aI (lensN nums) x16) : Int) < (↑(List.length (tblL (lensN nums))) : Int) ∧
 Int.toNat (↑(aI (lensN nums) x16) : Int) < List.length (tblL (lensN nums)) ∧
 ∃ (x18 : Unit),
 Nat.le (Nat.succ g17) (nI (lensN nums)) ∧
 mostI (lensN nums) = mostI (lensN nums) ∧
 (↑(aI (lensN nums) x16) : Int) = (↑(aI (lensN nums) g17) : Int) ∧
 List.getD (List.getD (tblL (lensN nums)) (Int.toNat (↑(aI (lensN nums) x16) : Int)) []) (0 : Nat) (0 : Int) =
 (↑(kI (lensN nums) g17) : Int) ∧
 lensN nums = lensN nums ∧ tblL (lensN nums) = tblL (lensN nums) ∧ codL (lensN nums) = codL (lensN nums)) ∧
 ∀ (x19 : Unit),
 Nat.le (Nat.succ g17) (nI (lensN nums)) →
 (decide ((↑(kI (lensN nums) g17) : Int) < (0 : Int)) = true → false = true) ∧
 (decide ((↑(kI (lensN nums) g17) : Int) < (0 : Int)) = false →
 (decide ((↑(kI (lensN nums) g17) : Int) ≥ (↑(List.length (lensN nums)) : Int)) = true → false = true) ∧
 (decide ((↑(kI (lensN nums) g17) : Int) ≥ (↑(List.length (lensN nums)) : Int)) = false →
 (0 : Int) ≤ (↑(kI (lensN nums) g17) : Int) ∧
 (↑(kI (lensN nums) g17) : Int) < (↑(List.length (lensN nums)) : Int) ∧
 Int.toNat (↑(kI (lensN nums) g17) : Int) < List.length (lensN nums) ∧
 (decide (List.getD (lensN nums) (Int.toNat (↑(kI (lensN nums) g17) : Int)) (0 : Int) < (1 : Int)) = true → false = true) ∧
 (decide (List.getD (lensN nums) (Int.toNat (↑(kI (lensN nums) g17) : Int)) (0 : Int) < (1 : Int)) = false →
 (0 : Int) ≤ (↑(kI (lensN nums) g17) : Int) ∧
 (↑(kI (lensN nums) g17) : Int) < (↑(List.length (lensN nums)) : Int) ∧
 Int.toNat (↑(kI (lensN nums) g17) : Int) < List.length (lensN nums) ∧
 (decide (List.getD (lensN nums) (Int.toNat (↑(kI (lensN nums) g17) : Int)) (0 : Int) > mostI (lensN nums)) = true →
 false = true) ∧
 (decide (List.getD (lensN nums) (Int.toNat (↑(kI (lensN nums) g17) : Int)) (0 : Int) > mostI (lensN nums)) = false →
 (0 : Int) ≤ (↑(aI (lensN nums) g17) : Int) ∧
 (↑(aI (lensN nums) g17) : Int) < (↑(List.length (tblL (lensN nums))) : Int) ∧
 Int.toNat (↑(aI (lensN nums) g17) : Int) < List.length (tblL (lensN nums)) ∧
 ((List.getD (List.getD (tblL (lensN nums)) (Int.toNat (↑(aI (lensN nums) g17) : Int)) []) (2 : Nat)
 (0 : Int) !=
 (0 : Int)) =
 true →
 false = true) ∧
 ((List.getD (List.getD (tblL (lensN nums)) (Int.toNat (↑(aI (lensN nums) g17) : Int)) []) (2 : Nat)
 (0 : Int) !=
 (0 : Int)) =
 false →
 (0 : Int) ≤ (↑(kI (lensN nums) g17) : Int) ∧
 (↑(kI (lensN nums) g17) : Int) < (↑(List.length (lensN nums)) : Int) ∧
 Int.toNat (↑(kI (lensN nums) g17) : Int) < List.length (lensN nums) ∧
 (0 : Int) ≤
 IntKind.wrap IntKind.u64
 (IntKind.wrap IntKind.i64
 (mostI (lensN nums) -
 List.getD (lensN nums) (Int.toNat (↑(kI (lensN nums) g17) : Int)) (0 : Int))) ∧
 ∃ (g20 : Nat),
 (∃ (x21 : Nat),
 (g20 < nI (lensN nums) ∧ x21 ≤ wI (lensN nums) g20) ∧
 mostI (lensN nums) = mostI (lensN nums) ∧
 (↑(aI (lensN nums) g17) : Int) = (↑(aI (lensN nums) g20) : Int) ∧
 (↑(kI (lensN nums) g17) : Int) = (↑(kI (lensN nums) g20) : Int) ∧
 IntKind.wrap IntKind.i64
 ((1 : Int) *
 (2 : Int) ^
 min
 (Int.toNat
 (IntKind.wrap IntKind.u64
 (IntKind.wrap IntKind.i64
 (mostI (lensN nums) -
 List.getD (lensN nums)
 (Int.toNat (↑(kI (lensN nums) g17) : Int)) (0 : Int)))))
 (IntKind.bits IntKind.i64)) =
 (↑(wI (lensN nums) g20) : Int) ∧
 (0 : Int) = (↑x21 : Int) ∧
 lensN nums = lensN nums ∧
 tblL (lensN nums) = tblL (lensN nums) ∧
 codL (lensN nums) = codL (lensN nums)) ∧
 ∀ (x22 : Nat),
 g20 < nI (lensN nums) ∧ x22 ≤ wI (lensN nums) g20 →
 (decide ((↑x22 : Int) < (↑(wI (lensN nums) g20) : Int)) = true →
 (decide
 (IntKind.wrap IntKind.i64 ((↑(aI (lensN nums) g20) : Int) + (↑x22 : Int)) ≥
 (↑(List.length (tblL (lensN nums))) : Int)) =
 true →
 false = true) ∧
 (decide
 (IntKind.wrap IntKind.i64 ((↑(aI (lensN nums) g20) : Int) + (↑x22 : Int)) ≥
 (↑(List.length (tblL (lensN nums))) : Int)) =
 false →
 (0 : Int) ≤
 IntKind.wrap IntKind.i64 ((↑(aI (lensN nums) g20) : Int) + (↑x22 : Int)) ∧
 IntKind.wrap IntKind.i64 ((↑(aI (lensN nums) g20) : Int) + (↑x22 : Int)) <
 (↑(List.length (tblL (lensN nums))) : Int) ∧
 Int.toNat
 (IntKind.wrap IntKind.i64
 ((↑(aI (lensN nums) g20) : Int) + (↑x22 : Int))) <
 List.length (tblL (lensN nums)) ∧
 (0 : Int) ≤ (↑(aI (lensN nums) g20) : Int) ∧
 (↑(aI (lensN nums) g20) : Int) <
 (↑(List.length (tblL (lensN nums))) : Int) ∧
 Int.toNat (↑(aI (lensN nums) g20) : Int) <
 List.length (tblL (lensN nums)) ∧
 ((!(List.getD
 (List.getD (tblL (lensN nums))
 (Int.toNat
 (IntKind.wrap IntKind.i64
 ((↑(aI (lensN nums) g20) : Int) + (↑x22 : Int))))
 [])
 ((0 : Nat)) (0 : Int) ==
 List.getD
 (List.getD (tblL (lensN nums))
 (Int.toNat (↑(aI (lensN nums) g20) : Int)) [])
 ((0 : Nat)) (0 : Int) &&
 (List.getD
 (List.getD (tblL (lensN nums))
 (Int.toNat
 (IntKind.wrap IntKind.i64
 ((↑(aI (lensN nums) g20) : Int) +
 (↑x22 : Int))))
 [])
 ((1 : Nat)) (0 : Int) ==
 List.getD
 (List.getD (tblL (lensN nums))
 (Int.toNat (↑(aI (lensN nums) g20) : Int)) [])
 ((1 : Nat)) (0 : Int) &&
 (List.getD
 (List.getD (tblL (lensN nums))
 (Int.toNat
 (IntKind.wrap IntKind.i64
 ((↑(aI (lensN nums) g20) : Int) +
 (↑x22 : Int))))
 [])
 ((2 : Nat)) (0 : Int) ==
 List.getD
 (List.getD (tblL (lensN nums))
 (Int.toNat (↑(aI (lensN nums) g20) : Int)) [])
 ((2 : Nat)) (0 : Int) &&
 true)))) =
 true →
 false = true) ∧
 ((!(List.getD
 (List.getD (tblL (lensN nums))
 (Int.toNat
 (IntKind.wrap IntKind.i64
 ((↑(aI (lensN nums) g20) : Int) + (↑x22 : Int))))
 [])
 ((0 : Nat)) (0 : Int) ==
 List.getD
 (List.getD (tblL (lensN nums))
 (Int.toNat (↑(aI (lensN nums) g20) : Int)) [])
 ((0 : Nat)) (0 : Int) &&
 (List.getD
 (List.getD (tblL (lensN nums))
 (Int.toNat
 (IntKind.wrap IntKind.i64
 ((↑(aI (lensN nums) g20) : Int) +
 (↑x22 : Int))))
 [])
 ((1 : Nat)) (0 : Int) ==
 List.getD
 (List.getD (tblL (lensN nums))
 (Int.toNat (↑(aI (lensN nums) g20) : Int)) [])
 ((1 : Nat)) (0 : Int) &&
 (List.getD
 (List.getD (tblL (lensN nums))
 (Int.toNat
 (IntKind.wrap IntKind.i64
 ((↑(aI (lensN nums) g20) : Int) +
 (↑x22 : Int))))
 [])
 ((2 : Nat)) (0 : Int) ==
 List.getD
 (List.getD (tblL (lensN nums))
 (Int.toNat (↑(aI (lensN nums) g20) : Int)) [])
 ((2 : Nat)) (0 : Int) &&
 true)))) =
 false →
 ∃ (y23 : Nat),
 (g20 < nI (lensN nums) ∧ y23 ≤ wI (lensN nums) g20) ∧
 Nat.sub (wI (lensN nums) g20) y23 <
 Nat.sub (wI (lensN nums) g20) x22 ∧
 mostI (lensN nums) = mostI (lensN nums) ∧
 (↑(aI (lensN nums) g20) : Int) =
 (↑(aI (lensN nums) g20) : Int) ∧
 (↑(kI (lensN nums) g20) : Int) =
 (↑(kI (lensN nums) g20) : Int) ∧
 (↑(wI (lensN nums) g20) : Int) =
 (↑(wI (lensN nums) g20) : Int) ∧
 IntKind.wrap IntKind.i64
 ((↑x22 : Int) + (1 : Int)) =
 (↑y23 : Int) ∧
 lensN nums = lensN nums ∧
 tblL (lensN nums) = tblL (lensN nums) ∧
 codL (lensN nums) = codL (lensN nums)))) ∧
 (decide ((↑x22 : Int) < (↑(wI (lensN nums) g20) : Int)) = false →
 (decide
 (IntKind.wrap IntKind.i64
 ((↑(aI (lensN nums) g20) : Int) + (↑(wI (lensN nums) g20) : Int)) <
 (↑(List.length (tblL (lensN nums))) : Int)) =
 true →
 ∃ (g24 : Nat),
 ((0 : Int) ≤
 IntKind.wrap IntKind.i64
 ((↑(aI (lensN nums) g20) : Int) + (↑(wI (lensN nums) g20) : Int)) ∧
 IntKind.wrap IntKind.i64
 ((↑(aI (lensN nums) g20) : Int) + (↑(wI (lensN nums) g20) : Int)) <
 (↑(List.length (tblL (lensN nums))) : Int) ∧
 Int.toNat
 (IntKind.wrap IntKind.i64
 ((↑(aI (lensN nums) g20) : Int) +
 (↑(wI (lensN nums) g20) : Int))) <
 List.length (tblL (lensN nums)) ∧
 ∃ (x25 : Unit),
 Nat.le (Nat.succ (g24 + (1 : Nat))) (nI (lensN nums)) ∧
 mostI (lensN nums) = mostI (lensN nums) ∧
 IntKind.wrap IntKind.i64
 ((↑(aI (lensN nums) g20) : Int) +
 (↑(wI (lensN nums) g20) : Int)) =
 (↑(aI (lensN nums) (g24 + (1 : Nat))) : Int) ∧
 (↑(kI (lensN nums) g20) : Int) =
 (↑(kI (lensN nums) g24) : Int) ∧
 List.getD
 (List.getD (tblL (lensN nums))
 (Int.toNat
 (IntKind.wrap IntKind.i64
 ((↑(aI (lensN nums) g20) : Int) +
 (↑(wI (lensN nums) g20) : Int))))
 [])
 (0 : Nat) (0 : Int) =
 (↑(kI (lensN nums) (g24 + (1 : Nat))) : Int) ∧
 lensN nums = lensN nums ∧
 tblL (lensN nums) = tblL (lensN nums) ∧
 codL (lensN nums) = codL (lensN nums)) ∧
 ∀ (x26 : Unit),
 Nat.le (Nat.succ (g24 + (1 : Nat))) (nI (lensN nums)) →
 (decide ((↑(kI (lensN nums) (g24 + (1 : Nat))) : Int) < (0 : Int)) =
 true →
 false = true) ∧
 (decide ((↑(kI (lensN nums) (g24 + (1 : Nat))) : Int) < (0 : Int)) =
 false →
 (decide
 ((↑(kI (lensN nums) (g24 + (1 : Nat))) : Int) ≥
 (↑(List.length (lensN nums)) : Int)) =
 true →
 false = true) ∧
 (decide
 ((↑(kI (lensN nums) (g24 + (1 : Nat))) : Int) ≥
 (↑(List.length (lensN nums)) : Int)) =
 false →
 (0 : Int) ≤ (↑(kI (lensN nums) (g24 + (1 : Nat))) : Int) ∧
 (↑(kI (lensN nums) (g24 + (1 : Nat))) : Int) <
 (↑(List.length (lensN nums)) : Int) ∧
 Int.toNat (↑(kI (lensN nums) (g24 + (1 : Nat))) : Int) <
 List.length (lensN nums) ∧
 (0 : Int) ≤ (↑(kI (lensN nums) g24) : Int) ∧
 (↑(kI (lensN nums) g24) : Int) <
 (↑(List.length (lensN nums)) : Int) ∧
 Int.toNat (↑(kI (lensN nums) g24) : Int) <
 List.length (lensN nums) ∧
 (decide
 (List.getD (lensN nums)
 (Int.toNat
 (↑(kI (lensN nums) (g24 + (1 : Nat))) :
 Int))
 (0 : Int) >
 List.getD (lensN nums)
 (Int.toNat (↑(kI (lensN nums) g24) : Int))
 (0 : Int)) =
 true →
 false = true) ∧
 (decide
 (List.getD (lensN nums)
 (Int.toNat
 (↑(kI (lensN nums) (g24 + (1 : Nat))) :
 Int))
 (0 : Int) >
 List.getD (lensN nums)
 (Int.toNat (↑(kI (lensN nums) g24) : Int))
 (0 : Int)) =
 false →
 (0 : Int) ≤
 (↑(kI (lensN nums) (g24 + (1 : Nat))) : Int) ∧
 (↑(kI (lensN nums) (g24 + (1 : Nat))) : Int) <
 (↑(List.length (lensN nums)) : Int) ∧
 Int.toNat
 (↑(kI (lensN nums) (g24 + (1 : Nat))) :
 Int) <
 List.length (lensN nums) ∧
 (0 : Int) ≤ (↑(kI (lensN nums) g24) : Int) ∧
 (↑(kI (lensN nums) g24) : Int) <
 (↑(List.length (lensN nums)) : Int) ∧
 Int.toNat
 (↑(kI (lensN nums) g24) : Int) <
 List.length (lensN nums) ∧
 ((List.getD (lensN nums)
 (Int.toNat
 (↑(kI (lensN nums)
 (g24 + (1 : Nat))) :
 Int))
 (0 : Int) ==
 List.getD (lensN nums)
 (Int.toNat
 (↑(kI (lensN nums) g24) :
 Int))
 (0 : Int)) =
 true →
 (decide
 ((↑(kI (lensN nums)
 (g24 +
 (1 : Nat))) :
 Int) ≤
 (↑(kI (lensN nums)
 g24) :
 Int)) =
 true →
 false = true) ∧
 (decide
 ((↑(kI (lensN nums)
 (g24 +
 (1 : Nat))) :
 Int) ≤
 (↑(kI (lensN nums)
 g24) :
 Int)) =
 false →
 (0 : Int) ≤
 (↑(kI (lensN nums)
 (g24 + (1 : Nat))) :
 Int) ∧
 (↑(kI (lensN nums)
 (g24 +
 (1 : Nat))) :
 Int) <
 (↑(List.length
 (codL
 (lensN nums))) :
 Int) ∧
 Int.toNat
 (↑(kI (lensN nums)
 (g24 +
 (1 :
 Nat))) :
 Int) <
 List.length
 (codL
 (lensN nums)) ∧
 (0 : Int) ≤
 (↑(kI (lensN nums)
 g24) :
 Int) ∧
 (↑(kI (lensN nums)
 g24) :
 Int) <
 (↑(List.length
 (codL
 (lensN
 nums))) :
 Int) ∧
 Int.toNat
 (↑(kI
 (lensN
 nums)
 g24) :
 Int) <
 List.length
 (codL
 (lensN
 nums)) ∧
 ((List.getD
 (List.getD
 (codL
 (lensN
 nums))
 (Int.toNat
 (↑(kI
 (lensN
 nums)
 (g24 +
 (1 :
 Nat))) :
 Int))
 [])
 (1 :
 Nat)
 (0 :
 Int) !=
 IntKind.wrap
 IntKind.i64
 (List.getD
 (List.getD
 (codL
 (lensN
 nums))
 (Int.toNat
 (↑(kI
 (lensN
 nums)
 g24) :
 Int))
 [])
 (1 :
 Nat)
 (0 :
 Int) +
 (1 :
 Int))) =
 true →
 false =
 true) ∧
 ((List.getD
 (List.getD
 (codL
 (lensN
 nums))
 (Int.toNat
 (↑(kI
 (lensN
 nums)
 (g24 +
 (1 :
 Nat))) :
 Int))
 [])
 (1 :
 Nat)
 (0 :
 Int) !=
 IntKind.wrap
 IntKind.i64
 (List.getD
 (List.getD
 (codL
 (lensN
 nums))
 (Int.toNat
 (↑(kI
 (lensN
 nums)
 g24) :
 Int))
 [])
 (1 :
 Nat)
 (0 :
 Int) +
 (1 :
 Int))) =
 false →
 ∃ (y27 : Nat),
 Nat.le y27
 (nI
 (lensN
 nums)) ∧
 Nat.sub
 (nI
 (lensN
 nums))
 y27 <
 Nat.sub
 (nI
 (lensN
 nums))
 x16 ∧
 mostI
 (lensN
 nums) =
 mostI
 (lensN
 nums) ∧
 (↑(aI
 (lensN
 nums)
 (g24 +
 (1 :
 Nat))) :
 Int) =
 (↑(aI
 (lensN
 nums)
 y27) :
 Int) ∧
 lensN
 nums =
 lensN
 nums ∧
 tblL
 (lensN
 nums) =
 tblL
 (lensN
 nums) ∧
 codL
 (lensN
 nums) =
 codL
 (lensN
 nums)))) ∧
 ((List.getD (lensN nums)
 (Int.toNat
 (↑(kI (lensN nums)
 (g24 + (1 : Nat))) :
 Int))
 (0 : Int) ==
 List.getD (lensN nums)
 (Int.toNat
 (↑(kI (lensN nums) g24) :
 Int))
 (0 : Int)) =
 false →
 ∃ (y28 : Nat),
 Nat.le y28 (nI (lensN nums)) ∧
 Nat.sub (nI (lensN nums))
 y28 <
 Nat.sub (nI (lensN nums))
 x16 ∧
 mostI (lensN nums) =
 mostI (lensN nums) ∧
 (↑(aI (lensN nums)
 (g24 +
 (1 : Nat))) :
 Int) =
 (↑(aI (lensN nums)
 y28) :
 Int) ∧
 lensN nums =
 lensN nums ∧
 tblL (lensN nums) =
 tblL
 (lensN nums) ∧
 codL (lensN nums) =
 codL
 (lensN
 nums)))))) ∧
 (decide
 (IntKind.wrap IntKind.i64
 ((↑(aI (lensN nums) g20) : Int) + (↑(wI (lensN nums) g20) : Int)) <
 (↑(List.length (tblL (lensN nums))) : Int)) =
 false →
 ∃ (y29 : Nat),
 Nat.le y29 (nI (lensN nums)) ∧
 Nat.sub (nI (lensN nums)) y29 < Nat.sub (nI (lensN nums)) x16 ∧
 mostI (lensN nums) = mostI (lensN nums) ∧
 IntKind.wrap IntKind.i64
 ((↑(aI (lensN nums) g20) : Int) + (↑(wI (lensN nums) g20) : Int)) =
 (↑(aI (lensN nums) y29) : Int) ∧
 lensN nums = lensN nums ∧
 tblL (lensN nums) = tblL (lensN nums) ∧
 codL (lensN nums) = codL (lensN nums))))))))) ∧
 (decide ((↑(aI (lensN nums) x16) : Int) < (↑(List.length (tblL (lensN nums))) : Int)) = false → true = true))))))))) ∧
 (¬chk (lensN nums) = (0 : Int) →
 List.length (lensN nums) ≤ (4294967296 : Nat) ∧
 (chk (lensN nums) = (0 : Int) →
 List.length (lensN nums) ≤ (4294967296 : Nat) ∧
 List.length (lensN nums) ≤ (4294967296 : Nat) ∧
 ((chk (lensN nums) != (0 : Int)) = true → false = true) ∧
 ((chk (lensN nums) != (0 : Int)) = false →
 (((0 : Int) != (0 : Int)) = true → false = true) ∧
 (((0 : Int) != (0 : Int)) = false →
 ((chk (lensN nums) != (0 : Int)) = true → false = true) ∧
 ((chk (lensN nums) != (0 : Int)) = false →
 (((↑(List.length (codL (lensN nums))) : Int) != (↑(List.length (lensN nums)) : Int)) = true → false = true) ∧
 (((↑(List.length (codL (lensN nums))) : Int) != (↑(List.length (lensN nums)) : Int)) = false →
 (decide (mostI (lensN nums) < (1 : Int)) = true → false = true) ∧
 (decide (mostI (lensN nums) < (1 : Int)) = false →
 (decide (mostI (lensN nums) > (11 : Int)) = true → false = true) ∧
 (decide (mostI (lensN nums) > (11 : Int)) = false →
 (∃ (x30 : Nat),
 Nat.le x30 (nI (lensN nums)) ∧
 mostI (lensN nums) = mostI (lensN nums) ∧
 (0 : Int) = (↑(aI (lensN nums) x30) : Int) ∧
 lensN nums = lensN nums ∧ List.length (tblL (lensN nums)) = (0 : Nat) ∧ codL (lensN nums) = codL (lensN nums)) ∧
 ∀ (x31 : Nat),
 Nat.le x31 (nI (lensN nums)) →
 (decide ((↑(aI (lensN nums) x31) : Int) < (↑(List.length (tblL (lensN nums))) : Int)) = true →
 ∃ (g32 : Nat),
 ((0 : Int) ≤ (↑(aI (lensN nums) x31) : Int) ∧
 (↑(aI (lensN nums) x31) : Int) < (↑(List.length (tblL (lensN nums))) : Int) ∧
 Int.toNat (↑(aI (lensN nums) x31) : Int) < List.length (tblL (lensN nums)) ∧
 ∃ (x33 : Unit),
 Nat.le (Nat.succ g32) (nI (lensN nums)) ∧
 mostI (lensN nums) = mostI (lensN nums) ∧
 (↑(aI (lensN nums) x31) : Int) = (↑(aI (lensN nums) g32) : Int) ∧
 List.getD (List.getD (tblL (lensN nums)) (Int.toNat (↑(aI (lensN nums) x31) : Int)) []) (0 : Nat) (0 : Int) =
 (↑(kI (lensN nums) g32) : Int) ∧
 lensN nums = lensN nums ∧ tblL (lensN nums) = tblL (lensN nums) ∧ codL (lensN nums) = codL (lensN nums)) ∧
 ∀ (x34 : Unit),
 Nat.le (Nat.succ g32) (nI (lensN nums)) →
 (decide ((↑(kI (lensN nums) g32) : Int) < (0 : Int)) = true → false = true) ∧
 (decide ((↑(kI (lensN nums) g32) : Int) < (0 : Int)) = false →
 (decide ((↑(kI (lensN nums) g32) : Int) ≥ (↑(List.length (lensN nums)) : Int)) = true → false = true) ∧
 (decide ((↑(kI (lensN nums) g32) : Int) ≥ (↑(List.length (lensN nums)) : Int)) = false →
 (0 : Int) ≤ (↑(kI (lensN nums) g32) : Int) ∧
 (↑(kI (lensN nums) g32) : Int) < (↑(List.length (lensN nums)) : Int) ∧
 Int.toNat (↑(kI (lensN nums) g32) : Int) < List.length (lensN nums) ∧
 (decide (List.getD (lensN nums) (Int.toNat (↑(kI (lensN nums) g32) : Int)) (0 : Int) < (1 : Int)) = true → false = true) ∧
 (decide (List.getD (lensN nums) (Int.toNat (↑(kI (lensN nums) g32) : Int)) (0 : Int) < (1 : Int)) = false →
 (0 : Int) ≤ (↑(kI (lensN nums) g32) : Int) ∧
 (↑(kI (lensN nums) g32) : Int) < (↑(List.length (lensN nums)) : Int) ∧
 Int.toNat (↑(kI (lensN nums) g32) : Int) < List.length (lensN nums) ∧
 (decide (List.getD (lensN nums) (Int.toNat (↑(kI (lensN nums) g32) : Int)) (0 : Int) > mostI (lensN nums)) = true →
 false = true) ∧
 (decide (List.getD (lensN nums) (Int.toNat (↑(kI (lensN nums) g32) : Int)) (0 : Int) > mostI (lensN nums)) = false →
 (0 : Int) ≤ (↑(aI (lensN nums) g32) : Int) ∧
 (↑(aI (lensN nums) g32) : Int) < (↑(List.length (tblL (lensN nums))) : Int) ∧
 Int.toNat (↑(aI (lensN nums) g32) : Int) < List.length (tblL (lensN nums)) ∧
 ((List.getD (List.getD (tblL (lensN nums)) (Int.toNat (↑(aI (lensN nums) g32) : Int)) []) (2 : Nat)
 (0 : Int) !=
 (0 : Int)) =
 true →
 false = true) ∧
 ((List.getD (List.getD (tblL (lensN nums)) (Int.toNat (↑(aI (lensN nums) g32) : Int)) []) (2 : Nat)
 (0 : Int) !=
 (0 : Int)) =
 false →
 (0 : Int) ≤ (↑(kI (lensN nums) g32) : Int) ∧
 (↑(kI (lensN nums) g32) : Int) < (↑(List.length (lensN nums)) : Int) ∧
 Int.toNat (↑(kI (lensN nums) g32) : Int) < List.length (lensN nums) ∧
 (0 : Int) ≤
 IntKind.wrap IntKind.u64
 (IntKind.wrap IntKind.i64
 (mostI (lensN nums) -
 List.getD (lensN nums) (Int.toNat (↑(kI (lensN nums) g32) : Int)) (0 : Int))) ∧
 ∃ (g35 : Nat),
 (∃ (x36 : Nat),
 (g35 < nI (lensN nums) ∧ x36 ≤ wI (lensN nums) g35) ∧
 mostI (lensN nums) = mostI (lensN nums) ∧
 (↑(aI (lensN nums) g32) : Int) = (↑(aI (lensN nums) g35) : Int) ∧
 (↑(kI (lensN nums) g32) : Int) = (↑(kI (lensN nums) g35) : Int) ∧
 IntKind.wrap IntKind.i64
 ((1 : Int) *
 (2 : Int) ^
 min
 (Int.toNat
 (IntKind.wrap IntKind.u64
 (IntKind.wrap IntKind.i64
 (mostI (lensN nums) -
 List.getD (lensN nums)
 (Int.toNat (↑(kI (lensN nums) g32) : Int)) (0 : Int)))))
 (IntKind.bits IntKind.i64)) =
 (↑(wI (lensN nums) g35) : Int) ∧
 (0 : Int) = (↑x36 : Int) ∧
 lensN nums = lensN nums ∧
 tblL (lensN nums) = tblL (lensN nums) ∧
 codL (lensN nums) = codL (lensN nums)) ∧
 ∀ (x37 : Nat),
 g35 < nI (lensN nums) ∧ x37 ≤ wI (lensN nums) g35 →
 (decide ((↑x37 : Int) < (↑(wI (lensN nums) g35) : Int)) = true →
 (decide
 (IntKind.wrap IntKind.i64 ((↑(aI (lensN nums) g35) : Int) + (↑x37 : Int)) ≥
 (↑(List.length (tblL (lensN nums))) : Int)) =
 true →
 false = true) ∧
 (decide
 (IntKind.wrap IntKind.i64 ((↑(aI (lensN nums) g35) : Int) + (↑x37 : Int)) ≥
 (↑(List.length (tblL (lensN nums))) : Int)) =
 false →
 (0 : Int) ≤
 IntKind.wrap IntKind.i64 ((↑(aI (lensN nums) g35) : Int) + (↑x37 : Int)) ∧
 IntKind.wrap IntKind.i64 ((↑(aI (lensN nums) g35) : Int) + (↑x37 : Int)) <
 (↑(List.length (tblL (lensN nums))) : Int) ∧
 Int.toNat
 (IntKind.wrap IntKind.i64
 ((↑(aI (lensN nums) g35) : Int) + (↑x37 : Int))) <
 List.length (tblL (lensN nums)) ∧
 (0 : Int) ≤ (↑(aI (lensN nums) g35) : Int) ∧
 (↑(aI (lensN nums) g35) : Int) <
 (↑(List.length (tblL (lensN nums))) : Int) ∧
 Int.toNat (↑(aI (lensN nums) g35) : Int) <
 List.length (tblL (lensN nums)) ∧
 ((!(List.getD
 (List.getD (tblL (lensN nums))
 (Int.toNat
 (IntKind.wrap IntKind.i64
 ((↑(aI (lensN nums) g35) : Int) + (↑x37 : Int))))
 [])
 ((0 : Nat)) (0 : Int) ==
 List.getD
 (List.getD (tblL (lensN nums))
 (Int.toNat (↑(aI (lensN nums) g35) : Int)) [])
 ((0 : Nat)) (0 : Int) &&
 (List.getD
 (List.getD (tblL (lensN nums))
 (Int.toNat
 (IntKind.wrap IntKind.i64
 ((↑(aI (lensN nums) g35) : Int) +
 (↑x37 : Int))))
 [])
 ((1 : Nat)) (0 : Int) ==
 List.getD
 (List.getD (tblL (lensN nums))
 (Int.toNat (↑(aI (lensN nums) g35) : Int)) [])
 ((1 : Nat)) (0 : Int) &&
 (List.getD
 (List.getD (tblL (lensN nums))
 (Int.toNat
 (IntKind.wrap IntKind.i64
 ((↑(aI (lensN nums) g35) : Int) +
 (↑x37 : Int))))
 [])
 ((2 : Nat)) (0 : Int) ==
 List.getD
 (List.getD (tblL (lensN nums))
 (Int.toNat (↑(aI (lensN nums) g35) : Int)) [])
 ((2 : Nat)) (0 : Int) &&
 true)))) =
 true →
 false = true) ∧
 ((!(List.getD
 (List.getD (tblL (lensN nums))
 (Int.toNat
 (IntKind.wrap IntKind.i64
 ((↑(aI (lensN nums) g35) : Int) + (↑x37 : Int))))
 [])
 ((0 : Nat)) (0 : Int) ==
 List.getD
 (List.getD (tblL (lensN nums))
 (Int.toNat (↑(aI (lensN nums) g35) : Int)) [])
 ((0 : Nat)) (0 : Int) &&
 (List.getD
 (List.getD (tblL (lensN nums))
 (Int.toNat
 (IntKind.wrap IntKind.i64
 ((↑(aI (lensN nums) g35) : Int) +
 (↑x37 : Int))))
 [])
 ((1 : Nat)) (0 : Int) ==
 List.getD
 (List.getD (tblL (lensN nums))
 (Int.toNat (↑(aI (lensN nums) g35) : Int)) [])
 ((1 : Nat)) (0 : Int) &&
 (List.getD
 (List.getD (tblL (lensN nums))
 (Int.toNat
 (IntKind.wrap IntKind.i64
 ((↑(aI (lensN nums) g35) : Int) +
 (↑x37 : Int))))
 [])
 ((2 : Nat)) (0 : Int) ==
 List.getD
 (List.getD (tblL (lensN nums))
 (Int.toNat (↑(aI (lensN nums) g35) : Int)) [])
 ((2 : Nat)) (0 : Int) &&
 true)))) =
 false →
 ∃ (y38 : Nat),
 (g35 < nI (lensN nums) ∧ y38 ≤ wI (lensN nums) g35) ∧
 Nat.sub (wI (lensN nums) g35) y38 <
 Nat.sub (wI (lensN nums) g35) x37 ∧
 mostI (lensN nums) = mostI (lensN nums) ∧
 (↑(aI (lensN nums) g35) : Int) =
 (↑(aI (lensN nums) g35) : Int) ∧
 (↑(kI (lensN nums) g35) : Int) =
 (↑(kI (lensN nums) g35) : Int) ∧
 (↑(wI (lensN nums) g35) : Int) =
 (↑(wI (lensN nums) g35) : Int) ∧
 IntKind.wrap IntKind.i64
 ((↑x37 : Int) + (1 : Int)) =
 (↑y38 : Int) ∧
 lensN nums = lensN nums ∧
 tblL (lensN nums) = tblL (lensN nums) ∧
 codL (lensN nums) = codL (lensN nums)))) ∧
 (decide ((↑x37 : Int) < (↑(wI (lensN nums) g35) : Int)) = false →
 (decide
 (IntKind.wrap IntKind.i64
 ((↑(aI (lensN nums) g35) : Int) + (↑(wI (lensN nums) g35) : Int)) <
 (↑(List.length (tblL (lensN nums))) : Int)) =
 true →
 ∃ (g39 : Nat),
 ((0 : Int) ≤
 IntKind.wrap IntKind.i64
 ((↑(aI (lensN nums) g35) : Int) + (↑(wI (lensN nums) g35) : Int)) ∧
 IntKind.wrap IntKind.i64
 ((↑(aI (lensN nums) g35) : Int) + (↑(wI (lensN nums) g35) : Int)) <
 (↑(List.length (tblL (lensN nums))) : Int) ∧
 Int.toNat
 (IntKind.wrap IntKind.i64
 ((↑(aI (lensN nums) g35) : Int) +
 (↑(wI (lensN nums) g35) : Int))) <
 List.length (tblL (lensN nums)) ∧
 ∃ (x40 : Unit),
 Nat.le (Nat.succ (g39 + (1 : Nat))) (nI (lensN nums)) ∧
 mostI (lensN nums) = mostI (lensN nums) ∧
 IntKind.wrap IntKind.i64
 ((↑(aI (lensN nums) g35) : Int) +
 (↑(wI (lensN nums) g35) : Int)) =
 (↑(aI (lensN nums) (g39 + (1 : Nat))) : Int) ∧
 (↑(kI (lensN nums) g35) : Int) =
 (↑(kI (lensN nums) g39) : Int) ∧
 List.getD
 (List.getD (tblL (lensN nums))
 (Int.toNat
 (IntKind.wrap IntKind.i64
 ((↑(aI (lensN nums) g35) : Int) +
 (↑(wI (lensN nums) g35) : Int))))
 [])
 (0 : Nat) (0 : Int) =
 (↑(kI (lensN nums) (g39 + (1 : Nat))) : Int) ∧
 lensN nums = lensN nums ∧
 tblL (lensN nums) = tblL (lensN nums) ∧
 codL (lensN nums) = codL (lensN nums)) ∧
 ∀ (x41 : Unit),
 Nat.le (Nat.succ (g39 + (1 : Nat))) (nI (lensN nums)) →
 (decide ((↑(kI (lensN nums) (g39 + (1 : Nat))) : Int) < (0 : Int)) =
 true →
 false = true) ∧
 (decide ((↑(kI (lensN nums) (g39 + (1 : Nat))) : Int) < (0 : Int)) =
 false →
 (decide
 ((↑(kI (lensN nums) (g39 + (1 : Nat))) : Int) ≥
 (↑(List.length (lensN nums)) : Int)) =
 true →
 false = true) ∧
 (decide
 ((↑(kI (lensN nums) (g39 + (1 : Nat))) : Int) ≥
 (↑(List.length (lensN nums)) : Int)) =
 false →
 (0 : Int) ≤ (↑(kI (lensN nums) (g39 + (1 : Nat))) : Int) ∧
 (↑(kI (lensN nums) (g39 + (1 : Nat))) : Int) <
 (↑(List.length (lensN nums)) : Int) ∧
 Int.toNat (↑(kI (lensN nums) (g39 + (1 : Nat))) : Int) <
 List.length (lensN nums) ∧
 (0 : Int) ≤ (↑(kI (lensN nums) g39) : Int) ∧
 (↑(kI (lensN nums) g39) : Int) <
 (↑(List.length (lensN nums)) : Int) ∧
 Int.toNat (↑(kI (lensN nums) g39) : Int) <
 List.length (lensN nums) ∧
 (decide
 (List.getD (lensN nums)
 (Int.toNat
 (↑(kI (lensN nums) (g39 + (1 : Nat))) :
 Int))
 (0 : Int) >
 List.getD (lensN nums)
 (Int.toNat (↑(kI (lensN nums) g39) : Int))
 (0 : Int)) =
 true →
 false = true) ∧
 (decide
 (List.getD (lensN nums)
 (Int.toNat
 (↑(kI (lensN nums) (g39 + (1 : Nat))) :
 Int))
 (0 : Int) >
 List.getD (lensN nums)
 (Int.toNat (↑(kI (lensN nums) g39) : Int))
 (0 : Int)) =
 false →
 (0 : Int) ≤
 (↑(kI (lensN nums) (g39 + (1 : Nat))) : Int) ∧
 (↑(kI (lensN nums) (g39 + (1 : Nat))) : Int) <
 (↑(List.length (lensN nums)) : Int) ∧
 Int.toNat
 (↑(kI (lensN nums) (g39 + (1 : Nat))) :
 Int) <
 List.length (lensN nums) ∧
 (0 : Int) ≤ (↑(kI (lensN nums) g39) : Int) ∧
 (↑(kI (lensN nums) g39) : Int) <
 (↑(List.length (lensN nums)) : Int) ∧
 Int.toNat
 (↑(kI (lensN nums) g39) : Int) <
 List.length (lensN nums) ∧
 ((List.getD (lensN nums)
 (Int.toNat
 (↑(kI (lensN nums)
 (g39 + (1 : Nat))) :
 Int))
 (0 : Int) ==
 List.getD (lensN nums)
 (Int.toNat
 (↑(kI (lensN nums) g39) :
 Int))
 (0 : Int)) =
 true →
 (decide
 ((↑(kI (lensN nums)
 (g39 +
 (1 : Nat))) :
 Int) ≤
 (↑(kI (lensN nums)
 g39) :
 Int)) =
 true →
 false = true) ∧
 (decide
 ((↑(kI (lensN nums)
 (g39 +
 (1 : Nat))) :
 Int) ≤
 (↑(kI (lensN nums)
 g39) :
 Int)) =
 false →
 (0 : Int) ≤
 (↑(kI (lensN nums)
 (g39 + (1 : Nat))) :
 Int) ∧
 (↑(kI (lensN nums)
 (g39 +
 (1 : Nat))) :
 Int) <
 (↑(List.length
 (codL
 (lensN nums))) :
 Int) ∧
 Int.toNat
 (↑(kI (lensN nums)
 (g39 +
 (1 :
 Nat))) :
 Int) <
 List.length
 (codL
 (lensN nums)) ∧
 (0 : Int) ≤
 (↑(kI (lensN nums)
 g39) :
 Int) ∧
 (↑(kI (lensN nums)
 g39) :
 Int) <
 (↑(List.length
 (codL
 (lensN
 nums))) :
 Int) ∧
 Int.toNat
 (↑(kI
 (lensN
 nums)
 g39) :
 Int) <
 List.length
 (codL
 (lensN
 nums)) ∧
 ((List.getD
 (List.getD
 (codL
 (lensN
 nums))
 (Int.toNat
 (↑(kI
 (lensN
 nums)
 (g39 +
 (1 :
 Nat))) :
 Int))
 [])
 (1 :
 Nat)
 (0 :
 Int) !=
 IntKind.wrap
 IntKind.i64
 (List.getD
 (List.getD
 (codL
 (lensN
 nums))
 (Int.toNat
 (↑(kI
 (lensN
 nums)
 g39) :
 Int))
 [])
 (1 :
 Nat)
 (0 :
 Int) +
 (1 :
 Int))) =
 true →
 false =
 true) ∧
 ((List.getD
 (List.getD
 (codL
 (lensN
 nums))
 (Int.toNat
 (↑(kI
 (lensN
 nums)
 (g39 +
 (1 :
 Nat))) :
 Int))
 [])
 (1 :
 Nat)
 (0 :
 Int) !=
 IntKind.wrap
 IntKind.i64
 (List.getD
 (List.getD
 (codL
 (lensN
 nums))
 (Int.toNat
 (↑(kI
 (lensN
 nums)
 g39) :
 Int))
 [])
 (1 :
 Nat)
 (0 :
 Int) +
 (1 :
 Int))) =
 false →
 ∃ (y42 : Nat),
 Nat.le y42
 (nI
 (lensN
 nums)) ∧
 Nat.sub
 (nI
 (lensN
 nums))
 y42 <
 Nat.sub
 (nI
 (lensN
 nums))
 x31 ∧
 mostI
 (lensN
 nums) =
 mostI
 (lensN
 nums) ∧
 (↑(aI
 (lensN
 nums)
 (g39 +
 (1 :
 Nat))) :
 Int) =
 (↑(aI
 (lensN
 nums)
 y42) :
 Int) ∧
 lensN
 nums =
 lensN
 nums ∧
 tblL
 (lensN
 nums) =
 tblL
 (lensN
 nums) ∧
 codL
 (lensN
 nums) =
 codL
 (lensN
 nums)))) ∧
 ((List.getD (lensN nums)
 (Int.toNat
 (↑(kI (lensN nums)
 (g39 + (1 : Nat))) :
 Int))
 (0 : Int) ==
 List.getD (lensN nums)
 (Int.toNat
 (↑(kI (lensN nums) g39) :
 Int))
 (0 : Int)) =
 false →
 ∃ (y43 : Nat),
 Nat.le y43 (nI (lensN nums)) ∧
 Nat.sub (nI (lensN nums))
 y43 <
 Nat.sub (nI (lensN nums))
 x31 ∧
 mostI (lensN nums) =
 mostI (lensN nums) ∧
 (↑(aI (lensN nums)
 (g39 +
 (1 : Nat))) :
 Int) =
 (↑(aI (lensN nums)
 y43) :
 Int) ∧
 lensN nums =
 lensN nums ∧
 tblL (lensN nums) =
 tblL
 (lensN nums) ∧
 codL (lensN nums) =
 codL
 (lensN
 nums)))))) ∧
 (decide
 (IntKind.wrap IntKind.i64
 ((↑(aI (lensN nums) g35) : Int) + (↑(wI (lensN nums) g35) : Int)) <
 (↑(List.length (tblL (lensN nums))) : Int)) =
 false →
 ∃ (y44 : Nat),
 Nat.le y44 (nI (lensN nums)) ∧
 Nat.sub (nI (lensN nums)) y44 < Nat.sub (nI (lensN nums)) x31 ∧
 mostI (lensN nums) = mostI (lensN nums) ∧
 IntKind.wrap IntKind.i64
 ((↑(aI (lensN nums) g35) : Int) + (↑(wI (lensN nums) g35) : Int)) =
 (↑(aI (lensN nums) y44) : Int) ∧
 lensN nums = lensN nums ∧
 tblL (lensN nums) = tblL (lensN nums) ∧
 codL (lensN nums) = codL (lensN nums))))))))) ∧
 (decide ((↑(aI (lensN nums) x31) : Int) < (↑(List.length (tblL (lensN nums))) : Int)) = false → true = true)))))))) ∧
 (¬chk (lensN nums) = (0 : Int) →
 List.length (lensN nums) ≤ (4294967296 : Nat) ∧
 List.length (lensN nums) ≤ (4294967296 : Nat) ∧
 ((chk (lensN nums) != (0 : Int)) = true → false = true) ∧
 ((chk (lensN nums) != (0 : Int)) = false →
 ((chk (lensN nums) != (0 : Int)) = true → false = true) ∧
 ((chk (lensN nums) != (0 : Int)) = false →
 ((chk (lensN nums) != (0 : Int)) = true → false = true) ∧
 ((chk (lensN nums) != (0 : Int)) = false →
 (((0 : Int) != (↑(List.length (lensN nums)) : Int)) = true → false = true) ∧
 (((0 : Int) != (↑(List.length (lensN nums)) : Int)) = false →
 (decide (mostI (lensN nums) < (1 : Int)) = true → false = true) ∧
 (decide (mostI (lensN nums) < (1 : Int)) = false →
 (decide (mostI (lensN nums) > (11 : Int)) = true → false = true) ∧
 (decide (mostI (lensN nums) > (11 : Int)) = false →
 (∃ (x45 : Nat),
 Nat.le x45 (nI (lensN nums)) ∧
 mostI (lensN nums) = mostI (lensN nums) ∧
 (0 : Int) = (↑(aI (lensN nums) x45) : Int) ∧
 lensN nums = lensN nums ∧ List.length (tblL (lensN nums)) = (0 : Nat) ∧ List.length (codL (lensN nums)) = (0 : Nat)) ∧
 ∀ (x46 : Nat),
 Nat.le x46 (nI (lensN nums)) →
 (decide ((↑(aI (lensN nums) x46) : Int) < (↑(List.length (tblL (lensN nums))) : Int)) = true →
 ∃ (g47 : Nat),
 ((0 : Int) ≤ (↑(aI (lensN nums) x46) : Int) ∧
 (↑(aI (lensN nums) x46) : Int) < (↑(List.length (tblL (lensN nums))) : Int) ∧
 Int.toNat (↑(aI (lensN nums) x46) : Int) < List.length (tblL (lensN nums)) ∧
 ∃ (x48 : Unit),
 Nat.le (Nat.succ g47) (nI (lensN nums)) ∧
 mostI (lensN nums) = mostI (lensN nums) ∧
 (↑(aI (lensN nums) x46) : Int) = (↑(aI (lensN nums) g47) : Int) ∧
 List.getD (List.getD (tblL (lensN nums)) (Int.toNat (↑(aI (lensN nums) x46) : Int)) []) (0 : Nat) (0 : Int) =
 (↑(kI (lensN nums) g47) : Int) ∧
 lensN nums = lensN nums ∧ tblL (lensN nums) = tblL (lensN nums) ∧ codL (lensN nums) = codL (lensN nums)) ∧
 ∀ (x49 : Unit),
 Nat.le (Nat.succ g47) (nI (lensN nums)) →
 (decide ((↑(kI (lensN nums) g47) : Int) < (0 : Int)) = true → false = true) ∧
 (decide ((↑(kI (lensN nums) g47) : Int) < (0 : Int)) = false →
 (decide ((↑(kI (lensN nums) g47) : Int) ≥ (↑(List.length (lensN nums)) : Int)) = true → false = true) ∧
 (decide ((↑(kI (lensN nums) g47) : Int) ≥ (↑(List.length (lensN nums)) : Int)) = false →
 (0 : Int) ≤ (↑(kI (lensN nums) g47) : Int) ∧
 (↑(kI (lensN nums) g47) : Int) < (↑(List.length (lensN nums)) : Int) ∧
 Int.toNat (↑(kI (lensN nums) g47) : Int) < List.length (lensN nums) ∧
 (decide (List.getD (lensN nums) (Int.toNat (↑(kI (lensN nums) g47) : Int)) (0 : Int) < (1 : Int)) = true → false = true) ∧
 (decide (List.getD (lensN nums) (Int.toNat (↑(kI (lensN nums) g47) : Int)) (0 : Int) < (1 : Int)) = false →
 (0 : Int) ≤ (↑(kI (lensN nums) g47) : Int) ∧
 (↑(kI (lensN nums) g47) : Int) < (↑(List.length (lensN nums)) : Int) ∧
 Int.toNat (↑(kI (lensN nums) g47) : Int) < List.length (lensN nums) ∧
 (decide (List.getD (lensN nums) (Int.toNat (↑(kI (lensN nums) g47) : Int)) (0 : Int) > mostI (lensN nums)) = true →
 false = true) ∧
 (decide (List.getD (lensN nums) (Int.toNat (↑(kI (lensN nums) g47) : Int)) (0 : Int) > mostI (lensN nums)) = false →
 (0 : Int) ≤ (↑(aI (lensN nums) g47) : Int) ∧
 (↑(aI (lensN nums) g47) : Int) < (↑(List.length (tblL (lensN nums))) : Int) ∧
 Int.toNat (↑(aI (lensN nums) g47) : Int) < List.length (tblL (lensN nums)) ∧
 ((List.getD (List.getD (tblL (lensN nums)) (Int.toNat (↑(aI (lensN nums) g47) : Int)) []) (2 : Nat)
 (0 : Int) !=
 (0 : Int)) =
 true →
 false = true) ∧
 ((List.getD (List.getD (tblL (lensN nums)) (Int.toNat (↑(aI (lensN nums) g47) : Int)) []) (2 : Nat)
 (0 : Int) !=
 (0 : Int)) =
 false →
 (0 : Int) ≤ (↑(kI (lensN nums) g47) : Int) ∧
 (↑(kI (lensN nums) g47) : Int) < (↑(List.length (lensN nums)) : Int) ∧
 Int.toNat (↑(kI (lensN nums) g47) : Int) < List.length (lensN nums) ∧
 (0 : Int) ≤
 IntKind.wrap IntKind.u64
 (IntKind.wrap IntKind.i64
 (mostI (lensN nums) -
 List.getD (lensN nums) (Int.toNat (↑(kI (lensN nums) g47) : Int)) (0 : Int))) ∧
 ∃ (g50 : Nat),
 (∃ (x51 : Nat),
 (g50 < nI (lensN nums) ∧ x51 ≤ wI (lensN nums) g50) ∧
 mostI (lensN nums) = mostI (lensN nums) ∧
 (↑(aI (lensN nums) g47) : Int) = (↑(aI (lensN nums) g50) : Int) ∧
 (↑(kI (lensN nums) g47) : Int) = (↑(kI (lensN nums) g50) : Int) ∧
 IntKind.wrap IntKind.i64
 ((1 : Int) *
 (2 : Int) ^
 min
 (Int.toNat
 (IntKind.wrap IntKind.u64
 (IntKind.wrap IntKind.i64
 (mostI (lensN nums) -
 List.getD (lensN nums)
 (Int.toNat (↑(kI (lensN nums) g47) : Int)) (0 : Int)))))
 (IntKind.bits IntKind.i64)) =
 (↑(wI (lensN nums) g50) : Int) ∧
 (0 : Int) = (↑x51 : Int) ∧
 lensN nums = lensN nums ∧
 tblL (lensN nums) = tblL (lensN nums) ∧
 codL (lensN nums) = codL (lensN nums)) ∧
 ∀ (x52 : Nat),
 g50 < nI (lensN nums) ∧ x52 ≤ wI (lensN nums) g50 →
 (decide ((↑x52 : Int) < (↑(wI (lensN nums) g50) : Int)) = true →
 (decide
 (IntKind.wrap IntKind.i64 ((↑(aI (lensN nums) g50) : Int) + (↑x52 : Int)) ≥
 (↑(List.length (tblL (lensN nums))) : Int)) =
 true →
 false = true) ∧
 (decide
 (IntKind.wrap IntKind.i64 ((↑(aI (lensN nums) g50) : Int) + (↑x52 : Int)) ≥
 (↑(List.length (tblL (lensN nums))) : Int)) =
 false →
 (0 : Int) ≤
 IntKind.wrap IntKind.i64 ((↑(aI (lensN nums) g50) : Int) + (↑x52 : Int)) ∧
 IntKind.wrap IntKind.i64 ((↑(aI (lensN nums) g50) : Int) + (↑x52 : Int)) <
 (↑(List.length (tblL (lensN nums))) : Int) ∧
 Int.toNat
 (IntKind.wrap IntKind.i64
 ((↑(aI (lensN nums) g50) : Int) + (↑x52 : Int))) <
 List.length (tblL (lensN nums)) ∧
 (0 : Int) ≤ (↑(aI (lensN nums) g50) : Int) ∧
 (↑(aI (lensN nums) g50) : Int) <
 (↑(List.length (tblL (lensN nums))) : Int) ∧
 Int.toNat (↑(aI (lensN nums) g50) : Int) <
 List.length (tblL (lensN nums)) ∧
 ((!(List.getD
 (List.getD (tblL (lensN nums))
 (Int.toNat
 (IntKind.wrap IntKind.i64
 ((↑(aI (lensN nums) g50) : Int) + (↑x52 : Int))))
 [])
 ((0 : Nat)) (0 : Int) ==
 List.getD
 (List.getD (tblL (lensN nums))
 (Int.toNat (↑(aI (lensN nums) g50) : Int)) [])
 ((0 : Nat)) (0 : Int) &&
 (List.getD
 (List.getD (tblL (lensN nums))
 (Int.toNat
 (IntKind.wrap IntKind.i64
 ((↑(aI (lensN nums) g50) : Int) +
 (↑x52 : Int))))
 [])
 ((1 : Nat)) (0 : Int) ==
 List.getD
 (List.getD (tblL (lensN nums))
 (Int.toNat (↑(aI (lensN nums) g50) : Int)) [])
 ((1 : Nat)) (0 : Int) &&
 (List.getD
 (List.getD (tblL (lensN nums))
 (Int.toNat
 (IntKind.wrap IntKind.i64
 ((↑(aI (lensN nums) g50) : Int) +
 (↑x52 : Int))))
 [])
 ((2 : Nat)) (0 : Int) ==
 List.getD
 (List.getD (tblL (lensN nums))
 (Int.toNat (↑(aI (lensN nums) g50) : Int)) [])
 ((2 : Nat)) (0 : Int) &&
 true)))) =
 true →
 false = true) ∧
 ((!(List.getD
 (List.getD (tblL (lensN nums))
 (Int.toNat
 (IntKind.wrap IntKind.i64
 ((↑(aI (lensN nums) g50) : Int) + (↑x52 : Int))))
 [])
 ((0 : Nat)) (0 : Int) ==
 List.getD
 (List.getD (tblL (lensN nums))
 (Int.toNat (↑(aI (lensN nums) g50) : Int)) [])
 ((0 : Nat)) (0 : Int) &&
 (List.getD
 (List.getD (tblL (lensN nums))
 (Int.toNat
 (IntKind.wrap IntKind.i64
 ((↑(aI (lensN nums) g50) : Int) +
 (↑x52 : Int))))
 [])
 ((1 : Nat)) (0 : Int) ==
 List.getD
 (List.getD (tblL (lensN nums))
 (Int.toNat (↑(aI (lensN nums) g50) : Int)) [])
 ((1 : Nat)) (0 : Int) &&
 (List.getD
 (List.getD (tblL (lensN nums))
 (Int.toNat
 (IntKind.wrap IntKind.i64
 ((↑(aI (lensN nums) g50) : Int) +
 (↑x52 : Int))))
 [])
 ((2 : Nat)) (0 : Int) ==
 List.getD
 (List.getD (tblL (lensN nums))
 (Int.toNat (↑(aI (lensN nums) g50) : Int)) [])
 ((2 : Nat)) (0 : Int) &&
 true)))) =
 false →
 ∃ (y53 : Nat),
 (g50 < nI (lensN nums) ∧ y53 ≤ wI (lensN nums) g50) ∧
 Nat.sub (wI (lensN nums) g50) y53 <
 Nat.sub (wI (lensN nums) g50) x52 ∧
 mostI (lensN nums) = mostI (lensN nums) ∧
 (↑(aI (lensN nums) g50) : Int) =
 (↑(aI (lensN nums) g50) : Int) ∧
 (↑(kI (lensN nums) g50) : Int) =
 (↑(kI (lensN nums) g50) : Int) ∧
 (↑(wI (lensN nums) g50) : Int) =
 (↑(wI (lensN nums) g50) : Int) ∧
 IntKind.wrap IntKind.i64
 ((↑x52 : Int) + (1 : Int)) =
 (↑y53 : Int) ∧
 lensN nums = lensN nums ∧
 tblL (lensN nums) = tblL (lensN nums) ∧
 codL (lensN nums) = codL (lensN nums)))) ∧
 (decide ((↑x52 : Int) < (↑(wI (lensN nums) g50) : Int)) = false →
 (decide
 (IntKind.wrap IntKind.i64
 ((↑(aI (lensN nums) g50) : Int) + (↑(wI (lensN nums) g50) : Int)) <
 (↑(List.length (tblL (lensN nums))) : Int)) =
 true →
 ∃ (g54 : Nat),
 ((0 : Int) ≤
 IntKind.wrap IntKind.i64
 ((↑(aI (lensN nums) g50) : Int) + (↑(wI (lensN nums) g50) : Int)) ∧
 IntKind.wrap IntKind.i64
 ((↑(aI (lensN nums) g50) : Int) + (↑(wI (lensN nums) g50) : Int)) <
 (↑(List.length (tblL (lensN nums))) : Int) ∧
 Int.toNat
 (IntKind.wrap IntKind.i64
 ((↑(aI (lensN nums) g50) : Int) +
 (↑(wI (lensN nums) g50) : Int))) <
 List.length (tblL (lensN nums)) ∧
 ∃ (x55 : Unit),
 Nat.le (Nat.succ (g54 + (1 : Nat))) (nI (lensN nums)) ∧
 mostI (lensN nums) = mostI (lensN nums) ∧
 IntKind.wrap IntKind.i64
 ((↑(aI (lensN nums) g50) : Int) +
 (↑(wI (lensN nums) g50) : Int)) =
 (↑(aI (lensN nums) (g54 + (1 : Nat))) : Int) ∧
 (↑(kI (lensN nums) g50) : Int) =
 (↑(kI (lensN nums) g54) : Int) ∧
 List.getD
 (List.getD (tblL (lensN nums))
 (Int.toNat
 (IntKind.wrap IntKind.i64
 ((↑(aI (lensN nums) g50) : Int) +
 (↑(wI (lensN nums) g50) : Int))))
 [])
 (0 : Nat) (0 : Int) =
 (↑(kI (lensN nums) (g54 + (1 : Nat))) : Int) ∧
 lensN nums = lensN nums ∧
 tblL (lensN nums) = tblL (lensN nums) ∧
 codL (lensN nums) = codL (lensN nums)) ∧
 ∀ (x56 : Unit),
 Nat.le (Nat.succ (g54 + (1 : Nat))) (nI (lensN nums)) →
 (decide ((↑(kI (lensN nums) (g54 + (1 : Nat))) : Int) < (0 : Int)) =
 true →
 false = true) ∧
 (decide ((↑(kI (lensN nums) (g54 + (1 : Nat))) : Int) < (0 : Int)) =
 false →
 (decide
 ((↑(kI (lensN nums) (g54 + (1 : Nat))) : Int) ≥
 (↑(List.length (lensN nums)) : Int)) =
 true →
 false = true) ∧
 (decide
 ((↑(kI (lensN nums) (g54 + (1 : Nat))) : Int) ≥
 (↑(List.length (lensN nums)) : Int)) =
 false →
 (0 : Int) ≤ (↑(kI (lensN nums) (g54 + (1 : Nat))) : Int) ∧
 (↑(kI (lensN nums) (g54 + (1 : Nat))) : Int) <
 (↑(List.length (lensN nums)) : Int) ∧
 Int.toNat (↑(kI (lensN nums) (g54 + (1 : Nat))) : Int) <
 List.length (lensN nums) ∧
 (0 : Int) ≤ (↑(kI (lensN nums) g54) : Int) ∧
 (↑(kI (lensN nums) g54) : Int) <
 (↑(List.length (lensN nums)) : Int) ∧
 Int.toNat (↑(kI (lensN nums) g54) : Int) <
 List.length (lensN nums) ∧
 (decide
 (List.getD (lensN nums)
 (Int.toNat
 (↑(kI (lensN nums) (g54 + (1 : Nat))) :
 Int))
 (0 : Int) >
 List.getD (lensN nums)
 (Int.toNat (↑(kI (lensN nums) g54) : Int))
 (0 : Int)) =
 true →
 false = true) ∧
 (decide
 (List.getD (lensN nums)
 (Int.toNat
 (↑(kI (lensN nums) (g54 + (1 : Nat))) :
 Int))
 (0 : Int) >
 List.getD (lensN nums)
 (Int.toNat (↑(kI (lensN nums) g54) : Int))
 (0 : Int)) =
 false →
 (0 : Int) ≤
 (↑(kI (lensN nums) (g54 + (1 : Nat))) : Int) ∧
 (↑(kI (lensN nums) (g54 + (1 : Nat))) : Int) <
 (↑(List.length (lensN nums)) : Int) ∧
 Int.toNat
 (↑(kI (lensN nums) (g54 + (1 : Nat))) :
 Int) <
 List.length (lensN nums) ∧
 (0 : Int) ≤ (↑(kI (lensN nums) g54) : Int) ∧
 (↑(kI (lensN nums) g54) : Int) <
 (↑(List.length (lensN nums)) : Int) ∧
 Int.toNat
 (↑(kI (lensN nums) g54) : Int) <
 List.length (lensN nums) ∧
 ((List.getD (lensN nums)
 (Int.toNat
 (↑(kI (lensN nums)
 (g54 + (1 : Nat))) :
 Int))
 (0 : Int) ==
 List.getD (lensN nums)
 (Int.toNat
 (↑(kI (lensN nums) g54) :
 Int))
 (0 : Int)) =
 true →
 (decide
 ((↑(kI (lensN nums)
 (g54 +
 (1 : Nat))) :
 Int) ≤
 (↑(kI (lensN nums)
 g54) :
 Int)) =
 true →
 false = true) ∧
 (decide
 ((↑(kI (lensN nums)
 (g54 +
 (1 : Nat))) :
 Int) ≤
 (↑(kI (lensN nums)
 g54) :
 Int)) =
 false →
 (0 : Int) ≤
 (↑(kI (lensN nums)
 (g54 + (1 : Nat))) :
 Int) ∧
 (↑(kI (lensN nums)
 (g54 +
 (1 : Nat))) :
 Int) <
 (↑(List.length
 (codL
 (lensN nums))) :
 Int) ∧
 Int.toNat
 (↑(kI (lensN nums)
 (g54 +
 (1 :
 Nat))) :
 Int) <
 List.length
 (codL
 (lensN nums)) ∧
 (0 : Int) ≤
 (↑(kI (lensN nums)
 g54) :
 Int) ∧
 (↑(kI (lensN nums)
 g54) :
 Int) <
 (↑(List.length
 (codL
 (lensN
 nums))) :
 Int) ∧
 Int.toNat
 (↑(kI
 (lensN
 nums)
 g54) :
 Int) <
 List.length
 (codL
 (lensN
 nums)) ∧
 ((List.getD
 (List.getD
 (codL
 (lensN
 nums))
 (Int.toNat
 (↑(kI
 (lensN
 nums)
 (g54 +
 (1 :
 Nat))) :
 Int))
 [])
 (1 :
 Nat)
 (0 :
 Int) !=
 IntKind.wrap
 IntKind.i64
 (List.getD
 (List.getD
 (codL
 (lensN
 nums))
 (Int.toNat
 (↑(kI
 (lensN
 nums)
 g54) :
 Int))
 [])
 (1 :
 Nat)
 (0 :
 Int) +
 (1 :
 Int))) =
 true →
 false =
 true) ∧
 ((List.getD
 (List.getD
 (codL
 (lensN
 nums))
 (Int.toNat
 (↑(kI
 (lensN
 nums)
 (g54 +
 (1 :
 Nat))) :
 Int))
 [])
 (1 :
 Nat)
 (0 :
 Int) !=
 IntKind.wrap
 IntKind.i64
 (List.getD
 (List.getD
 (codL
 (lensN
 nums))
 (Int.toNat
 (↑(kI
 (lensN
 nums)
 g54) :
 Int))
 [])
 (1 :
 Nat)
 (0 :
 Int) +
 (1 :
 Int))) =
 false →
 ∃ (y57 : Nat),
 Nat.le y57
 (nI
 (lensN
 nums)) ∧
 Nat.sub
 (nI
 (lensN
 nums))
 y57 <
 Nat.sub
 (nI
 (lensN
 nums))
 x46 ∧
 mostI
 (lensN
 nums) =
 mostI
 (lensN
 nums) ∧
 (↑(aI
 (lensN
 nums)
 (g54 +
 (1 :
 Nat))) :
 Int) =
 (↑(aI
 (lensN
 nums)
 y57) :
 Int) ∧
 lensN
 nums =
 lensN
 nums ∧
 tblL
 (lensN
 nums) =
 tblL
 (lensN
 nums) ∧
 codL
 (lensN
 nums) =
 codL
 (lensN
 nums)))) ∧
 ((List.getD (lensN nums)
 (Int.toNat
 (↑(kI (lensN nums)
 (g54 + (1 : Nat))) :
 Int))
 (0 : Int) ==
 List.getD (lensN nums)
 (Int.toNat
 (↑(kI (lensN nums) g54) :
 Int))
 (0 : Int)) =
 false →
 ∃ (y58 : Nat),
 Nat.le y58 (nI (lensN nums)) ∧
 Nat.sub (nI (lensN nums))
 y58 <
 Nat.sub (nI (lensN nums))
 x46 ∧
 mostI (lensN nums) =
 mostI (lensN nums) ∧
 (↑(aI (lensN nums)
 (g54 +
 (1 : Nat))) :
 Int) =
 (↑(aI (lensN nums)
 y58) :
 Int) ∧
 lensN nums =
 lensN nums ∧
 tblL (lensN nums) =
 tblL
 (lensN nums) ∧
 codL (lensN nums) =
 codL
 (lensN
 nums)))))) ∧
 (decide
 (IntKind.wrap IntKind.i64
 ((↑(aI (lensN nums) g50) : Int) + (↑(wI (lensN nums) g50) : Int)) <
 (↑(List.length (tblL (lensN nums))) : Int)) =
 false →
 ∃ (y59 : Nat),
 Nat.le y59 (nI (lensN nums)) ∧
 Nat.sub (nI (lensN nums)) y59 < Nat.sub (nI (lensN nums)) x46 ∧
 mostI (lensN nums) = mostI (lensN nums) ∧
 IntKind.wrap IntKind.i64
 ((↑(aI (lensN nums) g50) : Int) + (↑(wI (lensN nums) g50) : Int)) =
 (↑(aI (lensN nums) y59) : Int) ∧
 lensN nums = lensN nums ∧
 tblL (lensN nums) = tblL (lensN nums) ∧
 codL (lensN nums) = codL (lensN nums))))))))) ∧
 (decide ((↑(aI (lensN nums) x46) : Int) < (↑(List.length (tblL (lensN nums))) : Int)) = false → true = true)))))))))
--end
theorem lawCe7_e (nums : List Int) : lawCe7_t nums = vcG Try.prog (Gof G7g) (oCe (lensN nums)) Try.f4 [.dat (.ints .i64 nums)] [] (.leaf ((.v (.bool true))) ([])) := by kernel_rfl
def lawAd7_t (nums a b : List Int) : Prop :=
 (∃ (x0 : Nat),
 Nat.le x0 (List.length (lensN nums)) ∧
 a = a ∧
 b = b ∧
 (0 : Int) = (↑x0 : Int) ∧
 lensN nums = lensN nums ∧ List.length (adL (lensN nums) a x0) = (0 : Nat) ∧ List.length (adL (lensN nums) b x0) = (0 : Nat) ∧ List.length (adB (lensN nums) a b x0) = (0 : Nat)) ∧
 ∀ (x1 : Nat),
 Nat.le x1 (List.length (lensN nums)) →
 (decide ((↑x1 : Int) < (↑(List.length (lensN nums)) : Int)) = true →
 (1000 : Int) ≤ (4611686018427387904 : Int) ∧
 (1000 : Int) ≤ (4611686018427387904 : Int) ∧
 (0 : Int) ≤ (↑x1 : Int) ∧
 (↑x1 : Int) < (↑(List.length (lensN nums)) : Int) ∧
 Int.toNat (↑x1 : Int) < List.length (lensN nums) ∧
 ((List.getD (lensN nums) (Int.toNat (↑x1 : Int)) (0 : Int) == (0 : Int)) = true →
 (List.length (adL (lensN nums) a x1) + (1 : Nat)) * (8 : Nat) ≤ (140737488355328 : Nat) ∧
 (List.length (adL (lensN nums) b x1) + (1 : Nat)) * (8 : Nat) ≤ (140737488355328 : Nat) ∧
 (List.length (adB (lensN nums) a b x1) + (1 : Nat)) * (8 : Nat) ≤ (140737488355328 : Nat) ∧
 ∃ (y2 : Nat),
 Nat.le y2 (List.length (lensN nums)) ∧
 Nat.sub (List.length (lensN nums)) y2 < Nat.sub (List.length (lensN nums)) x1 ∧
 a = a ∧
 b = b ∧
 IntKind.wrap IntKind.i64 ((↑x1 : Int) + (1 : Int)) = (↑y2 : Int) ∧
 lensN nums = lensN nums ∧
 adL (lensN nums) a x1 ++ [(0 : Int)] = adL (lensN nums) a y2 ∧
 adL (lensN nums) b x1 ++ [(0 : Int)] = adL (lensN nums) b y2 ∧
 adB (lensN nums) a b x1 ++ [IntKind.wrap IntKind.i64 ((0 : Int) + (0 : Int))] = adB (lensN nums) a b y2) ∧
 ((List.getD (lensN nums) (Int.toNat (↑x1 : Int)) (0 : Int) == (0 : Int)) = false →
 (List.length (adL (lensN nums) a x1) + (1 : Nat)) * (8 : Nat) ≤ (140737488355328 : Nat) ∧
 (List.length (adL (lensN nums) b x1) + (1 : Nat)) * (8 : Nat) ≤ (140737488355328 : Nat) ∧
 (List.length (adB (lensN nums) a b x1) + (1 : Nat)) * (8 : Nat) ≤ (140737488355328 : Nat) ∧
 ∃ (y3 : Nat),
 Nat.le y3 (List.length (lensN nums)) ∧
 Nat.sub (List.length (lensN nums)) y3 < Nat.sub (List.length (lensN nums)) x1 ∧
 a = a ∧
 b = b ∧
 IntKind.wrap IntKind.i64 ((↑x1 : Int) + (1 : Int)) = (↑y3 : Int) ∧
 lensN nums = lensN nums ∧
 adL (lensN nums) a x1 ++ [md (atL a (↑x1 : Int)) (1000 : Int)] = adL (lensN nums) a y3 ∧
 adL (lensN nums) b x1 ++ [md (atL b (↑x1 : Int)) (1000 : Int)] = adL (lensN nums) b y3 ∧
 adB (lensN nums) a b x1 ++ [IntKind.wrap IntKind.i64 (md (atL a (↑x1 : Int)) (1000 : Int) + md (atL b (↑x1 : Int)) (1000 : Int))] =
 adB (lensN nums) a b y3)) ∧
 (decide ((↑x1 : Int) < (↑(List.length (lensN nums)) : Int)) = false →
 List.length (lensN nums) ≤ (4294967296 : Nat) ∧
 List.length (adL (lensN nums) a x1) ≤ (4294967296 : Nat) ∧
 List.length (lensN nums) ≤ (4294967296 : Nat) ∧
 List.length (adL (lensN nums) b x1) ≤ (4294967296 : Nat) ∧
 List.length (lensN nums) ≤ (4294967296 : Nat) ∧
 List.length (adB (lensN nums) a b x1) ≤ (4294967296 : Nat) ∧
 ((bitE (lensN nums) (adL (lensN nums) a x1) == (0 : Int)) = true →
 ((bitE (lensN nums) (adL (lensN nums) b x1) == (0 : Int)) = true →
 ((bitE (lensN nums) (adB (lensN nums) a b x1) == (0 : Int)) = true →
 ((IntKind.wrap IntKind.i64 (bitV (lensN nums) (adL (lensN nums) a x1) + bitV (lensN nums) (adL (lensN nums) b x1)) == bitV (lensN nums) (adB (lensN nums) a b x1)) =
 true →
 true = true) ∧
 ((IntKind.wrap IntKind.i64 (bitV (lensN nums) (adL (lensN nums) a x1) + bitV (lensN nums) (adL (lensN nums) b x1)) == bitV (lensN nums) (adB (lensN nums) a b x1)) =
 false →
 false = true)) ∧
 ((bitE (lensN nums) (adB (lensN nums) a b x1) == (0 : Int)) = false → false = true)) ∧
 ((bitE (lensN nums) (adL (lensN nums) b x1) == (0 : Int)) = false → false = true)) ∧
 ((bitE (lensN nums) (adL (lensN nums) a x1) == (0 : Int)) = false → false = true))
--end
theorem lawAd7_e (nums a b : List Int) : lawAd7_t nums a b = vcG Try.prog (Gof G7g) (one6 (oAd (lensN nums) a b)) Try.f7 [.dat (.ints .i64 nums), .dat (.ints .i64 a), .dat (.ints .i64 b)] [] (.leaf ((.v (.bool true))) ([])) := by kernel_rfl
end Go.Proofs.Ytfbdocfhgjfboaa
/-
  The verifier's lengths made of numbers: a complete code of at most 11 bits comes out. Conditions: each theorem's own.
-/
namespace Go.Proofs.Ytfbdocfhgjfboaa
open Go Go.RowKit
set_option linter.unusedVariables false
set_option linter.unusedSimpArgs false
set_option maxRecDepth 100000
theorem sum_perm {a b : List Int} (h : a.Perm b) : a.sum = b.sum := by
  induction h with
  | nil => rfl
  | cons x _ ih => simp [ih]
  | swap x y l => simp only [List.sum_cons]; omega
  | trans _ _ h1 h2 => rw [h1, h2]
theorem getD_e {α : Type} {l : List α} {i : Nat} (d : α) (h : i < l.length) : l.getD i d = l[i] := by rw [List.getD_eq_getElem?_getD, List.getElem?_eq_getElem h]; rfl
theorem getD_in {α : Type} {l : List α} {i : Nat} (d : α) (h : i < l.length) : l.getD i d ∈ l := by rw [getD_e d h]; exact List.getElem_mem h
/-! ### the first node -/
theorem bestI_lt {xs : List Nd} (h : 0 < xs.length) : ∀ i, i ≤ xs.length → bestI xs i < xs.length
  | 0, _ => h
  | i + 1, hi => by
    unfold bestI
    have := bestI_lt h i (by omega)
    cases befN (xs.getD i []) (xs.getD (bestI xs i) []) <;> simp only [cond_true, cond_false] <;> omega
theorem bef_le {x y : Nd} : (befN x y = true → ndC x ≤ ndC y) ∧ (befN x y = false → ndC y ≤ ndC x) := by
  unfold befN befB
  by_cases h : ndC x = ndC y
  · exact ⟨fun _ => by omega, fun _ => by omega⟩
  · have : (ndC x != ndC y) = true := by simpa using h
    rw [this]
    simp only [cond_true, decide_eq_true_eq, decide_eq_false_iff_not]
    exact ⟨fun _ => by omega, fun _ => by omega⟩
theorem best_min {xs : List Nd} : ∀ i, ∀ k, k < i → ndC (xs.getD (bestI xs i) []) ≤ ndC (xs.getD k [])
  | 0, k, h => by omega
  | i + 1, k, h => by
    unfold bestI
    cases hb : befN (xs.getD i []) (xs.getD (bestI xs i) [])
    · simp only [cond_false]
      by_cases hk : k < i
      · exact best_min i k hk
      · have : k = i := by omega
        subst this
        exact bef_le.2 hb
    · simp only [cond_true]
      by_cases hk : k < i
      · exact Int.le_trans (bef_le.1 hb) (best_min i k hk)
      · have : k = i := by omega
        subst this
        exact Int.le_refl _
theorem bestX_lt {xs : List Nd} (h : 0 < xs.length) : bestX xs < xs.length := bestI_lt h _ (Nat.le_refl _)
theorem top_min {xs : List Nd} : ∀ x ∈ xs, ndC (topX xs) ≤ ndC x := by
  intro x hx
  obtain ⟨k, hk, rfl⟩ := List.mem_iff_getElem.1 hx
  rw [← getD_e [] hk]
  exact best_min _ k hk
theorem rest_perm {xs : List Nd} (h : 0 < xs.length) : xs.Perm (topX xs :: restX xs) := by
  have hb := bestX_lt h
  have e : xs = xs.take (bestX xs) ++ (topX xs :: xs.drop (bestX xs + 1)) := by
    unfold topX
    rw [getD_e [] hb, ← List.drop_eq_getElem_cons hb, List.take_append_drop]
  unfold restX
  conv => lhs; rw [e]
  exact List.perm_middle
theorem rest_len {xs : List Nd} (h : 0 < xs.length) : (restX xs).length + 1 = xs.length := by
  have := (rest_perm h).length_eq
  simp only [List.length_cons] at this
  omega
/-! ### depths -/
theorem inc_len (ss : List Int) : ∀ out, (incAll out ss).length = out.length := by
  induction ss with
  | nil => intro out; rfl
  | cons s r ih => intro out; unfold incAll at ih ⊢; rw [List.foldl_cons, ih, List.length_set]
theorem inc_snoc (out ss : List Int) (s : Int) : incAll out (ss ++ [s]) = (incAll out ss).set s.toNat ((incAll out ss).getD s.toNat 0 + 1) := by
  simp [incAll, List.foldl_append]
theorem inc_get {n : Nat} (ss : List Int) : (∀ s ∈ ss, 0 ≤ s ∧ s < n) → ∀ out : List Int, out.length = n → ∀ k : Nat, k < n → (incAll out ss).getD k 0 = out.getD k 0 + (ss.count (k : Int) : Nat) := by
  induction ss with
  | nil => intro _ out _ k _; simp [incAll]
  | cons s r ih =>
    intro h out hl k hk
    have hs := h s (by simp)
    have : incAll out (s :: r) = incAll (out.set s.toNat (out.getD s.toNat 0 + 1)) r := rfl
    rw [this, ih (fun x hx => h x (by simp [hx])) _ (by rw [List.length_set]; exact hl) k hk, getD_set_i, List.count_cons]
    by_cases e : s.toNat = k
    · have e2 : s = (k : Int) := by omega
      subst e2
      rw [if_pos ⟨e, by omega⟩]
      simp only [toNat_cast, beq_self_eq_true, if_true]
      push_cast
      omega
    · have e2 : (s == (k : Int)) = false := by simp; omega
      rw [if_neg (fun h => e h.1), e2]
      simp
def mkLeaf (r : List Int) : Nd := nd (r.getD 1 0) 1 (r.getD 0 0) [r.getD 0 0]
theorem leavesG_eq (l : List Int) : ∀ i, leavesG i l = (symsF i l).map mkLeaf := by
  induction l with
  | nil => intro i; rfl
  | cons x r ih =>
    intro i
    unfold leavesG symsF
    cases decide (0 < x)
    · exact ih _
    · simp only [cond_true, List.map_cons, ih]; rfl
theorem leaves_eq (l : List Int) : leaves l = (syms l).map mkLeaf := leavesG_eq l 0
theorem leaves_len (l : List Int) : (leaves l).length = (syms l).length := by rw [leaves_eq, List.length_map]
theorem leaves_take {l : List Int} {i : Nat} (h : i < l.length) : leaves (l.take (i + 1)) = leaves (l.take i) ++ cond (decide (0 < l.getD i 0)) [[[l.getD i 0], [1], [(i : Int)], [(i : Int)]]] [] := by
  rw [leaves_eq, leaves_eq, syms_take h, List.map_append]
  cases decide (0 < l.getD i 0) <;> rfl
/-- the symbols that occur -/
def posL (l : List Int) : List Int := (syms l).map fun r => r.getD 0 0
theorem posL_leaves (l : List Int) : (leaves l).flatMap ndS = posL l := by
  rw [leaves_eq]
  unfold posL
  induction syms l with
  | nil => rfl
  | cons r t ih => rw [List.map_cons, List.flatMap_cons, ih]; rfl
theorem posL_nodup (l : List Int) : (posL l).Nodup := by
  unfold posL
  have := symsF_sorted l 0
  rw [List.Nodup, List.pairwise_map]
  exact this.imp (fun h => by omega)
theorem posL_rng {l : List Int} {s : Int} (h : s ∈ posL l) : 0 ≤ s ∧ s < l.length ∧ 0 < l.getD s.toNat 0 := by
  unfold posL at h
  obtain ⟨r, hr, rfl⟩ := List.mem_map.1 h
  obtain ⟨k, h1, rfl, h3⟩ := syms_mem hr
  simp only [List.getD_cons_zero, toNat_cast]
  exact ⟨by omega, by omega, h3⟩
theorem posF_cong : ∀ (a b : List Int) (i : Int), a.length = b.length → (∀ k, k < a.length → (0 < a.getD k 0 ↔ 0 < b.getD k 0)) → (symsF i a).map (fun r => r.getD 0 0) = (symsF i b).map fun r => r.getD 0 0
  | [], [], i, _, _ => rfl
  | [], y :: b, i, h, _ => by simp at h
  | x :: a, [], i, h, _ => by simp at h
  | x :: a, y :: b, i, h, hp => by
    have h0 := hp 0 (by simp)
    simp only [List.getD_cons_zero] at h0
    have ih := posF_cong a b (i + 1) (by simpa using h) (fun k hk => by simpa using hp (k + 1) (by simpa using hk))
    unfold symsF
    by_cases hx : 0 < x
    · rw [decide_eq_true hx, decide_eq_true (h0.1 hx)]
      simp only [cond_true, List.map_cons, ih]
      rfl
    · rw [decide_eq_false hx, decide_eq_false (fun h => hx (h0.2 h))]
      exact ih
theorem posL_cong {a b : List Int} (h : a.length = b.length) (hp : ∀ k, k < a.length → (0 < a.getD k 0 ↔ 0 < b.getD k 0)) : posL a = posL b := posF_cong a b 0 h hp
theorem posL_len (l : List Int) : (posL l).length = (leaves l).length := by rw [leaves_len]; simp [posL]
/-- Kraft's sum, at 256 bits -/
def kraft (out ss : List Int) : Nat := (ss.map fun s => 2 ^ (256 - (out.getD s.toNat 0).toNat)).sum
theorem kraft_app (out a b : List Int) : kraft out (a ++ b) = kraft out a + kraft out b := by simp [kraft]
theorem kraft_cong {out out' : List Int} {ss : List Int} (h : ∀ s ∈ ss, out'.getD s.toNat 0 = out.getD s.toNat 0) : kraft out' ss = kraft out ss := by
  unfold kraft
  rw [List.map_congr_left fun s hs => by rw [h s hs]]
theorem kraft_inc {out out' : List Int} : ∀ {ss : List Int}, (∀ s ∈ ss, 0 ≤ out.getD s.toNat 0 ∧ out.getD s.toNat 0 ≤ 255 ∧ out'.getD s.toNat 0 = out.getD s.toNat 0 + 1) → 2 * kraft out' ss = kraft out ss
  | [], _ => rfl
  | s :: r, h => by
    have ih := kraft_inc (fun x hx => h x (List.mem_cons_of_mem _ hx) : ∀ x ∈ r, _)
    obtain ⟨h0, h1, h2⟩ := h s (by simp)
    unfold kraft at ih ⊢
    simp only [List.map_cons, List.sum_cons, Nat.mul_add, ih, h2]
    congr 1
    have e : 256 - (out.getD s.toNat 0).toNat = (256 - (out.getD s.toNat 0 + 1).toNat) + 1 := by omega
    rw [e, Nat.pow_succ, Nat.mul_comm]
structure HInv (l : List Int) (j : Nat) (out : List Int) (xs : List Nd) : Prop where
  len : out.length = l.length
  xl : xs.length + j = (leaves l).length
  perm : (xs.flatMap ndS).Perm (posL l)
  zero : ∀ k, k < l.length → (k : Int) ∉ posL l → out.getD k 0 = 0
  bd : ∀ k, k < l.length → 0 ≤ out.getD k 0 ∧ out.getD k 0 ≤ j
  kr : ∀ x ∈ xs, kraft out (ndS x) = 2 ^ 256
  cnt : ∀ x ∈ xs, 1 ≤ ndC x
  tot : (xs.map ndC).sum = sumL l
structure OInv (out : List Int) (xs : List Nd) : Prop where
  ord : ∀ x ∈ xs, ∀ y ∈ xs, ndC x ≤ 2 * ndC y
  hgt : ∀ x ∈ xs, ∀ s ∈ ndS x, 3 ^ (out.getD s.toNat 0).toNat ≤ 2 ^ (out.getD s.toNat 0).toNat * (ndC x).toNat
theorem leaf_mem {l : List Int} {x : Nd} (h : x ∈ leaves l) : ∃ k : Nat, k < l.length ∧ x = [[l.getD k 0], [1], [(k : Int)], [(k : Int)]] ∧ 0 < l.getD k 0 := by
  rw [leaves_eq] at h
  obtain ⟨r, hr, rfl⟩ := List.mem_map.1 h
  obtain ⟨k, h1, rfl, h3⟩ := syms_mem hr
  exact ⟨k, h1, rfl, h3⟩
theorem leaves_sum {l : List Int} (h : ∀ x ∈ l, 0 ≤ x) : ((leaves l).map ndC).sum = sumL l := by
  rw [leaves_eq, List.map_map]
  unfold sumL syms
  have : ∀ (l : List Int) (i : Int), (∀ x ∈ l, 0 ≤ x) → ((symsF i l).map (ndC ∘ mkLeaf)).sum = l.sum := by
    intro l
    induction l with
    | nil => intro i _; rfl
    | cons x r ih =>
      intro i h
      have hx := h x (by simp)
      have ih := ih (i + 1) (fun y hy => h y (by simp [hy]))
      unfold symsF
      by_cases h0 : 0 < x
      · rw [decide_eq_true h0]
        simp only [cond_true, List.map_cons, List.sum_cons, ih]
        rfl
      · rw [decide_eq_false h0]
        simp only [cond_false, List.sum_cons, ih]
        omega
  exact this l 0 h
theorem hinv0 {l : List Int} (h : ∀ x ∈ l, 0 ≤ x) : HInv l 0 (runD l 0).1 (runD l 0).2 where
  len := List.length_replicate
  xl := rfl
  perm := by rw [show (runD l 0).2 = leaves l from rfl, posL_leaves]
  zero := fun k hk _ => by simp [runD, List.getD, List.getElem?_replicate, hk]
  bd := fun k hk => by simp [runD, List.getD, List.getElem?_replicate, hk]
  kr := fun x hx => by
    obtain ⟨k, h1, rfl, h3⟩ := leaf_mem hx
    simp [kraft, ndS, runD, List.getD, List.getElem?_replicate, h1]
  cnt := fun x hx => by
    obtain ⟨k, h1, rfl, h3⟩ := leaf_mem hx
    show 1 ≤ l.getD k 0
    omega
  tot := leaves_sum h
theorem oinv0 {l : List Int} (h : ∀ x ∈ l, x ≤ 1) : OInv (runD l 0).1 (runD l 0).2 where
  ord := fun x hx y hy => by
    obtain ⟨k, h1, rfl, h3⟩ := leaf_mem hx
    obtain ⟨k', h1', rfl, h3'⟩ := leaf_mem hy
    have := h _ (getD_mem' h1)
    have := h _ (getD_mem' h1')
    simp only [ndC, List.getD_cons_zero]
    omega
  hgt := fun x hx s hs => by
    obtain ⟨k, h1, rfl, h3⟩ := leaf_mem hx
    have : s = k := by simpa [ndS] using hs
    subst this
    have e : (runD l 0).1.getD (k : Int).toNat 0 = 0 := by simp [runD, List.getD, List.getElem?_replicate, h1]
    rw [e]
    simp only [ndC, List.getD_cons_zero]
    show 1 ≤ 1 * _
    omega
theorem mrg_S (xs : List Nd) (j : Nat) : ndS (mrgX xs j) = ndS (topX xs) ++ ndS (topX (restX xs)) := rfl
theorem mrg_C (xs : List Nd) (j : Nat) : ndC (mrgX xs j) = ndC (topX xs) + ndC (topX (restX xs)) := rfl
structure Split (l : List Int) (xs : List Nd) : Prop where
  p : xs.Perm (topX xs :: topX (restX xs) :: restX (restX xs))
  nd1 : (ndS (topX xs) ++ ndS (topX (restX xs))).Nodup
  q : ∀ q ∈ restX (restX xs), ∀ s ∈ ndS q, s ∉ ndS (topX xs) ++ ndS (topX (restX xs))
  rng : ∀ x ∈ xs, ∀ s ∈ ndS x, s ∈ posL l
theorem HInv.split {l : List Int} {j : Nat} {out : List Int} {xs : List Nd} (h : HInv l j out xs) (h2 : 2 ≤ xs.length) : Split l xs := by
  have p1 := rest_perm (xs := xs) (by omega)
  have r1 := rest_len (xs := xs) (by omega)
  have p2 := rest_perm (xs := restX xs) (by omega)
  have p : xs.Perm (topX xs :: topX (restX xs) :: restX (restX xs)) := p1.trans (p2.cons _)
  have hn : ((topX xs :: topX (restX xs) :: restX (restX xs)).flatMap ndS).Nodup := ((p.flatMap_right ndS).symm.trans h.perm).symm.nodup (posL_nodup l)
  rw [List.flatMap_cons, List.flatMap_cons, ← List.append_assoc, List.nodup_append] at hn
  refine ⟨p, hn.1, fun q hq s hs hm => ?_, fun x hx s hs => ?_⟩
  · exact hn.2.2 s hm s (List.mem_flatMap.2 ⟨q, hq, hs⟩) rfl
  · exact h.perm.mem_iff.1 (List.mem_flatMap.2 ⟨x, hx, hs⟩)
theorem HInv.get {l : List Int} {j : Nat} {out : List Int} {xs : List Nd} (h : HInv l j out xs) (h2 : 2 ≤ xs.length) : ∀ k, k < l.length →
    (incAll out (ndS (mrgX xs j))).getD k 0 = out.getD k 0 + (if (k : Int) ∈ ndS (topX xs) ++ ndS (topX (restX xs)) then 1 else 0) := by
  intro k hk
  have sp := h.split h2
  have hx : topX xs ∈ xs := sp.p.mem_iff.2 (by simp)
  have hy : topX (restX xs) ∈ xs := sp.p.mem_iff.2 (by simp)
  rw [mrg_S, inc_get (n := l.length) _ (fun s hs => ?_) _ h.len k hk, List.Nodup.count sp.nd1]
  · split <;> rfl
  · rw [List.mem_append] at hs
    have := posL_rng (hs.elim (sp.rng _ hx s) (sp.rng _ hy s))
    exact ⟨this.1, this.2.1⟩
theorem hinvS {l : List Int} {j : Nat} {out : List Int} {xs : List Nd} (hm : (leaves l).length ≤ 256) (h : HInv l j out xs) (h2 : 2 ≤ xs.length) : HInv l (j + 1) (stepD (out, xs) j).1 (stepD (out, xs) j).2 := by
  have sp := h.split h2
  have hg := h.get h2
  have hx : topX xs ∈ xs := sp.p.mem_iff.2 (by simp)
  have hy : topX (restX xs) ∈ xs := sp.p.mem_iff.2 (by simp)
  have hxl := h.xl
  have r1 := rest_len (xs := xs) (by omega)
  have r2 := rest_len (xs := restX xs) (by omega)
  have cs : ∀ s ∈ ndS (topX xs) ++ ndS (topX (restX xs)), s ∈ posL l := by
    intro s hs
    rw [List.mem_append] at hs
    exact hs.elim (sp.rng _ hx s) (sp.rng _ hy s)
  have up : ∀ s ∈ ndS (topX xs) ++ ndS (topX (restX xs)), 0 ≤ out.getD s.toNat 0 ∧ out.getD s.toNat 0 ≤ 255 ∧ (incAll out (ndS (mrgX xs j))).getD s.toNat 0 = out.getD s.toNat 0 + 1 := by
    intro s hs
    have hr := posL_rng (cs s hs)
    have e : ((s.toNat : Nat) : Int) = s := by omega
    have hb := h.bd s.toNat (by omega)
    refine ⟨hb.1, by omega, ?_⟩
    rw [hg s.toNat (by omega), e, if_pos hs]
  refine ⟨?_, ?_, ?_, ?_, ?_, ?_, ?_, ?_⟩
  · simp only [stepD]; rw [inc_len]; exact h.len
  · simp only [stepD, List.length_append, List.length_singleton]; omega
  · simp only [stepD, List.flatMap_append, List.flatMap_cons, List.flatMap_nil, List.append_nil]
    refine List.Perm.trans ?_ ((sp.p.flatMap_right ndS).symm.trans h.perm)
    rw [mrg_S, List.flatMap_cons, List.flatMap_cons]
    exact List.perm_append_comm.trans (List.Perm.of_eq (List.append_assoc ..))
  · intro k hk hn
    simp only [stepD]
    rw [hg k hk, h.zero k hk hn, if_neg (fun hm => hn (cs _ hm))]
    rfl
  · intro k hk
    have := h.bd k hk
    simp only [stepD]
    rw [hg k hk]
    split <;> omega
  · intro z hz
    simp only [stepD, List.mem_append, List.mem_singleton] at hz
    rcases hz with hz | rfl
    · have hzx : z ∈ xs := sp.p.mem_iff.2 (by simp [hz])
      rw [← h.kr z hzx]
      refine kraft_cong fun s hs => ?_
      have hr := posL_rng (sp.rng z hzx s hs)
      have e : ((s.toNat : Nat) : Int) = s := by omega
      simp only [stepD]
      rw [hg s.toNat (by omega), e, if_neg (sp.q z hz s hs)]
      omega
    · have k1 := kraft_inc up
      rw [kraft_app out, h.kr _ hx, h.kr _ hy] at k1
      show kraft (incAll out (ndS (mrgX xs j))) (ndS (topX xs) ++ ndS (topX (restX xs))) = 2 ^ 256
      omega
  · intro z hz
    simp only [stepD, List.mem_append, List.mem_singleton] at hz
    rcases hz with hz | rfl
    · exact h.cnt z (sp.p.mem_iff.2 (by simp [hz]))
    · have := h.cnt _ hx
      have := h.cnt _ hy
      rw [mrg_C]; omega
  · have := sum_perm (sp.p.map ndC)
    simp only [List.map_cons, List.sum_cons] at this
    simp only [stepD, List.map_append, List.map_cons, List.map_nil, List.sum_append_int, List.sum_cons, List.sum_nil]
    rw [mrg_C, ← h.tot]
    omega
theorem oinvS {l : List Int} {j : Nat} {out : List Int} {xs : List Nd} (h : HInv l j out xs) (h2 : 2 ≤ xs.length) (o : OInv out xs) : OInv (stepD (out, xs) j).1 (stepD (out, xs) j).2 := by
  have sp := h.split h2
  have hg := h.get h2
  have hx : topX xs ∈ xs := sp.p.mem_iff.2 (by simp)
  have hy : topX (restX xs) ∈ xs := sp.p.mem_iff.2 (by simp)
  have cx := h.cnt _ hx
  have cy := h.cnt _ hy
  have xy := top_min (xs := xs) _ hy
  have yx := o.ord _ hy _ hx
  have r1 := rest_len (xs := xs) (by omega)
  have ymin : ∀ q ∈ restX (restX xs), ndC (topX (restX xs)) ≤ ndC q := fun q hq => top_min _ ((rest_perm (xs := restX xs) (by omega)).mem_iff.2 (by simp [hq]))
  refine ⟨?_, ?_⟩
  · intro a ha b hb
    simp only [stepD, List.mem_append, List.mem_singleton] at ha hb
    rcases ha with ha | rfl <;> rcases hb with hb | rfl
    · exact o.ord _ (sp.p.mem_iff.2 (by simp [ha])) _ (sp.p.mem_iff.2 (by simp [hb]))
    · have := o.ord a (sp.p.mem_iff.2 (by simp [ha])) _ hx
      rw [mrg_C]; omega
    · have := ymin b hb
      rw [mrg_C]; omega
    · rw [mrg_C]; omega
  · have step : ∀ (c : Int) (w : Int) (d : Nat), 1 ≤ c → 2 * w ≥ 3 * c → 3 ^ d ≤ 2 ^ d * c.toNat → 3 ^ (d + 1) ≤ 2 ^ (d + 1) * w.toNat := by
      intro c w d h1 h2 h3
      rw [Nat.pow_succ, Nat.pow_succ, Nat.mul_assoc]
      calc 3 ^ d * 3 ≤ (2 ^ d * c.toNat) * 3 := Nat.mul_le_mul_right _ h3
        _ = 2 ^ d * (c.toNat * 3) := by rw [Nat.mul_assoc]
        _ ≤ 2 ^ d * (2 * w.toNat) := Nat.mul_le_mul_left _ (by omega)
    intro z hz s hs
    simp only [stepD, List.mem_append, List.mem_singleton] at hz
    rcases hz with hz | rfl
    · have hzx : z ∈ xs := sp.p.mem_iff.2 (by simp [hz])
      have hr := posL_rng (sp.rng z hzx s hs)
      have e : ((s.toNat : Nat) : Int) = s := by omega
      simp only [stepD]
      rw [hg s.toNat (by omega), e, if_neg (sp.q z hz s hs), Int.add_zero]
      exact o.hgt z hzx s hs
    · have hsm := hs
      rw [mrg_S] at hs
      have hin : s ∈ posL l := by
        rw [List.mem_append] at hs
        exact hs.elim (sp.rng _ hx s) (sp.rng _ hy s)
      have hr := posL_rng hin
      have e : ((s.toNat : Nat) : Int) = s := by omega
      have hb := h.bd s.toNat (by omega)
      simp only [stepD]
      rw [hg s.toNat (by omega), e, if_pos hs, show (out.getD s.toNat 0 + 1).toNat = (out.getD s.toNat 0).toNat + 1 by omega, mrg_C]
      rw [List.mem_append] at hs
      rcases hs with hs | hs
      · exact step _ _ _ cx (by omega) (o.hgt _ hx s hs)
      · exact step _ _ _ cy (by omega) (o.hgt _ hy s hs)
theorem hinv {l : List Int} (h0 : ∀ x ∈ l, 0 ≤ x) (hm : (leaves l).length ≤ 256) : ∀ j, j + 1 ≤ (leaves l).length → HInv l j (runD l j).1 (runD l j).2
  | 0, _ => hinv0 h0
  | j + 1, hj => by
    have ih := hinv h0 hm j (by omega)
    have := ih.xl
    exact hinvS hm ih (by omega)
theorem oinv {l : List Int} (h0 : ∀ x ∈ l, 0 ≤ x) (h1 : ∀ x ∈ l, x ≤ 1) (hm : (leaves l).length ≤ 256) : ∀ j, j + 1 ≤ (leaves l).length → OInv (runD l j).1 (runD l j).2
  | 0, _ => oinv0 h1
  | j + 1, hj => by
    have ih := hinv h0 hm j (by omega)
    have := ih.xl
    exact oinvS ih (by omega) (oinv h0 h1 hm j (by omega))
end Go.Proofs.Ytfbdocfhgjfboaa
/-
  The verifier's lengths made of numbers: they are right. Conditions: each theorem's own.
-/
namespace Go.Proofs.Ytfbdocfhgjfboaa
open Go Go.RowKit
set_option linter.unusedVariables false
set_option linter.unusedSimpArgs false
set_option maxRecDepth 100000
/-- what the depths are -/
structure DepOk (l out : List Int) : Prop where
  len : out.length = l.length
  zero : ∀ k, k < l.length → (k : Int) ∉ posL l → out.getD k 0 = 0
  bd : ∀ k, k < l.length → 0 ≤ out.getD k 0 ∧ out.getD k 0 ≤ 255
  kr : kraft out (posL l) = 2 ^ 256
theorem depL_ok {l : List Int} (h0 : ∀ x ∈ l, 0 ≤ x) (hm : (leaves l).length ≤ 256) (h2 : 2 ≤ (leaves l).length) : DepOk l (depL l) ∧
    ((∀ x ∈ l, x ≤ 1) → l.length ≤ 40 → ∀ k, k < l.length → (depL l).getD k 0 ≤ 9) := by
  have h := hinv h0 hm ((leaves l).length - 1) (by omega)
  have hxl := h.xl
  obtain ⟨r, hr⟩ : ∃ r, (runD l ((leaves l).length - 1)).2 = [r] := by
    have : (runD l ((leaves l).length - 1)).2.length = 1 := by omega
    match hq : (runD l ((leaves l).length - 1)).2, this with
    | [r], _ => exact ⟨r, rfl⟩
  have hp := h.perm
  rw [hr] at hp
  simp only [List.flatMap_cons, List.flatMap_nil, List.append_nil] at hp
  have hk := h.kr r (by rw [hr]; simp)
  refine ⟨⟨h.len, h.zero, fun k hk => ?_, ?_⟩, fun h1 hL k hkl => ?_⟩
  · have := h.bd k hk
    exact ⟨this.1, by show (runD l ((leaves l).length - 1)).1.getD k 0 ≤ 255; omega⟩
  · rw [← hk]
    unfold kraft depL
    exact ((hp.map _).sum_nat).symm
  · have o := oinv h0 h1 hm ((leaves l).length - 1) (by omega)
    by_cases hkp : (k : Int) ∈ posL l
    · have hh := o.hgt r (by rw [hr]; simp) (k : Int) (hp.mem_iff.2 hkp)
      have ht := h.tot
      rw [hr] at ht
      simp only [List.map_cons, List.map_nil, List.sum_cons, List.sum_nil, Int.add_zero] at ht
      have hs : sumL l ≤ l.length := by
        unfold sumL
        have : ∀ l : List Int, (∀ x ∈ l, x ≤ 1) → l.sum ≤ l.length := by
          intro l
          induction l with
          | nil => intro _; simp
          | cons x r ih =>
            intro h
            have := h x (by simp)
            have := ih (fun y hy => h y (by simp [hy]))
            simp only [List.sum_cons, List.length_cons]
            push_cast
            omega
        exact this l h1
      have hb := h.bd k hkl
      rw [toNat_cast] at hh
      show (runD l ((leaves l).length - 1)).1.getD k 0 ≤ 9
      generalize (runD l ((leaves l).length - 1)).1.getD k 0 = d at hh hb
      have hc : (ndC r).toNat ≤ 40 := by omega
      by_cases hd : d ≤ 9
      · exact hd
      · exfalso
        obtain ⟨e, he⟩ : ∃ e, d.toNat = 10 + e := ⟨d.toNat - 10, by omega⟩
        rw [he, Nat.pow_add, Nat.pow_add] at hh
        have h23 : 2 ^ e ≤ 3 ^ e := Nat.pow_le_pow_left (by omega) e
        have hpos : 0 < 3 ^ e := Nat.pow_pos (by omega)
        have : 2 ^ 10 * 2 ^ e * (ndC r).toNat ≤ 2 ^ 10 * 3 ^ e * 40 := Nat.mul_le_mul (Nat.mul_le_mul_left _ h23) hc
        have : 3 ^ 10 * 3 ^ e ≤ 2 ^ 10 * 3 ^ e * 40 := Nat.le_trans hh this
        have e1 : (3 : Nat) ^ 10 = 59049 := by decide
        have e2 : (2 : Nat) ^ 10 = 1024 := by decide
        rw [e1, e2] at this
        omega
    · have := h.zero k hkl hkp
      show (runD l ((leaves l).length - 1)).1.getD k 0 ≤ 9
      omega
theorem cntP_syms (l : List Int) : cntP l = ((syms l).length : Int) := by
  induction l using snoc_ind' with
  | h0 => rfl
  | h1 l z ih =>
    rw [cntP_snoc, syms_snoc, List.length_append, ih]
    cases decide (0 < z) <;> simp
theorem kraft_one {out ss : List Int} : ∀ s ∈ ss, (∃ t ∈ ss, t ≠ s) → kraft out ss = 2 ^ 256 → out.getD s.toNat 0 ≠ 0 := by
  intro s hs ⟨t, ht, hne⟩ hk h0
  obtain ⟨a, b, rfl⟩ := List.append_of_mem hs
  have e : kraft out (a ++ s :: b) = kraft out (a ++ b) + 2 ^ 256 := by
    simp only [kraft, List.map_append, List.map_cons, List.sum_append_nat, List.sum_cons, h0]
    simp only [Int.toNat_zero, Nat.sub_zero]
    omega
  have h2 : t ∈ a ++ b := by
    simp only [List.mem_append, List.mem_cons] at ht ⊢
    rcases ht with h | h | h
    · exact .inl h
    · exact absurd h hne
    · exact .inr h
  have h3 : 0 < kraft out (a ++ b) := by
    obtain ⟨c, d, e2⟩ := List.append_of_mem h2
    rw [e2]
    simp only [kraft, List.map_append, List.map_cons, List.sum_append_nat, List.sum_cons]
    have : 0 < 2 ^ (256 - (out.getD t.toNat 0).toNat) := Nat.pow_pos (by omega)
    omega
  omega
theorem kraft_11 {out : List Int} : ∀ (ss : List Int), (∀ s ∈ ss, 0 ≤ out.getD s.toNat 0 ∧ out.getD s.toNat 0 ≤ 11) → kraft out ss = 2 ^ 245 * (ss.map fun s => 2 ^ (11 - out.getD s.toNat 0).toNat).sum
  | [], _ => rfl
  | s :: r, h => by
    have ih := kraft_11 r (fun x hx => h x (by simp [hx]))
    have hs := h s (by simp)
    unfold kraft at ih ⊢
    simp only [List.map_cons, List.sum_cons, ih, Nat.mul_add, ← Nat.pow_add]
    congr 2
    omega
theorem posL_two {l : List Int} (h2 : 2 ≤ (leaves l).length) : ∀ s ∈ posL l, ∃ t ∈ posL l, t ≠ s := by
  intro s hs
  have hl := posL_len l
  have hn := posL_nodup l
  match hq : posL l, hl, hn with
  | a :: b :: r, _, hn =>
    rw [hq] at hs
    have hab : a ≠ b := by
      simp only [List.nodup_cons, List.mem_cons, not_or] at hn
      exact hn.1.1
    by_cases e : s = a
    · exact ⟨b, by simp, fun h => hab (by rw [h, e])⟩
    · exact ⟨a, by simp, fun h => e h.symm⟩
  | [a], hl, _ => simp at hl; omega
  | [], hl, _ => simp at hl; omega
/-- depths of at most 11 are the lengths of a complete code -/
theorem dep_chk {l out : List Int} (h : DepOk l out) (hl : l.length ≤ 256) (h2 : 2 ≤ (leaves l).length) (hd : okD out = true) : chk out = 0 ∧ posL out = posL l := by
  have hd' : ∀ x ∈ out, x ≤ 11 := fun x hx => by simpa using List.all_eq_true.1 hd x hx
  have hlen := h.len
  have b11 : ∀ k, k < l.length → 0 ≤ out.getD k 0 ∧ out.getD k 0 ≤ 11 := fun k hk => ⟨(h.bd k hk).1, hd' _ (getD_mem' (by omega))⟩
  have hok : out.all okLen = true := by
    rw [List.all_eq_true]
    intro x hx
    obtain ⟨k, hk, rfl⟩ := List.mem_iff_getElem.1 hx
    have := b11 k (by omega)
    rw [getD_e 0 hk] at this
    exact okLen_iff.2 this
  have hpos : ∀ k, k < out.length → (0 < out.getD k 0 ↔ 0 < l.getD k 0) := by
    intro k hk
    have hb := b11 k (by omega)
    have key : (k : Int) ∈ posL l ↔ 0 < l.getD k 0 := by
      refine ⟨fun h => by simpa using (posL_rng h).2.2, fun hp => ?_⟩
      have hs := syms_snoc (l.take k) (l.getD k 0)
      rw [← take_succ l 0 (by omega), decide_eq_true hp, cond_true, List.length_take, Nat.min_eq_left (by omega)] at hs
      have e : l = l.take (k + 1) ++ l.drop (k + 1) := (List.take_append_drop _ _).symm
      unfold posL
      rw [List.mem_map]
      refine ⟨[(k : Int), l.getD k 0], ?_, rfl⟩
      have e2 : syms l = syms (l.take (k + 1)) ++ symsF ((l.take (k + 1)).length : Int) (l.drop (k + 1)) := by
        conv => lhs; rw [e]
        unfold syms
        rw [symsF_app]
        simp
      rw [e2, hs]
      simp
    by_cases hm : (k : Int) ∈ posL l
    · have h1 := kraft_one (k : Int) hm (posL_two h2 _ hm) h.kr
      rw [toNat_cast] at h1
      exact ⟨fun _ => key.1 hm, fun _ => by omega⟩
    · have h1 := h.zero k (by omega) hm
      rw [← key]
      exact ⟨fun h => by omega, fun h => absurd h hm⟩
  have hP : posL out = posL l := posL_cong hlen hpos
  refine ⟨?_, hP⟩
  have hc : cntP out = ((posL l).length : Int) := by rw [cntP_syms, ← hP]; simp [posL]
  have hr : roomL out = 2048 := by
    have hk := h.kr
    rw [kraft_11 _ (fun s hs => by
      have := posL_rng hs
      exact b11 s.toNat (by omega))] at hk
    have e : (roomL out) = (((posL l).map fun s => 2 ^ (11 - out.getD s.toNat 0).toNat).sum : Nat) := by
      unfold roomL
      rw [← tot_syms, ← hP]
      unfold tot posL
      rw [List.map_map]
      congr 2
      refine List.map_congr_left fun r hr => ?_
      obtain ⟨k, h1, rfl, h3⟩ := syms_mem hr
      simp [wid]
    rw [e]
    have e3 : (2 : Nat) ^ 256 = 2 ^ 245 * 2048 := by rw [show (256 : Nat) = 245 + 11 from rfl, Nat.pow_add]
    rw [e3] at hk
    have := Nat.eq_of_mul_eq_mul_left (Nat.pow_pos (by omega)) hk
    rw [this]
    rfl
  rw [chk_ok (by omega) hok, hc, hr]
  have := posL_len l
  rw [decide_eq_false (by omega)]
  rfl
/-! ### halving -/
theorem half_eq {c : Int} (h : 0 ≤ c) : halfC c = (c + 1) / 2 := by unfold halfC; rw [Int.tdiv_eq_ediv_of_nonneg (by omega)]
theorem half_bd {c : Int} (h : 0 ≤ c) : 0 ≤ halfC c ∧ halfC c ≤ c ∧ (0 < halfC c ↔ 0 < c) ∧ (2 ≤ c → halfC c < c) := by
  rw [half_eq h]
  omega
structure Cn (l : List Int) : Prop where
  nn : ∀ x ∈ l, 0 ≤ x
  tot : sumL l ≤ 1099511627776
theorem cn_iff {l : List Int} : cntsOk l = true ↔ Cn l := by
  unfold cntsOk
  simp only [Bool.and_eq_true, List.all_eq_true, decide_eq_true_eq]
  exact ⟨fun h => ⟨h.1, h.2⟩, fun h => ⟨h.nn, h.tot⟩⟩
theorem sum_nn : ∀ {l : List Int}, (∀ x ∈ l, 0 ≤ x) → 0 ≤ l.sum
  | [], _ => by simp
  | x :: r, h => by
    have := h x (by simp)
    have := sum_nn (fun y hy => h y (by simp [hy]) : ∀ y ∈ r, 0 ≤ y)
    simp only [List.sum_cons]; omega
theorem half_sum : ∀ {l : List Int}, (∀ x ∈ l, 0 ≤ x) → (l.map halfC).sum ≤ l.sum ∧ ((∃ x ∈ l, 2 ≤ x) → (l.map halfC).sum < l.sum)
  | [], _ => ⟨by simp, fun ⟨x, hx, _⟩ => by simp at hx⟩
  | x :: r, h => by
    have hx := half_bd (h x (by simp))
    have ih := half_sum (fun y hy => h y (by simp [hy]) : ∀ y ∈ r, 0 ≤ y)
    simp only [List.map_cons, List.sum_cons]
    refine ⟨by omega, fun ⟨y, hy, h2⟩ => ?_⟩
    simp only [List.mem_cons] at hy
    rcases hy with rfl | hy
    · have := hx.2.2.2 h2; omega
    · have := ih.2 ⟨y, hy, h2⟩; omega
theorem half_cn {l : List Int} (h : Cn l) : Cn (l.map halfC) where
  nn := fun x hx => by
    obtain ⟨y, hy, rfl⟩ := List.mem_map.1 hx
    exact (half_bd (h.nn y hy)).1
  tot := by
    have := (half_sum h.nn).1
    have := h.tot
    unfold sumL at *
    omega
theorem half_pos {l : List Int} (h : Cn l) : (leaves (l.map halfC)).length = (leaves l).length := by
  rw [← posL_len, ← posL_len]
  congr 1
  refine posL_cong (by simp) fun k hk => ?_
  have hk' : k < l.length := by simpa using hk
  have := (half_bd (h.nn _ (getD_mem' hk'))).2.2.1
  rw [show (l.map halfC).getD k 0 = halfC (l.getD k 0) by simp [List.getD, List.getElem?_eq_getElem hk']]
  exact this
theorem halfs_ok {l : List Int} (h : Cn l) : ∀ j, Cn (halfs l j) ∧ (leaves (halfs l j)).length = (leaves l).length ∧ (halfs l j).length = l.length
  | 0 => ⟨h, rfl, rfl⟩
  | j + 1 => by
    obtain ⟨h1, h2, h3⟩ := halfs_ok h j
    exact ⟨half_cn h1, by rw [← h2]; exact half_pos h1, by rw [← h3]; simp [halfs]⟩
/-- as long as there is a depth over 11, some count is above 1 -/
theorem not_ok {l : List Int} (h : Cn l) (hl : l.length ≤ 40) (h2 : 2 ≤ (leaves l).length) (hd : okD (depL l) = false) : sumL (l.map halfC) < sumL l := by
  have hm : (leaves l).length ≤ 256 := by rw [leaves_len]; have := syms_len_le l; omega
  obtain ⟨ho, h9⟩ := depL_ok h.nn hm h2
  refine (half_sum h.nn).2 ?_
  apply Classical.byContradiction
  intro hno
  have h1 : ∀ x ∈ l, x ≤ 1 := fun x hx => by
    apply Classical.byContradiction
    intro hx2
    exact hno ⟨x, hx, by omega⟩
  have h9 := h9 h1 hl
  have : okD (depL l) = true := by
    unfold okD
    rw [List.all_eq_true]
    intro x hx
    obtain ⟨k, hk, rfl⟩ := List.mem_iff_getElem.1 hx
    have := h9 k (by rw [← ho.len]; exact hk)
    rw [getD_e 0 hk] at this
    simp only [decide_eq_true_eq]; omega
  rw [hd] at this
  cases this
theorem ofF_ok : ∀ (f : Nat) (l : List Int), Cn l → l.length ≤ 40 → 2 ≤ (leaves l).length → (sumL l).toNat < f → chk (ofF f l) = 0 ∧ (ofF f l).length = l.length ∧ posL (ofF f l) = posL l
  | 0, l, _, _, _, h => by omega
  | f + 1, l, hc, hl, h2, hf => by
    have hm : (leaves l).length ≤ 256 := by rw [leaves_len]; have := syms_len_le l; omega
    have ho := (depL_ok hc.nn hm h2).1
    unfold ofF
    cases hd : okD (depL l)
    · have hlt := not_ok hc hl h2 hd
      have hn := sum_nn (half_cn hc).nn
      have hp := half_pos hc
      obtain ⟨k1, k2, k3⟩ := ofF_ok f (l.map halfC) (half_cn hc) (by simpa using hl) (by omega) (by unfold sumL at *; omega)
      refine ⟨k1, by rw [cond_false, k2]; simp, ?_⟩
      rw [cond_false, k3]
      refine posL_cong (by simp) fun k hk => ?_
      have hk' : k < l.length := by simpa using hk
      rw [show (l.map halfC).getD k 0 = halfC (l.getD k 0) by simp [List.getD, List.getElem?_eq_getElem hk']]
      exact (half_bd (hc.nn _ (getD_mem' hk'))).2.2.1
    · have := dep_chk ho (by omega) h2 hd
      exact ⟨this.1, ho.len, this.2⟩
theorem ofL_ok {l : List Int} (hc : Cn l) (hl : l.length ≤ 40) (h2 : 2 ≤ (leaves l).length) : chk (ofL l) = 0 ∧ (ofL l).length = l.length ∧ posL (ofL l) = posL l := ofF_ok _ l hc hl h2 (by omega)
/-! ### counts made of numbers -/
theorem md_bd {x m : Int} (h : 1 ≤ m) : 0 ≤ md x m ∧ md x m < m := by
  unfold md
  rw [decide_eq_false (by omega)]
  exact ⟨Int.emod_nonneg _ (by omega), Int.emod_lt_of_pos _ (by omega)⟩
theorem cntK_bd (k : Int) (h0 : 0 ≤ k) : 0 ≤ cntK k ∧ cntK k ≤ 2048 := by
  unfold cntK
  cases decide (0 < k.tmod 3)
  · simp
  · simp only [cond_true]
    have h1 : 0 ≤ (k.tdiv 3).tmod 12 := Int.tmod_nonneg _ (Int.tdiv_nonneg h0 (by omega))
    have h2 : (k.tdiv 3).tmod 12 < 12 := Int.tmod_lt_of_pos _ (by omega)
    have h3 := pow_mono (show ((k.tdiv 3).tmod 12).toNat ≤ 11 by omega)
    have h4 := pow_pos' ((k.tdiv 3).tmod 12).toNat
    omega
theorem cntX_bd (x : Int) : 0 ≤ cntX x ∧ cntX x ≤ 2048 := cntK_bd _ (md_bd (by omega)).1
theorem cnts_el (nums : List Int) (i : Nat) : ∀ x ∈ cntsP nums i, 0 ≤ x ∧ x ≤ 2048 := by
  intro x hx
  unfold cntsP at hx
  have h1 := md_bd (x := atL nums 0) (show (1 : Int) ≤ 9 by omega)
  have h2 := md_bd (x := atL nums 1) (show (1 : Int) ≤ 9 by omega)
  simp only [List.mem_append, List.mem_cons, List.not_mem_nil, or_false, List.mem_map] at hx
  rcases hx with (rfl | rfl) | ⟨y, _, rfl⟩
  · omega
  · omega
  · exact cntX_bd y
theorem cnts_len (nums : List Int) {i : Nat} (h2 : 2 ≤ i) : (cntsP nums i).length = 2 + (min i nums.length - 2) := by
  unfold cntsP
  simp only [List.length_append, List.length_cons, List.length_nil, List.length_map, List.length_drop, List.length_take]
theorem cnts_cn (nums : List Int) {i : Nat} (h2 : 2 ≤ i) (hi : i ≤ 40) : Cn (cntsP nums i) where
  nn := fun x hx => (cnts_el nums i x hx).1
  tot := by
    have hl := cnts_len nums h2
    have : ∀ l : List Int, (∀ x ∈ l, x ≤ 2048) → l.sum ≤ 2048 * l.length := by
      intro l
      induction l with
      | nil => intro _; simp
      | cons x r ih =>
        intro h
        have := h x (by simp)
        have := ih (fun y hy => h y (by simp [hy]))
        simp only [List.sum_cons, List.length_cons]
        push_cast
        omega
    have := this _ (fun x hx => (cnts_el nums i x hx).2)
    unfold sumL
    omega
theorem cnts_two (nums : List Int) (i : Nat) : 2 ≤ (leaves (cntsP nums i)).length := by
  have h1 := md_bd (x := atL nums 0) (show (1 : Int) ≤ 9 by omega)
  have h2 := md_bd (x := atL nums 1) (show (1 : Int) ≤ 9 by omega)
  rw [leaves_len]
  unfold cntsP syms
  simp only [List.cons_append, List.nil_append, symsF]
  rw [decide_eq_true (show 0 < 1 + md (atL nums 0) 9 by omega), decide_eq_true (show 0 < 1 + md (atL nums 1) 9 by omega)]
  simp
theorem lensN_ok (nums : List Int) : chk (lensN nums) = 0 ∧ (lensN nums).length = (cntsN nums).length ∧ (lensN nums).length ≤ 40 := by
  have hb : 2 ≤ max 2 (min nums.length 40) ∧ max 2 (min nums.length 40) ≤ 40 := by omega
  have hl := cnts_len nums hb.1
  have hL : (cntsN nums).length ≤ 40 := by unfold cntsN; omega
  have := ofL_ok (cnts_cn nums hb.1 hb.2) hL (cnts_two nums _)
  exact ⟨this.1, this.2.1, by unfold lensN; show (ofL (cntsP nums _)).length ≤ 40; rw [this.2.1]; exact hL⟩
end Go.Proofs.Ytfbdocfhgjfboaa
/-
  Chapter 16: no code begins another one, cells stand in order. Conditions: each theorem's own.
-/
namespace Go.Proofs.Ytfbdocfhgjfboaa
open Go Go.RowKit
set_option linter.unusedVariables false
set_option linter.unusedSimpArgs false
set_option maxRecDepth 100000
/-! ### symbols by their place -/
theorem sym_eq {l : List Int} {i : Nat} (h : i < (ordS l).length) : symI l i = [(kI l i : Int), bI l i] ∧ kI l i < l.length ∧ 0 < bI l i := by
  obtain ⟨k, h1, h2, h3⟩ := symI_mem h
  have e : kI l i = k := by unfold kI; rw [h2]; simp
  unfold bI
  rw [e]
  exact ⟨h2, h1, h3⟩
theorem aI_cast {l : List Int} (i : Nat) : atF (gmx l) (ordS l) i = (aI l i : Int) := by
  have := atF_nonneg (gmx l) (ordS l) i
  unfold aI
  omega
theorem aI_succ {l : List Int} {i : Nat} (h : i < (ordS l).length) : aI l (i + 1) = aI l i + wI l i := by
  have := atF_succ (gmx l) (ordS l) h
  rw [aI_cast, aI_cast] at this
  unfold wI symI
  omega
theorem aI_mono {l : List Int} {i j : Nat} (hij : i < j) (hj : j ≤ (ordS l).length) : aI l i + wI l i ≤ aI l j := by
  induction j with
  | zero => omega
  | succ j ih =>
    have e := aI_succ (l := l) (i := j) (by omega)
    by_cases h : i = j
    · subst h; omega
    · have := ih (by omega) (by omega)
      omega
theorem wI_eq {l : List Int} {i : Nat} (h : i < (ordS l).length) : wI l i = 2 ^ (gmx l - bI l i).toNat := by
  unfold wI wid
  rw [(sym_eq h).1]
  simp
theorem aI_end {l : List Int} (hg : Good l) : aI l (ordS l).length = 2 ^ (gmx l).toNat := by
  have := atF_tot (gmx l) (ordS l) (ordS l).length
  rw [List.take_length, hg.sum, aI_cast] at this
  omega
theorem bI_bd {l : List Int} (hg : Good l) {i : Nat} (h : i < (ordS l).length) : 1 ≤ bI l i ∧ bI l i ≤ gmx l := by
  obtain ⟨h1, h2, h3⟩ := sym_eq h
  exact ⟨by omega, (gmx_ge l).2 _ (getD_mem' h2)⟩
theorem ord_le {l : List Int} {i j : Nat} (hij : i < j) (hj : j < (ordS l).length) : sLe (symI l i) (symI l j) = true := by
  have hs : (ordS l).Pairwise (fun x y => sLe x y = true) := srt_sorted _
  have := List.pairwise_iff_getElem.1 hs i j (by omega) hj hij
  unfold symI
  rw [getD_e [] (by omega), getD_e [] hj]
  exact this
theorem ord_cmp {l : List Int} {i j : Nat} (hij : i < j) (hj : j < (ordS l).length) : bI l j < bI l i ∨ (bI l j = bI l i ∧ kI l i < kI l j) := by
  have h := ord_le hij hj
  have hn := List.pairwise_iff_getElem.1 (ordS_nodup l) i j (by omega) hj hij
  rw [← getD_e [] (by omega), ← getD_e [] hj] at hn
  have hn' : kI l i ≠ kI l j := hn
  rw [(sym_eq (show i < (ordS l).length by omega)).1, (sym_eq hj).1] at h
  unfold sLe at h
  simp only [List.getD_cons_succ, List.getD_cons_zero, Bool.or_eq_true, Bool.and_eq_true, decide_eq_true_eq] at h
  rcases h with h | ⟨h1, h2⟩
  · exact .inl h
  · exact .inr ⟨h1, by omega⟩
theorem ord_ne {l : List Int} {i j : Nat} (hi : i < (ordS l).length) (hj : j < (ordS l).length) (h : kI l i = kI l j) : i = j := by
  rcases Nat.lt_trichotomy i j with h1 | h1 | h1
  · have := List.pairwise_iff_getElem.1 (ordS_nodup l) i j hi hj h1
    rw [← getD_e [] hi, ← getD_e [] hj] at this
    exact absurd h this
  · exact h1
  · have := List.pairwise_iff_getElem.1 (ordS_nodup l) j i hj hi h1
    rw [← getD_e [] hi, ← getD_e [] hj] at this
    exact absurd h.symm this
theorem ord_has {l : List Int} {k : Nat} (hk : k < l.length) (h : 0 < l.getD k 0) : ∃ i, i < (ordS l).length ∧ kI l i = k := by
  have hm : [(k : Int), l.getD k 0] ∈ ordS l := by
    refine (ordS_perm l).mem_iff.2 ?_
    have hs := syms_snoc (l.take k) (l.getD k 0)
    rw [← take_succ l 0 hk, decide_eq_true h, cond_true, List.length_take, Nat.min_eq_left (by omega)] at hs
    have e2 : syms l = syms (l.take (k + 1)) ++ symsF ((l.take (k + 1)).length : Int) (l.drop (k + 1)) := by
      conv => lhs; rw [← List.take_append_drop (k + 1) l]
      unfold syms
      rw [symsF_app]
      simp
    rw [e2, hs]
    simp
  obtain ⟨i, hi, he⟩ := List.mem_iff_getElem.1 hm
  refine ⟨i, hi, ?_⟩
  unfold kI symI
  rw [getD_e [] hi, he]
  simp
/-! ### cells, codes by their place -/
theorem tblF_get (m : Int) : ∀ (ss : List (List Int)) (c : Nat), c < tot m ss → ∃ i, i < ss.length ∧ tot m (ss.take i) ≤ c ∧ c < tot m (ss.take i) + wid m (ss.getD i []) ∧ (tblF m ss).getD c [] = [(ss.getD i []).getD 0 0, (ss.getD i []).getD 1 0, 0]
  | [], c, h => by simp [tot] at h
  | s :: r, c, h => by
    by_cases hc : c < wid m s
    · refine ⟨0, by simp, by simp [tot], by simpa [tot] using hc, ?_⟩
      simp only [tblF, List.getD_cons_zero]
      rw [List.getD_eq_getElem?_getD, List.getElem?_append_left (by simpa [blkS] using hc)]
      simp [blkS, List.getElem?_replicate, hc]
    · have h' : tot m (s :: r) = wid m s + tot m r := by simp [tot]
      obtain ⟨i, h1, h2, h3, h4⟩ := tblF_get m r (c - wid m s) (by omega)
      have e : tot m ((s :: r).take (i + 1)) = wid m s + tot m (r.take i) := by simp [tot]
      refine ⟨i + 1, by simpa using h1, by omega, by rw [e]; simp only [List.getD_cons_succ]; omega, ?_⟩
      simp only [tblF, List.getD_cons_succ]
      rw [List.getD_eq_getElem?_getD, List.getElem?_append_right (by simpa [blkS] using Nat.le_of_not_lt hc), ← List.getD_eq_getElem?_getD]
      simpa [blkS] using h4
theorem aI_tot (l : List Int) (i : Nat) : aI l i = tot (gmx l) ((ordS l).take i) := by
  unfold aI
  rw [atF_tot]
  omega
theorem cell_at {l : List Int} (hg : Good l) {c : Nat} (h : c < 2 ^ (gmx l).toNat) : ∃ i, i < (ordS l).length ∧ aI l i ≤ c ∧ c < aI l i + wI l i ∧ (tblL l).getD c [] = [(kI l i : Int), bI l i, 0] := by
  obtain ⟨i, h1, h2, h3, h4⟩ := tblF_get (gmx l) (ordS l) c (by rw [hg.sum]; exact h)
  refine ⟨i, h1, by rw [aI_tot]; exact h2, by rw [aI_tot]; exact h3, ?_⟩
  have e : (ordS l).getD i [] = [(kI l i : Int), bI l i] := (sym_eq h1).1
  rw [e] at h4
  exact h4
theorem place_uniq {l : List Int} {i j : Nat} (hi : i < (ordS l).length) (hj : j < (ordS l).length) {c : Nat} (h1 : aI l i ≤ c) (h2 : c < aI l i + wI l i) (h3 : aI l j ≤ c) (h4 : c < aI l j + wI l j) : i = j := by
  rcases Nat.lt_trichotomy i j with h | h | h
  · have := aI_mono (l := l) h (by omega); omega
  · exact h
  · have := aI_mono (l := l) h (by omega); omega
theorem cell_of {l : List Int} (hg : Good l) {i c : Nat} (hi : i < (ordS l).length) (h1 : aI l i ≤ c) (h2 : c < aI l i + wI l i) : (tblL l).getD c [] = [(kI l i : Int), bI l i, 0] := by
  have hle := aI_mono (l := l) hi (Nat.le_refl _)
  rw [aI_end hg] at hle
  obtain ⟨j, k1, k2, k3, k4⟩ := cell_at hg (c := c) (by omega)
  have := place_uniq hi k1 h1 h2 k2 k3
  subst this
  exact k4
theorem wI_dvd {l : List Int} (hg : Good l) {i j : Nat} (hij : i ≤ j) (hj : j < (ordS l).length) : wI l i ∣ wI l j := by
  have hi : i < (ordS l).length := by omega
  rw [wI_eq hi, wI_eq hj]
  refine Nat.pow_dvd_pow 2 ?_
  rcases Nat.lt_or_eq_of_le hij with h | h
  · have := ord_cmp h hj
    omega
  · subst h; exact Nat.le_refl _
theorem aI_dvd {l : List Int} (hg : Good l) {i : Nat} (hi : i < (ordS l).length) : wI l i ∣ aI l i := by
  have key : ∀ d j, j + d = (ordS l).length → i ≤ j → wI l i ∣ aI l j := by
    intro d
    induction d with
    | zero =>
      intro j hj _
      have : j = (ordS l).length := by omega
      subst this
      rw [aI_end hg, wI_eq hi]
      have hb := bI_bd hg hi
      exact Nat.pow_dvd_pow 2 (by omega)
    | succ d ih =>
      intro j hj hij
      have h1 := ih (j + 1) (by omega) (by omega)
      rw [aI_succ (by omega)] at h1
      exact (Nat.dvd_add_left (wI_dvd hg hij (by omega))).1 h1
  exact key ((ordS l).length - i) i (by omega) (Nat.le_refl _)
theorem codP_at {l : List Int} : ∀ j, j ≤ (ordS l).length → ∀ i, i < j → (codP l j).getD (kI l i) [] = [bI l i, ((aI l i / wI l i : Nat) : Int)]
  | 0, _, i, h => by omega
  | j + 1, hj, i, hi => by
    have hlt : j < (ordS l).length := by omega
    obtain ⟨s1, s2, s3⟩ := sym_eq hlt
    rw [codP_succ hlt]
    have e1 : ((symI l j).getD 0 0).toNat = kI l j := rfl
    have e2 : (symI l j).getD 1 0 = bI l j := by rw [s1]; simp
    rw [e1, e2, aI_cast]
    by_cases h : i = j
    · subst h
      rw [List.getD_eq_getElem?_getD, List.getElem?_set_self (by rw [codP_len]; exact s2)]
      simp only [Option.getD_some]
      rw [wI_eq hlt, Int.natCast_ediv, ← pow_cast]
    · have hne : kI l j ≠ kI l i := fun e => h (ord_ne hlt (by omega) e).symm
      rw [List.getD_eq_getElem?_getD, List.getElem?_set_ne hne, ← List.getD_eq_getElem?_getD]
      exact codP_at j (by omega) i (by omega)
theorem codP_none {l : List Int} {k : Nat} (hk : k < l.length) (h0 : ¬ 0 < l.getD k 0) : ∀ j, j ≤ (ordS l).length → (codP l j).getD k [] = [0, 0]
  | 0, _ => by simp [codP, codF, List.getD, List.getElem?_replicate, hk]
  | j + 1, hj => by
    have hlt : j < (ordS l).length := by omega
    obtain ⟨s1, s2, s3⟩ := sym_eq hlt
    rw [codP_succ hlt]
    have e1 : ((symI l j).getD 0 0).toNat = kI l j := rfl
    have hne : kI l j ≠ k := fun e => by
      unfold bI at s3
      rw [e] at s3
      exact h0 s3
    rw [e1, List.getD_eq_getElem?_getD, List.getElem?_set_ne hne, ← List.getD_eq_getElem?_getD]
    exact codP_none hk h0 j (by omega)
theorem codL_codP (l : List Int) : codL l = codP l (ordS l).length := by unfold codL codP; rw [List.take_length]
theorem codL_at {l : List Int} {i : Nat} (h : i < (ordS l).length) : (codL l).getD (kI l i) [] = [bI l i, ((aI l i / wI l i : Nat) : Int)] := by rw [codL_codP]; exact codP_at _ (Nat.le_refl _) i h
theorem codL_none {l : List Int} {k : Nat} (hk : k < l.length) (h0 : ¬ 0 < l.getD k 0) : (codL l).getD k [] = [0, 0] := by rw [codL_codP]; exact codP_none hk h0 _ (Nat.le_refl _)
end Go.Proofs.Ytfbdocfhgjfboaa
/-
  The conditions of the functions told in the text before, and that they are the executor's. Conditions: none.
-/
namespace Go.Proofs.Ytfbdocfhgjfboaa
open Go Go.RowKit
set_option linter.unusedVariables false
set_option maxRecDepth 100000
def bd7_t (n : Int) : Prop :=
 (decide (n ≥ (0 : Int)) = true → decide (n ≤ (1099511627776 : Int)) = okCnt n) ∧ (decide (n ≥ (0 : Int)) = false → false = okCnt n)
--end
theorem bd7_e (n : Int) : bd7_t n = vcG Try.prog (Gof []) (fun _ => none) Try.f159 [.v (.int .i64 n)] [] (.leaf ((.v (.bool (okCnt n)))) ([])) := by kernel_rfl
def bef7_t (c1 : Int) (f1 : Bool) (n1 : Int) (s1 : List Int) (c2 : Int) (f2 : Bool) (n2 : Int) (s2 : List Int) : Prop :=
 ((c1 != c2) = true → decide (c1 < c2) = befB c1 f1 n1 c2 f2 n2) ∧
 ((c1 != c2) = false → ((!f1 == f2) = true → f1 = befB c1 f1 n1 c2 f2 n2) ∧ ((!f1 == f2) = false → decide (n1 < n2) = befB c1 f1 n1 c2 f2 n2))
--end
theorem bef7_e (c1 : Int) (f1 : Bool) (n1 : Int) (s1 : List Int) (c2 : Int) (f2 : Bool) (n2 : Int) (s2 : List Int) : bef7_t c1 f1 n1 s1 c2 f2 n2 s2 = vcG Try.prog (Gof []) (fun _ => none) Try.f138 [.ag [.v (.int .i64 c1), .v (.bool f1), .v (.int .i64 n1), .dat (.ints .i64 s1)], .ag [.v (.int .i64 c2), .v (.bool f2), .v (.int .i64 n2), .dat (.ints .i64 s2)]] [] (.leaf ((.v (.bool (befB c1 f1 n1 c2 f2 n2)))) ([])) := by kernel_rfl
def nz7_t (l : List Int) : Prop :=
 (∃ (x0 : Nat), Nat.le x0 (List.length l) ∧ l = l ∧ (0 : Int) = nzL (List.take x0 l) ∧ (0 : Int) = (↑x0 : Int)) ∧
 ∀ (x1 : Nat),
 Nat.le x1 (List.length l) →
 (decide ((↑x1 : Int) < (↑(List.length l) : Int)) = true →
 (0 : Int) ≤ (↑x1 : Int) ∧
 (↑x1 : Int) < (↑(List.length l) : Int) ∧
 ((List.getD l (Int.toNat (↑x1 : Int)) (0 : Int) != (0 : Int)) = true →
 ∃ (y2 : Nat),
 Nat.le y2 (List.length l) ∧
 Nat.sub (List.length l) y2 < Nat.sub (List.length l) x1 ∧
 l = l ∧ IntKind.wrap IntKind.i64 (nzL (List.take x1 l) + (1 : Int)) = nzL (List.take y2 l) ∧ IntKind.wrap IntKind.i64 ((↑x1 : Int) + (1 : Int)) = (↑y2 : Int)) ∧
 ((List.getD l (Int.toNat (↑x1 : Int)) (0 : Int) != (0 : Int)) = false →
 ∃ (y3 : Nat),
 Nat.le y3 (List.length l) ∧
 Nat.sub (List.length l) y3 < Nat.sub (List.length l) x1 ∧
 l = l ∧ nzL (List.take x1 l) = nzL (List.take y3 l) ∧ IntKind.wrap IntKind.i64 ((↑x1 : Int) + (1 : Int)) = (↑y3 : Int))) ∧
 (decide ((↑x1 : Int) < (↑(List.length l) : Int)) = false → nzL (List.take x1 l) = nzL l)
--end
theorem nz7_e (l : List Int) : nz7_t l = vcG Try.prog (Gof []) (one6 (oNz l)) Try.f114 [.dat (.ints .i64 l)] [] (.leaf ((.v (.int .i64 (nzL l)))) ([])) := by kernel_rfl
def md7_t (x m : Int) : Prop :=
 (decide (m < (1 : Int)) = true → (0 : Int) = md x m) ∧
 (decide (m < (1 : Int)) = false →
 m ≠ (0 : Int) ∧ (decide (Int.tmod x m < (0 : Int)) = true → IntKind.wrap IntKind.i64 (Int.tmod x m + m) = md x m) ∧ (decide (Int.tmod x m < (0 : Int)) = false → Int.tmod x m = md x m))
--end
theorem md7_e (x m : Int) : md7_t x m = vcG Try.prog (Gof []) (fun _ => none) Try.f19 [.v (.int .i64 x), .v (.int .i64 m)] [] (.leaf ((.v (.int .i64 (md x m)))) ([])) := by kernel_rfl
def at7_t (l : List Int) (i : Int) : Prop :=
 (decide (i < (0 : Int)) = true → (0 : Int) = atL l i) ∧
 (decide (i < (0 : Int)) = false →
 (decide (i ≥ (↑(List.length l) : Int)) = true → (0 : Int) = atL l i) ∧
 (decide (i ≥ (↑(List.length l) : Int)) = false → (0 : Int) ≤ i ∧ i < (↑(List.length l) : Int) ∧ List.getD l (Int.toNat i) (0 : Int) = atL l i))
--end
theorem at7_e (l : List Int) (i : Int) : at7_t l i = vcG Try.prog (Gof []) (fun _ => none) Try.f36 [.dat (.ints .i64 l), .v (.int .i64 i)] [] (.leaf ((.v (.int .i64 (atL l i)))) ([])) := by kernel_rfl
def plus7_t (a b : Int) : Prop :=
 ((!okCnt a) = true → (0 : Int) = a + b ∧ (2 : Int) = (0 : Int)) ∧
 ((!okCnt a) = false →
 ((!okCnt b) = true → (0 : Int) = a + b ∧ (2 : Int) = (0 : Int)) ∧
 ((!okCnt b) = false →
 ((!okCnt (IntKind.wrap IntKind.i64 (a + b))) = true → (0 : Int) = a + b ∧ (2 : Int) = (0 : Int)) ∧
 ((!okCnt (IntKind.wrap IntKind.i64 (a + b))) = false → IntKind.wrap IntKind.i64 (a + b) = a + b ∧ (0 : Int) = (0 : Int))))
--end
theorem plus7_e (a b : Int) : plus7_t a b = vcG Try.prog (Gof G7a) (fun _ => none) Try.f154 [.v (.int .i64 a), .v (.int .i64 b)] [] (.leaf ((.tu [.v (.int .i64 (a + b)), .v (.int .i64 0)])) ([])) := by kernel_rfl
def first7_t (xs : List Nd) : Prop :=
 (∃ (x0 : Nat),
 ((1 : Nat) ≤ x0 ∧ x0 ≤ List.length xs) ∧
 (0 : Int) = (↑(bestI xs x0) : Int) ∧
 (1 : Int) = (↑x0 : Int) ∧ xs = xs ∧ (0 : Int) = (0 : Int) ∧ false = false ∧ (0 : Int) = (0 : Int) ∧ Value.slice none (0 : Nat) (0 : Nat) = Value.slice none (0 : Nat) (0 : Nat)) ∧
 ∀ (x1 : Nat),
 (1 : Nat) ≤ x1 ∧ x1 ≤ List.length xs →
 (decide ((↑x1 : Int) < (↑(List.length xs) : Int)) = true →
 (0 : Int) ≤ (↑x1 : Int) ∧
 (↑x1 : Int) < (↑(List.length xs) : Int) ∧
 Int.toNat (↑x1 : Int) < List.length xs ∧
 (0 : Int) ≤ (↑(bestI xs x1) : Int) ∧
 (↑(bestI xs x1) : Int) < (↑(List.length xs) : Int) ∧
 Int.toNat (↑(bestI xs x1) : Int) < List.length xs ∧
 (befB (List.getD (List.getD (List.getD xs (Int.toNat (↑x1 : Int)) []) ((0 : Nat)) []) (0 : Nat) (0 : Int))
 (List.getD (List.getD (List.getD xs (Int.toNat (↑x1 : Int)) []) ((1 : Nat)) []) (0 : Nat) (0 : Int) == (1 : Int))
 (List.getD (List.getD (List.getD xs (Int.toNat (↑x1 : Int)) []) ((2 : Nat)) []) (0 : Nat) (0 : Int))
 (List.getD (List.getD (List.getD xs (Int.toNat (↑(bestI xs x1) : Int)) []) ((0 : Nat)) []) (0 : Nat) (0 : Int))
 (List.getD (List.getD (List.getD xs (Int.toNat (↑(bestI xs x1) : Int)) []) ((1 : Nat)) []) (0 : Nat) (0 : Int) == (1 : Int))
 (List.getD (List.getD (List.getD xs (Int.toNat (↑(bestI xs x1) : Int)) []) ((2 : Nat)) []) (0 : Nat) (0 : Int)) =
 true →
 ∃ (y2 : Nat),
 ((1 : Nat) ≤ y2 ∧ y2 ≤ List.length xs) ∧
 Nat.sub (List.length xs) y2 < Nat.sub (List.length xs) x1 ∧
 (↑x1 : Int) = (↑(bestI xs y2) : Int) ∧
 IntKind.wrap IntKind.i64 ((↑x1 : Int) + (1 : Int)) = (↑y2 : Int) ∧
 xs = xs ∧ (0 : Int) = (0 : Int) ∧ false = false ∧ (0 : Int) = (0 : Int) ∧ Value.slice none (0 : Nat) (0 : Nat) = Value.slice none (0 : Nat) (0 : Nat)) ∧
 (befB (List.getD (List.getD (List.getD xs (Int.toNat (↑x1 : Int)) []) ((0 : Nat)) []) (0 : Nat) (0 : Int))
 (List.getD (List.getD (List.getD xs (Int.toNat (↑x1 : Int)) []) ((1 : Nat)) []) (0 : Nat) (0 : Int) == (1 : Int))
 (List.getD (List.getD (List.getD xs (Int.toNat (↑x1 : Int)) []) ((2 : Nat)) []) (0 : Nat) (0 : Int))
 (List.getD (List.getD (List.getD xs (Int.toNat (↑(bestI xs x1) : Int)) []) ((0 : Nat)) []) (0 : Nat) (0 : Int))
 (List.getD (List.getD (List.getD xs (Int.toNat (↑(bestI xs x1) : Int)) []) ((1 : Nat)) []) (0 : Nat) (0 : Int) == (1 : Int))
 (List.getD (List.getD (List.getD xs (Int.toNat (↑(bestI xs x1) : Int)) []) ((2 : Nat)) []) (0 : Nat) (0 : Int)) =
 false →
 ∃ (y3 : Nat),
 ((1 : Nat) ≤ y3 ∧ y3 ≤ List.length xs) ∧
 Nat.sub (List.length xs) y3 < Nat.sub (List.length xs) x1 ∧
 (↑(bestI xs x1) : Int) = (↑(bestI xs y3) : Int) ∧
 IntKind.wrap IntKind.i64 ((↑x1 : Int) + (1 : Int)) = (↑y3 : Int) ∧
 xs = xs ∧ (0 : Int) = (0 : Int) ∧ false = false ∧ (0 : Int) = (0 : Int) ∧ Value.slice none (0 : Nat) (0 : Nat) = Value.slice none (0 : Nat) (0 : Nat))) ∧
 (decide ((↑x1 : Int) < (↑(List.length xs) : Int)) = false →
 (0 : Int) ≤ (↑(bestI xs x1) : Int) ∧
 (↑(bestI xs x1) : Int) < (↑(List.length xs) : Int) ∧
 Int.toNat (↑(bestI xs x1) : Int) < List.length xs ∧
 (0 : Int) ≤ (0 : Int) ∧
 (0 : Int) ≤ (↑(bestI xs x1) : Int) ∧
 (↑(bestI xs x1) : Int) ≤ (↑(List.length xs) : Int) ∧
 ((0 : Nat) + List.length (List.take (Int.toNat (↑(bestI xs x1) : Int) - Int.toNat (0 : Int)) (List.drop (Int.toNat (0 : Int)) xs))) * (48 : Nat) ≤ (140737488355328 : Nat) ∧
 (0 : Int) ≤ IntKind.wrap IntKind.i64 ((↑(bestI xs x1) : Int) + (1 : Int)) ∧
 IntKind.wrap IntKind.i64 ((↑(bestI xs x1) : Int) + (1 : Int)) ≤ (↑(List.length xs) : Int) ∧
 (↑(List.length xs) : Int) ≤ (↑(List.length xs) : Int) ∧
 (List.length ([] ++ List.take (Int.toNat (↑(bestI xs x1) : Int) - Int.toNat (0 : Int)) (List.drop (Int.toNat (0 : Int)) xs)) +
 List.length
 (List.take (Int.toNat (↑(List.length xs) : Int) - Int.toNat (IntKind.wrap IntKind.i64 ((↑(bestI xs x1) : Int) + (1 : Int))))
 (List.drop (Int.toNat (IntKind.wrap IntKind.i64 ((↑(bestI xs x1) : Int) + (1 : Int)))) xs))) *
 (48 : Nat) ≤
 (140737488355328 : Nat) ∧
 List.getD (List.getD (List.getD xs (Int.toNat (↑(bestI xs x1) : Int)) []) ((0 : Nat)) []) (0 : Nat) (0 : Int) = ndC (topX xs) ∧
 (List.getD (List.getD (List.getD xs (Int.toNat (↑(bestI xs x1) : Int)) []) ((1 : Nat)) []) (0 : Nat) (0 : Int) == (1 : Int)) = ndF (topX xs) ∧
 List.getD (List.getD (List.getD xs (Int.toNat (↑(bestI xs x1) : Int)) []) ((2 : Nat)) []) (0 : Nat) (0 : Int) = ndN (topX xs) ∧
 List.getD (List.getD xs (Int.toNat (↑(bestI xs x1) : Int)) []) ((3 : Nat)) [] = ndS (topX xs) ∧
 xs = xs ∧
 [] ++ List.take (Int.toNat (↑(bestI xs x1) : Int) - Int.toNat (0 : Int)) (List.drop (Int.toNat (0 : Int)) xs) ++
 List.take (Int.toNat (↑(List.length xs) : Int) - Int.toNat (IntKind.wrap IntKind.i64 ((↑(bestI xs x1) : Int) + (1 : Int))))
 (List.drop (Int.toNat (IntKind.wrap IntKind.i64 ((↑(bestI xs x1) : Int) + (1 : Int)))) xs) =
 restX xs)
--end
theorem first7_e (xs : List Nd) : first7_t xs = vcG Try.prog (Gof G7a) (one6 (oFirst xs)) Try.f115 [.o 0] [(0, .row 137 (.mix [.i, .b, .i, .l] xs))] (.leaf ((.tu [.ag [.v (.int .i64 (ndC (topX xs))), .v (.bool (ndF (topX xs))), .v (.int .i64 (ndN (topX xs))), .dat (.ints .i64 (ndS (topX xs)))], .o 2000])) ([(0, .row 137 (.mix [.i, .b, .i, .l] xs)), (2000, .row 137 (.mix [.i, .b, .i, .l] (restX xs)))])) := by kernel_rfl
def sum7_t (l : List Int) : Prop :=
 (∃ (x0 : Nat), Nat.le x0 (List.length l) ∧ l = l ∧ (0 : Int) = sumL (List.take x0 l) ∧ (0 : Int) = (↑x0 : Int)) ∧
 ∀ (x1 : Nat),
 Nat.le x1 (List.length l) →
 (decide ((↑x1 : Int) < (↑(List.length l) : Int)) = true →
 (0 : Int) ≤ (↑x1 : Int) ∧
 (↑x1 : Int) < (↑(List.length l) : Int) ∧
 okCnt (sumL (List.take x1 l)) = true ∧
 okCnt (List.getD l (Int.toNat (↑x1 : Int)) (0 : Int)) = true ∧
 okCnt (sumL (List.take x1 l) + List.getD l (Int.toNat (↑x1 : Int)) (0 : Int)) = true ∧
 (((0 : Int) != (0 : Int)) = true → (0 : Int) = sumL l ∧ (0 : Int) = (0 : Int)) ∧
 (((0 : Int) != (0 : Int)) = false →
 ∃ (y2 : Nat),
 Nat.le y2 (List.length l) ∧
 Nat.sub (List.length l) y2 < Nat.sub (List.length l) x1 ∧
 l = l ∧
 sumL (List.take x1 l) + List.getD l (Int.toNat (↑x1 : Int)) (0 : Int) = sumL (List.take y2 l) ∧ IntKind.wrap IntKind.i64 ((↑x1 : Int) + (1 : Int)) = (↑y2 : Int))) ∧
 (decide ((↑x1 : Int) < (↑(List.length l) : Int)) = false → sumL (List.take x1 l) = sumL l ∧ (0 : Int) = (0 : Int))
--end
theorem sum7_e (l : List Int) : sum7_t l = vcG Try.prog (Gof G7b) (one6 (oSum l)) Try.f137 [.dat (.ints .i64 l)] [] (.leaf ((.tu [.v (.int .i64 (sumL l)), .v (.int .i64 0)])) ([])) := by kernel_rfl
def dep7_t (l : List Int) : Prop :=
 (0 : Int) ≤ (↑(List.length l) : Int) ∧
 (↑(List.length l) : Int) ≤ (↑(List.length l) : Int) ∧
 (↑((8 : Nat)) : Int) * (↑(List.length l) : Int) ≤ (281474976710656 : Int) ∧
 (↑(List.length l) : Int) ≤ (9223372036854775807 : Int) ∧
 (∃ (x0 : Nat),
 Nat.le x0 (List.length l) ∧
 l = l ∧
 (0 : Int) = (↑x0 : Int) ∧
 List.replicate (Int.toNat (↑(List.length l) : Int)) (0 : Int) = List.replicate (List.length l) (0 : Int) ∧ List.length (leaves (List.take x0 l)) = (0 : Nat)) ∧
 ∀ (x1 : Nat),
 Nat.le x1 (List.length l) →
 (decide ((↑x1 : Int) < (↑(List.length l) : Int)) = true →
 (0 : Int) ≤ (↑x1 : Int) ∧
 (↑x1 : Int) < (↑(List.length l) : Int) ∧
 (decide (List.getD l (Int.toNat (↑x1 : Int)) (0 : Int) > (0 : Int)) = true →
 (0 : Int) ≤ (↑x1 : Int) ∧
 (↑x1 : Int) < (↑(List.length l) : Int) ∧
 (List.length (leaves (List.take x1 l)) + (1 : Nat)) * (48 : Nat) ≤ (140737488355328 : Nat) ∧
 ∃ (y2 : Nat),
 Nat.le y2 (List.length l) ∧
 Nat.sub (List.length l) y2 < Nat.sub (List.length l) x1 ∧
 l = l ∧
 IntKind.wrap IntKind.i64 ((↑x1 : Int) + (1 : Int)) = (↑y2 : Int) ∧
 List.replicate (List.length l) (0 : Int) = List.replicate (List.length l) (0 : Int) ∧
 leaves (List.take x1 l) ++ [[[List.getD l (Int.toNat (↑x1 : Int)) (0 : Int)], [(1 : Int)], [(↑x1 : Int)], [(↑x1 : Int)]]] = leaves (List.take y2 l)) ∧
 (decide (List.getD l (Int.toNat (↑x1 : Int)) (0 : Int) > (0 : Int)) = false →
 ∃ (y3 : Nat),
 Nat.le y3 (List.length l) ∧
 Nat.sub (List.length l) y3 < Nat.sub (List.length l) x1 ∧
 l = l ∧
 IntKind.wrap IntKind.i64 ((↑x1 : Int) + (1 : Int)) = (↑y3 : Int) ∧
 List.replicate (List.length l) (0 : Int) = List.replicate (List.length l) (0 : Int) ∧ leaves (List.take x1 l) = leaves (List.take y3 l))) ∧
 (decide ((↑x1 : Int) < (↑(List.length l) : Int)) = false →
 (∃ (x4 : Nat),
 Nat.le (x4 + (1 : Nat)) (List.length (leaves l)) ∧
 (0 : Int) = (↑x4 : Int) ∧ List.replicate (List.length l) (0 : Int) = (runD l x4).fst ∧ leaves (List.take x1 l) = (runD l x4).snd) ∧
 ∀ (x5 : Nat),
 Nat.le (x5 + (1 : Nat)) (List.length (leaves l)) →
 (decide ((↑(List.length (runD l x5).snd) : Int) > (1 : Int)) = true →
 (1 : Nat) ≤ List.length (runD l x5).snd ∧
 List.length (runD l x5).snd ≤ (65536 : Nat) ∧
 (1 : Nat) ≤ List.length (restX (runD l x5).snd) ∧
 List.length (restX (runD l x5).snd) ≤ (65536 : Nat) ∧
 ((0 : Nat) + List.length (ndS (topX (runD l x5).snd))) * (8 : Nat) ≤ (140737488355328 : Nat) ∧
 (List.length ([] ++ ndS (topX (runD l x5).snd)) + List.length (ndS (topX (restX (runD l x5).snd)))) * (8 : Nat) ≤ (140737488355328 : Nat) ∧
 ∃ (g6 : Nat),
 (∃ (x7 : Nat),
 (g6 + (2 : Nat) ≤ List.length (leaves l) ∧ x7 ≤ List.length (ndS (mrgX (runD l g6).snd g6))) ∧
 (↑x5 : Int) = (↑g6 : Int) ∧
 (0 : Int) = (↑x7 : Int) ∧
 (runD l x5).fst = incAll (runD l g6).fst (List.take x7 (ndS (mrgX (runD l g6).snd g6))) ∧
 restX (restX (runD l x5).snd) = restX (restX (runD l g6).snd) ∧
 IntKind.wrap IntKind.i64 (ndC (topX (runD l x5).snd) + ndC (topX (restX (runD l x5).snd))) = ndC (mrgX (runD l g6).snd g6) ∧
 false = false ∧
 (↑x5 : Int) = (↑g6 : Int) ∧ [] ++ ndS (topX (runD l x5).snd) ++ ndS (topX (restX (runD l x5).snd)) = ndS (mrgX (runD l g6).snd g6)) ∧
 ∀ (x8 : Nat),
 g6 + (2 : Nat) ≤ List.length (leaves l) ∧ x8 ≤ List.length (ndS (mrgX (runD l g6).snd g6)) →
 (decide ((↑x8 : Int) < (↑(List.length (ndS (mrgX (runD l g6).snd g6))) : Int)) = true →
 (0 : Int) ≤ (↑x8 : Int) ∧
 (↑x8 : Int) < (↑(List.length (ndS (mrgX (runD l g6).snd g6))) : Int) ∧
 Int.toNat (↑x8 : Int) < List.length (ndS (mrgX (runD l g6).snd g6)) ∧
 (0 : Int) ≤ List.getD (ndS (mrgX (runD l g6).snd g6)) (Int.toNat (↑x8 : Int)) (0 : Int) ∧
 List.getD (ndS (mrgX (runD l g6).snd g6)) (Int.toNat (↑x8 : Int)) (0 : Int) <
 (↑(List.length (incAll (runD l g6).fst (List.take x8 (ndS (mrgX (runD l g6).snd g6))))) : Int) ∧
 Int.toNat (List.getD (ndS (mrgX (runD l g6).snd g6)) (Int.toNat (↑x8 : Int)) (0 : Int)) <
 List.length (incAll (runD l g6).fst (List.take x8 (ndS (mrgX (runD l g6).snd g6)))) ∧
 (0 : Int) ≤ List.getD (ndS (mrgX (runD l g6).snd g6)) (Int.toNat (↑x8 : Int)) (0 : Int) ∧
 List.getD (ndS (mrgX (runD l g6).snd g6)) (Int.toNat (↑x8 : Int)) (0 : Int) <
 (↑(List.length (incAll (runD l g6).fst (List.take x8 (ndS (mrgX (runD l g6).snd g6))))) : Int) ∧
 Int.toNat (List.getD (ndS (mrgX (runD l g6).snd g6)) (Int.toNat (↑x8 : Int)) (0 : Int)) <
 List.length (incAll (runD l g6).fst (List.take x8 (ndS (mrgX (runD l g6).snd g6)))) ∧
 ∃ (y9 : Nat),
 (g6 + (2 : Nat) ≤ List.length (leaves l) ∧ y9 ≤ List.length (ndS (mrgX (runD l g6).snd g6))) ∧
 Nat.sub (List.length (ndS (mrgX (runD l g6).snd g6))) y9 < Nat.sub (List.length (ndS (mrgX (runD l g6).snd g6))) x8 ∧
 (↑g6 : Int) = (↑g6 : Int) ∧
 IntKind.wrap IntKind.i64 ((↑x8 : Int) + (1 : Int)) = (↑y9 : Int) ∧
 List.set (incAll (runD l g6).fst (List.take x8 (ndS (mrgX (runD l g6).snd g6))))
 (Int.toNat (List.getD (ndS (mrgX (runD l g6).snd g6)) (Int.toNat (↑x8 : Int)) (0 : Int)))
 (IntKind.wrap IntKind.i64
 (List.getD (incAll (runD l g6).fst (List.take x8 (ndS (mrgX (runD l g6).snd g6))))
 (Int.toNat (List.getD (ndS (mrgX (runD l g6).snd g6)) (Int.toNat (↑x8 : Int)) (0 : Int))) (0 : Int) +
 (1 : Int))) =
 incAll (runD l g6).fst (List.take y9 (ndS (mrgX (runD l g6).snd g6))) ∧
 restX (restX (runD l g6).snd) = restX (restX (runD l g6).snd) ∧
 ndC (mrgX (runD l g6).snd g6) = ndC (mrgX (runD l g6).snd g6) ∧
 false = false ∧ (↑g6 : Int) = (↑g6 : Int) ∧ ndS (mrgX (runD l g6).snd g6) = ndS (mrgX (runD l g6).snd g6)) ∧
 (decide ((↑x8 : Int) < (↑(List.length (ndS (mrgX (runD l g6).snd g6))) : Int)) = false →
 (List.length (restX (restX (runD l g6).snd)) + (1 : Nat)) * (48 : Nat) ≤ (140737488355328 : Nat) ∧
 ∃ (y10 : Nat),
 Nat.le (y10 + (1 : Nat)) (List.length (leaves l)) ∧
 Nat.sub (List.length (leaves l)) y10 < Nat.sub (List.length (leaves l)) x5 ∧
 IntKind.wrap IntKind.i64 ((↑g6 : Int) + (1 : Int)) = (↑y10 : Int) ∧
 incAll (runD l g6).fst (List.take x8 (ndS (mrgX (runD l g6).snd g6))) = (runD l y10).fst ∧
 restX (restX (runD l g6).snd) ++ [[[ndC (mrgX (runD l g6).snd g6)], [(0 : Int)], [(↑g6 : Int)], ndS (mrgX (runD l g6).snd g6)]] =
 (runD l y10).snd)) ∧
 (decide ((↑(List.length (runD l x5).snd) : Int) > (1 : Int)) = false → (runD l x5).fst = depL l))
--end
theorem dep7_e (l : List Int) : dep7_t l = vcG Try.prog (Gof G7b) (oDep l) Try.f89 [.dat (.ints .i64 l)] [] (.leaf ((.o 2000)) ([(2000, .row 3 (.ints .i64 (depL l)))])) := by kernel_rfl
def chkd7_t (l : List Int) : Prop :=
 (decide ((↑(List.length l) : Int) > (256 : Int)) = true → (6 : Int) = (0 : Int)) ∧
 (decide ((↑(List.length l) : Int) > (256 : Int)) = false → List.length l ≤ (4294967296 : Nat) ∧ cntsOk l = true ∧ (0 : Int) = (0 : Int))
--end
theorem chkd7_e (l : List Int) : chkd7_t l = vcG Try.prog (Gof G7c) (fun _ => none) Try.f113 [.dat (.ints .i64 l)] [] (.leaf ((.v (.int .i64 0))) ([])) := by kernel_rfl
def asked7_t (l : List Int) : Prop :=
 List.length l ≤ (256 : Nat) ∧
 cntsOk l = true ∧
 (((0 : Int) == (0 : Int)) = true →
 List.length l ≤ (4294967296 : Nat) ∧ (decide (nzL l < (2 : Int)) = true → (7 : Int) = (0 : Int)) ∧ (decide (nzL l < (2 : Int)) = false → (0 : Int) = (0 : Int))) ∧
 (((0 : Int) == (0 : Int)) = false → (0 : Int) = (0 : Int))
--end
theorem asked7_e (l : List Int) : asked7_t l = vcG Try.prog (Gof G7d) (fun _ => none) Try.f88 [.dat (.ints .i64 l)] [] (.leaf ((.v (.int .i64 0))) ([])) := by kernel_rfl
def of7_t (l : List Int) : Prop :=
 List.length l ≤ (256 : Nat) ∧
 cntsOk l = true ∧
 (2 : Nat) ≤ List.length (leaves l) ∧
 (((0 : Int) != (0 : Int)) = true → (0 : Int) = (0 : Int) ∧ List.length (ofL l) = (0 : Nat)) ∧
 (((0 : Int) != (0 : Int)) = false →
 ((0 : Nat) + List.length l) * (8 : Nat) ≤ (140737488355328 : Nat) ∧
 (∃ (x0 : Nat), ((↑x0 : Int) + sumL (halfs l x0) ≤ sumL l ∧ ofF (Int.toNat (sumL l) + (1 : Nat) - x0) (halfs l x0) = ofL l) ∧ [] ++ l = halfs l x0) ∧
 ∀ (x1 : Nat),
 (↑x1 : Int) + sumL (halfs l x1) ≤ sumL l ∧ ofF (Int.toNat (sumL l) + (1 : Nat) - x1) (halfs l x1) = ofL l →
 List.length (halfs l x1) ≤ (256 : Nat) ∧
 cntsOk (halfs l x1) = true ∧
 (2 : Nat) ≤ List.length (leaves (halfs l x1)) ∧
 ∃ (g2 : Nat),
 (∃ (x3 : Nat),
 (((↑g2 : Int) + sumL (halfs l g2) ≤ sumL l ∧ ofF (Int.toNat (sumL l) + (1 : Nat) - g2) (halfs l g2) = ofL l) ∧ x3 ≤ List.length (depL (halfs l g2))) ∧
 false = !okD (List.take x3 (depL (halfs l g2))) ∧ (0 : Int) = (↑x3 : Int) ∧ halfs l x1 = halfs l g2 ∧ depL (halfs l x1) = depL (halfs l g2)) ∧
 ∀ (x4 : Nat),
 ((↑g2 : Int) + sumL (halfs l g2) ≤ sumL l ∧ ofF (Int.toNat (sumL l) + (1 : Nat) - g2) (halfs l g2) = ofL l) ∧ x4 ≤ List.length (depL (halfs l g2)) →
 (decide ((↑x4 : Int) < (↑(List.length (depL (halfs l g2))) : Int)) = true →
 ((!okD (List.take x4 (depL (halfs l g2)))) = true →
 ∃ (y5 : Nat),
 (((↑g2 : Int) + sumL (halfs l g2) ≤ sumL l ∧ ofF (Int.toNat (sumL l) + (1 : Nat) - g2) (halfs l g2) = ofL l) ∧ y5 ≤ List.length (depL (halfs l g2))) ∧
 Nat.sub (List.length (depL (halfs l g2))) y5 < Nat.sub (List.length (depL (halfs l g2))) x4 ∧
 true = !okD (List.take y5 (depL (halfs l g2))) ∧
 IntKind.wrap IntKind.i64 ((↑x4 : Int) + (1 : Int)) = (↑y5 : Int) ∧ halfs l g2 = halfs l g2 ∧ depL (halfs l g2) = depL (halfs l g2)) ∧
 ((!okD (List.take x4 (depL (halfs l g2)))) = false →
 (0 : Int) ≤ (↑x4 : Int) ∧
 (↑x4 : Int) < (↑(List.length (depL (halfs l g2))) : Int) ∧
 Int.toNat (↑x4 : Int) < List.length (depL (halfs l g2)) ∧
 ∃ (y6 : Nat),
 (((↑g2 : Int) + sumL (halfs l g2) ≤ sumL l ∧ ofF (Int.toNat (sumL l) + (1 : Nat) - g2) (halfs l g2) = ofL l) ∧ y6 ≤ List.length (depL (halfs l g2))) ∧
 Nat.sub (List.length (depL (halfs l g2))) y6 < Nat.sub (List.length (depL (halfs l g2))) x4 ∧
 decide (List.getD (depL (halfs l g2)) (Int.toNat (↑x4 : Int)) (0 : Int) > (11 : Int)) = !okD (List.take y6 (depL (halfs l g2))) ∧
 IntKind.wrap IntKind.i64 ((↑x4 : Int) + (1 : Int)) = (↑y6 : Int) ∧ halfs l g2 = halfs l g2 ∧ depL (halfs l g2) = depL (halfs l g2))) ∧
 (decide ((↑x4 : Int) < (↑(List.length (depL (halfs l g2))) : Int)) = false →
 ((!!okD (List.take x4 (depL (halfs l g2)))) = true → (0 : Int) = (0 : Int) ∧ depL (halfs l g2) = ofL l) ∧
 ((!!okD (List.take x4 (depL (halfs l g2)))) = false →
 ∃ (g7 : Nat),
 (∃ (x8 : Nat),
 (((↑g7 : Int) + sumL (halfs l g7) ≤ sumL l ∧ ofF (Int.toNat (sumL l) + (1 : Nat) - g7) (halfs l g7) = ofL l) ∧
 okD (depL (halfs l g7)) = false ∧ x8 ≤ List.length (halfs l g7)) ∧
 (0 : Int) = (↑x8 : Int) ∧ halfs l g2 = halfP (halfs l g7) x8) ∧
 ∀ (x9 : Nat),
 ((↑g7 : Int) + sumL (halfs l g7) ≤ sumL l ∧ ofF (Int.toNat (sumL l) + (1 : Nat) - g7) (halfs l g7) = ofL l) ∧
 okD (depL (halfs l g7)) = false ∧ x9 ≤ List.length (halfs l g7) →
 (decide ((↑x9 : Int) < (↑(List.length (halfP (halfs l g7) x9)) : Int)) = true →
 (0 : Int) ≤ (↑x9 : Int) ∧
 (↑x9 : Int) < (↑(List.length (halfP (halfs l g7) x9)) : Int) ∧
 Int.toNat (↑x9 : Int) < List.length (halfP (halfs l g7) x9) ∧
 (2 : Int) ≠ (0 : Int) ∧
 (0 : Int) ≤ (↑x9 : Int) ∧
 (↑x9 : Int) < (↑(List.length (halfP (halfs l g7) x9)) : Int) ∧
 Int.toNat (↑x9 : Int) < List.length (halfP (halfs l g7) x9) ∧
 ∃ (y10 : Nat),
 (((↑g7 : Int) + sumL (halfs l g7) ≤ sumL l ∧ ofF (Int.toNat (sumL l) + (1 : Nat) - g7) (halfs l g7) = ofL l) ∧
 okD (depL (halfs l g7)) = false ∧ y10 ≤ List.length (halfs l g7)) ∧
 Nat.sub (List.length (halfs l g7)) y10 < Nat.sub (List.length (halfs l g7)) x9 ∧
 IntKind.wrap IntKind.i64 ((↑x9 : Int) + (1 : Int)) = (↑y10 : Int) ∧
 List.set (halfP (halfs l g7) x9) (Int.toNat (↑x9 : Int))
 (IntKind.wrap IntKind.i64
 (Int.tdiv (IntKind.wrap IntKind.i64 (List.getD (halfP (halfs l g7) x9) (Int.toNat (↑x9 : Int)) (0 : Int) + (1 : Int)))
 (2 : Int))) =
 halfP (halfs l g7) y10) ∧
 (decide ((↑x9 : Int) < (↑(List.length (halfP (halfs l g7) x9)) : Int)) = false →
 ∃ (y11 : Nat),
 ((↑y11 : Int) + sumL (halfs l y11) ≤ sumL l ∧ ofF (Int.toNat (sumL l) + (1 : Nat) - y11) (halfs l y11) = ofL l) ∧
 Nat.sub (Int.toNat (sumL l)) y11 < Nat.sub (Int.toNat (sumL l)) x1 ∧ halfP (halfs l g7) x9 = halfs l y11))))
--end
theorem of7_e (l : List Int) : of7_t l = vcG Try.prog (Gof G7e) (oOf l) Try.f60 [.dat (.ints .i64 l)] [] (.leaf ((.tu [.o 2000, .v (.int .i64 0)])) ([(2000, .row 3 (.ints .i64 (ofL l)))])) := by kernel_rfl
def lens7_t (nums : List Int) : Prop :=
 (9 : Int) ≤ (4611686018427387904 : Int) ∧
 (9 : Int) ≤ (4611686018427387904 : Int) ∧
 (∃ (x0 : Nat),
 ((2 : Nat) ≤ x0 ∧ x0 ≤ (40 : Nat) ∧ x0 ≤ max (2 : Nat) (List.length nums)) ∧
 nums = nums ∧
 (2 : Int) = (↑x0 : Int) ∧
 [IntKind.wrap IntKind.i64 ((1 : Int) + md (atL nums (0 : Int)) (9 : Int)), IntKind.wrap IntKind.i64 ((1 : Int) + md (atL nums (1 : Int)) (9 : Int))] = cntsP nums x0) ∧
 ∀ (x1 : Nat),
 (2 : Nat) ≤ x1 ∧ x1 ≤ (40 : Nat) ∧ x1 ≤ max (2 : Nat) (List.length nums) →
 (decide ((↑x1 : Int) < (↑(List.length nums) : Int)) = true →
 (decide ((↑x1 : Int) < (40 : Int)) = true →
 (0 : Int) ≤ (↑x1 : Int) ∧
 (↑x1 : Int) < (↑(List.length nums) : Int) ∧
 (1048576 : Int) ≤ (4611686018427387904 : Int) ∧
 (3 : Int) ≠ (0 : Int) ∧
 (decide (Int.tmod (md (List.getD nums (Int.toNat (↑x1 : Int)) (0 : Int)) (1048576 : Int)) (3 : Int) > (0 : Int)) = true →
 (3 : Int) ≠ (0 : Int) ∧
 (12 : Int) ≠ (0 : Int) ∧
 (0 : Int) ≤
 IntKind.wrap IntKind.u64
 (Int.tmod (IntKind.wrap IntKind.i64 (Int.tdiv (md (List.getD nums (Int.toNat (↑x1 : Int)) (0 : Int)) (1048576 : Int)) (3 : Int))) (12 : Int)) ∧
 (Nat.succ
 (Nat.add (List.length (List.append [(1 : Int) + md (atL nums (1 : Int)) (9 : Int)] (List.map cntX (List.drop (2 : Nat) (List.take x1 nums)))))
 ((0 : Nat))) +
 (1 : Nat)) *
 (8 : Nat) ≤
 (140737488355328 : Nat) ∧
 ∃ (y2 : Nat),
 ((2 : Nat) ≤ y2 ∧ y2 ≤ (40 : Nat) ∧ y2 ≤ max (2 : Nat) (List.length nums)) ∧
 Nat.sub (40 : Nat) y2 < Nat.sub (40 : Nat) x1 ∧
 nums = nums ∧
 IntKind.wrap IntKind.i64 ((↑x1 : Int) + (1 : Int)) = (↑y2 : Int) ∧
 cntsP nums x1 ++
 [IntKind.wrap IntKind.i64
 ((1 : Int) *
 (2 : Int) ^
 min
 (Int.toNat
 (IntKind.wrap IntKind.u64
 (Int.tmod (IntKind.wrap IntKind.i64 (Int.tdiv (md (List.getD nums (Int.toNat (↑x1 : Int)) (0 : Int)) (1048576 : Int)) (3 : Int)))
 (12 : Int))))
 (IntKind.bits IntKind.i64))] =
 cntsP nums y2) ∧
 (decide (Int.tmod (md (List.getD nums (Int.toNat (↑x1 : Int)) (0 : Int)) (1048576 : Int)) (3 : Int) > (0 : Int)) = false →
 (Nat.succ (Nat.add (List.length (List.append [(1 : Int) + md (atL nums (1 : Int)) (9 : Int)] (List.map cntX (List.drop (2 : Nat) (List.take x1 nums))))) ((0 : Nat))) +
 (1 : Nat)) *
 (8 : Nat) ≤
 (140737488355328 : Nat) ∧
 ∃ (y3 : Nat),
 ((2 : Nat) ≤ y3 ∧ y3 ≤ (40 : Nat) ∧ y3 ≤ max (2 : Nat) (List.length nums)) ∧
 Nat.sub (40 : Nat) y3 < Nat.sub (40 : Nat) x1 ∧
 nums = nums ∧ IntKind.wrap IntKind.i64 ((↑x1 : Int) + (1 : Int)) = (↑y3 : Int) ∧ cntsP nums x1 ++ [(0 : Int)] = cntsP nums y3)) ∧
 (decide ((↑x1 : Int) < (40 : Int)) = false →
 List.length (cntsP nums x1) ≤ (40 : Nat) ∧ cntsOk (cntsP nums x1) = true ∧ (2 : Nat) ≤ List.length (leaves (cntsP nums x1)) ∧ ofL (cntsP nums x1) = lensN nums)) ∧
 (decide ((↑x1 : Int) < (↑(List.length nums) : Int)) = false →
 List.length (cntsP nums x1) ≤ (40 : Nat) ∧ cntsOk (cntsP nums x1) = true ∧ (2 : Nat) ≤ List.length (leaves (cntsP nums x1)) ∧ ofL (cntsP nums x1) = lensN nums)
--end
theorem lens7_e (nums : List Int) : lens7_t nums = vcG Try.prog (Gof G7f) (one6 (oLens nums)) Try.f15 [.dat (.ints .i64 nums)] [] (.leaf ((.o 2000)) ([(2000, .row 3 (.ints .i64 (lensN nums)))])) := by kernel_rfl
end Go.Proofs.Ytfbdocfhgjfboaa
/-
  The verifier's lengths made of numbers come out as they are said to. Conditions: each theorem's own.
-/
namespace Go.Proofs.Ytfbdocfhgjfboaa
open Go Go.RowKit
set_option linter.unusedVariables false
set_option linter.unusedSimpArgs false
set_option maxRecDepth 100000
theorem bd7_v (n : Int) : bd7_t n := by
  unfold bd7_t okCnt
  refine ⟨fun h => ?_, fun h => ?_⟩
  · simp only [ge_iff_le] at h; rw [h]; rfl
  · simp only [ge_iff_le] at h; rw [h]; rfl
theorem bef7_v (c1 : Int) (f1 : Bool) (n1 : Int) (s1 : List Int) (c2 : Int) (f2 : Bool) (n2 : Int) (s2 : List Int) : bef7_t c1 f1 n1 s1 c2 f2 n2 s2 := by
  unfold bef7_t befB
  refine ⟨fun h => by rw [h]; rfl, fun h => ⟨fun h2 => ?_, fun h2 => ?_⟩⟩
  · rw [h]; cases f1 <;> cases f2 <;> first | rfl | simp at h2
  · rw [h]; cases f1 <;> cases f2 <;> first | rfl | simp at h2
theorem nz_snoc (l : List Int) (x : Int) : nzL (l ++ [x]) = cond (x != 0) (nzL l + 1) (nzL l) := by simp [nzL, List.foldl_append]
theorem nz_bd (l : List Int) : 0 ≤ nzL l ∧ nzL l ≤ l.length := by
  induction l using snoc_ind' with
  | h0 => exact ⟨by decide, by decide⟩
  | h1 l z ih =>
    rw [nz_snoc, List.length_append, List.length_singleton]
    cases z != 0 <;> simp only [cond_true, cond_false] <;> omega
theorem nz7_v (l : List Int) (h0 : l.length ≤ 4294967296) : nz7_t l := by
  unfold nz7_t
  refine ⟨⟨0, by rw [nle]; omega, rfl, rfl, rfl⟩, fun i hi => ⟨fun hlt => ?_, fun hge => ?_⟩⟩
  · simp only [decide_eq_true_eq] at hlt
    rw [toNat_cast]
    have hi' : i < l.length := by omega
    have hs := nz_snoc (l.take i) (l.getD i 0)
    rw [← take_succ l 0 hi'] at hs
    have hb := nz_bd (l.take i)
    rw [List.length_take, Nat.min_eq_left (by omega)] at hb
    refine ⟨by omega, by omega, fun h => ⟨i + 1, by rw [nle]; omega, by show l.length - (i + 1) < l.length - i; omega, by trivial, ?_, by rw [wr (by omega) (by omega)]; simp⟩, fun h => ⟨i + 1, by rw [nle]; omega, by show l.length - (i + 1) < l.length - i; omega, by trivial, ?_, by rw [wr (by omega) (by omega)]; simp⟩⟩
    · rw [hs, h, wr (by omega) (by omega)]; rfl
    · rw [hs, h]; rfl
  · simp only [decide_eq_false_iff_not] at hge
    rw [List.take_of_length_le (by omega)]
theorem md7_v (x m : Int) (h : m ≤ 4611686018427387904) : md7_t x m := by
  unfold md7_t md
  refine ⟨fun h => by rw [h]; rfl, fun h => ⟨by simp at h; omega, fun h2 => ?_, fun h2 => ?_⟩⟩
  · rw [h, cond_false]
    simp only [decide_eq_true_eq, decide_eq_false_iff_not] at h h2
    have h3 := Int.lt_tmod_of_pos x (show (0 : Int) < m by omega)
    have e := Int.emod_eq_tmod (a := x) (b := m)
    have : ¬ 0 ≤ x := fun hx => by have := Int.tmod_nonneg m hx; omega
    have hd : ¬ m ∣ x := fun hd => by have := Int.tmod_eq_zero_of_dvd hd; omega
    rw [wr (by omega) (by omega), e, if_neg (by simp [this, hd])]
    omega
  · rw [h, cond_false]
    simp only [decide_eq_true_eq, decide_eq_false_iff_not] at h h2
    have e := Int.emod_eq_tmod (a := x) (b := m)
    rw [e]
    by_cases hx : 0 ≤ x ∨ m ∣ x
    · rw [if_pos hx]; omega
    · exfalso
      simp only [not_or] at hx
      have h4 : x.tmod m = 0 := by
        have := Int.tmod_neg x m
        have h5 : 0 ≤ (-x).tmod m := Int.tmod_nonneg m (by omega)
        rw [Int.neg_tmod] at h5
        omega
      exact hx.2 (Int.dvd_of_tmod_eq_zero h4)
theorem at7_v (l : List Int) (i : Int) : at7_t l i := by
  unfold at7_t atL
  refine ⟨fun h => ?_, fun h => ⟨fun h2 => ?_, fun h2 => ⟨?_, ?_, ?_⟩⟩⟩
  · rw [h]; rfl
  · simp only [ge_iff_le] at h2; rw [h, h2]; rfl
  · simp at h; exact h
  · simp at h2; exact h2
  · simp only [ge_iff_le] at h2; rw [h, h2]; rfl
theorem plus7_v (a b : Int) (ha : okCnt a = true) (hb : okCnt b = true) (hab : okCnt (a + b) = true) : plus7_t a b := by
  unfold plus7_t
  have h1 := okCnt_iff.1 hab
  rw [wr (n := a + b) (by omega) (by omega), ha, hb, hab]
  simp
theorem first7_v (xs : List Nd) (h1 : 1 ≤ xs.length) (h2 : xs.length ≤ 65536) : first7_t xs := by
  unfold first7_t
  refine ⟨⟨1, ⟨by omega, h1⟩, ?_, by simp, rfl, by trivial, by trivial, by trivial, by trivial⟩, fun i ⟨hi1, hi⟩ => ⟨fun hlt => ?_, fun hge => ?_⟩⟩
  · simp only [bestI]
    cases befN (xs.getD 0 []) (xs.getD 0 []) <;> rfl
  · simp only [decide_eq_true_eq] at hlt
    have hb := bestI_lt (xs := xs) (by omega) i hi
    simp only [toNat_cast]
    refine ⟨by omega, by omega, by omega, by omega, by omega, by omega, fun hq => ⟨i + 1, ⟨by omega, by omega⟩, by show xs.length - (i + 1) < xs.length - i; omega, ?_, by rw [wr (by omega) (by omega)]; simp, by trivial, by trivial, by trivial, by trivial, by trivial⟩,
      fun hq => ⟨i + 1, ⟨by omega, by omega⟩, by show xs.length - (i + 1) < xs.length - i; omega, ?_, by rw [wr (by omega) (by omega)]; simp, by trivial, by trivial, by trivial, by trivial, by trivial⟩⟩
    · have e : befN (xs.getD i []) (xs.getD (bestI xs i) []) = true := hq
      rw [bestI, e]; rfl
    · have e : befN (xs.getD i []) (xs.getD (bestI xs i) []) = false := hq
      rw [bestI, e]; rfl
  · simp only [decide_eq_false_iff_not] at hge
    have hi' : i = xs.length := by omega
    subst hi'
    have hb := bestX_lt (xs := xs) (by omega)
    have e : bestI xs xs.length = bestX xs := rfl
    rw [e]
    have e1 : IntKind.wrap IntKind.i64 ((bestX xs : Int) + 1) = ((bestX xs + 1 : Nat) : Int) := by rw [wr (by omega) (by omega)]; simp
    rw [e1]
    simp only [toNat_cast, Int.toNat_zero, Nat.sub_zero, List.drop_zero, List.nil_append, List.length_take, List.length_drop]
    refine ⟨by omega, by omega, by omega, by omega, by omega, by omega, ?_, by omega, by omega, by omega, ?_, by trivial, by trivial, by trivial, by trivial, by trivial, ?_⟩
    · omega
    · omega
    · unfold restX
      congr 1
      rw [List.take_of_length_le (by simp)]
theorem sum_snoc (l : List Int) (x : Int) : sumL (l ++ [x]) = sumL l + x := by simp [sumL]
theorem sum_take_le {l : List Int} (h : ∀ x ∈ l, 0 ≤ x) (i : Nat) : 0 ≤ sumL (l.take i) ∧ sumL (l.take i) ≤ sumL l := by
  have e : sumL l = sumL (l.take i) + (l.drop i).sum := by
    conv => lhs; rw [← List.take_append_drop i l]
    unfold sumL
    rw [List.sum_append_int]
  have := sum_nn (fun x hx => h x (List.mem_of_mem_drop hx) : ∀ x ∈ l.drop i, 0 ≤ x)
  have := sum_nn (fun x hx => h x (List.mem_of_mem_take hx) : ∀ x ∈ l.take i, 0 ≤ x)
  unfold sumL at *
  omega
theorem sum7_v (l : List Int) (h0 : l.length ≤ 4294967296) (hc : cntsOk l = true) : sum7_t l := by
  have hc := cn_iff.1 hc
  unfold sum7_t
  refine ⟨⟨0, by rw [nle]; omega, rfl, rfl, rfl⟩, fun i hi => ⟨fun hlt => ?_, fun hge => ?_⟩⟩
  · simp only [decide_eq_true_eq] at hlt
    rw [toNat_cast]
    have hi' : i < l.length := by omega
    have hs := sum_snoc (l.take i) (l.getD i 0)
    rw [← take_succ l 0 hi'] at hs
    have b1 := sum_take_le hc.nn i
    have b2 := sum_take_le hc.nn (i + 1)
    have ht := hc.tot
    have hx := hc.nn _ (getD_mem' hi')
    refine ⟨by omega, by omega, okCnt_iff.2 (by omega), okCnt_iff.2 (by omega), okCnt_iff.2 (by omega), fun h => by simp at h, fun _ => ⟨i + 1, by rw [nle]; omega, by show l.length - (i + 1) < l.length - i; omega, by trivial, hs.symm, by rw [wr (by omega) (by omega)]; simp⟩⟩
  · simp only [decide_eq_false_iff_not] at hge
    rw [List.take_of_length_le (by omega)]
    exact ⟨rfl, rfl⟩
theorem chkd7_v (l : List Int) (h0 : l.length ≤ 256) (hc : cntsOk l = true) : chkd7_t l := by
  unfold chkd7_t
  refine ⟨fun h => ?_, fun _ => ⟨by omega, hc, rfl⟩⟩
  simp only [gt_iff_lt, decide_eq_true_eq] at h
  omega
theorem nz_leaves {l : List Int} (h : ∀ x ∈ l, 0 ≤ x) : nzL l = ((leaves l).length : Int) := by
  rw [leaves_len]
  have : ∀ l : List Int, (∀ x ∈ l, 0 ≤ x) → nzL l = ((syms l).length : Int) := by
    intro l
    induction l using snoc_ind' with
    | h0 => intro _; rfl
    | h1 l z ih =>
      intro h
      have hz := h z (by simp)
      rw [nz_snoc, syms_snoc, List.length_append, ih (fun x hx => h x (by simp [hx]))]
      by_cases h0 : 0 < z
      · have : (z != 0) = true := by simp; omega
        rw [this, decide_eq_true h0]; simp
      · have : (z != 0) = false := by simp; omega
        rw [this, decide_eq_false h0]; simp
  exact this l h
theorem asked7_v (l : List Int) (h0 : l.length ≤ 256) (hc : cntsOk l = true) (h2 : 2 ≤ (leaves l).length) : asked7_t l := by
  unfold asked7_t
  refine ⟨h0, hc, fun _ => ⟨by omega, fun h => ?_, fun _ => rfl⟩, fun h => by simp at h⟩
  rw [nz_leaves (cn_iff.1 hc).nn] at h
  simp only [decide_eq_true_eq] at h
  omega
theorem dep7_v (l : List Int) (h0 : l.length ≤ 256) (hc : cntsOk l = true) (h2 : 2 ≤ (leaves l).length) : dep7_t l := by
  have hc := cn_iff.1 hc
  have hm : (leaves l).length ≤ 256 := by rw [leaves_len]; have := syms_len_le l; omega
  unfold dep7_t
  refine ⟨by omega, by omega, by omega, by omega, ⟨0, by rw [nle]; omega, rfl, rfl, by rw [toNat_cast], rfl⟩, fun i hi => ⟨fun hlt => ?_, fun hge => ?_⟩⟩
  · simp only [decide_eq_true_eq] at hlt
    have hi' : i < l.length := by omega
    have ht := leaves_take hi'
    have hll : (leaves (l.take i)).length ≤ 256 := by
      rw [leaves_len]
      have := syms_len_le (l.take i)
      rw [List.length_take] at this
      omega
    simp only [toNat_cast, gt_iff_lt, decide_eq_true_eq, decide_eq_false_iff_not]
    refine ⟨by omega, by omega, fun hp => ⟨by omega, by omega, by omega, i + 1, by rw [nle]; omega, by show l.length - (i + 1) < l.length - i; omega, by trivial, by rw [wr (by omega) (by omega)]; simp, by trivial, ?_⟩,
      fun hp => ⟨i + 1, by rw [nle]; omega, by show l.length - (i + 1) < l.length - i; omega, by trivial, by rw [wr (by omega) (by omega)]; simp, by trivial, ?_⟩⟩
    · rw [ht, decide_eq_true hp]; rfl
    · rw [ht, decide_eq_false hp, cond_false, List.append_nil]
  · simp only [decide_eq_false_iff_not] at hge
    rw [List.take_of_length_le (by omega)]
    refine ⟨⟨0, by rw [nle]; omega, rfl, rfl, rfl⟩, fun j hj => ?_⟩
    have hj' : j + 1 ≤ (leaves l).length := hj
    have hI := hinv hc.nn hm j hj'
    have hxl := hI.xl
    refine ⟨fun hlt => ?_, fun hge2 => ?_⟩
    · simp only [gt_iff_lt, decide_eq_true_eq] at hlt
      have sp := hI.split (by omega)
      have r1 := rest_len (xs := (runD l j).2) (by omega)
      have r2 := rest_len (xs := restX (runD l j).2) (by omega)
      have hS : (ndS (mrgX (runD l j).2 j)).length ≤ 256 := by
        have hle := (sp.p.flatMap_right ndS).symm.trans hI.perm
        have := hle.length_eq
        rw [posL_len] at this
        simp only [List.flatMap_cons, List.length_append] at this
        rw [mrg_S, List.length_append]
        omega
      have hS' := hS
      rw [mrg_S, List.length_append] at hS'
      have hcnt : ndC (mrgX (runD l j).2 j) ≤ 1099511627776 ∧ 0 ≤ ndC (mrgX (runD l j).2 j) := by
        have h1 := (hinvS hm hI (by omega)).tot
        have h2 := (hinvS hm hI (by omega)).cnt
        have h3 := hc.tot
        simp only [stepD] at h1 h2
        rw [List.map_append, List.sum_append_int] at h1
        simp only [List.map_cons, List.map_nil, List.sum_cons, List.sum_nil] at h1
        have h4 := sum_nn (l := (restX (restX (runD l j).2)).map ndC) (fun x hx => by
          obtain ⟨y, hy, rfl⟩ := List.mem_map.1 hx
          have := h2 y (by simp [hy])
          omega)
        have h5 := h2 (mrgX (runD l j).2 j) (by simp)
        omega
      refine ⟨by omega, by omega, by omega, by omega, by omega, by simp only [List.nil_append]; omega, j, ⟨0, ⟨by omega, Nat.zero_le _⟩, by trivial, rfl, rfl, by trivial, ?_, by trivial, by trivial, ?_⟩, fun k ⟨hk1, hk⟩ => ⟨fun hlt3 => ?_, fun hge3 => ?_⟩⟩
      · rw [mrg_C] at hcnt ⊢
        exact wr (by omega) (by omega)
      · simp [mrg_S]
      · simp only [decide_eq_true_eq] at hlt3
        have hk' : k < (ndS (mrgX (runD l j).2 j)).length := by omega
        simp only [toNat_cast]
        have hmem : (ndS (mrgX (runD l j).2 j)).getD k 0 ∈ ndS (mrgX (runD l j).2 j) := getD_mem' hk'
        have hall : ∀ s ∈ ndS (mrgX (runD l j).2 j), 0 ≤ s ∧ s < l.length := by
          intro s hs
          rw [mrg_S, List.mem_append] at hs
          have := posL_rng (hs.elim (sp.rng _ (sp.p.mem_iff.2 (by simp)) s) (sp.rng _ (sp.p.mem_iff.2 (by simp)) s))
          exact ⟨this.1, this.2.1⟩
        have hsr := hall _ hmem
        have hil := inc_len ((ndS (mrgX (runD l j).2 j)).take k) (runD l j).1
        have hl := hI.len
        have hv : 0 ≤ (incAll (runD l j).1 ((ndS (mrgX (runD l j).2 j)).take k)).getD ((ndS (mrgX (runD l j).2 j)).getD k 0).toNat 0 ∧ (incAll (runD l j).1 ((ndS (mrgX (runD l j).2 j)).take k)).getD ((ndS (mrgX (runD l j).2 j)).getD k 0).toNat 0 ≤ 1000 := by
          rw [inc_get (n := l.length) _ (fun s hs => hall s (List.mem_of_mem_take hs)) _ hl _ (by omega)]
          have hb := hI.bd ((ndS (mrgX (runD l j).2 j)).getD k 0).toNat (by omega)
          have hcl := List.count_le_length (a := (((ndS (mrgX (runD l j).2 j)).getD k 0).toNat : Int)) (l := (ndS (mrgX (runD l j).2 j)).take k)
          rw [List.length_take] at hcl
          omega
        refine ⟨by omega, by omega, by omega, by omega, by omega, by omega, by omega, by omega, by omega, k + 1, ⟨by omega, by omega⟩, by show (ndS (mrgX (runD l j).2 j)).length - (k + 1) < (ndS (mrgX (runD l j).2 j)).length - k; omega, by trivial, by rw [wr (by omega) (by omega)]; simp, ?_, by trivial, by trivial, by trivial, by trivial, by trivial⟩
        rw [take_succ _ 0 hk', inc_snoc, wr (by omega) (by omega)]
      · simp only [decide_eq_false_iff_not] at hge3
        rw [List.take_of_length_le (by omega)]
        refine ⟨by omega, j + 1, by rw [nle]; omega, by show (leaves l).length - (j + 1) < (leaves l).length - j; omega, by rw [wr (by omega) (by omega)]; simp, by trivial, by trivial⟩
    · simp only [gt_iff_lt, decide_eq_false_iff_not] at hge2
      have : j = (leaves l).length - 1 := by omega
      rw [this]
      rfl
theorem halfP_len (l : List Int) {i : Nat} (h : i ≤ l.length) : (halfP l i).length = l.length := by
  simp only [halfP, List.length_append, List.length_map, List.length_take, List.length_drop]; omega
theorem halfP_get {l : List Int} {i : Nat} (h : i < l.length) : (halfP l i).getD i 0 = l.getD i 0 := by
  unfold halfP
  rw [List.getD_eq_getElem?_getD, List.getElem?_append_right (by simp; omega), List.getElem?_drop]
  simp only [List.length_map, List.length_take, Nat.min_eq_left (Nat.le_of_lt h)]
  rw [Nat.sub_self, Nat.add_zero]; rfl
theorem halfP_succ {l : List Int} {i : Nat} (h : i < l.length) : halfP l (i + 1) = (halfP l i).set i (halfC (l.getD i 0)) := by
  unfold halfP
  rw [take_succ l 0 h, List.map_append, List.set_append_right _ _ (by simp; omega)]
  simp only [List.length_map, List.length_take, Nat.min_eq_left (Nat.le_of_lt h), Nat.sub_self]
  rw [List.drop_eq_getElem_cons h, List.set_cons_zero, List.append_assoc]
  rfl
theorem okD_snoc {l : List Int} {i : Nat} (h : i < l.length) : okD (l.take (i + 1)) = (okD (l.take i) && decide (l.getD i 0 ≤ 11)) := all_snoc h
theorem okD_take {l : List Int} {i : Nat} (h : okD (l.take i) = false) : okD (l.take (i + 1)) = false := by
  by_cases hi : i < l.length
  · rw [okD_snoc hi, h]; rfl
  · rw [List.take_of_length_le (by omega)] at h ⊢; exact h
theorem of7_v (l : List Int) (h0 : l.length ≤ 40) (hc : cntsOk l = true) (h2 : 2 ≤ (leaves l).length) : of7_t l := by
  have hcn := cn_iff.1 hc
  unfold of7_t
  refine ⟨by omega, hc, h2, fun h => by simp at h, fun _ => ⟨by omega, ⟨0, ⟨by simp [halfs], rfl⟩, rfl⟩, fun j ⟨hj1, hj2⟩ => ?_⟩⟩
  obtain ⟨hh1, hh2, hh3⟩ := halfs_ok hcn j
  have hnn := sum_nn hh1.nn
  have htot := hcn.tot
  have hm : (leaves (halfs l j)).length ≤ 256 := by rw [leaves_len]; have := syms_len_le (halfs l j); omega
  have ho := (depL_ok hh1.nn hm (by omega)).1
  have hlen := ho.len
  have hsn : 0 ≤ sumL (halfs l j) := hnn
  refine ⟨by omega, cn_iff.2 hh1, by omega, j, ⟨0, ⟨⟨hj1, hj2⟩, Nat.zero_le _⟩, rfl, rfl, rfl, rfl⟩, fun i ⟨_, hi⟩ => ⟨fun hlt => ⟨fun hq => ?_, fun hq => ?_⟩, fun hge => ⟨fun hq => ?_, fun hq => ?_⟩⟩⟩
  · simp only [decide_eq_true_eq] at hlt
    have hq' : okD ((depL (halfs l j)).take i) = false := by simpa using hq
    exact ⟨i + 1, ⟨⟨hj1, hj2⟩, by omega⟩, by show (depL (halfs l j)).length - (i + 1) < (depL (halfs l j)).length - i; omega, by rw [okD_take hq']; rfl, by rw [wr (by omega) (by omega)]; simp, by trivial, by trivial⟩
  · simp only [decide_eq_true_eq] at hlt
    have hq' : okD ((depL (halfs l j)).take i) = true := by simpa using hq
    rw [toNat_cast]
    refine ⟨by omega, by omega, by omega, i + 1, ⟨⟨hj1, hj2⟩, by omega⟩, by show (depL (halfs l j)).length - (i + 1) < (depL (halfs l j)).length - i; omega, ?_, by rw [wr (by omega) (by omega)]; simp, by trivial, by trivial⟩
    rw [okD_snoc (by omega), hq', Bool.true_and]
    by_cases h : (depL (halfs l j)).getD i 0 ≤ 11
    · rw [decide_eq_true h, decide_eq_false (by omega)]; rfl
    · rw [decide_eq_false h, decide_eq_true (by omega)]; rfl
  · simp only [decide_eq_false_iff_not] at hge
    rw [List.take_of_length_le (by omega)] at hq
    have hq' : okD (depL (halfs l j)) = true := by simpa using hq
    refine ⟨rfl, ?_⟩
    obtain ⟨f, hf⟩ : ∃ f, (sumL l).toNat + 1 - j = f + 1 := ⟨(sumL l).toNat - j, by omega⟩
    rw [← hj2, hf, ofF, hq']
    rfl
  · simp only [decide_eq_false_iff_not] at hge
    rw [List.take_of_length_le (by omega)] at hq
    have hq' : okD (depL (halfs l j)) = false := by simpa using hq
    refine ⟨j, ⟨0, ⟨⟨hj1, hj2⟩, hq', Nat.zero_le _⟩, rfl, rfl⟩, fun k ⟨_, _, hk⟩ => ?_⟩
    have hkl := halfP_len (halfs l j) hk
    refine ⟨fun hlt2 => ?_, fun hge2 => ?_⟩
    · simp only [decide_eq_true_eq] at hlt2
      have hk' : k < (halfs l j).length := by omega
      rw [toNat_cast, halfP_get hk']
      have hx := hh1.nn _ (getD_mem' hk')
      have hx2 : (halfs l j).getD k 0 ≤ sumL (halfs l j) := by
        have b1 := sum_take_le hh1.nn k
        have b2 := sum_take_le hh1.nn (k + 1)
        have hs := sum_snoc ((halfs l j).take k) ((halfs l j).getD k 0)
        rw [← take_succ _ 0 hk'] at hs
        omega
      have hb := half_bd hx
      refine ⟨by omega, by omega, by omega, by omega, by omega, by omega, by omega, k + 1, ⟨⟨hj1, hj2⟩, hq', by omega⟩, by show (halfs l j).length - (k + 1) < (halfs l j).length - k; omega, by rw [wr (by omega) (by omega)]; simp, ?_⟩
      rw [halfP_succ hk', wr (n := (halfs l j).getD k 0 + 1) (by omega) (by omega)]
      have e : ((halfs l j).getD k 0 + 1).tdiv 2 = halfC ((halfs l j).getD k 0) := rfl
      rw [e, wr (by omega) (by omega)]
    · simp only [decide_eq_false_iff_not] at hge2
      have hk2 : k = (halfs l j).length := by omega
      subst hk2
      have hlt := not_ok hh1 (by omega) (by omega) hq'
      refine ⟨j + 1, ⟨by show ((j + 1 : Nat) : Int) + sumL ((halfs l j).map halfC) ≤ sumL l; push_cast; omega, ?_⟩, ?_, ?_⟩
      · obtain ⟨f, hf⟩ : ∃ f, (sumL l).toNat + 1 - j = f + 1 := ⟨(sumL l).toNat - j, by omega⟩
        rw [← hj2, hf, ofF, hq', cond_false, show (sumL l).toNat + 1 - (j + 1) = f by omega]
        rfl
      · show (sumL l).toNat - (j + 1) < (sumL l).toNat - j
        have := sum_nn (half_cn hh1).nn
        unfold sumL at *
        omega
      · simp [halfP, halfs]
theorem cnts_succ {nums : List Int} {i : Nat} (h2 : 2 ≤ i) (hi : i < nums.length) : cntsP nums (i + 1) = cntsP nums i ++ [cntX (nums.getD i 0)] := by
  unfold cntsP
  rw [take_succ nums 0 hi, List.drop_append_of_le_length (by rw [List.length_take]; omega), List.map_append, ← List.append_assoc]
  rfl
theorem lens7_v (nums : List Int) : lens7_t nums := by
  have m0 := md_bd (x := atL nums 0) (show (1 : Int) ≤ 9 by omega)
  have m1 := md_bd (x := atL nums 1) (show (1 : Int) ≤ 9 by omega)
  unfold lens7_t
  have fin : ∀ i, 2 ≤ i → i ≤ 40 → i ≤ max 2 nums.length → (nums.length ≤ i ∨ i = 40) → (cntsP nums i).length ≤ 40 ∧ cntsOk (cntsP nums i) = true ∧ 2 ≤ (leaves (cntsP nums i)).length ∧ ofL (cntsP nums i) = lensN nums := by
    intro i h2 h40 hi he
    have hl := cnts_len nums h2
    refine ⟨by omega, cn_iff.2 (cnts_cn nums h2 h40), cnts_two nums i, ?_⟩
    unfold lensN cntsN
    rw [show max 2 (min nums.length 40) = i by omega]
  refine ⟨by decide, by decide, ⟨2, ⟨by omega, by omega, by omega⟩, rfl, rfl, ?_⟩, fun i ⟨h2, h40, hi⟩ => ⟨fun hlt => ⟨fun hlt2 => ?_, fun hge2 => ?_⟩, fun hge => ?_⟩⟩
  · rw [wr (by omega) (by omega), wr (by omega) (by omega)]
    simp [cntsP]
  · simp only [decide_eq_true_eq] at hlt hlt2
    have hi' : i < nums.length := by omega
    simp only [toNat_cast, gt_iff_lt, decide_eq_true_eq, decide_eq_false_iff_not]
    have hb := md_bd (x := nums.getD i 0) (show (1 : Int) ≤ 1048576 by omega)
    have hs := cnts_succ h2 hi'
    unfold cntX cntK at hs
    generalize md (nums.getD i 0) 1048576 = k at hb hs
    have hd0 : 0 ≤ k.tdiv 3 := Int.tdiv_nonneg hb.1 (by omega)
    have hd1 : k.tdiv 3 ≤ k := by rw [Int.tdiv_eq_ediv_of_nonneg hb.1]; omega
    have hm0 : 0 ≤ (k.tdiv 3).tmod 12 := Int.tmod_nonneg _ hd0
    have hm1 : (k.tdiv 3).tmod 12 < 12 := Int.tmod_lt_of_pos _ (by omega)
    rw [wr (n := k.tdiv 3) (by omega) (by omega), wru (by omega) (by omega)]
    refine ⟨by omega, by omega, by decide, by decide, fun hp => ⟨by decide, by decide, hm0, ?_, i + 1, ⟨by omega, by omega, by omega⟩, by show 40 - (i + 1) < 40 - i; omega, by trivial, by rw [wr (by omega) (by omega)]; simp, ?_⟩,
      fun hp => ⟨?_, i + 1, ⟨by omega, by omega, by omega⟩, by show 40 - (i + 1) < 40 - i; omega, by trivial, by rw [wr (by omega) (by omega)]; simp, ?_⟩⟩
    · have : (List.append [1 + md (atL nums 1) 9] (((nums.take i).drop 2).map cntX)).length ≤ 41 := by
        show ([1 + md (atL nums 1) 9] ++ (((nums.take i).drop 2).map cntX)).length ≤ 41
        simp only [List.length_append, List.length_singleton, List.length_map, List.length_drop, List.length_take]; omega
      show (Nat.succ (_ + 0) + 1) * 8 ≤ _
      omega
    · rw [hs, decide_eq_true hp, cond_true, shl1 (by omega) (by omega)]
    · have : (List.append [1 + md (atL nums 1) 9] (((nums.take i).drop 2).map cntX)).length ≤ 41 := by
        show ([1 + md (atL nums 1) 9] ++ (((nums.take i).drop 2).map cntX)).length ≤ 41
        simp only [List.length_append, List.length_singleton, List.length_map, List.length_drop, List.length_take]; omega
      show (Nat.succ (_ + 0) + 1) * 8 ≤ _
      omega
    · rw [hs, decide_eq_false hp, cond_false]
  · simp only [decide_eq_false_iff_not] at hge2
    exact fin i h2 h40 hi (.inr (by omega))
  · simp only [decide_eq_false_iff_not] at hge
    exact fin i h2 h40 hi (.inl (by omega))
/-! ### tables -/
theorem bd7_sound : Sound Try.prog 159 sBd.ctr := sBd.sound (by kernel_rfl) sBd_enc fun n hc => by
  exact satG AllOk.nil mixed Try.func159 (bd7_e n) (bd7_v n)
theorem bef7_sound : Sound Try.prog 138 sBef.ctr := sBef.sound (by kernel_rfl) sBef_enc fun ⟨c1, f1, n1, s1, c2, f2, n2, s2⟩ hc => by
  exact satG AllOk.nil mixed Try.func138 (bef7_e c1 f1 n1 s1 c2 f2 n2 s2) (bef7_v c1 f1 n1 s1 c2 f2 n2 s2)
theorem nz7_sound : Sound Try.prog 114 sNz.ctr := sNz.sound (by kernel_rfl) sNz_enc fun l hc => by
  have h0 := hc _ (.head _)
  exact satG AllOk.nil mixed Try.func114 (nz7_e l) (nz7_v l h0)
theorem md7_sound : Sound Try.prog 19 sMd.ctr := sMd.sound (by kernel_rfl) sMd_enc fun ⟨x, m⟩ hc => by
  have h0 := hc _ (.head _)
  exact satG AllOk.nil mixed Try.func19 (md7_e x m) (md7_v x m h0)
theorem at7_sound : Sound Try.prog 36 sAtL.ctr := sAtL.sound (by kernel_rfl) sAtL_enc fun ⟨l, i⟩ hc => by
  exact satG AllOk.nil mixed Try.func36 (at7_e l i) (at7_v l i)
theorem G7a_ok : AllOk Try.prog G7a := .cons bd7_sound <| .cons bef7_sound <| .cons nz7_sound <| .cons md7_sound <| .cons at7_sound AllOk.nil
theorem plus7_sound : Sound Try.prog 154 sPlus.ctr := sPlus.sound (by kernel_rfl) sPlus_enc fun ⟨a, b⟩ hc => by
  have h0 := hc _ (.head _)
  have h1 := hc _ (.tail _ (.head _))
  have h2 := hc _ (.tail _ (.tail _ (.head _)))
  exact satG G7a_ok mixed Try.func154 (plus7_e a b) (plus7_v a b h0 h1 h2)
theorem first7_sound : Sound Try.prog 115 sFirst.ctr := sFirst.sound (by kernel_rfl) sFirst_enc fun xs hc => by
  have h0 := hc _ (.head _)
  have h1 := hc _ (.tail _ (.head _))
  exact satG G7a_ok mixed Try.func115 (first7_e xs) (first7_v xs h0 h1)
theorem G7b_ok : AllOk Try.prog G7b := .cons plus7_sound <| .cons first7_sound G7a_ok
theorem sum7_sound : Sound Try.prog 137 sSum.ctr := sSum.sound (by kernel_rfl) sSum_enc fun l hc => by
  have h0 := hc _ (.head _)
  have h1 := hc _ (.tail _ (.head _))
  exact satG G7b_ok mixed Try.func137 (sum7_e l) (sum7_v l h0 h1)
theorem dep7_sound : Sound Try.prog 89 sDepths.ctr := sDepths.sound (by kernel_rfl) sDepths_enc fun l hc => by
  have h0 := hc _ (.head _)
  have h1 := hc _ (.tail _ (.head _))
  have h2 := hc _ (.tail _ (.tail _ (.head _)))
  exact satG G7b_ok mixed Try.func89 (dep7_e l) (dep7_v l h0 h1 h2)
theorem G7c_ok : AllOk Try.prog G7c := .cons sum7_sound <| .cons dep7_sound G7b_ok
theorem chkd7_sound : Sound Try.prog 113 sChkd.ctr := sChkd.sound (by kernel_rfl) sChkd_enc fun l hc => by
  have h0 := hc _ (.head _)
  have h1 := hc _ (.tail _ (.head _))
  exact satG G7c_ok mixed Try.func113 (chkd7_e l) (chkd7_v l h0 h1)
theorem G7d_ok : AllOk Try.prog G7d := .cons chkd7_sound G7c_ok
theorem asked7_sound : Sound Try.prog 88 sAsked.ctr := sAsked.sound (by kernel_rfl) sAsked_enc fun l hc => by
  have h0 := hc _ (.head _)
  have h1 := hc _ (.tail _ (.head _))
  have h2 := hc _ (.tail _ (.tail _ (.head _)))
  exact satG G7d_ok mixed Try.func88 (asked7_e l) (asked7_v l h0 h1 h2)
theorem G7e_ok : AllOk Try.prog G7e := .cons asked7_sound G7d_ok
theorem of7_sound : Sound Try.prog 60 sOf.ctr := sOf.sound (by kernel_rfl) sOf_enc fun l hc => by
  have h0 := hc _ (.head _)
  have h1 := hc _ (.tail _ (.head _))
  have h2 := hc _ (.tail _ (.tail _ (.head _)))
  exact satG G7e_ok mixed Try.func60 (of7_e l) (of7_v l h0 h1 h2)
theorem G7f_ok : AllOk Try.prog G7f := .cons of7_sound G7e_ok
theorem lens7_sound : Sound Try.prog 15 sLens.ctr := sLens.sound (by kernel_rfl) sLens_enc fun nums hc => by
  exact satG G7f_ok mixed Try.func15 (lens7_e nums) (lens7_v nums)
end Go.Proofs.Ytfbdocfhgjfboaa
/-
  Chapter 16: sums of counts. Conditions: each theorem's own.
-/
namespace Go.Proofs.Ytfbdocfhgjfboaa
open Go Go.RowKit
set_option linter.unusedVariables false
set_option linter.unusedSimpArgs false
set_option maxRecDepth 100000
theorem adX_bd (l a : List Int) (k : Nat) : 0 ≤ adX l a k ∧ adX l a k ≤ 999 := by
  unfold adX
  cases l.getD k 0 == 0
  · have := md_bd (x := atL a k) (show (1 : Int) ≤ 1000 by omega)
    simp only [cond_false]; omega
  · simp only [cond_true]; omega
theorem adL_len (l a : List Int) : ∀ i, (adL l a i).length = i
  | 0 => rfl
  | i + 1 => by simp [adL, adL_len l a i]
theorem adB_len (l a b : List Int) : ∀ i, (adB l a b i).length = i
  | 0 => rfl
  | i + 1 => by simp [adB, adB_len l a b i]
theorem adL_get (l a : List Int) : ∀ i k, k < i → (adL l a i).getD k 0 = adX l a k
  | 0, k, h => by omega
  | i + 1, k, h => by
    have hl := adL_len l a i
    rw [adL, List.getD_eq_getElem?_getD]
    by_cases hk : k < i
    · rw [List.getElem?_append_left (by omega), ← List.getD_eq_getElem?_getD]; exact adL_get l a i k hk
    · have : k = i := by omega
      subst this
      rw [List.getElem?_append_right (by omega), hl]; simp
theorem adB_get (l a b : List Int) : ∀ i k, k < i → (adB l a b i).getD k 0 = adX l a k + adX l b k
  | 0, k, h => by omega
  | i + 1, k, h => by
    have hl := adB_len l a b i
    rw [adB, List.getD_eq_getElem?_getD]
    by_cases hk : k < i
    · rw [List.getElem?_append_left (by omega), ← List.getD_eq_getElem?_getD]; exact adB_get l a b i k hk
    · have : k = i := by omega
      subst this
      rw [List.getElem?_append_right (by omega), hl]; simp
/-- counts that are 0 where there is no code -/
structure Cts (l c : List Int) : Prop where
  len : c.length = l.length
  ok : ∀ k, k < l.length → 0 ≤ c.getD k 0 ∧ c.getD k 0 ≤ 2000
  z : ∀ k, k < l.length → l.getD k 0 = 0 → c.getD k 0 = 0
theorem cts_bits {l c : List Int} (hc : chk l = 0) (h : Cts l c) : bitE l c = 0 ∧ bitV l c = bitS l c l.length := by
  have hg := good hc
  have hlen := hg.len
  have hcl := h.len
  have h1 : c.all okCnt = true := by
    rw [List.all_eq_true]
    intro x hx
    obtain ⟨k, hk, rfl⟩ := List.mem_iff_getElem.1 hx
    have := h.ok k (by omega)
    rw [getD_e 0 hk] at this
    exact okCnt_iff.2 (by omega)
  have h2 : cntd l c = 0 := by
    unfold cntd
    rw [hc, decide_eq_false (by omega), h1]
    rfl
  have h3 : covI l c = true := by
    unfold covI
    rw [List.all_eq_true]
    intro k hk
    rw [List.mem_range] at hk
    unfold lenOk
    simp only [toNat_cast, Bool.or_eq_true, Bool.and_eq_true, decide_eq_true_eq, beq_iff_eq]
    by_cases h0 : l.getD k 0 = 0
    · exact .inr (h.z k (by omega) h0)
    · have := (hg.lens _ (getD_mem' (show k < l.length by omega))).1
      exact .inl ⟨by omega, by omega⟩
  have h4 : bitE l c = 0 := by
    unfold bitE
    rw [h2, h3]
    rfl
  refine ⟨h4, ?_⟩
  unfold bitV
  rw [h4, hcl]
  rfl
theorem lenN_eq {l : List Int} (hg : Good l) {k : Nat} (hk : k < l.length) (n : Int) : lenN l k n = l.getD k 0 := by
  unfold lenN
  have hb := (hg.lens _ (getD_mem' hk)).1
  simp only [toNat_cast]
  by_cases h0 : 0 < l.getD k 0
  · rw [decide_eq_true (show (k : Int) < l.length by omega), decide_eq_true h0]; rfl
  · rw [decide_eq_false h0, Bool.and_false, cond_false]; omega
theorem bits_add {l x y z : List Int} (hg : Good l) (h : ∀ k, k < l.length → z.getD k 0 = x.getD k 0 + y.getD k 0) : ∀ i, i ≤ l.length → bitS l z i = bitS l x i + bitS l y i
  | 0, _ => rfl
  | i + 1, hi => by
    rw [bitS_succ, bitS_succ, bitS_succ, bits_add hg h i (by omega), lenN_eq hg (by omega), lenN_eq hg (by omega), lenN_eq hg (by omega), h i (by omega), Int.add_mul]
    omega
theorem bits_bd {l c : List Int} (hg : Good l) (h : ∀ k, k < l.length → 0 ≤ c.getD k 0 ∧ c.getD k 0 ≤ 2000) : ∀ i, i ≤ l.length → 0 ≤ bitS l c i ∧ bitS l c i ≤ 22000 * i
  | 0, _ => by simp [bitS]
  | i + 1, hi => by
    have ih := bits_bd hg h i (by omega)
    rw [bitS_succ, lenN_eq hg (by omega)]
    have h1 := h i (by omega)
    have h2 := hg.lens _ (getD_mem' (show i < l.length by omega))
    have h3 : 0 ≤ c.getD i 0 * l.getD i 0 := Int.mul_nonneg h1.1 h2.1
    have h4 : c.getD i 0 * l.getD i 0 ≤ 2000 * 11 := Int.mul_le_mul h1.2 h2.2 h2.1 (by omega)
    push_cast
    omega
theorem adL_cts (l a : List Int) : Cts l (adL l a l.length) where
  len := adL_len ..
  ok := fun k hk => by rw [adL_get _ _ _ _ hk]; have := adX_bd l a k; omega
  z := fun k hk h0 => by
    rw [adL_get _ _ _ _ hk]
    unfold adX
    rw [h0]; rfl
theorem adB_cts (l a b : List Int) : Cts l (adB l a b l.length) where
  len := adB_len ..
  ok := fun k hk => by rw [adB_get _ _ _ _ _ hk]; have := adX_bd l a k; have := adX_bd l b k; omega
  z := fun k hk h0 => by
    rw [adB_get _ _ _ _ _ hk]
    unfold adX
    rw [h0]; rfl
end Go.Proofs.Ytfbdocfhgjfboaa
/-
  Chapter 16: the law CodeAdds holds. Conditions: each theorem's own.
-/
namespace Go.Proofs.Ytfbdocfhgjfboaa
open Go Go.RowKit
set_option linter.unusedVariables false
set_option linter.unusedSimpArgs false
set_option maxRecDepth 100000
theorem lawAd7_v (nums a b : List Int) : lawAd7_t nums a b := by
  unfold lawAd7_t
  obtain ⟨hc, _, h40⟩ := lensN_ok nums
  generalize lensN nums = L at hc h40 ⊢
  have hg := good hc
  refine ⟨⟨0, by rw [nle]; omega, rfl, rfl, rfl, rfl, rfl, rfl, rfl⟩, fun i hi => ⟨fun hlt => ?_, fun hge => ?_⟩⟩
  · simp only [decide_eq_true_eq] at hlt
    have hi' : i < L.length := by omega
    simp only [toNat_cast, adL_len, adB_len]
    have b1 := md_bd (x := atL a i) (show (1 : Int) ≤ 1000 by omega)
    have b2 := md_bd (x := atL b i) (show (1 : Int) ≤ 1000 by omega)
    refine ⟨by decide, by decide, by omega, by omega, by omega, fun h0 => ⟨by omega, by omega, by omega, i + 1, by rw [nle]; omega, by show L.length - (i + 1) < L.length - i; omega, by trivial, by trivial, by rw [wr (by omega) (by omega)]; simp, by trivial, ?_, ?_, ?_⟩,
      fun h0 => ⟨by omega, by omega, by omega, i + 1, by rw [nle]; omega, by show L.length - (i + 1) < L.length - i; omega, by trivial, by trivial, by rw [wr (by omega) (by omega)]; simp, by trivial, ?_, ?_, ?_⟩⟩
    · simp only [adL, adX, h0, cond_true]
    · simp only [adL, adX, h0, cond_true]
    · simp only [adB, adX, h0, cond_true]; rfl
    · simp only [adL, adX, h0, cond_false]
    · simp only [adL, adX, h0, cond_false]
    · simp only [adB, adX, h0, cond_false]
      rw [wr (by omega) (by omega)]
  · simp only [decide_eq_false_iff_not] at hge
    rw [nle] at hi
    have hi' : i = L.length := by omega
    subst hi'
    have x1 := cts_bits hc (adL_cts L a)
    have x2 := cts_bits hc (adL_cts L b)
    have x3 := cts_bits hc (adB_cts L a b)
    have hadd := bits_add hg (x := adL L a L.length) (y := adL L b L.length) (z := adB L a b L.length) (fun k hk => by rw [adB_get _ _ _ _ _ hk, adL_get _ _ _ _ hk, adL_get _ _ _ _ hk]) L.length (Nat.le_refl _)
    have d1 := bits_bd hg (adL_cts L a).ok L.length (Nat.le_refl _)
    have d2 := bits_bd hg (adL_cts L b).ok L.length (Nat.le_refl _)
    have hl := hg.len
    simp only [adL_len, adB_len]
    rw [x1.1, x2.1, x3.1, x1.2, x2.2, x3.2, hadd, wr (by omega) (by omega)]
    refine ⟨by omega, by omega, by omega, by omega, by omega, by omega, ?_⟩
    simp
end Go.Proofs.Ytfbdocfhgjfboaa
/-
  The conditions of the functions told in the text before, and that they are the executor's. Conditions: none.
-/
namespace Go.Proofs.Ytfbdocfhgjfboaa
open Go Go.RowKit
set_option linter.unusedVariables false
set_option maxRecDepth 100000
def awake6_t  : Prop :=
 (chk [(1 : Int), (2 : Int), (2 : Int)] = (0 : Int) →
 List.length [(1 : Int), (2 : Int), (2 : Int)] ≤ (4294967296 : Nat) ∧
 List.length (codL [(1 : Int), (2 : Int), (2 : Int)]) ≤ (4294967296 : Nat) ∧
 (eqR (2 : Nat) (codL [(1 : Int), (2 : Int), (2 : Int)])
 (List.map (fun (i : Nat) => List.take ((2 : Nat)) (List.drop (i * (2 : Nat)) [(1 : Int), (1 : Int), (2 : Int), (0 : Int), (2 : Int), (1 : Int)])) (List.range (3 : Nat))) =
 true →
 ((0 : Int) == (0 : Int)) = true) ∧
 (eqR (2 : Nat) (codL [(1 : Int), (2 : Int), (2 : Int)])
 (List.map (fun (i : Nat) => List.take ((2 : Nat)) (List.drop (i * (2 : Nat)) [(1 : Int), (1 : Int), (2 : Int), (0 : Int), (2 : Int), (1 : Int)])) (List.range (3 : Nat))) =
 false →
 false = true)) ∧
 (¬chk [(1 : Int), (2 : Int), (2 : Int)] = (0 : Int) → List.length [(1 : Int), (2 : Int), (2 : Int)] ≤ (4294967296 : Nat) ∧ False ∧ False)
--end
theorem awake6_e  : awake6_t  = vcG Try.prog (Gof G6k) (fun _ => none) Try.f20 [] [] (.leaf ((.v (.bool true))) ([])) := by kernel_rfl
def manyN6_t  : Prop :=
 (decide ((0 : Int) > (256 : Int)) = true →
 (12 : Nat) = (12 : Nat) ∧
 List.length (List.replicate (12 : Nat) (0 : Int)) = (12 : Nat) ∧
 List.length (List.replicate (12 : Nat) (0 : Int)) = List.length (List.replicate (12 : Nat) (0 : Int)) ∧
 (12 : Nat) = (12 : Nat) ∧ List.replicate (12 : Nat) (0 : Int) = (manyT []).fst ∧ (2 : Int) = (manyT []).snd) ∧
 (decide ((0 : Int) > (256 : Int)) = false →
 (∃ (x0 : Nat),
 x0 = (0 : Nat) ∧ Value.slice none (0 : Nat) (0 : Nat) = Value.slice none (0 : Nat) (0 : Nat) ∧ (0 : Int) = (0 : Int) ∧ (0 : Int) = (0 : Int) ∧ List.replicate (12 : Nat) (0 : Int) = bumps []) ∧
 ∀ (x1 : Nat),
 x1 = (0 : Nat) →
 (decide ((0 : Int) < (0 : Int)) = true → False ∧ False ∧ False ∧ False) ∧
 (decide ((0 : Int) < (0 : Int)) = false →
 (12 : Nat) = (12 : Nat) ∧
 List.length (bumps []) = (12 : Nat) ∧ List.length (bumps []) = List.length (bumps []) ∧ (12 : Nat) = (12 : Nat) ∧ bumps [] = (manyT []).fst ∧ (0 : Int) = (manyT []).snd))
--end
theorem manyN6_e  : manyN6_t  = vcG Try.prog (Gof []) (one6 oManyN) Try.f65 [.v (.slice none 0 0)] [] (.leaf ((.tu [.av (.ints .i64 (manyT []).1), .v (.int .i64 (manyT []).2)])) ([])) := by kernel_rfl
def chkN6_t  : Prop :=
 List.length (manyT []).fst = (12 : Nat) ∧
 List.length (manyT []).fst = List.length (List.replicate (12 : Nat) (0 : Int)) ∧
 (((manyT []).snd != (0 : Int)) = true → (manyT []).snd = (21 : Int)) ∧
 (((manyT []).snd != (0 : Int)) = false →
 (∃ (x0 : Nat),
 (x0 ≤ (11 : Nat) ∧ (manyT []).snd = (0 : Int)) ∧
 (0 : Int) = rmC (manyT []).fst x0 ∧ (0 : Int) = cdC (manyT []).fst x0 ∧ (1 : Int) = (↑x0 : Int) + (1 : Int) ∧ (manyT []).fst = (manyT []).fst) ∧
 ∀ (x1 : Nat),
 x1 ≤ (11 : Nat) ∧ (manyT []).snd = (0 : Int) →
 (decide ((↑x1 : Int) + (1 : Int) ≤ (11 : Int)) = true →
 (0 : Int) ≤ (↑x1 : Int) + (1 : Int) ∧
 (↑x1 : Int) + (1 : Int) < (↑(12 : Nat) : Int) ∧
 Int.toNat ((↑x1 : Int) + (1 : Int)) < List.length (manyT []).fst ∧
 (0 : Int) ≤ IntKind.wrap IntKind.i64 ((11 : Int) - ((↑x1 : Int) + (1 : Int))) ∧
 (0 : Int) ≤ (↑x1 : Int) + (1 : Int) ∧
 (↑x1 : Int) + (1 : Int) < (↑(12 : Nat) : Int) ∧
 Int.toNat ((↑x1 : Int) + (1 : Int)) < List.length (manyT []).fst ∧
 ∃ (y2 : Nat),
 (y2 ≤ (11 : Nat) ∧ (manyT []).snd = (0 : Int)) ∧
 Nat.sub (11 : Nat) y2 < Nat.sub (11 : Nat) x1 ∧
 IntKind.wrap IntKind.i64
 (rmC (manyT []).fst x1 +
 IntKind.wrap IntKind.i64
 (List.getD (manyT []).fst (Int.toNat ((↑x1 : Int) + (1 : Int))) (0 : Int) *
 (2 : Int) ^ min (Int.toNat (IntKind.wrap IntKind.i64 ((11 : Int) - ((↑x1 : Int) + (1 : Int))))) (IntKind.bits IntKind.i64))) =
 rmC (manyT []).fst y2 ∧
 IntKind.wrap IntKind.i64 (cdC (manyT []).fst x1 + List.getD (manyT []).fst (Int.toNat ((↑x1 : Int) + (1 : Int))) (0 : Int)) = cdC (manyT []).fst y2 ∧
 IntKind.wrap IntKind.i64 ((↑x1 : Int) + (1 : Int) + (1 : Int)) = (↑y2 : Int) + (1 : Int) ∧ (manyT []).fst = (manyT []).fst) ∧
 (decide ((↑x1 : Int) + (1 : Int) ≤ (11 : Int)) = false →
 (decide (cdC (manyT []).fst x1 < (2 : Int)) = true → (21 : Int) = (21 : Int)) ∧
 (decide (cdC (manyT []).fst x1 < (2 : Int)) = false →
 ((rmC (manyT []).fst x1 != (2048 : Int)) = true → (21 : Int) = (21 : Int)) ∧ ((rmC (manyT []).fst x1 != (2048 : Int)) = false → (0 : Int) = (21 : Int)))))
--end
theorem chkN6_e  : chkN6_t  = vcG Try.prog (Gof G6an) (one6 (oChk6 [])) Try.f23 [.v (.slice none 0 0)] [] (.leaf ((.v (.int .i64 21))) ([])) := by kernel_rfl
def decs6_t (v s b e : Int) : Prop :=
 List.length [(1 : Int), (2 : Int), (2 : Int)] ≤ (4294967296 : Nat) ∧
 ((decC [(1 : Int), (2 : Int), (2 : Int)] v (0 : Nat) == s) = true →
 ((decC [(1 : Int), (2 : Int), (2 : Int)] v (1 : Nat) == b) = true →
 (decE [(1 : Int), (2 : Int), (2 : Int)] v == e) =
 (decC [(1 : Int), (2 : Int), (2 : Int)] v (0 : Nat) == s && (decC [(1 : Int), (2 : Int), (2 : Int)] v (1 : Nat) == b && decE [(1 : Int), (2 : Int), (2 : Int)] v == e))) ∧
 ((decC [(1 : Int), (2 : Int), (2 : Int)] v (1 : Nat) == b) = false →
 false = (decC [(1 : Int), (2 : Int), (2 : Int)] v (0 : Nat) == s && (decC [(1 : Int), (2 : Int), (2 : Int)] v (1 : Nat) == b && decE [(1 : Int), (2 : Int), (2 : Int)] v == e)))) ∧
 ((decC [(1 : Int), (2 : Int), (2 : Int)] v (0 : Nat) == s) = false →
 false = (decC [(1 : Int), (2 : Int), (2 : Int)] v (0 : Nat) == s && (decC [(1 : Int), (2 : Int), (2 : Int)] v (1 : Nat) == b && decE [(1 : Int), (2 : Int), (2 : Int)] v == e)))
--end
theorem decs6_e (v s b e : Int) : decs6_t v s b e = vcG Try.prog (Gof G6k) (fun _ => none) Try.f43 [.v (.int .i64 v), .v (.int .i64 s), .v (.int .i64 b), .v (.int .i64 e)] [] (.leaf ((.v (.bool (decC [1, 2, 2] v 0 == s && (decC [1, 2, 2] v 1 == b && decE [1, 2, 2] v == e))))) ([])) := by kernel_rfl
def lawMk6_t (l : List Int) (v : Int) : Prop :=
 (decide ((↑(List.length l) : Int) > (270 : Int)) = true → true = true) ∧
 (decide ((↑(List.length l) : Int) > (270 : Int)) = false →
 List.length l ≤ (4294967296 : Nat) ∧
 List.length l ≤ (4294967296 : Nat) ∧
 List.length l ≤ (4294967296 : Nat) ∧
 List.length l ≤ (4294967296 : Nat) ∧
 List.length l ≤ (4294967296 : Nat) ∧
 ((chk l != chk l) = true → false = true) ∧
 ((chk l != chk l) = false →
 ((mostI l != mostI l) = true → false = true) ∧
 ((mostI l != mostI l) = false →
 ((chk l != chk l) = true → false = true) ∧
 ((chk l != chk l) = false →
 (chk l = (0 : Int) →
 List.length l ≤ (4294967296 : Nat) ∧
 (chk l = (0 : Int) →
 List.length l ≤ (4294967296 : Nat) ∧
 List.length (codL l) ≤ (4294967296 : Nat) ∧
 ((!eqR (2 : Nat) (codL l) (codL l)) = true → false = true) ∧
 ((!eqR (2 : Nat) (codL l) (codL l)) = false →
 (((0 : Int) != (0 : Int)) = true → false = true) ∧
 (((0 : Int) != (0 : Int)) = false →
 (chk l = (0 : Int) →
 List.length l ≤ (4294967296 : Nat) ∧
 (chk l = (0 : Int) →
 List.length l ≤ (4294967296 : Nat) ∧
 List.length (tblL l) ≤ (4294967296 : Nat) ∧
 ((!eqR (3 : Nat) (tblL l) (tblL l)) = true → false = true) ∧
 ((!eqR (3 : Nat) (tblL l) (tblL l)) = false →
 (((0 : Int) != (0 : Int)) = true → false = true) ∧
 (((0 : Int) != (0 : Int)) = false →
 List.length l ≤ (4294967296 : Nat) ∧
 List.length l ≤ (4294967296 : Nat) ∧
 ((decC l v (0 : Nat) == decC l v (0 : Nat)) = true →
 ((decC l v (1 : Nat) == decC l v (1 : Nat)) = true →
 ((decE l v == decE l v) = true →
 List.length l ≤ (4294967296 : Nat) ∧ (eqL l l = true → true = true) ∧ (eqL l l = false → false = true)) ∧
 ((decE l v == decE l v) = false → false = true)) ∧
 ((decC l v (1 : Nat) == decC l v (1 : Nat)) = false → false = true)) ∧
 ((decC l v (0 : Nat) == decC l v (0 : Nat)) = false → false = true)))) ∧
 (¬chk l = (0 : Int) → List.length l ≤ (4294967296 : Nat) ∧ False ∧ False ∧ False)) ∧
 (¬chk l = (0 : Int) →
 List.length l ≤ (4294967296 : Nat) ∧
 (chk l = (0 : Int) → List.length l ≤ (4294967296 : Nat) ∧ False ∧ False ∧ False) ∧
 (¬chk l = (0 : Int) →
 List.length l ≤ (4294967296 : Nat) ∧
 ((!true) = true → false = true) ∧
 ((!true) = false →
 ((chk l != chk l) = true → false = true) ∧
 ((chk l != chk l) = false →
 List.length l ≤ (4294967296 : Nat) ∧
 List.length l ≤ (4294967296 : Nat) ∧
 ((decC l v (0 : Nat) == decC l v (0 : Nat)) = true →
 ((decC l v (1 : Nat) == decC l v (1 : Nat)) = true →
 ((decE l v == decE l v) = true →
 List.length l ≤ (4294967296 : Nat) ∧ (eqL l l = true → true = true) ∧ (eqL l l = false → false = true)) ∧
 ((decE l v == decE l v) = false → false = true)) ∧
 ((decC l v (1 : Nat) == decC l v (1 : Nat)) = false → false = true)) ∧
 ((decC l v (0 : Nat) == decC l v (0 : Nat)) = false → false = true)))))))) ∧
 (¬chk l = (0 : Int) → List.length l ≤ (4294967296 : Nat) ∧ False ∧ False ∧ False)) ∧
 (¬chk l = (0 : Int) →
 List.length l ≤ (4294967296 : Nat) ∧
 (chk l = (0 : Int) → List.length l ≤ (4294967296 : Nat) ∧ False ∧ False ∧ False) ∧
 (¬chk l = (0 : Int) →
 List.length l ≤ (4294967296 : Nat) ∧
 ((!true) = true → false = true) ∧
 ((!true) = false →
 ((chk l != chk l) = true → false = true) ∧
 ((chk l != chk l) = false →
 (chk l = (0 : Int) →
 List.length l ≤ (4294967296 : Nat) ∧
 (chk l = (0 : Int) →
 List.length l ≤ (4294967296 : Nat) ∧
 List.length (tblL l) ≤ (4294967296 : Nat) ∧
 ((!eqR (3 : Nat) (tblL l) (tblL l)) = true → false = true) ∧
 ((!eqR (3 : Nat) (tblL l) (tblL l)) = false →
 (((0 : Int) != (0 : Int)) = true → false = true) ∧
 (((0 : Int) != (0 : Int)) = false →
 List.length l ≤ (4294967296 : Nat) ∧
 List.length l ≤ (4294967296 : Nat) ∧
 ((decC l v (0 : Nat) == decC l v (0 : Nat)) = true →
 ((decC l v (1 : Nat) == decC l v (1 : Nat)) = true →
 ((decE l v == decE l v) = true →
 List.length l ≤ (4294967296 : Nat) ∧ (eqL l l = true → true = true) ∧ (eqL l l = false → false = true)) ∧
 ((decE l v == decE l v) = false → false = true)) ∧
 ((decC l v (1 : Nat) == decC l v (1 : Nat)) = false → false = true)) ∧
 ((decC l v (0 : Nat) == decC l v (0 : Nat)) = false → false = true)))) ∧
 (¬chk l = (0 : Int) → List.length l ≤ (4294967296 : Nat) ∧ False ∧ False ∧ False)) ∧
 (¬chk l = (0 : Int) →
 List.length l ≤ (4294967296 : Nat) ∧
 (chk l = (0 : Int) → List.length l ≤ (4294967296 : Nat) ∧ False ∧ False ∧ False) ∧
 (¬chk l = (0 : Int) →
 List.length l ≤ (4294967296 : Nat) ∧
 ((!true) = true → false = true) ∧
 ((!true) = false →
 ((chk l != chk l) = true → false = true) ∧
 ((chk l != chk l) = false →
 List.length l ≤ (4294967296 : Nat) ∧
 List.length l ≤ (4294967296 : Nat) ∧
 ((decC l v (0 : Nat) == decC l v (0 : Nat)) = true →
 ((decC l v (1 : Nat) == decC l v (1 : Nat)) = true →
 ((decE l v == decE l v) = true →
 List.length l ≤ (4294967296 : Nat) ∧ (eqL l l = true → true = true) ∧ (eqL l l = false → false = true)) ∧
 ((decE l v == decE l v) = false → false = true)) ∧
 ((decC l v (1 : Nat) == decC l v (1 : Nat)) = false → false = true)) ∧
 ((decC l v (0 : Nat) == decC l v (0 : Nat)) = false → false = true)))))))))))))
--end
theorem lawMk6_e (l : List Int) (v : Int) : lawMk6_t l v = vcG Try.prog (Gof G6l) (fun _ => none) Try.f5 [.dat (.ints .i64 l), .v (.int .i64 v)] [] (.leaf ((.v (.bool true))) ([])) := by kernel_rfl
def lawCt6_t (l c : List Int) : Prop :=
 (decide ((↑(List.length l) : Int) > (270 : Int)) = true → true = true) ∧
 (decide ((↑(List.length l) : Int) > (270 : Int)) = false →
 (decide ((↑(List.length c) : Int) > (270 : Int)) = true → true = true) ∧
 (decide ((↑(List.length c) : Int) > (270 : Int)) = false →
 List.length l ≤ (4294967296 : Nat) ∧
 List.length c ≤ (4294967296 : Nat) ∧
 List.length l ≤ (4294967296 : Nat) ∧
 List.length c ≤ (4294967296 : Nat) ∧
 List.length l ≤ (4294967296 : Nat) ∧
 List.length c ≤ (4294967296 : Nat) ∧
 List.length l ≤ (4294967296 : Nat) ∧
 List.length c ≤ (4294967296 : Nat) ∧
 ((bitV l c == bitV l c) = true →
 ((bitE l c == bitE l c) = true →
 ((covV l c == covV l c) = true → ((cntd l c == cntd l c) = true → true = true) ∧ ((cntd l c == cntd l c) = false → false = true)) ∧
 ((covV l c == covV l c) = false → false = true)) ∧
 ((bitE l c == bitE l c) = false → false = true)) ∧
 ((bitV l c == bitV l c) = false → false = true)))
--end
theorem lawCt6_e (l c : List Int) : lawCt6_t l c = vcG Try.prog (Gof G6l) (fun _ => none) Try.f6 [.dat (.ints .i64 l), .dat (.ints .i64 c)] [] (.leaf ((.v (.bool true))) ([])) := by kernel_rfl
def lawKn6_t  : Prop :=
 List.length [(1 : Int), (2 : Int), (2 : Int)] ≤ (4294967296 : Nat) ∧
 (chk [(1 : Int), (2 : Int), (2 : Int)] = (0 : Int) →
 List.length [(1 : Int), (2 : Int), (2 : Int)] ≤ (4294967296 : Nat) ∧
 ((mostI [(1 : Int), (2 : Int), (2 : Int)] != (2 : Int)) = true → false = true) ∧
 ((mostI [(1 : Int), (2 : Int), (2 : Int)] != (2 : Int)) = false →
 ((chk [(1 : Int), (2 : Int), (2 : Int)] != (0 : Int)) = true → false = true) ∧
 ((chk [(1 : Int), (2 : Int), (2 : Int)] != (0 : Int)) = false →
 (((0 : Int) != (0 : Int)) = true → false = true) ∧
 (((0 : Int) != (0 : Int)) = false →
 List.length (tblL [(1 : Int), (2 : Int), (2 : Int)]) ≤ (4294967296 : Nat) ∧
 ((!eqR (3 : Nat) (tblL [(1 : Int), (2 : Int), (2 : Int)])
 (List.map
 (fun (i : Nat) =>
 List.take ((3 : Nat))
 (List.drop (i * (3 : Nat)) [(1 : Int), (2 : Int), (0 : Int), (2 : Int), (2 : Int), (0 : Int), (0 : Int), (1 : Int), (0 : Int), (0 : Int), (1 : Int), (0 : Int)]))
 (List.range (4 : Nat)))) =
 true →
 false = true) ∧
 ((!eqR (3 : Nat) (tblL [(1 : Int), (2 : Int), (2 : Int)])
 (List.map
 (fun (i : Nat) =>
 List.take ((3 : Nat))
 (List.drop (i * (3 : Nat)) [(1 : Int), (2 : Int), (0 : Int), (2 : Int), (2 : Int), (0 : Int), (0 : Int), (1 : Int), (0 : Int), (0 : Int), (1 : Int), (0 : Int)]))
 (List.range (4 : Nat)))) =
 false →
 (chk [(0 : Int), (1 : Int), (0 : Int), (1 : Int)] = (0 : Int) →
 List.length [(0 : Int), (1 : Int), (0 : Int), (1 : Int)] ≤ (4294967296 : Nat) ∧
 ((!(decC [(1 : Int), (2 : Int), (2 : Int)] (3 : Int) (0 : Nat) == (0 : Int) &&
 (decC [(1 : Int), (2 : Int), (2 : Int)] (3 : Int) (1 : Nat) == (1 : Int) && decE [(1 : Int), (2 : Int), (2 : Int)] (3 : Int) == (0 : Int)))) =
 true →
 false = true) ∧
 ((!(decC [(1 : Int), (2 : Int), (2 : Int)] (3 : Int) (0 : Nat) == (0 : Int) &&
 (decC [(1 : Int), (2 : Int), (2 : Int)] (3 : Int) (1 : Nat) == (1 : Int) && decE [(1 : Int), (2 : Int), (2 : Int)] (3 : Int) == (0 : Int)))) =
 false →
 ((!(decC [(1 : Int), (2 : Int), (2 : Int)] (0 : Int) (0 : Nat) == (1 : Int) &&
 (decC [(1 : Int), (2 : Int), (2 : Int)] (0 : Int) (1 : Nat) == (2 : Int) && decE [(1 : Int), (2 : Int), (2 : Int)] (0 : Int) == (0 : Int)))) =
 true →
 false = true) ∧
 ((!(decC [(1 : Int), (2 : Int), (2 : Int)] (0 : Int) (0 : Nat) == (1 : Int) &&
 (decC [(1 : Int), (2 : Int), (2 : Int)] (0 : Int) (1 : Nat) == (2 : Int) && decE [(1 : Int), (2 : Int), (2 : Int)] (0 : Int) == (0 : Int)))) =
 false →
 ((!(decC [(1 : Int), (2 : Int), (2 : Int)] (4 : Int) (0 : Nat) == (0 : Int) &&
 (decC [(1 : Int), (2 : Int), (2 : Int)] (4 : Int) (1 : Nat) == (0 : Int) && decE [(1 : Int), (2 : Int), (2 : Int)] (4 : Int) == (2 : Int)))) =
 true →
 false = true) ∧
 ((!(decC [(1 : Int), (2 : Int), (2 : Int)] (4 : Int) (0 : Nat) == (0 : Int) &&
 (decC [(1 : Int), (2 : Int), (2 : Int)] (4 : Int) (1 : Nat) == (0 : Int) && decE [(1 : Int), (2 : Int), (2 : Int)] (4 : Int) == (2 : Int)))) =
 false →
 (((0 : Int) != (0 : Int)) = true → false = true) ∧
 (((0 : Int) != (0 : Int)) = false →
 List.length (codL [(0 : Int), (1 : Int), (0 : Int), (1 : Int)]) ≤ (4294967296 : Nat) ∧
 ((!eqR (2 : Nat) (codL [(0 : Int), (1 : Int), (0 : Int), (1 : Int)])
 (List.map
 (fun (i : Nat) =>
 List.take ((2 : Nat))
 (List.drop (i * (2 : Nat)) [(0 : Int), (0 : Int), (1 : Int), (0 : Int), (0 : Int), (0 : Int), (1 : Int), (1 : Int)]))
 (List.range (4 : Nat)))) =
 true →
 false = true) ∧
 ((!eqR (2 : Nat) (codL [(0 : Int), (1 : Int), (0 : Int), (1 : Int)])
 (List.map
 (fun (i : Nat) =>
 List.take ((2 : Nat))
 (List.drop (i * (2 : Nat)) [(0 : Int), (0 : Int), (1 : Int), (0 : Int), (0 : Int), (0 : Int), (1 : Int), (1 : Int)]))
 (List.range (4 : Nat)))) =
 false →
 List.length [(1 : Int)] ≤ (4294967296 : Nat) ∧
 ((chk [(1 : Int)] != (21 : Int)) = true → false = true) ∧
 ((chk [(1 : Int)] != (21 : Int)) = false →
 List.length [(1 : Int), (2 : Int)] ≤ (4294967296 : Nat) ∧
 ((chk [(1 : Int), (2 : Int)] != (21 : Int)) = true → false = true) ∧
 ((chk [(1 : Int), (2 : Int)] != (21 : Int)) = false →
 List.length [(1 : Int), (1 : Int), (1 : Int)] ≤ (4294967296 : Nat) ∧
 ((chk [(1 : Int), (1 : Int), (1 : Int)] != (21 : Int)) = true → false = true) ∧
 ((chk [(1 : Int), (1 : Int), (1 : Int)] != (21 : Int)) = false →
 List.length [(12 : Int), (1 : Int)] ≤ (4294967296 : Nat) ∧
 ((chk [(12 : Int), (1 : Int)] != (2 : Int)) = true → false = true) ∧
 ((chk [(12 : Int), (1 : Int)] != (2 : Int)) = false →
 (((21 : Int) != (21 : Int)) = true → false = true) ∧
 (((21 : Int) != (21 : Int)) = false →
 List.length [(1 : Int), (2 : Int), (2 : Int)] ≤ (4294967296 : Nat) ∧
 List.length [(5 : Int), (1 : Int), (0 : Int)] ≤ (4294967296 : Nat) ∧
 List.length [(0 : Int), (1 : Int), (1 : Int)] ≤ (4294967296 : Nat) ∧
 List.length [(1 : Int)] ≤ (4294967296 : Nat) ∧
 List.length [(0 : Int), (1 : Int), (1 : Int)] ≤ (4294967296 : Nat) ∧
 List.length [(0 : Int), (7 : Int)] ≤ (4294967296 : Nat) ∧
 ((bitV [(1 : Int), (2 : Int), (2 : Int)] [(5 : Int), (1 : Int), (0 : Int)] == (7 : Int)) = true →
 ((bitE [(1 : Int), (2 : Int), (2 : Int)] [(5 : Int), (1 : Int), (0 : Int)] == (0 : Int)) = true →
 ((bitE [(0 : Int), (1 : Int), (1 : Int)] [(1 : Int)] == (7 : Int)) = true →
 (covV [(0 : Int), (1 : Int), (1 : Int)] [(0 : Int), (7 : Int)] = true →
 ((cntd [(0 : Int), (1 : Int), (1 : Int)] [(0 : Int), (7 : Int)] == (0 : Int)) = true →
 true = true) ∧
 ((cntd [(0 : Int), (1 : Int), (1 : Int)] [(0 : Int), (7 : Int)] == (0 : Int)) = false →
 false = true)) ∧
 (covV [(0 : Int), (1 : Int), (1 : Int)] [(0 : Int), (7 : Int)] = false → false = true)) ∧
 ((bitE [(0 : Int), (1 : Int), (1 : Int)] [(1 : Int)] == (7 : Int)) = false → false = true)) ∧
 ((bitE [(1 : Int), (2 : Int), (2 : Int)] [(5 : Int), (1 : Int), (0 : Int)] == (0 : Int)) = false →
 false = true)) ∧
 ((bitV [(1 : Int), (2 : Int), (2 : Int)] [(5 : Int), (1 : Int), (0 : Int)] == (7 : Int)) = false →
 false = true)))))))))))) ∧
 (¬chk [(0 : Int), (1 : Int), (0 : Int), (1 : Int)] = (0 : Int) →
 List.length [(0 : Int), (1 : Int), (0 : Int), (1 : Int)] ≤ (4294967296 : Nat) ∧
 ((!(decC [(1 : Int), (2 : Int), (2 : Int)] (3 : Int) (0 : Nat) == (0 : Int) &&
 (decC [(1 : Int), (2 : Int), (2 : Int)] (3 : Int) (1 : Nat) == (1 : Int) && decE [(1 : Int), (2 : Int), (2 : Int)] (3 : Int) == (0 : Int)))) =
 true →
 false = true) ∧
 ((!(decC [(1 : Int), (2 : Int), (2 : Int)] (3 : Int) (0 : Nat) == (0 : Int) &&
 (decC [(1 : Int), (2 : Int), (2 : Int)] (3 : Int) (1 : Nat) == (1 : Int) && decE [(1 : Int), (2 : Int), (2 : Int)] (3 : Int) == (0 : Int)))) =
 false →
 ((!(decC [(1 : Int), (2 : Int), (2 : Int)] (0 : Int) (0 : Nat) == (1 : Int) &&
 (decC [(1 : Int), (2 : Int), (2 : Int)] (0 : Int) (1 : Nat) == (2 : Int) && decE [(1 : Int), (2 : Int), (2 : Int)] (0 : Int) == (0 : Int)))) =
 true →
 false = true) ∧
 ((!(decC [(1 : Int), (2 : Int), (2 : Int)] (0 : Int) (0 : Nat) == (1 : Int) &&
 (decC [(1 : Int), (2 : Int), (2 : Int)] (0 : Int) (1 : Nat) == (2 : Int) && decE [(1 : Int), (2 : Int), (2 : Int)] (0 : Int) == (0 : Int)))) =
 false →
 ((!(decC [(1 : Int), (2 : Int), (2 : Int)] (4 : Int) (0 : Nat) == (0 : Int) &&
 (decC [(1 : Int), (2 : Int), (2 : Int)] (4 : Int) (1 : Nat) == (0 : Int) && decE [(1 : Int), (2 : Int), (2 : Int)] (4 : Int) == (2 : Int)))) =
 true →
 false = true) ∧
 ((!(decC [(1 : Int), (2 : Int), (2 : Int)] (4 : Int) (0 : Nat) == (0 : Int) &&
 (decC [(1 : Int), (2 : Int), (2 : Int)] (4 : Int) (1 : Nat) == (0 : Int) && decE [(1 : Int), (2 : Int), (2 : Int)] (4 : Int) == (2 : Int)))) =
 false →
 ((chk [(0 : Int), (1 : Int), (0 : Int), (1 : Int)] != (0 : Int)) = true → false = true) ∧
 ((chk [(0 : Int), (1 : Int), (0 : Int), (1 : Int)] != (0 : Int)) = false → False ∧ False ∧ False)))))))))) ∧
 (¬chk [(1 : Int), (2 : Int), (2 : Int)] = (0 : Int) →
 List.length [(1 : Int), (2 : Int), (2 : Int)] ≤ (4294967296 : Nat) ∧
 ((mostI [(1 : Int), (2 : Int), (2 : Int)] != (2 : Int)) = true → false = true) ∧
 ((mostI [(1 : Int), (2 : Int), (2 : Int)] != (2 : Int)) = false →
 ((chk [(1 : Int), (2 : Int), (2 : Int)] != (0 : Int)) = true → false = true) ∧
 ((chk [(1 : Int), (2 : Int), (2 : Int)] != (0 : Int)) = false →
 ((chk [(1 : Int), (2 : Int), (2 : Int)] != (0 : Int)) = true → false = true) ∧ ((chk [(1 : Int), (2 : Int), (2 : Int)] != (0 : Int)) = false → False ∧ False ∧ False))))
--end
theorem lawKn6_e  : lawKn6_t  = vcG Try.prog (Gof G6l) (fun _ => none) Try.f9 [] [] (.leaf ((.v (.bool true))) ([])) := by kernel_rfl
end Go.Proofs.Ytfbdocfhgjfboaa
/-
  Chapter 16: the laws CodeMakes, CodeCounts, CodeKnown hold. Conditions: each theorem's own.
-/
namespace Go.Proofs.Ytfbdocfhgjfboaa
open Go Go.RowKit
set_option linter.unusedVariables false
set_option linter.unusedSimpArgs false
set_option maxRecDepth 100000
theorem awake6_v : awake6_t := by
  unfold awake6_t
  decide +kernel
theorem manyN6_v : manyN6_t := by
  unfold manyN6_t
  refine ⟨fun h => by simp at h, fun _ => ⟨⟨0, rfl, rfl, rfl, rfl, by rfl⟩, fun _ _ => ⟨fun h => by simp at h, fun _ => ?_⟩⟩⟩
  decide +kernel
theorem chkN6_v : chkN6_t := by
  have h := check6_v [] (by decide)
  unfold check6_t at h
  have e : chk [] = 21 := by decide +kernel
  rw [e] at h
  exact h.2
theorem decs6_v (v s b e : Int) : decs6_t v s b e := by
  unfold decs6_t
  refine ⟨by decide, fun h => ⟨fun h2 => ?_, fun h2 => ?_⟩, fun h => ?_⟩
  · rw [h, h2]; rfl
  · rw [h, h2]; rfl
  · rw [h]; rfl
theorem eqR_refl (w : Nat) (a : List (List Int)) : eqR w a a = true := by unfold eqR; simp
theorem eqL_refl (a : List Int) : eqL a a = true := by unfold eqL; simp
theorem codL_len (l : List Int) : (codL l).length = l.length := by unfold codL; rw [codF_len]; simp
theorem lawMk6_v (l : List Int) (v : Int) : lawMk6_t l v := by
  unfold lawMk6_t
  refine ⟨fun _ => rfl, fun h => ?_⟩
  simp only [gt_iff_lt, decide_eq_false_iff_not] at h
  have hl : l.length ≤ 4294967296 := by omega
  have ht : chk l = 0 → (tblL l).length ≤ 4294967296 := fun hc => by
    have hg := good hc
    have := tblL_len hg
    have := hg.big
    omega
  by_cases hc : chk l = 0
  · have ht := ht hc
    simp [hl, ht, hc, eqR_refl, eqL_refl, codL_len]
  · simp [hl, hc, eqR_refl, eqL_refl, codL_len]
theorem lawCt6_v (l c : List Int) : lawCt6_t l c := by
  unfold lawCt6_t
  refine ⟨fun _ => rfl, fun h => ⟨fun _ => rfl, fun h2 => ?_⟩⟩
  simp only [gt_iff_lt, decide_eq_false_iff_not] at h h2
  have hl : l.length ≤ 4294967296 := by omega
  have hp : c.length ≤ 4294967296 := by omega
  simp [hl, hp]
set_option synthInstance.maxHeartbeats 0 in
set_option synthInstance.maxSize 100000 in
theorem lawKn6_v : lawKn6_t := by
  unfold lawKn6_t
  decide +kernel
/-! ### tables -/
theorem awake6_sound : Sound Try.prog 20 sAwake6.ctr := sAwake6.sound (by kernel_rfl) sAwake6_enc fun _ hc => by
  exact satG G6k_ok mixed Try.func20 (awake6_e ) (awake6_v)
theorem manyN6_sound : Sound Try.prog 65 sManyN.ctr := sManyN.sound (by kernel_rfl) sManyN_enc fun _ hc => by
  exact satG AllOk.nil mixed Try.func65 (manyN6_e ) (manyN6_v)
theorem G6an_ok : AllOk Try.prog G6an := .cons manyN6_sound G6a_ok
theorem chkN6_sound : Sound Try.prog 23 sChkN.ctr := sChkN.sound (by kernel_rfl) sChkN_enc fun _ hc => by
  exact satG G6an_ok mixed Try.func23 (chkN6_e ) (chkN6_v)
theorem decs6_sound : Sound Try.prog 43 sDecs6.ctr := sDecs6.sound (by kernel_rfl) sDecs6_enc fun ⟨v, s, b, e⟩ hc => by
  exact satG G6k_ok mixed Try.func43 (decs6_e v s b e) (decs6_v v s b e)
theorem G6l_ok : AllOk Try.prog G6l := .cons awake6_sound <| .cons decs6_sound <| .cons (orC_sound chkN6_sound check6_sound) G6k_ok
/-! ### the laws -/
theorem makes6_any (A : Option Addr) (n cap : Nat) (zs : List Int) (v : Int) (W : World) (hI : IntsIn W A n cap zs) (hv : InR v) :
    Calls Try.prog 5 #[.slice A n cap, .int .i64 v] W fun e w' => e = .returned (.bool true) ∧ Below W.heap.size W w' := by
  refine law_true (us := [.slice A n cap, .int .i64 v]) (satG G6l_ok mixed Try.func5 (lawMk6_e (zs.take n) v) (lawMk6_v _ v)) (.inr rfl) ?_
  simp only [Reps]
  exact ⟨_, _, rfl, dat_ints hI, _, _, rfl, rfl, rfl⟩
theorem counts6_any (A : Option Addr) (n cap : Nat) (zs : List Int) (A2 : Option Addr) (n2 cap2 : Nat) (zs2 : List Int) (W : World) (hI : IntsIn W A n cap zs) (hI2 : IntsIn W A2 n2 cap2 zs2) :
    Calls Try.prog 6 #[.slice A n cap, .slice A2 n2 cap2] W fun e w' => e = .returned (.bool true) ∧ Below W.heap.size W w' := by
  refine law_true (us := [.slice A n cap, .slice A2 n2 cap2]) (satG G6l_ok mixed Try.func6 (lawCt6_e (zs.take n) (zs2.take n2)) (lawCt6_v _ _)) (.inr rfl) ?_
  simp only [Reps]
  exact ⟨_, _, rfl, dat_ints hI, _, _, rfl, dat_ints hI2, rfl⟩
theorem known6_any (W : World) : Calls Try.prog 9 #[] W fun e w' => e = .returned (.bool true) ∧ Below W.heap.size W w' :=
  law_true (us := []) (satG G6l_ok mixed Try.func9 lawKn6_e lawKn6_v) (.inr rfl) (by simp [Reps])
end Go.Proofs.Ytfbdocfhgjfboaa

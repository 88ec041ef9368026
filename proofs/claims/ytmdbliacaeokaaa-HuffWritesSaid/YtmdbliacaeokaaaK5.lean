/-
  Texts joined: BAt, BB, BM, UI, C7At, C7B, UB, UC, UD, UE, UJf, UK, UJ, UJt, UL, UNf, UN, UNt, UO, UP. Conditions: each theorem's own.
-/
import Derived.Test.YtmdbliacaeokaaaK4
import Derived.Test.YtmdbliacaeokaaaK3
namespace Go.Proofs.Ytmdbliacaeokaaa
open Go Go.RowKit
set_option linter.unusedVariables false
set_option maxRecDepth 100000
def whenF_t (b : Bool) (e : Int) : Prop :=
 (b = true → e = bif b then e else (0 : Int)) ∧ (b = false → (0 : Int) = bif b then e else (0 : Int))
theorem whenF_e (b : Bool) (e : Int) : whenF_t b e = vcG Try.prog (Gof []) (fun _ => none) Try.f69 [.v (.bool b), .v (.int .i64 e)] [] (.leaf ((.v (.int .i64 (cond b e 0)))) ([])) := by kernel_rfl
def fstF_t (l : List Int) : Prop :=
 (∃ (x0 : Nat), (x0 ≤ List.length l ∧ fstE l = fstE (List.drop x0 l)) ∧ (0 : Int) = (0 : Int) ∧ l = l ∧ (↑(List.length l) : Int) = (↑(List.length l) : Int) ∧ (0 : Int) = (↑x0 : Int)) ∧
 ∀ (x1 : Nat),
 x1 ≤ List.length l ∧ fstE l = fstE (List.drop x1 l) →
 (decide ((↑x1 : Int) < (↑(List.length l) : Int)) = true →
 (0 : Int) ≤ (↑x1 : Int) ∧
 (↑x1 : Int) < (↑(List.length l) : Int) ∧
 ((List.getD l (Int.toNat (↑x1 : Int)) (0 : Int) != (0 : Int)) = true → List.getD l (Int.toNat (↑x1 : Int)) (0 : Int) = fstE l) ∧
 ((List.getD l (Int.toNat (↑x1 : Int)) (0 : Int) != (0 : Int)) = false →
 ∃ (y2 : Nat),
 (y2 ≤ List.length l ∧ fstE l = fstE (List.drop y2 l)) ∧
 Nat.sub (List.length l) y2 < Nat.sub (List.length l) x1 ∧
 (0 : Int) = (0 : Int) ∧ l = l ∧ (↑(List.length l) : Int) = (↑(List.length l) : Int) ∧ IntKind.wrap IntKind.i64 ((↑x1 : Int) + (1 : Int)) = (↑y2 : Int))) ∧
 (decide ((↑x1 : Int) < (↑(List.length l) : Int)) = false → (0 : Int) = fstE l)
theorem fstF_e (l : List Int) : fstF_t l = vcG Try.prog (Gof []) (one (oFst l)) Try.f68 [.dat (.ints .i64 l)] [] (.leaf ((.v (.int .i64 (fstE l)))) ([])) := by kernel_rfl
def rchkF_t (s : ByteArray) (p n : Int) : Prop :=
 (decide (n < (0 : Int)) = true → (10 : Int) = (0 : Int)) ∧
 (decide (n < (0 : Int)) = false →
 (decide (n > (7 : Int)) = true → (10 : Int) = (0 : Int)) ∧
 (decide (n > (7 : Int)) = false →
 (decide (p < (0 : Int)) = true → (10 : Int) = (0 : Int)) ∧
 (decide (p < (0 : Int)) = false →
 (0 : Int) ≤ IntKind.wrap IntKind.u64 (bits BinOp.and IntKind.i64 n (7 : Int)) ∧
 (decide (p ≥ IntKind.wrap IntKind.i64 ((1 : Int) * (2 : Int) ^ min (Int.toNat (IntKind.wrap IntKind.u64 (bits BinOp.and IntKind.i64 n (7 : Int)))) (IntKind.bits IntKind.i64))) = true →
 (10 : Int) = (0 : Int)) ∧
 (decide (p ≥ IntKind.wrap IntKind.i64 ((1 : Int) * (2 : Int) ^ min (Int.toNat (IntKind.wrap IntKind.u64 (bits BinOp.and IntKind.i64 n (7 : Int)))) (IntKind.bits IntKind.i64))) =
 false →
 (decide ((↑(ByteArray.size s) : Int) > (1048576 : Int)) = true → (10 : Int) = (0 : Int)) ∧
 (decide ((↑(ByteArray.size s) : Int) > (1048576 : Int)) = false → (0 : Int) = (0 : Int))))))
theorem rchkF_e (s : ByteArray) (p n : Int) : rchkF_t s p n = vcG Try.prog (Gof []) (fun _ => none) Try.f81 [.ag [.v (.string s), .v (.int .i64 p), .v (.int .i64 n)]] [] (.leaf ((.v (.int .i64 0))) ([])) := by kernel_rfl
def opnF_t (s : ByteArray) (p n : Int) : Prop :=
 s = s ∧ IntKind.wrap IntKind.u64 p = p ∧ n = n
theorem opnF_e (s : ByteArray) (p n : Int) : opnF_t s p n = vcG Try.prog (Gof []) (fun _ => none) Try.f79 [.ag [.v (.string s), .v (.int .i64 p), .v (.int .i64 n)]] [] (.leaf ((.p 2000 0 0)) ([(2000, .cells 118 [.v (.string s), .v (.int .u64 p), .v (.int .i64 n)])])) := by kernel_rfl
def wputF_t (s : ByteArray) (p n k v : Int) : Prop :=
 (decide ((0 : Int) < (↑(1 : Nat) : Int)) = true →
 (0 : Int) ≤ (0 : Int) ∧
 (0 : Int) < (↑(1 : Nat) : Int) ∧
 (0 : Int) ≤ (1 : Int) ∧
 (1 : Int) < (↑(2 : Nat) : Int) ∧
 (0 : Int) ≤ IntKind.wrap IntKind.u64 n ∧
 (0 : Int) ≤ (0 : Int) ∧
 (0 : Int) < (↑(2 : Nat) : Int) ∧
 (decide (IntKind.wrap IntKind.i64 ((0 : Int) + (1 : Int)) < (↑(1 : Nat) : Int)) = true →
 (0 : Int) ≤ IntKind.wrap IntKind.i64 ((0 : Int) + (1 : Int)) ∧ IntKind.wrap IntKind.i64 ((0 : Int) + (1 : Int)) < (↑(1 : Nat) : Int) ∧ False ∧ False) ∧
 (decide (IntKind.wrap IntKind.i64 ((0 : Int) + (1 : Int)) < (↑(1 : Nat) : Int)) = false →
 ByteArray.size s ≤ (9223372036854775807 : Nat) ∧
 (∃ (x0 : Nat),
 Nat.le x0 (wM n k) ∧
 (0 : Nat) = (0 : Nat) ∧
 (1 : Nat) = (1 : Nat) ∧
 ((none : Option Nat) = none ∨ some (1 : Nat) = none) ∧
 s = s ∧
 bits BinOp.or IntKind.u64 p (IntKind.wrap IntKind.u64 (v * (2 : Int) ^ min (Int.toNat (IntKind.wrap IntKind.u64 n)) (IntKind.bits IntKind.u64))) =
 wX p n v / (256 : Int) ^ x0 ∧
 IntKind.wrap IntKind.i64 (n + IntKind.wrap IntKind.i64 k) = n + k - (8 : Int) * (↑x0 : Int) ∧
 k = k ∧ v = v ∧ List.map (fun (b : UInt8) => (↑(UInt8.toNat b) : Int)) s.data.toList = wBytes s (wX p n v) x0) ∧
 ∀ (x1 : Nat),
 Nat.le x1 (wM n k) →
 (decide (n + k - (8 : Int) * (↑x1 : Int) ≥ (8 : Int)) = true →
 (List.length (wBytes s (wX p n v) x1) + (1 : Nat)) * (1 : Nat) ≤ (140737488355328 : Nat) ∧
 (0 : Int) ≤ (8 : Int) ∧
 ∃ (y2 : Nat),
 Nat.le y2 (wM n k) ∧
 Nat.sub (wM n k) y2 < Nat.sub (wM n k) x1 ∧
 (0 : Nat) = (0 : Nat) ∧
 (1 : Nat) = (1 : Nat) ∧
 ((none : Option Nat) = none ∨ (none : Option Nat) = none) ∧
 s = s ∧
 Int.fdiv (wX p n v / (256 : Int) ^ x1) ((2 : Int) ^ min (Int.toNat (8 : Int)) (IntKind.bits IntKind.u64)) = wX p n v / (256 : Int) ^ y2 ∧
 IntKind.wrap IntKind.i64 (n + k - (8 : Int) * (↑x1 : Int) - (8 : Int)) = n + k - (8 : Int) * (↑y2 : Int) ∧
 k = k ∧ v = v ∧ wBytes s (wX p n v) x1 ++ [IntKind.wrap IntKind.u8 (wX p n v / (256 : Int) ^ x1)] = wBytes s (wX p n v) y2) ∧
 (decide (n + k - (8 : Int) * (↑x1 : Int) ≥ (8 : Int)) = false →
 strOfNums (wBytes s (wX p n v) x1) = wS s p n k v ∧ wX p n v / (256 : Int) ^ x1 = wP p n k v ∧ n + k - (8 : Int) * (↑x1 : Int) = wN n k ∧ k = k ∧ v = v))) ∧
 (decide ((0 : Int) < (↑(1 : Nat) : Int)) = false →
 ByteArray.size s ≤ (9223372036854775807 : Nat) ∧
 (∃ (x3 : Nat),
 Nat.le x3 (wM n k) ∧
 (0 : Nat) = (0 : Nat) ∧
 (1 : Nat) = (1 : Nat) ∧
 ((none : Option Nat) = none ∨ some (1 : Nat) = none) ∧
 s = s ∧
 p = wX p n v / (256 : Int) ^ x3 ∧
 n = n + k - (8 : Int) * (↑x3 : Int) ∧ k = k ∧ v = v ∧ List.map (fun (b : UInt8) => (↑(UInt8.toNat b) : Int)) s.data.toList = wBytes s (wX p n v) x3) ∧
 ∀ (x4 : Nat),
 Nat.le x4 (wM n k) →
 (decide (n + k - (8 : Int) * (↑x4 : Int) ≥ (8 : Int)) = true →
 (List.length (wBytes s (wX p n v) x4) + (1 : Nat)) * (1 : Nat) ≤ (140737488355328 : Nat) ∧
 (0 : Int) ≤ (8 : Int) ∧
 ∃ (y5 : Nat),
 Nat.le y5 (wM n k) ∧
 Nat.sub (wM n k) y5 < Nat.sub (wM n k) x4 ∧
 (0 : Nat) = (0 : Nat) ∧
 (1 : Nat) = (1 : Nat) ∧
 ((none : Option Nat) = none ∨ (none : Option Nat) = none) ∧
 s = s ∧
 Int.fdiv (wX p n v / (256 : Int) ^ x4) ((2 : Int) ^ min (Int.toNat (8 : Int)) (IntKind.bits IntKind.u64)) = wX p n v / (256 : Int) ^ y5 ∧
 IntKind.wrap IntKind.i64 (n + k - (8 : Int) * (↑x4 : Int) - (8 : Int)) = n + k - (8 : Int) * (↑y5 : Int) ∧
 k = k ∧ v = v ∧ wBytes s (wX p n v) x4 ++ [IntKind.wrap IntKind.u8 (wX p n v / (256 : Int) ^ x4)] = wBytes s (wX p n v) y5) ∧
 (decide (n + k - (8 : Int) * (↑x4 : Int) ≥ (8 : Int)) = false →
 strOfNums (wBytes s (wX p n v) x4) = wS s p n k v ∧ wX p n v / (256 : Int) ^ x4 = wP p n k v ∧ n + k - (8 : Int) * (↑x4 : Int) = wN n k ∧ k = k ∧ v = v))
theorem wputF_e (s : ByteArray) (p n k v : Int) : wputF_t s p n k v = vcG Try.prog (Gof []) (oWput s p n k v) Try.f80 [.p 0 0 0, .s 1 0 1 (some 1)] [(0, .cells 118 [.v (.string s), .v (.int .u64 p), .v (.int .i64 n)]), (1, .cells 114 [.v (.int .u64 k), .v (.int .u64 v)])] (.leaf ((.tu [])) ([(0, .cells 118 [.v (.string (wS s p n k v)), .v (.int .u64 (wP p n k v)), .v (.int .i64 (wN n k))]), (1, .cells 114 [.v (.int .u64 k), .v (.int .u64 v)])])) := by kernel_rfl
def chkF_t (s : ByteArray) (p n : Int) : Prop :=
 (decide (n < (0 : Int)) = true → (10 : Int) = (0 : Int)) ∧
 (decide (n < (0 : Int)) = false →
 (decide (n > (7 : Int)) = true → (10 : Int) = (0 : Int)) ∧
 (decide (n > (7 : Int)) = false →
 (decide (p < (0 : Int)) = true → (10 : Int) = (0 : Int)) ∧
 (decide (p < (0 : Int)) = false →
 (0 : Int) ≤ IntKind.wrap IntKind.u64 (bits BinOp.and IntKind.i64 n (7 : Int)) ∧
 (decide (p ≥ IntKind.wrap IntKind.i64 ((1 : Int) * (2 : Int) ^ min (Int.toNat (IntKind.wrap IntKind.u64 (bits BinOp.and IntKind.i64 n (7 : Int)))) (IntKind.bits IntKind.i64))) = true →
 (10 : Int) = (0 : Int)) ∧
 (decide (p ≥ IntKind.wrap IntKind.i64 ((1 : Int) * (2 : Int) ^ min (Int.toNat (IntKind.wrap IntKind.u64 (bits BinOp.and IntKind.i64 n (7 : Int)))) (IntKind.bits IntKind.i64))) =
 false →
 (bif decide ((↑(ByteArray.size s) : Int) > (1048576 : Int)) then (10 : Int) else (0 : Int)) = (0 : Int)))))
theorem chkF_e (s : ByteArray) (p n : Int) : chkF_t s p n = vcG Try.prog (Gof GBa) (fun _ => none) Try.f78 [.ag [.v (.string s), .v (.int .i64 p), .v (.int .i64 n)]] [] (.leaf ((.v (.int .i64 0))) ([])) := by kernel_rfl
def rpwF_t (s : ByteArray) (p n k v : Int) : Prop :=
 (0 : Int) ≤ n ∧
 n ≤ (7 : Int) ∧
 (0 : Int) ≤ p ∧
 p < (2 : Int) ^ Int.toNat n ∧
 ByteArray.size s ≤ (1048576 : Nat) ∧
 (((0 : Int) != (0 : Int)) = true → ByteArray.empty = wS s p n k v ∧ (0 : Int) = wP p n k v ∧ (0 : Int) = wN n k ∧ (0 : Int) = (0 : Int)) ∧
 (((0 : Int) != (0 : Int)) = false →
 (decide (k < (0 : Int)) = true → ByteArray.empty = wS s p n k v ∧ (0 : Int) = wP p n k v ∧ (0 : Int) = wN n k ∧ (2 : Int) = (0 : Int)) ∧
 (decide (k < (0 : Int)) = false →
 (decide (k > (32 : Int)) = true → ByteArray.empty = wS s p n k v ∧ (0 : Int) = wP p n k v ∧ (0 : Int) = wN n k ∧ (2 : Int) = (0 : Int)) ∧
 (decide (k > (32 : Int)) = false →
 (0 : Int) ≤ IntKind.wrap IntKind.u64 k ∧
 (decide (v ≥ IntKind.wrap IntKind.u64 ((1 : Int) * (2 : Int) ^ min (Int.toNat (IntKind.wrap IntKind.u64 k)) (IntKind.bits IntKind.u64))) = true →
 ByteArray.empty = wS s p n k v ∧ (0 : Int) = wP p n k v ∧ (0 : Int) = wN n k ∧ (2 : Int) = (0 : Int)) ∧
 (decide (v ≥ IntKind.wrap IntKind.u64 ((1 : Int) * (2 : Int) ^ min (Int.toNat (IntKind.wrap IntKind.u64 k)) (IntKind.bits IntKind.u64))) = false →
 (∃ (x0 : Nat),
 Int.NonNeg (k - (↑x0 : Int)) ∧
 k = k ∧
 v = v ∧
 (0 : Int) = (↑x0 : Int) ∧
 s = wS s p n (↑x0 : Int) (lowV v x0) ∧
 p = wP p n (↑x0 : Int) (lowV v x0) ∧ n = wN n (↑x0 : Int) ∧ ByteArray.empty = ByteArray.empty ∧ (0 : Int) = (0 : Int) ∧ (0 : Int) = (0 : Int)) ∧
 ∀ (x1 : Nat),
 Int.NonNeg (k - (↑x1 : Int)) →
 (decide ((↑x1 : Int) < k) = true →
 (0 : Int) ≤ IntKind.wrap IntKind.u64 (↑x1 : Int) ∧
 (0 : Int) ≤ IntKind.wrap IntKind.u64 (wN n (↑x1 : Int)) ∧
 ((IntKind.wrap IntKind.i64 (wN n (↑x1 : Int) + (1 : Int)) == (8 : Int)) = true →
 ByteArray.size (wS s p n (↑x1 : Int) (lowV v x1)) +
 ByteArray.size
 (strOfNums
 [IntKind.wrap IntKind.u8
 (IntKind.wrap IntKind.i64
 (wP p n (↑x1 : Int) (lowV v x1) +
 IntKind.wrap IntKind.i64
 (IntKind.wrap IntKind.i64
 (bits BinOp.and IntKind.u64
 (Int.fdiv v ((2 : Int) ^ min (Int.toNat (IntKind.wrap IntKind.u64 (↑x1 : Int))) (IntKind.bits IntKind.u64))) (1 : Int)) *
 (2 : Int) ^ min (Int.toNat (IntKind.wrap IntKind.u64 (wN n (↑x1 : Int)))) (IntKind.bits IntKind.i64))))]) ≤
 (9223372036854775807 : Nat) ∧
 ∃ (y2 : Nat),
 Int.NonNeg (k - (↑y2 : Int)) ∧
 Nat.sub (Int.toNat k) y2 < Nat.sub (Int.toNat k) x1 ∧
 k = k ∧
 v = v ∧
 IntKind.wrap IntKind.i64 ((↑x1 : Int) + (1 : Int)) = (↑y2 : Int) ∧
 wS s p n (↑x1 : Int) (lowV v x1) ++
 strOfNums
 [IntKind.wrap IntKind.u8
 (IntKind.wrap IntKind.i64
 (wP p n (↑x1 : Int) (lowV v x1) +
 IntKind.wrap IntKind.i64
 (IntKind.wrap IntKind.i64
 (bits BinOp.and IntKind.u64
 (Int.fdiv v ((2 : Int) ^ min (Int.toNat (IntKind.wrap IntKind.u64 (↑x1 : Int))) (IntKind.bits IntKind.u64)))
 (1 : Int)) *
 (2 : Int) ^ min (Int.toNat (IntKind.wrap IntKind.u64 (wN n (↑x1 : Int)))) (IntKind.bits IntKind.i64))))] =
 wS s p n (↑y2 : Int) (lowV v y2) ∧
 (0 : Int) = wP p n (↑y2 : Int) (lowV v y2) ∧
 (0 : Int) = wN n (↑y2 : Int) ∧ ByteArray.empty = ByteArray.empty ∧ (0 : Int) = (0 : Int) ∧ (0 : Int) = (0 : Int)) ∧
 ((IntKind.wrap IntKind.i64 (wN n (↑x1 : Int) + (1 : Int)) == (8 : Int)) = false →
 ∃ (y3 : Nat),
 Int.NonNeg (k - (↑y3 : Int)) ∧
 Nat.sub (Int.toNat k) y3 < Nat.sub (Int.toNat k) x1 ∧
 k = k ∧
 v = v ∧
 IntKind.wrap IntKind.i64 ((↑x1 : Int) + (1 : Int)) = (↑y3 : Int) ∧
 wS s p n (↑x1 : Int) (lowV v x1) = wS s p n (↑y3 : Int) (lowV v y3) ∧
 IntKind.wrap IntKind.i64
 (wP p n (↑x1 : Int) (lowV v x1) +
 IntKind.wrap IntKind.i64
 (IntKind.wrap IntKind.i64
 (bits BinOp.and IntKind.u64
 (Int.fdiv v ((2 : Int) ^ min (Int.toNat (IntKind.wrap IntKind.u64 (↑x1 : Int))) (IntKind.bits IntKind.u64))) (1 : Int)) *
 (2 : Int) ^ min (Int.toNat (IntKind.wrap IntKind.u64 (wN n (↑x1 : Int)))) (IntKind.bits IntKind.i64))) =
 wP p n (↑y3 : Int) (lowV v y3) ∧
 IntKind.wrap IntKind.i64 (wN n (↑x1 : Int) + (1 : Int)) = wN n (↑y3 : Int) ∧
 ByteArray.empty = ByteArray.empty ∧ (0 : Int) = (0 : Int) ∧ (0 : Int) = (0 : Int))) ∧
 (decide ((↑x1 : Int) < k) = false →
 (decide ((↑(ByteArray.size (wS s p n (↑x1 : Int) (lowV v x1))) : Int) > (1048576 : Int)) = true →
 ByteArray.empty = wS s p n k v ∧ (0 : Int) = wP p n k v ∧ (0 : Int) = wN n k ∧ (4 : Int) = (0 : Int)) ∧
 (decide ((↑(ByteArray.size (wS s p n (↑x1 : Int) (lowV v x1))) : Int) > (1048576 : Int)) = false →
 wS s p n (↑x1 : Int) (lowV v x1) = wS s p n k v ∧ wP p n (↑x1 : Int) (lowV v x1) = wP p n k v ∧ wN n (↑x1 : Int) = wN n k ∧ (0 : Int) = (0 : Int)))))))
theorem rpwF_e (s : ByteArray) (p n k v : Int) : rpwF_t s p n k v = vcG Try.prog (Gof GBa) (one (oRpw s p n k v)) Try.f58 [.ag [.v (.string s), .v (.int .i64 p), .v (.int .i64 n)], .v (.int .i64 k), .v (.int .u64 v)] [] (.leaf ((.tu [.ag [.v (.string (wS s p n k v)), .v (.int .i64 (wP p n k v)), .v (.int .i64 (wN n k))], .v (.int .i64 0)])) ([])) := by kernel_rfl
def rdnF_t (s : ByteArray) (p n : Int) : Prop :=
 (0 : Int) ≤ n ∧
 n ≤ (7 : Int) ∧
 (0 : Int) ≤ p ∧
 p < (2 : Int) ^ Int.toNat n ∧
 ByteArray.size s ≤ (1048576 : Nat) ∧
 (((0 : Int) != (0 : Int)) = true → ByteArray.empty = dS s p n ∧ (0 : Int) = (0 : Int)) ∧
 (((0 : Int) != (0 : Int)) = false →
 (((↑(ByteArray.size s) : Int) == (1048576 : Int)) = true → ByteArray.empty = dS s p n ∧ (4 : Int) = (0 : Int)) ∧
 (((↑(ByteArray.size s) : Int) == (1048576 : Int)) = false →
 (0 : Int) ≤ IntKind.wrap IntKind.u64 n ∧
 ByteArray.size s +
 ByteArray.size
 (strOfNums
 [IntKind.wrap IntKind.u8
 (IntKind.wrap IntKind.i64 (p + IntKind.wrap IntKind.i64 ((1 : Int) * (2 : Int) ^ min (Int.toNat (IntKind.wrap IntKind.u64 n)) (IntKind.bits IntKind.i64))))]) ≤
 (9223372036854775807 : Nat) ∧
 s ++
 strOfNums
 [IntKind.wrap IntKind.u8
 (IntKind.wrap IntKind.i64 (p + IntKind.wrap IntKind.i64 ((1 : Int) * (2 : Int) ^ min (Int.toNat (IntKind.wrap IntKind.u64 n)) (IntKind.bits IntKind.i64))))] =
 dS s p n ∧
 (0 : Int) = (0 : Int)))
theorem rdnF_e (s : ByteArray) (p n : Int) : rdnF_t s p n = vcG Try.prog (Gof GBa) (fun _ => none) Try.f59 [.ag [.v (.string s), .v (.int .i64 p), .v (.int .i64 n)]] [] (.leaf ((.tu [.v (.string (dS s p n)), .v (.int .i64 0)])) ([])) := by kernel_rfl
def pwF_t (s : ByteArray) (p n k v : Int) : Prop :=
 (0 : Int) ≤ n ∧
 n ≤ (7 : Int) ∧
 (0 : Int) ≤ p ∧
 p < (2 : Int) ^ Int.toNat n ∧
 ByteArray.size s ≤ (1048576 : Nat) ∧
 (decide (k < (0 : Int)) = true →
 (8 : Int) ≠ (0 : Int) ∧
 List.length
 [(0 : Int), (2 : Int),
 bif decide (IntKind.wrap IntKind.i64 ((↑(ByteArray.size s) : Int) + IntKind.wrap IntKind.i64 (Int.tdiv (IntKind.wrap IntKind.i64 (n + k)) (8 : Int))) > (1048576 : Int)) then
 (4 : Int)
 else (0 : Int)] ≤
 (1000 : Nat) ∧
 ((fstE
 [(0 : Int), (2 : Int),
 bif
 decide
 (IntKind.wrap IntKind.i64 ((↑(ByteArray.size s) : Int) + IntKind.wrap IntKind.i64 (Int.tdiv (IntKind.wrap IntKind.i64 (n + k)) (8 : Int))) > (1048576 : Int)) then
 (4 : Int)
 else (0 : Int)] !=
 (0 : Int)) =
 true →
 ByteArray.empty = wS s p n k v ∧
 (0 : Int) = wP p n k v ∧
 (0 : Int) = wN n k ∧
 fstE
 [(0 : Int), (2 : Int),
 bif
 decide
 (IntKind.wrap IntKind.i64 ((↑(ByteArray.size s) : Int) + IntKind.wrap IntKind.i64 (Int.tdiv (IntKind.wrap IntKind.i64 (n + k)) (8 : Int))) >
 (1048576 : Int)) then
 (4 : Int)
 else (0 : Int)] =
 (0 : Int)) ∧
 ((fstE
 [(0 : Int), (2 : Int),
 bif
 decide
 (IntKind.wrap IntKind.i64 ((↑(ByteArray.size s) : Int) + IntKind.wrap IntKind.i64 (Int.tdiv (IntKind.wrap IntKind.i64 (n + k)) (8 : Int))) > (1048576 : Int)) then
 (4 : Int)
 else (0 : Int)] !=
 (0 : Int)) =
 false →
 (0 : Int) ≤ p ∧
 p ≤ (255 : Int) ∧
 (0 : Int) ≤ n ∧
 n ≤ (7 : Int) ∧
 (0 : Int) ≤ p ∧
 p < (2 : Int) ^ Int.toNat n ∧
 (0 : Int) ≤ IntKind.wrap IntKind.u64 k ∧
 IntKind.wrap IntKind.u64 k ≤ (32 : Int) ∧
 (0 : Int) ≤ v ∧
 v < (2 : Int) ^ Int.toNat (IntKind.wrap IntKind.u64 k) ∧
 ByteArray.size s ≤ (1048576 : Nat) ∧
 wS s p n (IntKind.wrap IntKind.u64 k) v = wS s p n k v ∧
 IntKind.wrap IntKind.i64 (wP p n (IntKind.wrap IntKind.u64 k) v) = wP p n k v ∧ wN n (IntKind.wrap IntKind.u64 k) = wN n k ∧ (0 : Int) = (0 : Int))) ∧
 (decide (k < (0 : Int)) = false →
 (decide (k > (32 : Int)) = true →
 (8 : Int) ≠ (0 : Int) ∧
 List.length
 [(0 : Int), (2 : Int),
 bif
 decide
 (IntKind.wrap IntKind.i64 ((↑(ByteArray.size s) : Int) + IntKind.wrap IntKind.i64 (Int.tdiv (IntKind.wrap IntKind.i64 (n + k)) (8 : Int))) > (1048576 : Int)) then
 (4 : Int)
 else (0 : Int)] ≤
 (1000 : Nat) ∧
 ((fstE
 [(0 : Int), (2 : Int),
 bif
 decide
 (IntKind.wrap IntKind.i64 ((↑(ByteArray.size s) : Int) + IntKind.wrap IntKind.i64 (Int.tdiv (IntKind.wrap IntKind.i64 (n + k)) (8 : Int))) >
 (1048576 : Int)) then
 (4 : Int)
 else (0 : Int)] !=
 (0 : Int)) =
 true →
 ByteArray.empty = wS s p n k v ∧
 (0 : Int) = wP p n k v ∧
 (0 : Int) = wN n k ∧
 fstE
 [(0 : Int), (2 : Int),
 bif
 decide
 (IntKind.wrap IntKind.i64 ((↑(ByteArray.size s) : Int) + IntKind.wrap IntKind.i64 (Int.tdiv (IntKind.wrap IntKind.i64 (n + k)) (8 : Int))) >
 (1048576 : Int)) then
 (4 : Int)
 else (0 : Int)] =
 (0 : Int)) ∧
 ((fstE
 [(0 : Int), (2 : Int),
 bif
 decide
 (IntKind.wrap IntKind.i64 ((↑(ByteArray.size s) : Int) + IntKind.wrap IntKind.i64 (Int.tdiv (IntKind.wrap IntKind.i64 (n + k)) (8 : Int))) >
 (1048576 : Int)) then
 (4 : Int)
 else (0 : Int)] !=
 (0 : Int)) =
 false →
 (0 : Int) ≤ p ∧
 p ≤ (255 : Int) ∧
 (0 : Int) ≤ n ∧
 n ≤ (7 : Int) ∧
 (0 : Int) ≤ p ∧
 p < (2 : Int) ^ Int.toNat n ∧
 (0 : Int) ≤ IntKind.wrap IntKind.u64 k ∧
 IntKind.wrap IntKind.u64 k ≤ (32 : Int) ∧
 (0 : Int) ≤ v ∧
 v < (2 : Int) ^ Int.toNat (IntKind.wrap IntKind.u64 k) ∧
 ByteArray.size s ≤ (1048576 : Nat) ∧
 wS s p n (IntKind.wrap IntKind.u64 k) v = wS s p n k v ∧
 IntKind.wrap IntKind.i64 (wP p n (IntKind.wrap IntKind.u64 k) v) = wP p n k v ∧ wN n (IntKind.wrap IntKind.u64 k) = wN n k ∧ (0 : Int) = (0 : Int))) ∧
 (decide (k > (32 : Int)) = false →
 (0 : Int) ≤ IntKind.wrap IntKind.u64 (bits BinOp.and IntKind.i64 k (63 : Int)) ∧
 (8 : Int) ≠ (0 : Int) ∧
 List.length
 [(0 : Int),
 bif Int.fdiv v ((2 : Int) ^ min (Int.toNat (IntKind.wrap IntKind.u64 (bits BinOp.and IntKind.i64 k (63 : Int)))) (IntKind.bits IntKind.u64)) != (0 : Int) then (2 : Int)
 else (0 : Int),
 bif
 decide
 (IntKind.wrap IntKind.i64 ((↑(ByteArray.size s) : Int) + IntKind.wrap IntKind.i64 (Int.tdiv (IntKind.wrap IntKind.i64 (n + k)) (8 : Int))) > (1048576 : Int)) then
 (4 : Int)
 else (0 : Int)] ≤
 (1000 : Nat) ∧
 ((fstE
 [(0 : Int),
 bif Int.fdiv v ((2 : Int) ^ min (Int.toNat (IntKind.wrap IntKind.u64 (bits BinOp.and IntKind.i64 k (63 : Int)))) (IntKind.bits IntKind.u64)) != (0 : Int) then
 (2 : Int)
 else (0 : Int),
 bif
 decide
 (IntKind.wrap IntKind.i64 ((↑(ByteArray.size s) : Int) + IntKind.wrap IntKind.i64 (Int.tdiv (IntKind.wrap IntKind.i64 (n + k)) (8 : Int))) >
 (1048576 : Int)) then
 (4 : Int)
 else (0 : Int)] !=
 (0 : Int)) =
 true →
 ByteArray.empty = wS s p n k v ∧
 (0 : Int) = wP p n k v ∧
 (0 : Int) = wN n k ∧
 fstE
 [(0 : Int),
 bif Int.fdiv v ((2 : Int) ^ min (Int.toNat (IntKind.wrap IntKind.u64 (bits BinOp.and IntKind.i64 k (63 : Int)))) (IntKind.bits IntKind.u64)) != (0 : Int) then
 (2 : Int)
 else (0 : Int),
 bif
 decide
 (IntKind.wrap IntKind.i64 ((↑(ByteArray.size s) : Int) + IntKind.wrap IntKind.i64 (Int.tdiv (IntKind.wrap IntKind.i64 (n + k)) (8 : Int))) >
 (1048576 : Int)) then
 (4 : Int)
 else (0 : Int)] =
 (0 : Int)) ∧
 ((fstE
 [(0 : Int),
 bif Int.fdiv v ((2 : Int) ^ min (Int.toNat (IntKind.wrap IntKind.u64 (bits BinOp.and IntKind.i64 k (63 : Int)))) (IntKind.bits IntKind.u64)) != (0 : Int) then
 (2 : Int)
 else (0 : Int),
 bif
 decide
 (IntKind.wrap IntKind.i64 ((↑(ByteArray.size s) : Int) + IntKind.wrap IntKind.i64 (Int.tdiv (IntKind.wrap IntKind.i64 (n + k)) (8 : Int))) >
 (1048576 : Int)) then
 (4 : Int)
 else (0 : Int)] !=
 (0 : Int)) =
 false →
 (0 : Int) ≤ p ∧
 p ≤ (255 : Int) ∧
 (0 : Int) ≤ n ∧
 n ≤ (7 : Int) ∧
 (0 : Int) ≤ p ∧
 p < (2 : Int) ^ Int.toNat n ∧
 (0 : Int) ≤ IntKind.wrap IntKind.u64 k ∧
 IntKind.wrap IntKind.u64 k ≤ (32 : Int) ∧
 (0 : Int) ≤ v ∧
 v < (2 : Int) ^ Int.toNat (IntKind.wrap IntKind.u64 k) ∧
 ByteArray.size s ≤ (1048576 : Nat) ∧
 wS s p n (IntKind.wrap IntKind.u64 k) v = wS s p n k v ∧
 IntKind.wrap IntKind.i64 (wP p n (IntKind.wrap IntKind.u64 k) v) = wP p n k v ∧
 wN n (IntKind.wrap IntKind.u64 k) = wN n k ∧ (0 : Int) = (0 : Int))))
theorem pwF_e (s : ByteArray) (p n k v : Int) : pwF_t s p n k v = vcG Try.prog (Gof GBb) (fun _ => none) Try.f56 [.ag [.v (.string s), .v (.int .i64 p), .v (.int .i64 n)], .v (.int .i64 k), .v (.int .u64 v)] [] (.leaf ((.tu [.ag [.v (.string (wS s p n k v)), .v (.int .i64 (wP p n k v)), .v (.int .i64 (wN n k))], .v (.int .i64 0)])) ([])) := by kernel_rfl
def dnF_t (s : ByteArray) (p n : Int) : Prop :=
 (0 : Int) ≤ n ∧
 n ≤ (7 : Int) ∧
 (0 : Int) ≤ p ∧
 p < (2 : Int) ^ Int.toNat n ∧
 ByteArray.size s ≤ (1048576 : Nat) ∧
 List.length [(0 : Int), bif decide (IntKind.wrap IntKind.i64 ((↑(ByteArray.size s) : Int) + (1 : Int)) > (1048576 : Int)) then (4 : Int) else (0 : Int)] ≤ (1000 : Nat) ∧
 ((fstE [(0 : Int), bif decide (IntKind.wrap IntKind.i64 ((↑(ByteArray.size s) : Int) + (1 : Int)) > (1048576 : Int)) then (4 : Int) else (0 : Int)] != (0 : Int)) = true →
 ByteArray.empty = dS s p n ∧
 fstE [(0 : Int), bif decide (IntKind.wrap IntKind.i64 ((↑(ByteArray.size s) : Int) + (1 : Int)) > (1048576 : Int)) then (4 : Int) else (0 : Int)] = (0 : Int)) ∧
 ((fstE [(0 : Int), bif decide (IntKind.wrap IntKind.i64 ((↑(ByteArray.size s) : Int) + (1 : Int)) > (1048576 : Int)) then (4 : Int) else (0 : Int)] != (0 : Int)) = false →
 (0 : Int) ≤ p ∧
 p ≤ (255 : Int) ∧
 (0 : Int) ≤ n ∧
 n ≤ (7 : Int) ∧
 (0 : Int) ≤ p ∧
 p < (2 : Int) ^ Int.toNat n ∧
 (0 : Int) ≤ IntKind.wrap IntKind.u64 (IntKind.wrap IntKind.i64 ((8 : Int) - n)) ∧
 IntKind.wrap IntKind.u64 (IntKind.wrap IntKind.i64 ((8 : Int) - n)) ≤ (32 : Int) ∧
 (0 : Int) ≤ (1 : Int) ∧
 (1 : Int) < (2 : Int) ^ Int.toNat (IntKind.wrap IntKind.u64 (IntKind.wrap IntKind.i64 ((8 : Int) - n))) ∧
 ByteArray.size s ≤ (1048576 : Nat) ∧ wS s p n (IntKind.wrap IntKind.u64 (IntKind.wrap IntKind.i64 ((8 : Int) - n))) (1 : Int) = dS s p n ∧ (0 : Int) = (0 : Int))
theorem dnF_e (s : ByteArray) (p n : Int) : dnF_t s p n = vcG Try.prog (Gof GBb) (fun _ => none) Try.f57 [.ag [.v (.string s), .v (.int .i64 p), .v (.int .i64 n)]] [] (.leaf ((.tu [.v (.string (dS s p n)), .v (.int .i64 0)])) ([])) := by kernel_rfl
def longH_t (s : ByteArray) : Prop :=
 decide ((↑(ByteArray.size s) : Int) > (1048576 : Int)) = decide ((1048576 : Nat) < ByteArray.size s)
theorem longH_e (s : ByteArray) : longH_t s = vcG Try.prog (Gof []) (fun _ => none) Try.f84 [.ag [.v (.string s)]] [] (.leaf ((.v (.bool (decide (1048576 < s.size))))) ([])) := by kernel_rfl
def bitH_t (s : ByteArray) (i : Int) : Prop :=
 (8 : Int) ≠ (0 : Int) ∧
 (0 : Int) ≤ IntKind.wrap IntKind.i64 (Int.tdiv i (8 : Int)) ∧
 IntKind.wrap IntKind.i64 (Int.tdiv i (8 : Int)) < (↑(ByteArray.size s) : Int) ∧
 (8 : Int) ≠ (0 : Int) ∧
 (0 : Int) ≤ IntKind.wrap IntKind.u64 (Int.tmod i (8 : Int)) ∧
 bits BinOp.and IntKind.u64
 (Int.fdiv (IntKind.wrap IntKind.u64 (↑(UInt8.toNat (List.getD s.data.toList (Int.toNat (IntKind.wrap IntKind.i64 (Int.tdiv i (8 : Int)))) (0 : UInt8))) : Int))
 ((2 : Int) ^ min (Int.toNat (IntKind.wrap IntKind.u64 (Int.tmod i (8 : Int)))) (IntKind.bits IntKind.u64)))
 (1 : Int) =
 bkBit s i
theorem bitH_e (s : ByteArray) (i : Int) : bitH_t s i = vcG Try.prog (Gof []) (fun _ => none) Try.f103 [.ag [.v (.string s)], .v (.int .i64 i)] [] (.leaf ((.v (.int .u64 (bkBit s i)))) ([])) := by kernel_rfl
def sizeH_t (s : ByteArray) : Prop :=
 ((ByteArray.toList s == ByteArray.toList ByteArray.empty) = true → (-1 : Int) = bkN s) ∧
 ((ByteArray.toList s == ByteArray.toList ByteArray.empty) = false →
 (0 : Int) ≤ IntKind.wrap IntKind.i64 ((↑(ByteArray.size s) : Int) - (1 : Int)) ∧
 IntKind.wrap IntKind.i64 ((↑(ByteArray.size s) : Int) - (1 : Int)) < (↑(ByteArray.size s) : Int) ∧
 (((↑(UInt8.toNat (List.getD s.data.toList (Int.toNat (IntKind.wrap IntKind.i64 ((↑(ByteArray.size s) : Int) - (1 : Int)))) (0 : UInt8))) : Int) == (0 : Int)) = true → (-1 : Int) = bkN s) ∧
 (((↑(UInt8.toNat (List.getD s.data.toList (Int.toNat (IntKind.wrap IntKind.i64 ((↑(ByteArray.size s) : Int) - (1 : Int)))) (0 : UInt8))) : Int) == (0 : Int)) = false →
 (0 : Int) ≤ IntKind.wrap IntKind.i64 ((↑(ByteArray.size s) : Int) - (1 : Int)) ∧
 IntKind.wrap IntKind.i64 ((↑(ByteArray.size s) : Int) - (1 : Int)) < (↑(ByteArray.size s) : Int) ∧
 (0 : Int) ≤ (↑(UInt8.toNat (List.getD s.data.toList (Int.toNat (IntKind.wrap IntKind.i64 ((↑(ByteArray.size s) : Int) - (1 : Int)))) (0 : UInt8))) : Int) ∧
 (↑(UInt8.toNat (List.getD s.data.toList (Int.toNat (IntKind.wrap IntKind.i64 ((↑(ByteArray.size s) : Int) - (1 : Int)))) (0 : UInt8))) : Int) ≤ (255 : Int) ∧
 IntKind.wrap IntKind.i64
 (IntKind.wrap IntKind.i64
 (IntKind.wrap IntKind.i64 ((8 : Int) * IntKind.wrap IntKind.i64 ((↑(ByteArray.size s) : Int) - (1 : Int))) +
 (hiI (↑(UInt8.toNat (List.getD s.data.toList (Int.toNat (IntKind.wrap IntKind.i64 ((↑(ByteArray.size s) : Int) - (1 : Int)))) (0 : UInt8))) : Int) + (1 : Int))) -
 (1 : Int)) =
 bkN s))
theorem sizeH_e (s : ByteArray) : sizeH_t s = vcG Try.prog (Gof GBa) (fun _ => none) Try.f85 [.ag [.v (.string s)]] [] (.leaf ((.v (.int .i64 (bkN s)))) ([])) := by kernel_rfl
def numH_t (s : ByteArray) (l n : Int) : Prop :=
 (∃ (x0 : Nat), Int.NonNeg (n - (↑x0 : Int)) ∧ (0 : Int) = pkF s l x0 ∧ n = n ∧ (0 : Int) = (↑x0 : Int) ∧ s = s ∧ l = l) ∧
 ∀ (x1 : Nat),
 Int.NonNeg (n - (↑x1 : Int)) →
 (decide ((↑x1 : Int) < n) = true →
 (0 : Int) ≤ (1 : Int) ∧
 (decide (IntKind.wrap IntKind.i64 (IntKind.wrap IntKind.i64 (l - (1 : Int)) - (↑x1 : Int)) ≥ (0 : Int)) = true →
 (0 : Int) ≤ IntKind.wrap IntKind.i64 (IntKind.wrap IntKind.i64 (l - (1 : Int)) - (↑x1 : Int)) ∧
 IntKind.wrap IntKind.i64 (IntKind.wrap IntKind.i64 (l - (1 : Int)) - (↑x1 : Int)) < (8 : Int) * (↑(ByteArray.size s) : Int) ∧
 ByteArray.size s ≤ (4294967296 : Nat) ∧
 ∃ (y2 : Nat),
 Int.NonNeg (n - (↑y2 : Int)) ∧
 Nat.sub (Int.toNat n) y2 < Nat.sub (Int.toNat n) x1 ∧
 bits BinOp.or IntKind.u64 (IntKind.wrap IntKind.u64 (pkF s l x1 * (2 : Int) ^ min (Int.toNat (1 : Int)) (IntKind.bits IntKind.u64)))
 (bkBit s (IntKind.wrap IntKind.i64 (IntKind.wrap IntKind.i64 (l - (1 : Int)) - (↑x1 : Int)))) =
 pkF s l y2 ∧
 n = n ∧ IntKind.wrap IntKind.i64 ((↑x1 : Int) + (1 : Int)) = (↑y2 : Int) ∧ s = s ∧ l = l) ∧
 (decide (IntKind.wrap IntKind.i64 (IntKind.wrap IntKind.i64 (l - (1 : Int)) - (↑x1 : Int)) ≥ (0 : Int)) = false →
 ∃ (y3 : Nat),
 Int.NonNeg (n - (↑y3 : Int)) ∧
 Nat.sub (Int.toNat n) y3 < Nat.sub (Int.toNat n) x1 ∧
 IntKind.wrap IntKind.u64 (pkF s l x1 * (2 : Int) ^ min (Int.toNat (1 : Int)) (IntKind.bits IntKind.u64)) = pkF s l y3 ∧
 n = n ∧ IntKind.wrap IntKind.i64 ((↑x1 : Int) + (1 : Int)) = (↑y3 : Int) ∧ s = s ∧ l = l)) ∧
 (decide ((↑x1 : Int) < n) = false → pkF s l x1 = pkF s l (Int.toNat n) ∧ s = s ∧ l = l)
theorem numH_e (s : ByteArray) (l n : Int) : numH_t s l n = vcG Try.prog (Gof GBa) (one (oNumT s l n)) Try.f90 [.p 0 0 0, .v (.int .i64 n)] [(0, .cells 133 [.v (.string s), .v (.int .i64 l)])] (.leaf ((.v (.int .u64 (pkF s l n.toNat)))) ([(0, .cells 133 [.v (.string s), .v (.int .i64 l)])])) := by kernel_rfl
def rreadH_t (s : ByteArray) : Prop :=
 ByteArray.size s ≤ (4294967296 : Nat) ∧
 ((bkE s != (0 : Int)) = true → ByteArray.empty = bkS s ∧ (0 : Int) = bkR s ∧ bkE s = bkE s) ∧ ((bkE s != (0 : Int)) = false → s = bkS s ∧ bkR s = bkR s ∧ (0 : Int) = bkE s)
def bitsH_t (s : ByteArray) : Prop :=
 ByteArray.size s ≤ (4294967296 : Nat) ∧
 List.length [bif decide ((1048576 : Nat) < ByteArray.size s) then (4 : Int) else (0 : Int), bif decide (bkN s < (0 : Int)) then (22 : Int) else (0 : Int)] ≤ (1000 : Nat) ∧
 ((fstE [bif decide ((1048576 : Nat) < ByteArray.size s) then (4 : Int) else (0 : Int), bif decide (bkN s < (0 : Int)) then (22 : Int) else (0 : Int)] != (0 : Int)) = true →
 (0 : Int) = bkR s ∧ fstE [bif decide ((1048576 : Nat) < ByteArray.size s) then (4 : Int) else (0 : Int), bif decide (bkN s < (0 : Int)) then (22 : Int) else (0 : Int)] = bkE s) ∧
 ((fstE [bif decide ((1048576 : Nat) < ByteArray.size s) then (4 : Int) else (0 : Int), bif decide (bkN s < (0 : Int)) then (22 : Int) else (0 : Int)] != (0 : Int)) = false →
 ByteArray.size s ≤ (4294967296 : Nat) ∧ bkN s = bkR s ∧ (0 : Int) = bkE s)
theorem bitsH_e (s : ByteArray) : bitsH_t s = vcG Try.prog (Gof GBb) (fun _ => none) Try.f65 [.v (.string s)] [] (.leaf ((.tu [.v (.int .i64 (bkR s)), .v (.int .i64 (bkE s))])) ([])) := by kernel_rfl
def rightH_t (s : ByteArray) (l : Int) : Prop :=
 (decide ((1048576 : Nat) < ByteArray.size s) = true → (10 : Int) = rgE s l) ∧
 (decide ((1048576 : Nat) < ByteArray.size s) = false →
 ByteArray.size s ≤ (4294967296 : Nat) ∧
 (decide (bkN s < (0 : Int)) = true → (10 : Int) = rgE s l) ∧
 (decide (bkN s < (0 : Int)) = false →
 (decide (l < (0 : Int)) = true → (10 : Int) = rgE s l) ∧
 (decide (l < (0 : Int)) = false → ByteArray.size s ≤ (4294967296 : Nat) ∧ (bif decide (l > bkN s) then (10 : Int) else (0 : Int)) = rgE s l)))
theorem rightH_e (s : ByteArray) (l : Int) : rightH_t s l = vcG Try.prog (Gof GBb) (fun _ => none) Try.f89 [.ag [.v (.string s), .v (.int .i64 l)]] [] (.leaf ((.v (.int .i64 (rgE s l)))) ([])) := by kernel_rfl
def readH_t (s : ByteArray) : Prop :=
 ByteArray.size s ≤ (4294967296 : Nat) ∧
 ((bkE s != (0 : Int)) = true → ByteArray.empty = bkS s ∧ (0 : Int) = bkR s ∧ bkE s = bkE s) ∧ ((bkE s != (0 : Int)) = false → s = bkS s ∧ bkR s = bkR s ∧ (0 : Int) = bkE s)
theorem readH_e (s : ByteArray) : readH_t s = vcG Try.prog (Gof GBc) (fun _ => none) Try.f47 [.v (.string s)] [] (.leaf ((.tu [.ag [.v (.string (bkS s)), .v (.int .i64 (bkR s))], .v (.int .i64 (bkE s))])) ([])) := by kernel_rfl
def peekH_t (s : ByteArray) (l n : Int) : Prop :=
 ByteArray.size s ≤ (4294967296 : Nat) ∧
 (decide (n < (0 : Int)) = true →
 List.length [rgE s l, (2 : Int)] ≤ (1000 : Nat) ∧
 ((fstE [rgE s l, (2 : Int)] != (0 : Int)) = true → (0 : Int) = pkV s l n ∧ fstE [rgE s l, (2 : Int)] = pkE s l n) ∧
 ((fstE [rgE s l, (2 : Int)] != (0 : Int)) = false →
 (0 : Int) ≤ n ∧
 n ≤ (32 : Int) ∧ (0 : Int) ≤ l ∧ l ≤ (8 : Int) * (↑(ByteArray.size s) : Int) ∧ ByteArray.size s ≤ (4294967296 : Nat) ∧ pkF s l (Int.toNat n) = pkV s l n ∧ (0 : Int) = pkE s l n)) ∧
 (decide (n < (0 : Int)) = false →
 List.length [rgE s l, bif decide (n > (32 : Int)) then (2 : Int) else (0 : Int)] ≤ (1000 : Nat) ∧
 ((fstE [rgE s l, bif decide (n > (32 : Int)) then (2 : Int) else (0 : Int)] != (0 : Int)) = true →
 (0 : Int) = pkV s l n ∧ fstE [rgE s l, bif decide (n > (32 : Int)) then (2 : Int) else (0 : Int)] = pkE s l n) ∧
 ((fstE [rgE s l, bif decide (n > (32 : Int)) then (2 : Int) else (0 : Int)] != (0 : Int)) = false →
 (0 : Int) ≤ n ∧
 n ≤ (32 : Int) ∧ (0 : Int) ≤ l ∧ l ≤ (8 : Int) * (↑(ByteArray.size s) : Int) ∧ ByteArray.size s ≤ (4294967296 : Nat) ∧ pkF s l (Int.toNat n) = pkV s l n ∧ (0 : Int) = pkE s l n))
theorem peekH_e (s : ByteArray) (l n : Int) : peekH_t s l n = vcG Try.prog (Gof GBc) (fun _ => none) Try.f67 [.ag [.v (.string s), .v (.int .i64 l)], .v (.int .i64 n)] [] (.leaf ((.tu [.v (.int .u64 (pkV s l n)), .v (.int .i64 (pkE s l n))])) ([])) := by kernel_rfl
def takeH_t (s : ByteArray) (l n : Int) : Prop :=
 ByteArray.size s ≤ (4294967296 : Nat) ∧
 List.length [pkE s l n, bif decide (n > l) then (5 : Int) else (0 : Int)] ≤ (1000 : Nat) ∧
 ((fstE [pkE s l n, bif decide (n > l) then (5 : Int) else (0 : Int)] != (0 : Int)) = true →
 ByteArray.empty = tkS s l n ∧ (0 : Int) = tkL s l n ∧ (0 : Int) = tkV s l n ∧ fstE [pkE s l n, bif decide (n > l) then (5 : Int) else (0 : Int)] = tkE s l n) ∧
 ((fstE [pkE s l n, bif decide (n > l) then (5 : Int) else (0 : Int)] != (0 : Int)) = false →
 s = tkS s l n ∧ IntKind.wrap IntKind.i64 (l - n) = tkL s l n ∧ pkV s l n = tkV s l n ∧ (0 : Int) = tkE s l n)
theorem takeH_e (s : ByteArray) (l n : Int) : takeH_t s l n = vcG Try.prog (Gof GBd) (fun _ => none) Try.f49 [.ag [.v (.string s), .v (.int .i64 l)], .v (.int .i64 n)] [] (.leaf ((.tu [.ag [.v (.string (tkS s l n)), .v (.int .i64 (tkL s l n))], .v (.int .u64 (tkV s l n)), .v (.int .i64 (tkE s l n))])) ([])) := by kernel_rfl
end Go.Proofs.Ytmdbliacaeokaaa
namespace Go.Proofs.Ytmdbliacaeokaaa
open Go Go.RowKit
set_option linter.unusedVariables false
set_option linter.unusedSimpArgs false
set_option maxRecDepth 100000
theorem drop_at {l : List Int} {k : Nat} (hk : k < l.length) : l.drop k = l.getD k 0 :: l.drop (k + 1) := by
  rw [List.drop_eq_getElem_cons hk, List.getD_eq_getElem?_getD, List.getElem?_eq_getElem hk]
  rfl
theorem nez0 {a : Int} (h : (a != (0 : Int)) = true) : (a == 0) = false := by
  cases hb : a == 0
  · rfl
  · have : a = 0 := by simpa using hb
    subst this
    cases h
theorem beq0 {a : Int} (h : a = 0) : (a == 0) = true := by rw [h]; rfl
theorem eq0 {a : Int} (h : (a != (0 : Int)) = false) : a = 0 := by simpa using h
theorem nz {a : Int} (h : (a != (0 : Int)) = true) : a ≠ 0 := by simpa using h
theorem and_pow64 (a n : Nat) (ha : a ≤ 100000) (hn : n ≤ 20) : bits .and .i64 (a : Int) ((2 : Int) ^ n - 1) = ((a % 2 ^ n : Nat) : Int) := by
  have hx : ∀ a : Nat, a ≤ 4294967295 → (BitVec.ofInt 64 (a : Int)).toNat = a := fun a ha => by
    rw [BitVec.ofInt_natCast, BitVec.toNat_ofNat]; exact Nat.mod_eq_of_lt (by omega)
  have h1 := Nat.two_pow_pos n
  have h2 := Nat.pow_le_pow_right (show 0 < 2 by omega) hn
  have e : (2 : Int) ^ n - 1 = ((2 ^ n - 1 : Nat) : Int) := by rw [pow_cast]; omega
  rw [e]
  show IntKind.i64.wrap ((BitVec.ofInt 64 (a : Int) &&& BitVec.ofInt 64 ((2 ^ n - 1 : Nat) : Int)).toNat : Int) = _
  rw [BitVec.toNat_and, hx a (by omega), hx _ (by omega), Nat.and_two_pow_sub_one_eq_mod, IntKind.wrap_i64]
  have h3 : a % 2 ^ n ≤ a := Nat.mod_le _ _
  omega
theorem cnt_wrap {i : Nat} (h : i ≤ 100000) : IntKind.wrap IntKind.i64 ((i : Int) + 1) = ((i + 1 : Nat) : Int) := by rw [wr (by omega) (by omega)]; push_cast; rfl
theorem str_data (xs : List Int) : (strOfNums xs).data = (xs.map fun n => UInt8.ofNat n.toNat).toArray := rfl
theorem str_app (a b : List Int) : strOfNums (a ++ b) = strOfNums a ++ strOfNums b := by
  apply ByteArray.ext
  rw [ByteArray.data_append]
  simp [str_data]
theorem str_nil (s : ByteArray) : s ++ strOfNums [] = s := by
  apply ByteArray.ext
  rw [ByteArray.data_append]
  simp [str_data]
theorem str_bytes (s : ByteArray) : strOfNums (bytesN s) = s := by
  apply ByteArray.ext
  rw [str_data]
  unfold bytesN
  rw [List.map_map]
  have e : ((fun n : Int => UInt8.ofNat n.toNat) ∘ fun b : UInt8 => (b.toNat : Int)) = id := by
    funext b
    simp
  rw [e, List.map_id, Array.toArray_toList]
theorem app_assoc (a b c : ByteArray) : a ++ b ++ c = a ++ (b ++ c) := by
  apply ByteArray.ext
  simp only [ByteArray.data_append, Array.append_assoc]
theorem app_size (a b : ByteArray) : (a ++ b).size = a.size + b.size := by
  show (a ++ b).data.size = _
  rw [ByteArray.data_append, Array.size_append]
  rfl
theorem lowB_len : ∀ (m : Nat) (x : Int), (lowB m x).length = m
  | 0, _ => rfl
  | m + 1, x => by simp [lowB, lowB_len m]
theorem lowB_snoc : ∀ (m : Nat) (x : Int), lowB (m + 1) x = lowB m x ++ [x / 256 ^ m % 256]
  | 0, x => by simp [lowB]
  | m + 1, x => by
    have ih := lowB_snoc m (x / 256)
    have e : x / 256 / 256 ^ m = x / 256 ^ (m + 1) := by
      rw [Int.pow_succ, Int.mul_comm, Int.ediv_ediv_of_nonneg (by omega)]
    rw [show lowB (m + 1 + 1) x = x % 256 :: lowB (m + 1) (x / 256) from rfl, ih, e]
    rfl
theorem wS_str (s : ByteArray) (p n k v : Int) : strOfNums (wBytes s (wX p n v) (wM n k)) = wS s p n k v := by
  unfold wBytes wS
  rw [str_app, str_bytes]
theorem whenF_v (b : Bool) (e : Int) : whenF_t b e := by
  unfold whenF_t
  exact ⟨fun h => by rw [h]; rfl, fun h => by rw [h]; rfl⟩
theorem fst_at {l : List Int} {i : Nat} (h : i < l.length) : fstE (l.drop i) = cond (l.getD i 0 == 0) (fstE (l.drop (i + 1))) (l.getD i 0) := by
  rw [drop_at h]
  rfl
theorem fstF_v (l : List Int) (h0 : l.length ≤ 1000) : fstF_t l := by
  unfold fstF_t
  refine ⟨⟨0, ⟨by omega, rfl⟩, (by first | rfl | trivial), (by first | rfl | trivial), (by first | rfl | trivial), rfl⟩, fun i ⟨hi, he⟩ => ⟨fun hlt => ?_, fun hge => ?_⟩⟩
  · have hlt : i < l.length := by simpa using hlt
    rw [fst_at hlt] at he
    simp only [toNat_cast]
    refine ⟨by omega, by omega, fun hn => ?_, fun hn => ⟨i + 1, ⟨by omega, ?_⟩, by rw [Nat.sub_eq, Nat.sub_eq]; omega, (by first | rfl | trivial), (by first | rfl | trivial), (by first | rfl | trivial), by rw [wr (by omega) (by omega)]; rfl⟩⟩
    · rw [he, nez0 hn]; rfl
    · rw [he, beq0 (eq0 hn)]; rfl
  · have : i = l.length := by simp only [decide_eq_false_iff_not] at hge; omega
    subst this
    rw [List.drop_length] at he
    rw [he]
    rfl
theorem opnF_v (s : ByteArray) (p n : Int) (h0 : 0 ≤ p) (h1 : p ≤ 255) : opnF_t s p n := ⟨rfl, wru (by omega) (by omega), rfl⟩
theorem nn7 {n : Int} (h0 : 0 ≤ n) (h1 : n ≤ 7) : (2 : Int) ^ n.toNat ≤ 128 := by
  have := pow_mono (show n.toNat ≤ 7 by omega)
  simpa using this
theorem and7 {n : Int} (h0 : 0 ≤ n) (h1 : n ≤ 7) : bits .and .i64 n 7 = n := by
  obtain ⟨a, rfl⟩ := Int.eq_ofNat_of_zero_le h0
  have h := and_pow64 a 3 (by omega) (by omega)
  rw [show (2 : Int) ^ 3 - 1 = 7 by decide] at h
  rw [h, Nat.mod_eq_of_lt (by omega)]
theorem one_shl {n : Int} (h0 : 0 ≤ n) (h1 : n ≤ 7) : IntKind.wrap IntKind.i64 ((1 : Int) * (2 : Int) ^ min (Int.toNat (IntKind.wrap IntKind.u64 n)) (IntKind.bits IntKind.i64)) = 2 ^ n.toNat := by
  rw [wru (by omega) (by omega), b64, Nat.min_eq_left (by omega), Int.one_mul]
  have := nn7 h0 h1
  have := pow_pos' n.toNat
  exact wr (by omega) (by omega)
theorem rchkF_v (s : ByteArray) (p n : Int) (h0 : 0 ≤ n) (h1 : n ≤ 7) (h2 : 0 ≤ p) (h3 : p < 2 ^ n.toNat) (h4 : s.size ≤ 1048576) : rchkF_t s p n := by
  unfold rchkF_t
  rw [and7 h0 h1, one_shl h0 h1, wru (show 0 ≤ n by omega) (by omega)]
  refine ⟨fun h => ?_, fun _ => ⟨fun h => ?_, fun _ => ⟨fun h => ?_, fun _ => ⟨h0, fun h => ?_, fun _ => ⟨fun h => ?_, fun _ => rfl⟩⟩⟩⟩⟩ <;> (simp only [gt_iff_lt, ge_iff_le, decide_eq_true_eq] at h; omega)
theorem chkF_v (s : ByteArray) (p n : Int) (h0 : 0 ≤ n) (h1 : n ≤ 7) (h2 : 0 ≤ p) (h3 : p < 2 ^ n.toNat) (h4 : s.size ≤ 1048576) : chkF_t s p n := by
  unfold chkF_t
  rw [and7 h0 h1, one_shl h0 h1, wru (show 0 ≤ n by omega) (by omega), decide_eq_false (show ¬ (s.size : Int) > 1048576 by omega)]
  refine ⟨fun h => ?_, fun _ => ⟨fun h => ?_, fun _ => ⟨fun h => ?_, fun _ => ⟨h0, fun h => ?_, fun _ => rfl⟩⟩⟩⟩ <;> (simp only [gt_iff_lt, ge_iff_le, decide_eq_true_eq] at h; omega)
theorem whenF_sound : Sound Try.prog 69 sWhen.ctr := sWhen.sound (by kernel_rfl) sWhen_enc fun ⟨b, e⟩ hc => by
  exact satG AllOk.nil mixed Try.func69 (whenF_e b e) (whenF_v b e)
theorem fstF_sound : Sound Try.prog 68 sFst.ctr := sFst.sound (by kernel_rfl) sFst_enc fun l hc => by
  have h0 := hc _ (.head _)
  exact satG AllOk.nil mixed Try.func68 (fstF_e l) (fstF_v l h0)
theorem rchkF_sound : Sound Try.prog 81 sChkW.ctr := sChkW.sound (by kernel_rfl) sChkW_enc fun ⟨s, p, n⟩ hc => by
  have h0 := hc _ (.head _)
  have h1 := hc _ (.tail _ (.head _))
  have h2 := hc _ (.tail _ (.tail _ (.head _)))
  have h3 := hc _ (.tail _ (.tail _ (.tail _ (.head _))))
  have h4 := hc _ (.tail _ (.tail _ (.tail _ (.tail _ (.head _)))))
  exact satG AllOk.nil mixed Try.func81 (rchkF_e s p n) (rchkF_v s p n h0 h1 h2 h3 h4)
theorem opnF_sound : Sound Try.prog 79 sOpenW.ctr := sOpenW.sound (by kernel_rfl) sOpenW_enc fun ⟨s, p, n⟩ hc => by
  have h0 := hc _ (.head _)
  have h1 := hc _ (.tail _ (.head _))
  exact satG AllOk.nil mixed Try.func79 (opnF_e s p n) (opnF_v s p n h0 h1)
theorem or_u64 (p v n : Nat) (hp : p < 2 ^ n) (hX : p + v * 2 ^ n < 18446744073709551616) : bits .or .u64 (p : Int) ((v * 2 ^ n : Nat) : Int) = ((p + v * 2 ^ n : Nat) : Int) := by
  have hx : ∀ a : Nat, a < 18446744073709551616 → (BitVec.ofInt 64 (a : Int)).toNat = a := fun a ha => by
    rw [BitVec.ofInt_natCast, BitVec.toNat_ofNat]; exact Nat.mod_eq_of_lt (by omega)
  show IntKind.u64.wrap ((BitVec.ofInt 64 (p : Int) ||| BitVec.ofInt 64 ((v * 2 ^ n : Nat) : Int)).toNat : Int) = _
  rw [BitVec.toNat_or, hx p (by omega), hx _ (by omega), Nat.or_comm, Nat.mul_comm v (2 ^ n), ← Nat.two_pow_add_eq_or_of_lt hp]
  rw [Nat.mul_comm] at hX
  generalize 2 ^ n * v = y at hX ⊢
  rw [IntKind.wrap_u64]
  omega
structure PutN (p n k v : Int) : Prop where
  n0 : 0 ≤ n
  n7 : n ≤ 7
  p0 : 0 ≤ p
  p1 : p < 2 ^ n.toNat
  k0 : 0 ≤ k
  k1 : k ≤ 32
  v0 : 0 ≤ v
  v1 : v < 2 ^ k.toNat
theorem pow256 (m : Nat) : (256 : Int) ^ m = 2 ^ (8 * m) := by
  rw [Int.pow_mul]; rfl
theorem PutN.X {p n k v : Int} (h : PutN p n k v) : 0 ≤ wX p n v ∧ wX p n v < 2 ^ (n + k).toNat ∧ wX p n v < 1099511627776 := by
  obtain ⟨n0, n7, p0, p1, k0, k1, v0, v1⟩ := h
  have h1 := nn7 n0 n7
  have h2 := pow_pos' n.toNat
  have h3 : (2 : Int) ^ k.toNat ≤ 4294967296 := by
    have := pow_mono (show k.toNat ≤ 32 by omega)
    simpa using this
  have e : (n + k).toNat = n.toNat + k.toNat := by omega
  have h4 : 0 ≤ v * 2 ^ n.toNat := Int.mul_nonneg v0 (by omega)
  have h5 : (v + 1) * 2 ^ n.toNat ≤ 2 ^ k.toNat * 2 ^ n.toNat := Int.mul_le_mul_of_nonneg_right (by omega) (by omega)
  have h6 : (2 : Int) ^ k.toNat * 2 ^ n.toNat ≤ 4294967296 * 128 := Int.mul_le_mul h3 h1 (by omega) (by omega)
  rw [Int.add_mul, Int.one_mul] at h5
  unfold wX
  rw [e, Int.pow_add, Int.mul_comm ((2 : Int) ^ n.toNat)]
  exact ⟨by omega, by omega, by omega⟩
theorem wM_eq {n k : Int} (h0 : 0 ≤ n) (h1 : 0 ≤ k) : n + k = 8 * (wM n k : Int) + wN n k ∧ 0 ≤ wN n k ∧ wN n k ≤ 7 := by
  unfold wM wN
  omega
theorem PutN.P {p n k v : Int} (h : PutN p n k v) : 0 ≤ wP p n k v ∧ wP p n k v < 2 ^ (wN n k).toNat := by
  obtain ⟨x0, x1, _⟩ := h.X
  obtain ⟨e, r0, r1⟩ := wM_eq h.n0 h.k0
  unfold wP
  have hp : (0 : Int) < 256 ^ wM n k := by rw [pow256]; exact pow_pos' _
  refine ⟨Int.ediv_nonneg x0 (by omega), Int.ediv_lt_of_lt_mul hp ?_⟩
  rw [pow256, ← Int.pow_add]
  have : (wN n k).toNat + 8 * wM n k = (n + k).toNat := by omega
  rw [this]
  exact x1
theorem bytes_len (s : ByteArray) : (bytesN s).length = s.size := by unfold bytesN; rw [List.length_map]; rfl
theorem wrap8 {x : Int} : IntKind.wrap IntKind.u8 x = x % 256 := rfl
theorem div_step (x : Int) (j : Nat) : Int.fdiv (x / (256 : Int) ^ j) ((2 : Int) ^ min (Int.toNat (8 : Int)) (IntKind.bits IntKind.u64)) = x / (256 : Int) ^ (j + 1) := by
  rw [show min (Int.toNat (8 : Int)) (IntKind.bits IntKind.u64) = 8 from rfl, show (2 : Int) ^ 8 = 256 from rfl, fdivp (by decide), Int.pow_succ, ← Int.ediv_ediv_of_nonneg (by rw [pow256]; exact Int.le_of_lt (pow_pos' (8 * j)))]
theorem wputF_v (s : ByteArray) (p n k v : Int) (h : PutN p n k v) (hs : s.size ≤ 1048576) : wputF_t s p n k v := by
  obtain ⟨x0, x1, x2⟩ := h.X
  obtain ⟨e, r0, r1⟩ := wM_eq h.n0 h.k0
  obtain ⟨n0, n7, p0, p1, k0, k1, v0, v1⟩ := h
  have e1 : IntKind.wrap IntKind.i64 ((0 : Int) + (1 : Int)) = 1 := by rw [wr (by omega) (by omega)]; rfl
  have en : IntKind.wrap IntKind.u64 n = n := wru (by omega) (by omega)
  have ek : IntKind.wrap IntKind.i64 k = k := wr (by omega) (by omega)
  have eor : bits BinOp.or IntKind.u64 p (IntKind.wrap IntKind.u64 (v * (2 : Int) ^ min (Int.toNat n) (IntKind.bits IntKind.u64))) = wX p n v := by
    obtain ⟨a, rfl⟩ := Int.eq_ofNat_of_zero_le p0
    obtain ⟨b, rfl⟩ := Int.eq_ofNat_of_zero_le v0
    rw [bu64, Nat.min_eq_left (by omega)]
    unfold wX at x0 x1 x2 ⊢
    have hv : 0 ≤ (b : Int) * 2 ^ n.toNat := Int.mul_nonneg (by omega) (Int.le_of_lt (pow_pos' _))
    rw [wru hv (by omega)]
    have ep : ((b : Int) * 2 ^ n.toNat) = ((b * 2 ^ n.toNat : Nat) : Int) := by push_cast; rfl
    rw [ep] at x2 ⊢
    rw [or_u64 a b n.toNat (by have := p1; rw [pow_cast] at this; omega) (by omega)]
    omega
  unfold wputF_t
  rw [e1, en, ek, eor]
  have key : ∀ x1 : Nat, Nat.le x1 (wM n k) → _ := fun x1 hx => hx
  refine ⟨fun _ => ⟨Int.le_refl _, by decide, by omega, by decide, n0, Int.le_refl _, by decide, fun hb => by simp at hb, fun _ => ⟨by omega, ⟨0, Nat.zero_le _, rfl, rfl, .inl rfl, rfl, by rw [Int.pow_zero, Int.ediv_one], by rw [wr (by omega) (by omega)]; simp, rfl, rfl, by simp [wBytes, lowB, bytesN]⟩, fun j hj => ⟨fun hlt => ?_, fun hge => ?_⟩⟩⟩, fun hb => by simp at hb⟩
  · rw [nle] at hj
    simp only [ge_iff_le, decide_eq_true_eq] at hlt
    refine ⟨?_, by omega, j + 1, by rw [nle]; omega, by rw [Nat.sub_eq, Nat.sub_eq]; omega, rfl, rfl, .inl rfl, rfl, div_step _ _, by rw [wr (by omega) (by omega)]; push_cast; omega, rfl, rfl, ?_⟩
    · unfold wBytes
      rw [List.length_append, bytes_len, lowB_len]
      omega
    · unfold wBytes
      rw [wrap8, lowB_snoc, List.append_assoc]
  · rw [nle] at hj
    simp only [ge_iff_le, decide_eq_false_iff_not] at hge
    have : j = wM n k := by omega
    subst this
    exact ⟨wS_str s p n k v, rfl, by omega, rfl, rfl⟩
theorem done_wS {s : ByteArray} {p n : Int} (n0 : 0 ≤ n) (n7 : n ≤ 7) (p0 : 0 ≤ p) (p1 : p < 2 ^ n.toNat) : wS s p n (8 - n) 1 = dS s p n := by
  have h1 := nn7 n0 n7
  have hm : wM n (8 - n) = 1 := by unfold wM; omega
  unfold wS dS
  rw [hm]
  have hx : wX p n 1 = p + 2 ^ n.toNat := by unfold wX; rw [Int.one_mul]
  rw [show lowB 1 (wX p n 1) = [wX p n 1 % 256] from rfl, hx, Int.emod_eq_of_lt (by have := pow_pos' n.toNat; omega) (by omega)]
theorem dnF_v (s : ByteArray) (p n : Int) (n0 : 0 ≤ n) (n7 : n ≤ 7) (p0 : 0 ≤ p) (p1 : p < 2 ^ n.toNat) (hs : s.size ≤ 1000000) : dnF_t s p n := by
  have h1 := nn7 n0 n7
  have h2 := pow_pos' n.toNat
  unfold dnF_t
  rw [show IntKind.wrap IntKind.i64 ((s.size : Int) + 1) = (s.size : Int) + 1 from wr (by omega) (by omega), decide_eq_false (show ¬ (s.size : Int) + 1 > 1048576 by omega)]
  rw [show IntKind.wrap IntKind.u64 (IntKind.wrap IntKind.i64 ((8 : Int) - n)) = 8 - n by rw [wr (by omega) (by omega)]; exact wru (by omega) (by omega)]
  have h3 : (1 : Int) < 2 ^ (8 - n).toNat := by
    have := pow_mono (show 1 ≤ (8 - n).toNat by omega)
    simp at this
    omega
  exact ⟨n0, n7, p0, p1, by omega, by decide, fun h => by simp [fstE] at h, fun _ => ⟨p0, by omega, n0, n7, p0, p1, by omega, by omega, by omega, h3, by omega, done_wS n0 n7 p0 p1, rfl⟩⟩
theorem rdnF_v (s : ByteArray) (p n : Int) (n0 : 0 ≤ n) (n7 : n ≤ 7) (p0 : 0 ≤ p) (p1 : p < 2 ^ n.toNat) (hs : s.size ≤ 1000000) : rdnF_t s p n := by
  have h1 := nn7 n0 n7
  have h2 := pow_pos' n.toNat
  unfold rdnF_t
  rw [one_shl n0 n7, wr (show -9223372036854775808 ≤ p + 2 ^ n.toNat by omega) (by omega), wrap8, Int.emod_eq_of_lt (by omega) (by omega), wru (show 0 ≤ n by omega) (by omega)]
  refine ⟨n0, n7, p0, p1, by omega, fun h => by simp at h, fun _ => ⟨fun h => ?_, fun _ => ⟨n0, ?_, rfl, rfl⟩⟩⟩
  · simp only [beq_iff_eq] at h
    omega
  · rw [strOfNums_size]
    simp only [List.length_cons, List.length_nil]
    omega
theorem and63 {k : Int} (h0 : 0 ≤ k) (h1 : k ≤ 32) : bits .and .i64 k 63 = k := by
  obtain ⟨a, rfl⟩ := Int.eq_ofNat_of_zero_le h0
  have h := and_pow64 a 6 (by omega) (by omega)
  rw [show (2 : Int) ^ 6 - 1 = 63 by decide] at h
  rw [h, Nat.mod_eq_of_lt (by omega)]
theorem pwF_v (s : ByteArray) (p n k v : Int) (h : PutN p n k v) (hs : s.size ≤ 1000000) : pwF_t s p n k v := by
  have hP := h.P
  have hN := wM_eq h.n0 h.k0
  have hr := nn7 hN.2.1 hN.2.2
  obtain ⟨n0, n7, p0, p1, k0, k1, v0, v1⟩ := h
  have h1 := nn7 n0 n7
  unfold pwF_t
  rw [and63 k0 k1, show IntKind.wrap IntKind.u64 k = k from wru (by omega) (by omega), bu64, Nat.min_eq_left (show k.toNat ≤ 64 by omega)]
  have ef : Int.fdiv v (2 ^ k.toNat) = 0 := by rw [fdivp (Int.le_of_lt (pow_pos' _)), Int.ediv_eq_zero_of_lt v0 v1]
  have et : Int.tdiv (IntKind.wrap IntKind.i64 (n + k)) 8 = (n + k) / 8 := by rw [wr (by omega) (by omega), Int.tdiv_eq_ediv_of_nonneg (by omega)]
  rw [ef, et, show IntKind.wrap IntKind.i64 ((n + k) / 8) = (n + k) / 8 from wr (by omega) (by omega), show IntKind.wrap IntKind.i64 ((s.size : Int) + (n + k) / 8) = (s.size : Int) + (n + k) / 8 from wr (by omega) (by omega), decide_eq_false (show ¬ (s.size : Int) + (n + k) / 8 > 1048576 by omega)]
  have eP : IntKind.wrap IntKind.i64 (wP p n k v) = wP p n k v := wr (by omega) (by omega)
  refine ⟨n0, n7, p0, p1, by omega, fun h => ?_, fun _ => ⟨fun h => ?_, fun _ => ⟨k0, by decide, by decide, fun h => by simp [fstE] at h, fun _ => ⟨p0, by omega, n0, n7, p0, p1, k0, k1, v0, v1, by omega, rfl, eP, rfl, rfl⟩⟩⟩⟩
  · simp only [decide_eq_true_eq] at h; omega
  · simp only [gt_iff_lt, decide_eq_true_eq] at h; omega
theorem wputF_sound : Sound Try.prog 80 sWput.ctr := sWput.sound (by kernel_rfl) sWput_enc fun ⟨s, p, n, k, v⟩ hc => by
  have h0 := hc _ (.head _)
  have h1 := hc _ (.tail _ (.head _))
  have h2 := hc _ (.tail _ (.tail _ (.head _)))
  have h3 := hc _ (.tail _ (.tail _ (.tail _ (.head _))))
  have h4 := hc _ (.tail _ (.tail _ (.tail _ (.tail _ (.head _)))))
  have h5 := hc _ (.tail _ (.tail _ (.tail _ (.tail _ (.tail _ (.head _))))))
  have h6 := hc _ (.tail _ (.tail _ (.tail _ (.tail _ (.tail _ (.tail _ (.head _)))))))
  have h7 := hc _ (.tail _ (.tail _ (.tail _ (.tail _ (.tail _ (.tail _ (.tail _ (.head _))))))))
  have h8 := hc _ (.tail _ (.tail _ (.tail _ (.tail _ (.tail _ (.tail _ (.tail _ (.tail _ (.head _)))))))))
  exact satG AllOk.nil mixed Try.func80 (wputF_e s p n k v) (wputF_v s p n k v ⟨h0, h1, h2, h3, h4, h5, h6, h7⟩ h8)
theorem and1_u64 (a : Nat) (ha : a < 18446744073709551616) : bits .and .u64 (a : Int) 1 = ((a % 2 : Nat) : Int) := by
  have hx : (BitVec.ofInt 64 (a : Int)).toNat = a := by
    rw [BitVec.ofInt_natCast, BitVec.toNat_ofNat]; exact Nat.mod_eq_of_lt (by omega)
  show IntKind.u64.wrap ((BitVec.ofInt 64 (a : Int) &&& BitVec.ofInt 64 1).toNat : Int) = _
  rw [BitVec.toNat_and, hx, show (BitVec.ofInt 64 1).toNat = 2 ^ 1 - 1 from rfl, Nat.and_two_pow_sub_one_eq_mod, IntKind.wrap_u64]
  omega
theorem lowB_add : ∀ (m : Nat) (x c : Int), lowB m (x + c * 256 ^ m) = lowB m x
  | 0, _, _ => rfl
  | m + 1, x, c => by
    have e : x + c * 256 ^ (m + 1) = x + (c * 256 ^ m) * 256 := by rw [Int.pow_succ, Int.mul_assoc]
    show (x + c * 256 ^ (m + 1)) % 256 :: lowB m ((x + c * 256 ^ (m + 1)) / 256) = x % 256 :: lowB m (x / 256)
    rw [e, Int.add_mul_emod_self_right, Int.add_mul_ediv_right _ _ (by decide), lowB_add m]
def bitVw (v : Int) (i : Nat) : Int := v / 2 ^ i % 2
theorem lowV_succ (v : Int) (i : Nat) : lowV v (i + 1) = lowV v i + bitVw v i * 2 ^ i := by
  unfold lowV bitVw
  have hp := pow_pos' i
  have h1 := Int.emod_add_mul_ediv v (2 ^ i)
  have h2 := Int.emod_add_mul_ediv (v / 2 ^ i) 2
  have h3 := Int.emod_add_mul_ediv v (2 ^ (i + 1))
  have h4 : v / 2 ^ (i + 1) = v / 2 ^ i / 2 := by rw [Int.pow_succ, Int.ediv_ediv_of_nonneg (Int.le_of_lt hp)]
  rw [h4, Int.pow_succ, Int.mul_assoc] at h3
  have h5 : (2 : Int) ^ i * (v / 2 ^ i) = 2 ^ i * (v / 2 ^ i % 2) + 2 ^ i * (2 * (v / 2 ^ i / 2)) := by rw [← Int.mul_add]; rw [h2]
  have h6 : v / 2 ^ i % 2 * 2 ^ i = 2 ^ i * (v / 2 ^ i % 2) := Int.mul_comm _ _
  rw [Int.pow_succ]
  omega
theorem PutN.part {p n k v : Int} (h : PutN p n k v) {i : Nat} (hi : (i : Int) ≤ k) : PutN p n i (lowV v i) :=
  ⟨h.n0, h.n7, h.p0, h.p1, by omega, by have := h.k1; omega, Int.emod_nonneg _ (by have := pow_pos' i; omega), by rw [toNat_cast]; exact Int.emod_lt_of_pos _ (pow_pos' i)⟩
structure PutStep (s : ByteArray) (p n v : Int) (i : Nat) : Prop where
  b0 : 0 ≤ bitVw v i
  b1 : bitVw v i ≤ 1
  part : wP p n i (lowV v i) + bitVw v i * 2 ^ (wN n i).toNat = wX p n (lowV v (i + 1)) / 256 ^ wM n i
  low : lowB (wM n i) (wX p n (lowV v (i + 1))) = lowB (wM n i) (wX p n (lowV v i))
theorem put_step {p n k v : Int} (s : ByteArray) (h : PutN p n k v) {i : Nat} (hi : (i : Int) < k) : PutStep s p n v i := by
  obtain ⟨e, r0, r1⟩ := wM_eq (n := n) (k := i) h.n0 (by omega)
  have eX : wX p n (lowV v (i + 1)) = wX p n (lowV v i) + (bitVw v i * 2 ^ (wN n i).toNat) * 256 ^ wM n i := by
    unfold wX
    rw [lowV_succ, Int.add_mul, Int.mul_assoc (bitVw v i), ← Int.pow_add, Int.mul_assoc (bitVw v i), pow256, ← Int.pow_add]
    have : i + n.toNat = (wN n i).toNat + 8 * wM n i := by have := h.n0; omega
    rw [this]
    omega
  have hb : 0 ≤ bitVw v i ∧ bitVw v i < 2 := ⟨Int.emod_nonneg _ (by decide), Int.emod_lt_of_pos _ (by decide)⟩
  refine ⟨hb.1, by omega, ?_, ?_⟩
  · rw [eX, Int.add_mul_ediv_right _ _ (by rw [pow256]; have := pow_pos' (8 * wM n i); omega)]
    rfl
  · rw [eX, lowB_add]
theorem put_zero {s : ByteArray} {p n v : Int} (n0 : 0 ≤ n) (n7 : n ≤ 7) : wS s p n ((0 : Nat) : Int) (lowV v 0) = s ∧ wP p n ((0 : Nat) : Int) (lowV v 0) = p ∧ wN n ((0 : Nat) : Int) = n := by
  have hm : wM n ((0 : Nat) : Int) = 0 := by unfold wM; omega
  have hl : lowV v 0 = 0 := by unfold lowV; rw [Int.pow_zero, Int.emod_one]
  refine ⟨?_, ?_, by unfold wN; omega⟩
  · unfold wS
    rw [hm]
    exact str_nil s
  · unfold wP wX
    rw [hm, hl, Int.zero_mul, Int.add_zero, Int.pow_zero, Int.ediv_one]
theorem put_full {s : ByteArray} {p n k v : Int} (h : PutN p n k v) {i : Nat} (hi : (i : Int) = k) : lowV v i = v := by
  have e : k.toNat = i := by omega
  have := h.v1
  rw [e] at this
  exact Int.emod_eq_of_lt h.v0 this
theorem wS_size (s : ByteArray) (p n k v : Int) : (wS s p n k v).size = s.size + wM n k := by
  unfold wS
  rw [app_size, strOfNums_size, lowB_len]
theorem rpwF_v (s : ByteArray) (p n k v : Int) (h : PutN p n k v) (hs : s.size ≤ 1000000) : rpwF_t s p n k v := by
  have h0 := h
  obtain ⟨n0, n7, p0, p1, k0, k1, v0, v1⟩ := h
  have h3 : (2 : Int) ^ k.toNat ≤ 4294967296 := by
    have := pow_mono (show k.toNat ≤ 32 by omega)
    simpa using this
  have hpk := pow_pos' k.toNat
  unfold rpwF_t
  rw [show IntKind.wrap IntKind.u64 k = k from wru (by omega) (by omega), bu64, Nat.min_eq_left (show k.toNat ≤ 64 by omega), Int.one_mul, show IntKind.wrap IntKind.u64 (2 ^ k.toNat) = 2 ^ k.toNat from wru (by omega) (by omega)]
  obtain ⟨z1, z2, z3⟩ := put_zero (s := s) (p := p) (v := v) n0 n7
  have nnI : ∀ a : Int, Int.NonNeg a ↔ 0 ≤ a := fun a => ⟨fun h => by cases h; exact Int.natCast_nonneg _, fun h => by obtain ⟨m, rfl⟩ := Int.eq_ofNat_of_zero_le h; exact ⟨m⟩⟩
  refine ⟨n0, n7, p0, p1, by omega, fun hb => by simp at hb, fun _ => ⟨fun hb => ?_, fun _ => ⟨fun hb => ?_, fun _ => ⟨k0, fun hb => ?_, fun _ => ⟨⟨0, (nnI _).2 (by omega), rfl, rfl, rfl, z1.symm, z2.symm, z3.symm, rfl, rfl, rfl⟩, fun i hi => ?_⟩⟩⟩⟩⟩
  · simp only [decide_eq_true_eq] at hb; omega
  · simp only [gt_iff_lt, decide_eq_true_eq] at hb; omega
  · simp only [ge_iff_le, decide_eq_true_eq] at hb; omega
  rw [nnI] at hi
  obtain ⟨e, r0, r1⟩ := wM_eq (n := n) (k := i) n0 (by omega)
  have hP := (h0.part (show (i : Int) ≤ k by omega)).P
  have hr7 := nn7 r0 r1
  refine ⟨fun hlt => ?_, fun hge => ?_⟩
  · have hlt : (i : Int) < k := by simpa using hlt
    obtain ⟨b0, b1, st, sl⟩ := put_step s h0 hlt
    obtain ⟨e', r0', r1'⟩ := wM_eq (n := n) (k := ((i + 1 : Nat) : Int)) n0 (by omega)
    have hbit : bits BinOp.and IntKind.u64 (Int.fdiv v ((2 : Int) ^ min (Int.toNat (i : Int)) 64)) 1 = bitVw v i := by
      rw [toNat_cast, Nat.min_eq_left (by omega), fdivp (Int.le_of_lt (pow_pos' _))]
      have hv : 0 ≤ v / 2 ^ i := Int.ediv_nonneg v0 (Int.le_of_lt (pow_pos' _))
      have hv2 : v / 2 ^ i ≤ v := Int.ediv_le_self _ v0
      unfold bitVw
      obtain ⟨a, ha⟩ := Int.eq_ofNat_of_zero_le hv
      rw [ha, and1_u64 a (by omega)]
      omega
    have hm1 : 0 ≤ bitVw v i * 2 ^ (wN n i).toNat := Int.mul_nonneg b0 (Int.le_of_lt (pow_pos' _))
    have hm2 : bitVw v i * 2 ^ (wN n i).toNat ≤ 2 ^ (wN n i).toNat := by
      have := Int.mul_le_mul_of_nonneg_right b1 (Int.le_of_lt (pow_pos' (wN n i).toNat))
      omega
    have hterm : IntKind.wrap IntKind.i64 (wP p n i (lowV v i) + IntKind.wrap IntKind.i64 (IntKind.wrap IntKind.i64 (bits BinOp.and IntKind.u64 (Int.fdiv v ((2 : Int) ^ min (Int.toNat (i : Int)) 64)) 1) * (2 : Int) ^ min (Int.toNat (wN n i)) (IntKind.bits IntKind.i64))) = wX p n (lowV v (i + 1)) / 256 ^ wM n i := by
      rw [hbit, show IntKind.wrap IntKind.i64 (bitVw v i) = bitVw v i from wr (by omega) (by omega), b64, Nat.min_eq_left (show (wN n i).toNat ≤ 64 by omega), show IntKind.wrap IntKind.i64 (bitVw v i * 2 ^ (wN n i).toNat) = bitVw v i * 2 ^ (wN n i).toNat from wr (by omega) (by omega), wr (by omega) (by omega)]
      exact st
    rw [show IntKind.wrap IntKind.u64 (i : Int) = i from wru (by omega) (by omega), show IntKind.wrap IntKind.u64 (wN n i) = wN n i from wru (by omega) (by omega), show IntKind.wrap IntKind.i64 (wN n i + 1) = wN n i + 1 from wr (by omega) (by omega), hterm]
    refine ⟨by omega, r0, fun h8 => ?_, fun h8 => ?_⟩
    · have h8 : wN n i = 7 := by simp only [beq_iff_eq] at h8; omega
      have hM : wM n ((i + 1 : Nat) : Int) = wM n i + 1 := by omega
      have hN : wN n ((i + 1 : Nat) : Int) = 0 := by omega
      have hlt2 : wX p n (lowV v (i + 1)) / 256 ^ wM n i < 256 := by rw [← st]; omega
      have hge2 : 0 ≤ wX p n (lowV v (i + 1)) / 256 ^ wM n i := by rw [← st]; omega
      refine ⟨?_, i + 1, (nnI _).2 (by omega), by rw [Nat.sub_eq, Nat.sub_eq]; omega, rfl, rfl, by rw [wr (by omega) (by omega)]; rfl, ?_, ?_, hN.symm, rfl, rfl, rfl⟩
      · rw [wS_size, strOfNums_size]
        simp only [List.length_cons, List.length_nil]
        omega
      · unfold wS
        rw [hM, lowB_snoc, sl, app_assoc, ← str_app, wrap8]
      · unfold wP
        rw [hM, Int.pow_succ, ← Int.ediv_ediv_of_nonneg (by rw [pow256]; exact Int.le_of_lt (pow_pos' _)), Int.ediv_eq_zero_of_lt hge2 hlt2]
    · have h8 : wN n i ≠ 7 := by
        simp only [beq_eq_false_iff_ne, ne_eq] at h8
        omega
      have hM : wM n ((i + 1 : Nat) : Int) = wM n i := by omega
      refine ⟨i + 1, (nnI _).2 (by omega), by rw [Nat.sub_eq, Nat.sub_eq]; omega, rfl, rfl, by rw [wr (by omega) (by omega)]; rfl, ?_, ?_, by omega, rfl, rfl, rfl⟩
      · unfold wS
        rw [hM, sl]
      · unfold wP
        rw [hM]
  · have hk : (i : Int) = k := by simp only [decide_eq_false_iff_not] at hge; omega
    have hv := put_full (s := s) h0 hk
    rw [hv, hk, wS_size]
    have hM : wM n k ≤ 4 := by unfold wM; omega
    refine ⟨fun hb => ?_, fun _ => ⟨rfl, rfl, rfl, rfl⟩⟩
    simp only [gt_iff_lt, decide_eq_true_eq] at hb
    omega
theorem toList_loop (s : ByteArray) : ∀ (k i : Nat) (r : List UInt8), s.size - i = k → ByteArray.toList.loop s i r = r.reverse ++ s.data.toList.drop i
  | 0, i, r, h => by
    rw [ByteArray.toList.loop, if_neg (by omega), List.drop_eq_nil_of_le (by show s.data.toList.length ≤ i; have : s.data.toList.length = s.size := rfl; omega), List.append_nil]
  | k + 1, i, r, h => by
    rw [ByteArray.toList.loop, if_pos (by omega), toList_loop s k (i + 1) _ (by omega)]
    have hl : i < s.data.toList.length := by have : s.data.toList.length = s.size := rfl; omega
    rw [List.drop_eq_getElem_cons hl, List.reverse_cons, List.append_assoc]
    have : s.get! i = s.data.toList[i] := by
      show s.data[i]! = _
      rw [getElem!_pos s.data i (by simpa using hl)]
      simp
    rw [this]
    rfl
theorem toList_data (s : ByteArray) : s.toList = s.data.toList := by
  unfold ByteArray.toList
  rw [toList_loop s s.size 0 [] (by omega)]
  simp
theorem bytes_eq {a b : ByteArray} (h : a.toList = b.toList) : a = b := by
  rw [toList_data, toList_data] at h
  cases a; cases b
  simp only [ByteArray.mk.injEq]
  exact Array.toList_inj.1 h
theorem toList_nil (s : ByteArray) : (s.toList == ByteArray.empty.toList) = Nat.beq s.size 0 := by
  cases h : Nat.beq s.size 0
  · refine beq_eq_false_iff_ne.2 fun he => ?_
    rw [bytes_eq he] at h
    cases h
  · have h0 := Nat.eq_of_beq_eq_true h
    have : s = ByteArray.empty := by
      cases s with
      | mk d =>
        have : d.size = 0 := h0
        rw [Array.size_eq_zero_iff.1 this]
        rfl
    rw [this]
    simp
theorem byI_rng (s : ByteArray) (i : Nat) : 0 ≤ byI s i ∧ byI s i < 256 := by
  unfold byI
  have := (s.data.toList.getD i 0).toNat_lt
  omega
def l8S : ByteArray := ⟨(([0, 1] ++ List.replicate 2 2 ++ List.replicate 4 3 ++ List.replicate 8 4 ++ List.replicate 16 5 ++ List.replicate 32 6 ++ List.replicate 64 7 ++ List.replicate 128 8 : List UInt8)).toArray⟩
def len8H_t (x : Int) : Prop := (0 : Int) ≤ x ∧ x < (l8S.size : Int) ∧ IntKind.wrap IntKind.i64 ((UInt8.toNat (List.getD l8S.data.toList (Int.toNat x) 0) : Nat) : Int) = hiI x + 1
theorem len8H_e (x : Int) : len8H_t x = vcG Try.prog (Gof []) (fun _ => none) Try.f95 [.v (.int .u8 x)] [] (.leaf (.v (.int .i64 (hiI x + 1))) []) := by kernel_rfl
theorem len8_tab : ∀ n : Fin 256, ((UInt8.toNat (List.getD l8S.data.toList n.val 0) : Nat) : Int) = hiI (n.val : Int) + 1 := by decide +kernel
theorem len8H_v (x : Int) (h0 : 0 ≤ x) (h1 : x ≤ 255) : len8H_t x := by
  obtain ⟨n, rfl⟩ := Int.eq_ofNat_of_zero_le h0
  have h := len8_tab ⟨n, by omega⟩
  simp only at h
  have hb : hiI (n : Int) ≤ 100 ∧ -1 ≤ hiI (n : Int) := by
    unfold hiI
    cases hd : decide ((n : Int) ≤ 0)
    · simp only [cond_false, toNat_cast]
      have : Nat.log2 n < 9 := (Nat.log2_lt (by simp only [decide_eq_false_iff_not] at hd; omega)).2 (by omega)
      omega
    · simp only [cond_true]; omega
  refine ⟨h0, by show (n : Int) < 256; omega, ?_⟩
  rw [toNat_cast, h, wr (by omega) (by omega)]
theorem hi_8 : ∀ b : Fin 256, b.val ≠ 0 → 0 ≤ hiI (b.val : Int) ∧ hiI (b.val : Int) ≤ 7 := by decide +kernel
theorem noB_size {s : ByteArray} (h : noB s = false) : 0 < s.size ∧ lastB s ≠ 0 := by
  unfold noB at h
  simp only [Bool.or_eq_false_iff, beq_eq_false_iff_ne] at h
  refine ⟨?_, h.2⟩
  rcases Nat.eq_zero_or_pos s.size with h0 | h0
  · rw [h0] at h; cases h.1
  · exact h0
theorem lastB_rng (s : ByteArray) : 0 ≤ lastB s ∧ lastB s < 256 := byI_rng s _
theorem bkN_rng {s : ByteArray} (h : noB s = false) : 8 * ((s.size : Int) - 1) ≤ bkN s ∧ bkN s < 8 * s.size ∧ 0 ≤ bkN s := by
  obtain ⟨h0, h1⟩ := noB_size h
  obtain ⟨b0, b1⟩ := lastB_rng s
  have hh := hi_8 ⟨(lastB s).toNat, by omega⟩ (by simp only; omega)
  simp only at hh
  rw [show (((lastB s).toNat : Nat) : Int) = lastB s by omega] at hh
  unfold bkN
  rw [h]
  simp only [cond_false]
  omega
theorem bkN_no {s : ByteArray} (h : noB s = true) : bkN s = -1 := by unfold bkN; rw [h]; rfl
theorem bkN_neg (s : ByteArray) : decide (bkN s < 0) = noB s := by
  cases h : noB s
  · exact decide_eq_false (by have := (bkN_rng h).2.2; omega)
  · rw [bkN_no h]; rfl
theorem bkBit_eq {s : ByteArray} {k : Nat} : bkBit s (k : Int) = ((byI s (k / 8)).toNat / 2 ^ (k % 8) % 2 : Nat) := by
  have hb := (byI_rng s (k / 8)).1
  unfold bkBit
  rw [decide_eq_false (by omega)]
  simp only [cond_false]
  rw [show ((k : Int) / 8).toNat = k / 8 by omega, show ((k : Int) % 8).toNat = k % 8 by omega]
  obtain ⟨b, he⟩ := Int.eq_ofNat_of_zero_le hb
  rw [he, toNat_cast]
  push_cast
  rfl
theorem bkBit_01 (s : ByteArray) (k : Int) : bkBit s k = 0 ∨ bkBit s k = 1 := by
  unfold bkBit
  cases decide (k < 0)
  · simp only [cond_false]
    omega
  · exact .inl rfl
theorem bit_u64 {s : ByteArray} {k : Nat} : bits BinOp.and IntKind.u64 (Int.fdiv (byI s (k / 8)) (2 ^ min (k % 8) 64)) 1 = bkBit s (k : Int) := by
  obtain ⟨b0, b1⟩ := byI_rng s (k / 8)
  rw [bkBit_eq, Nat.min_eq_left (by omega), fdivp (Int.le_of_lt (pow_pos' _))]
  obtain ⟨b, he⟩ := Int.eq_ofNat_of_zero_le b0
  rw [he, toNat_cast]
  have : (b : Int) / 2 ^ (k % 8) = ((b / 2 ^ (k % 8) : Nat) : Int) := by push_cast; rfl
  rw [this, and1_u64 _ (by have := Nat.div_le_self b (2 ^ (k % 8)); omega)]
theorem wr_div {k : Nat} (h : k ≤ 100000000000) : IntKind.wrap IntKind.i64 (Int.tdiv (k : Int) 8) = ((k / 8 : Nat) : Int) := by
  rw [Int.tdiv_eq_ediv_of_nonneg (by omega), wr (by omega) (by omega)]
  omega
theorem wr_mod (k : Nat) : IntKind.wrap IntKind.u64 (Int.tmod (k : Int) 8) = ((k % 8 : Nat) : Int) := by
  rw [Int.tmod_eq_emod_of_nonneg (by omega), wru (by omega) (by omega)]
  omega
theorem longH_v (s : ByteArray) : longH_t s := decide_eq_decide.2 (by omega)
theorem bitH_v (s : ByteArray) (i : Int) (h0 : 0 ≤ i) (h1 : i < 8 * s.size) (h2 : s.size ≤ 4294967296) : bitH_t s i := by
  obtain ⟨k, rfl⟩ := Int.eq_ofNat_of_zero_le h0
  unfold bitH_t
  rw [wr_div (by omega), wr_mod]
  simp only [toNat_cast, bu64]
  have hb := byI_rng s (k / 8)
  refine ⟨by decide, by omega, by omega, by decide, by omega, ?_⟩
  have : IntKind.wrap IntKind.u64 ((UInt8.toNat (List.getD s.data.toList (k / 8) 0) : Nat) : Int) = byI s (k / 8) := wru (n := byI s (k / 8)) (by omega) (by omega)
  rw [this]
  exact bit_u64
theorem bk_no {s : ByteArray} (h : noB s = true) (hl : ¬ 1048576 < s.size) : (0 : Int) = bkR s ∧ (22 : Int) = bkE s := by
  have : bkE s = 22 := by unfold bkE; rw [decide_eq_false hl, h]; rfl
  exact ⟨by unfold bkR; rw [this]; rfl, this.symm⟩
theorem bk_long {s : ByteArray} (hl : 1048576 < s.size) : (0 : Int) = bkR s ∧ (4 : Int) = bkE s := by
  have : bkE s = 4 := by unfold bkE; rw [decide_eq_true hl]; rfl
  exact ⟨by unfold bkR; rw [this]; rfl, this.symm⟩
theorem bk_yes {s : ByteArray} (h : noB s = false) (hl : ¬ 1048576 < s.size) : bkN s = bkR s ∧ (0 : Int) = bkE s := by
  have : bkE s = 0 := by unfold bkE; rw [decide_eq_false hl, h]; rfl
  exact ⟨by unfold bkR; rw [this]; rfl, this.symm⟩
theorem bkE_0 {s : ByteArray} (h : bkE s = 0) : noB s = false ∧ ¬ 1048576 < s.size ∧ bkR s = bkN s ∧ bkS s = s := by
  have hl : ¬ 1048576 < s.size := fun hl => by have := (bk_long hl).2; omega
  have hn : noB s = false := by
    cases hn : noB s
    · rfl
    · have := (bk_no hn hl).2; omega
  exact ⟨hn, hl, (bk_yes hn hl).1.symm, by unfold bkS; rw [h]; rfl⟩
theorem wr_len {s : ByteArray} (h : 0 < s.size) (h2 : s.size ≤ 4294967296) : IntKind.wrap IntKind.i64 ((s.size : Int) - 1) = ((s.size - 1 : Nat) : Int) := by rw [wr (by omega) (by omega)]; omega
theorem size_pos {s : ByteArray} (h : Nat.beq s.size 0 = false) : 0 < s.size := by
  rcases Nat.eq_zero_or_pos s.size with h0 | h0
  · rw [h0] at h; cases h
  · exact h0
theorem noB_empty {s : ByteArray} (h : Nat.beq s.size 0 = true) : noB s = true := by unfold noB; rw [h]; rfl
theorem noB_last {s : ByteArray} (h : Nat.beq s.size 0 = false) : noB s = (lastB s == 0) := by unfold noB; rw [h]; rfl
theorem sizeH_v (s : ByteArray) (h2 : s.size ≤ 4294967296) : sizeH_t s := by
  unfold sizeH_t
  rw [toList_nil]
  refine ⟨fun h => (bkN_no (noB_empty h)).symm, fun h => ?_⟩
  have hz := size_pos h
  have hn := noB_last h
  rw [wr_len hz h2]
  simp only [toNat_cast]
  have hb := lastB_rng s
  refine ⟨by omega, by omega, fun h => (bkN_no (by rw [hn]; exact h)).symm, fun h => ?_⟩
  have hn : noB s = false := by rw [hn]; exact h
  obtain ⟨r1, r2, r3⟩ := bkN_rng hn
  have hN : bkN s = 8 * ((s.size : Int) - 1) + hiI (lastB s) := by unfold bkN; rw [hn]; rfl
  refine ⟨by omega, by omega, hb.1, by have := hb.2; unfold lastB at this; omega, ?_⟩
  show IntKind.wrap IntKind.i64 (IntKind.wrap IntKind.i64 (IntKind.wrap IntKind.i64 (8 * ((s.size - 1 : Nat) : Int)) + (hiI (lastB s) + 1)) - 1) = bkN s
  rw [show IntKind.wrap IntKind.i64 (8 * ((s.size - 1 : Nat) : Int)) = 8 * ((s.size : Int) - 1) by rw [wr (by omega) (by omega)]; omega]
  rw [show IntKind.wrap IntKind.i64 (8 * ((s.size : Int) - 1) + (hiI (lastB s) + 1)) = 8 * ((s.size : Int) - 1) + (hiI (lastB s) + 1) from wr (by omega) (by omega), wr (by omega) (by omega)]
  omega
theorem longH_sound : Sound Try.prog 84 sLong.ctr := sLong.sound (by kernel_rfl) sLong_enc fun s hc => by
  exact satG AllOk.nil mixed Try.func84 (longH_e s) (longH_v s)
theorem len8H_sound : Sound Try.prog 95 sLen8.ctr := sLen8.sound (by kernel_rfl) sLen8_enc fun x hc => by
  have h0 := hc _ (.head _)
  have h1 := hc _ (.tail _ (.head _))
  exact satG AllOk.nil mixed Try.func95 (len8H_e x) (len8H_v x h0 h1)
theorem bitH_sound : Sound Try.prog 103 sBitT.ctr := sBitT.sound (by kernel_rfl) sBitT_enc fun ⟨s, i⟩ hc => by
  have h0 := hc _ (.head _)
  have h1 := hc _ (.tail _ (.head _))
  have h2 := hc _ (.tail _ (.tail _ (.head _)))
  exact satG AllOk.nil mixed Try.func103 (bitH_e s i) (bitH_v s i h0 h1 h2)
theorem nnI (a : Int) : Int.NonNeg a ↔ 0 ≤ a := ⟨fun h => by cases h; exact Int.natCast_nonneg _, fun h => by obtain ⟨m, rfl⟩ := Int.eq_ofNat_of_zero_le h; exact ⟨m⟩⟩
theorem pkF_succ (s : ByteArray) (l : Int) (i : Nat) : pkF s l (i + 1) = 2 * pkF s l i + bkBit s (l - 1 - (i : Nat)) := rfl
theorem pkF_rng (s : ByteArray) (l : Int) : ∀ i, 0 ≤ pkF s l i ∧ pkF s l i < 2 ^ i
  | 0 => by show (0 : Int) ≤ 0 ∧ (0 : Int) < 2 ^ 0; decide
  | i + 1 => by
    have ih := pkF_rng s l i
    have hb := bkBit_01 s (l - 1 - (i : Nat))
    rw [pkF_succ, Int.pow_succ]
    omega
theorem bkBit_neg {s : ByteArray} {k : Int} (h : k < 0) : bkBit s k = 0 := by unfold bkBit; rw [decide_eq_true h]; rfl
theorem or1_u64 (a b : Nat) (hb : b < 2) (h : 2 * a + b < 18446744073709551616) : bits .or .u64 ((2 * a : Nat) : Int) (b : Int) = ((2 * a + b : Nat) : Int) := by
  have hx : ∀ a : Nat, a < 18446744073709551616 → (BitVec.ofInt 64 (a : Int)).toNat = a := fun a ha => by
    rw [BitVec.ofInt_natCast, BitVec.toNat_ofNat]; exact Nat.mod_eq_of_lt (by omega)
  show IntKind.u64.wrap ((BitVec.ofInt 64 ((2 * a : Nat) : Int) ||| BitVec.ofInt 64 (b : Int)).toNat : Int) = _
  rw [BitVec.toNat_or, hx _ (by omega), hx _ (by omega)]
  have := Nat.two_pow_add_eq_or_of_lt (i := 1) (b := b) (by omega) a
  rw [Nat.pow_one] at this
  rw [← this, IntKind.wrap_u64]
  omega
theorem min1 : min (Int.toNat (1 : Int)) 64 = 1 := rfl
theorem dbl {s : ByteArray} {l : Int} {i : Nat} (h : i ≤ 32) : IntKind.wrap IntKind.u64 (pkF s l i * (2 : Int) ^ min (Int.toNat (1 : Int)) (IntKind.bits IntKind.u64)) = 2 * pkF s l i := by
  have h1 := pkF_rng s l i
  have h2 := pow_mono h
  rw [bu64, min1, Int.pow_one, wru (by omega) (by simp at h2; omega)]
  omega
theorem idx_wr {l : Int} {i : Nat} (h0 : 0 ≤ l) (h1 : l ≤ 100000000000) (hi : i ≤ 100) : IntKind.wrap IntKind.i64 (IntKind.wrap IntKind.i64 (l - 1) - (i : Int)) = l - 1 - (i : Int) := by
  rw [show IntKind.wrap IntKind.i64 (l - 1) = l - 1 from wr (by omega) (by omega), wr (by omega) (by omega)]
theorem numH_v (s : ByteArray) (l n : Int) (h0 : 0 ≤ n) (h1 : n ≤ 32) (h2 : 0 ≤ l) (h3 : l ≤ 8 * s.size) (h4 : s.size ≤ 4294967296) : numH_t s l n := by
  unfold numH_t
  simp only [nnI]
  refine ⟨⟨0, by omega, rfl, (by first | rfl | trivial), (by first | rfl | trivial), (by first | rfl | trivial), (by first | rfl | trivial)⟩, fun i hi => ⟨fun hlt => ⟨by decide, fun hk => ?_, fun hk => ?_⟩, fun hge => ⟨?_, (by first | rfl | trivial), (by first | rfl | trivial)⟩⟩⟩
  · have hlt : (i : Int) < n := by simpa using hlt
    rw [idx_wr h2 (by omega) (by omega)] at hk ⊢
    simp only [ge_iff_le, decide_eq_true_eq] at hk
    have hr := pkF_rng s l i
    have hp := pow_mono (show i ≤ 32 by omega)
    have hb := bkBit_01 s (l - 1 - (i : Nat))
    refine ⟨hk, by omega, h4, i + 1, by omega, by rw [Nat.sub_eq, Nat.sub_eq]; omega, ?_, (by first | rfl | trivial), cnt_wrap (by omega), (by first | rfl | trivial), (by first | rfl | trivial)⟩
    rw [dbl (by omega), pkF_succ]
    obtain ⟨a, ha⟩ := Int.eq_ofNat_of_zero_le hr.1
    obtain ⟨b, hb2⟩ := Int.eq_ofNat_of_zero_le (show 0 ≤ bkBit s (l - 1 - (i : Nat)) by omega)
    rw [ha, hb2]
    have := or1_u64 a b (by omega) (by simp at hp; omega)
    push_cast at this
    exact this
  · have hlt : (i : Int) < n := by simpa using hlt
    rw [idx_wr h2 (by omega) (by omega)] at hk
    simp only [ge_iff_le, decide_eq_false_iff_not] at hk
    refine ⟨i + 1, by omega, by rw [Nat.sub_eq, Nat.sub_eq]; omega, ?_, (by first | rfl | trivial), cnt_wrap (by omega), (by first | rfl | trivial), (by first | rfl | trivial)⟩
    rw [dbl (by omega), pkF_succ, bkBit_neg (by omega)]
    omega
  · have : i = n.toNat := by simp only [decide_eq_false_iff_not] at hge; omega
    rw [this]
theorem rgE_bad {s : ByteArray} {l : Int} (h : bkE s ≠ 0) : rgE s l = 10 := by
  unfold rgE
  rw [show (bkE s == 0) = false by simpa using h]
  rfl
theorem rgE_out {s : ByteArray} {l : Int} (h : l < 0 ∨ bkN s < l) : rgE s l = 10 := by
  unfold rgE
  cases bkE s == 0
  · rfl
  · have : (decide (l < 0) || decide (bkN s < l)) = true := by simpa using h
    rw [this]; rfl
theorem rgE_ok {s : ByteArray} {l : Int} (h : bkE s = 0) (h0 : 0 ≤ l) (h1 : l ≤ bkN s) : rgE s l = 0 := by
  unfold rgE
  rw [beq0 h, decide_eq_false (by omega), decide_eq_false (by omega)]
  rfl
theorem rgE_0 {s : ByteArray} {l : Int} (h : rgE s l = 0) : bkE s = 0 ∧ 0 ≤ l ∧ l ≤ bkN s := by
  have h1 : bkE s = 0 := Classical.byContradiction fun hn => by rw [rgE_bad hn] at h; cases h
  have h2 : ¬ (l < 0 ∨ bkN s < l) := fun hn => by rw [rgE_out hn] at h; cases h
  exact ⟨h1, by omega, by omega⟩
theorem pk_bad {s : ByteArray} {l n : Int} (h : rgE s l ≠ 0) : pkE s l n = rgE s l := by
  unfold pkE
  rw [show (rgE s l == 0) = false by simpa using h]
  rfl
theorem pk_out {s : ByteArray} {l n : Int} (h : rgE s l = 0) (hn : n < 0 ∨ 32 < n) : pkE s l n = 2 := by
  unfold pkE
  have : (decide (n < 0) || decide (32 < n)) = true := by simpa using hn
  rw [beq0 h, this]
  rfl
theorem pk_ok {s : ByteArray} {l n : Int} (h : rgE s l = 0) (h0 : 0 ≤ n) (h1 : n ≤ 32) : pkE s l n = 0 := by
  unfold pkE
  rw [beq0 h, decide_eq_false (by omega), decide_eq_false (by omega)]
  rfl
theorem pk_0 {s : ByteArray} {l n : Int} (h : pkE s l n = 0) : rgE s l = 0 ∧ 0 ≤ n ∧ n ≤ 32 := by
  have h1 : rgE s l = 0 := Classical.byContradiction fun hn => hn (by rw [← pk_bad hn (n := n)]; exact h)
  have h2 : ¬ (n < 0 ∨ 32 < n) := fun hn => by rw [pk_out h1 hn] at h; cases h
  exact ⟨h1, by omega, by omega⟩
theorem pkV_bad {s : ByteArray} {l n : Int} (h : pkE s l n ≠ 0) : 0 = pkV s l n := by
  unfold pkV
  rw [show (pkE s l n == 0) = false by simpa using h]
  rfl
theorem pkV_ok {s : ByteArray} {l n : Int} (h : pkE s l n = 0) : pkV s l n = pkF s l n.toNat := by
  unfold pkV
  rw [beq0 h]
  rfl
theorem tk_bad {s : ByteArray} {l n : Int} (h : pkE s l n ≠ 0) : tkE s l n = pkE s l n := by
  unfold tkE
  rw [show (pkE s l n == 0) = false by simpa using h]
  rfl
theorem tk_short {s : ByteArray} {l n : Int} (h : pkE s l n = 0) (h2 : l < n) : tkE s l n = 5 := by
  unfold tkE
  rw [beq0 h, decide_eq_true h2]
  rfl
theorem tk_good {s : ByteArray} {l n : Int} (h : pkE s l n = 0) (h2 : n ≤ l) : tkE s l n = 0 := by
  unfold tkE
  rw [beq0 h, decide_eq_false (by omega)]
  rfl
theorem tk_0 {s : ByteArray} {l n : Int} (h : tkE s l n = 0) : pkE s l n = 0 ∧ n ≤ l := by
  have h1 : pkE s l n = 0 := Classical.byContradiction fun hn => hn (by rw [← tk_bad hn]; exact h)
  have h2 : ¬ l < n := fun hn => by rw [tk_short h1 hn] at h; cases h
  exact ⟨h1, by omega⟩
structure TkOk (s : ByteArray) (l n : Int) : Prop where
  nb : noB s = false
  le : ¬ 1048576 < s.size
  l0 : 0 ≤ l
  l1 : l ≤ bkN s
  l2 : bkN s < 8 * s.size
  n0 : 0 ≤ n
  n1 : n ≤ 32
theorem pk_ok0 {s : ByteArray} {l n : Int} (h : pkE s l n = 0) : TkOk s l n := by
  obtain ⟨h1, h2, h3⟩ := pk_0 h
  obtain ⟨h4, h5, h6⟩ := rgE_0 h1
  obtain ⟨h7, h8, _⟩ := bkE_0 h4
  exact ⟨h7, h8, h5, h6, (bkN_rng h7).2.1, h2, h3⟩
theorem tk_vals {s : ByteArray} {l n : Int} (h : tkE s l n = 0) : s = tkS s l n ∧ l - n = tkL s l n ∧ pkF s l n.toNat = tkV s l n ∧ (true = tkO s l n) ∧ nxL s l n = l - n := by
  unfold tkS tkL tkV tkO nxL
  rw [beq0 h]
  exact ⟨rfl, rfl, rfl, rfl, rfl⟩
theorem tk_none {s : ByteArray} {l n : Int} (h : tkE s l n ≠ 0) : ByteArray.empty = tkS s l n ∧ 0 = tkL s l n ∧ 0 = tkV s l n ∧ (false = tkO s l n) ∧ l = nxL s l n := by
  unfold tkS tkL tkV tkO nxL
  rw [show (tkE s l n == 0) = false by simpa using h]
  exact ⟨rfl, rfl, rfl, rfl, rfl⟩
theorem bkS_bad {s : ByteArray} (h : bkE s ≠ 0) : ByteArray.empty = bkS s ∧ 0 = bkR s := by
  unfold bkS bkR
  rw [show (bkE s == 0) = false by simpa using h]
  exact ⟨rfl, rfl⟩
theorem rreadH_v (s : ByteArray) (h : s.size ≤ 4294967296) : rreadH_t s := by
  unfold rreadH_t
  exact ⟨h, fun hb => ⟨(bkS_bad (nz hb)).1, (bkS_bad (nz hb)).2, rfl⟩, fun hb => ⟨(bkE_0 (eq0 hb)).2.2.2.symm, rfl, (eq0 hb).symm⟩⟩
theorem fst2 (a b : Int) : fstE [a, b] = cond (a == 0) (cond (b == 0) 0 b) a := rfl
theorem bits_first (s : ByteArray) : fstE [bif decide (1048576 < s.size) then (4 : Int) else 0, bif decide (bkN s < 0) then (22 : Int) else 0] = bkE s := by
  rw [fst2, bkN_neg]
  unfold bkE
  cases decide (1048576 < s.size) <;> cases noB s <;> rfl
theorem bitsH_v (s : ByteArray) (h : s.size ≤ 4294967296) : bitsH_t s := by
  unfold bitsH_t
  rw [bits_first]
  exact ⟨h, by simp, fun hb => ⟨(bkS_bad (nz hb)).2, rfl⟩, fun hb => ⟨h, (bkE_0 (eq0 hb)).2.2.1.symm, (eq0 hb).symm⟩⟩
theorem rightH_v (s : ByteArray) (l : Int) (h : s.size ≤ 4294967296) : rightH_t s l := by
  unfold rightH_t
  refine ⟨fun hb => (rgE_bad ?_).symm, fun hb => ⟨h, fun hn => (rgE_bad ?_).symm, fun hn => ⟨fun hl => (rgE_out (.inl (by simpa using hl))).symm, fun hl => ⟨h, ?_⟩⟩⟩⟩
  · rw [← (bk_long (by simpa using hb)).2]; decide
  · rw [bkN_neg] at hn
    rw [← (bk_no hn (by simpa using hb)).2]; decide
  · rw [bkN_neg] at hn
    have h0 := (bk_yes hn (by simpa using hb)).2
    simp only [decide_eq_false_iff_not] at hl
    cases hg : decide (l > bkN s)
    · simp only [gt_iff_lt, decide_eq_false_iff_not] at hg
      exact (rgE_ok h0.symm (by omega) (by omega)).symm
    · exact (rgE_out (.inr (by simpa using hg))).symm
theorem readH_v (s : ByteArray) (h : s.size ≤ 4294967296) : readH_t s := rreadH_v s h
theorem peek_first (s : ByteArray) (l n : Int) : (decide (n < 0) = true → fstE [rgE s l, 2] = pkE s l n) ∧ (decide (n < 0) = false → fstE [rgE s l, bif decide (n > 32) then (2 : Int) else 0] = pkE s l n) := by
  rw [fst2, fst2]
  unfold pkE
  have e : decide (n > 32) = decide (32 < n) := rfl
  rw [e]
  refine ⟨fun h => ?_, fun h => ?_⟩
  · rw [h]; cases rgE s l == 0 <;> rfl
  · rw [h]; cases rgE s l == 0 <;> cases decide (32 < n) <;> rfl
theorem peekH_v (s : ByteArray) (l n : Int) (h : s.size ≤ 4294967296) : peekH_t s l n := by
  unfold peekH_t
  obtain ⟨p1, p2⟩ := peek_first s l n
  have good : pkE s l n = 0 → (0 : Int) ≤ n ∧ n ≤ (32 : Int) ∧ (0 : Int) ≤ l ∧ l ≤ (8 : Int) * (s.size : Int) ∧ s.size ≤ (4294967296 : Nat) ∧ pkF s l (Int.toNat n) = pkV s l n ∧ (0 : Int) = pkE s l n := fun h0 => by
    have hk := pk_ok0 h0
    have := hk.l1
    have := hk.l2
    exact ⟨hk.n0, hk.n1, hk.l0, by omega, h, (pkV_ok h0).symm, h0.symm⟩
  refine ⟨h, fun hn => ?_, fun hn => ?_⟩
  · rw [p1 hn]
    exact ⟨by simp, fun hb => ⟨pkV_bad (nz hb), rfl⟩, fun hb => good (eq0 hb)⟩
  · rw [p2 hn]
    exact ⟨by simp, fun hb => ⟨pkV_bad (nz hb), rfl⟩, fun hb => good (eq0 hb)⟩
theorem take_first (s : ByteArray) (l n : Int) : fstE [pkE s l n, bif decide (n > l) then (5 : Int) else 0] = tkE s l n := by
  rw [fst2]
  unfold tkE
  have e : decide (n > l) = decide (l < n) := rfl
  rw [e]
  cases pkE s l n == 0 <;> cases decide (l < n) <;> rfl
theorem takeH_v (s : ByteArray) (l n : Int) (h : s.size ≤ 4294967296) : takeH_t s l n := by
  unfold takeH_t
  rw [take_first]
  refine ⟨h, by simp, fun hb => ⟨(tk_none (nz hb)).1, (tk_none (nz hb)).2.1, (tk_none (nz hb)).2.2.1, rfl⟩, fun hb => ?_⟩
  have h0 := eq0 hb
  have hk := pk_ok0 (tk_0 h0).1
  have h1 := hk.l1; have h2 := hk.l2; have h3 := hk.n0; have h4 := hk.n1; have h5 := hk.l0
  have hv := tk_vals h0
  exact ⟨hv.1, by rw [wr (by omega) (by omega)]; exact hv.2.1, by rw [pkV_ok (tk_0 h0).1]; exact hv.2.2.1, h0.symm⟩
theorem GBa_ok : AllOk Try.prog GBa := .cons whenF_sound <| .cons fstF_sound <| .cons rchkF_sound <| .cons opnF_sound <| .cons wputF_sound <| .cons longH_sound <| .cons len8H_sound <| .cons bitH_sound <| AllOk.nil
theorem chkF_sound : Sound Try.prog 78 sChkW.ctr := sChkW.sound (by kernel_rfl) sChkW_enc fun ⟨s, p, n⟩ hc => by
  have h0 := hc _ (.head _)
  have h1 := hc _ (.tail _ (.head _))
  have h2 := hc _ (.tail _ (.tail _ (.head _)))
  have h3 := hc _ (.tail _ (.tail _ (.tail _ (.head _))))
  have h4 := hc _ (.tail _ (.tail _ (.tail _ (.tail _ (.head _)))))
  exact satG GBa_ok mixed Try.func78 (chkF_e s p n) (chkF_v s p n h0 h1 h2 h3 h4)
theorem rpwF_sound : Sound Try.prog 58 sPutW.ctr := sPutW.sound (by kernel_rfl) sPutW_enc fun ⟨s, p, n, k, v⟩ hc => by
  have h0 := hc _ (.head _)
  have h1 := hc _ (.tail _ (.head _))
  have h2 := hc _ (.tail _ (.tail _ (.head _)))
  have h3 := hc _ (.tail _ (.tail _ (.tail _ (.head _))))
  have h4 := hc _ (.tail _ (.tail _ (.tail _ (.tail _ (.head _)))))
  have h5 := hc _ (.tail _ (.tail _ (.tail _ (.tail _ (.tail _ (.head _))))))
  have h6 := hc _ (.tail _ (.tail _ (.tail _ (.tail _ (.tail _ (.tail _ (.head _)))))))
  have h7 := hc _ (.tail _ (.tail _ (.tail _ (.tail _ (.tail _ (.tail _ (.tail _ (.head _))))))))
  have h8 := hc _ (.tail _ (.tail _ (.tail _ (.tail _ (.tail _ (.tail _ (.tail _ (.tail _ (.head _)))))))))
  exact satG GBa_ok mixed Try.func58 (rpwF_e s p n k v) (rpwF_v s p n k v ⟨h0, h1, h2, h3, h4, h5, h6, h7⟩ h8)
theorem rdnF_sound : Sound Try.prog 59 sDoneW.ctr := sDoneW.sound (by kernel_rfl) sDoneW_enc fun ⟨s, p, n⟩ hc => by
  have h0 := hc _ (.head _)
  have h1 := hc _ (.tail _ (.head _))
  have h2 := hc _ (.tail _ (.tail _ (.head _)))
  have h3 := hc _ (.tail _ (.tail _ (.tail _ (.head _))))
  have h4 := hc _ (.tail _ (.tail _ (.tail _ (.tail _ (.head _)))))
  exact satG GBa_ok mixed Try.func59 (rdnF_e s p n) (rdnF_v s p n h0 h1 h2 h3 h4)
theorem sizeH_sound : Sound Try.prog 85 sSizeT.ctr := sSizeT.sound (by kernel_rfl) sSizeT_enc fun s hc => by
  have h0 := hc _ (.head _)
  exact satG GBa_ok mixed Try.func85 (sizeH_e s) (sizeH_v s h0)
theorem numH_sound : Sound Try.prog 90 sNumT.ctr := sNumT.sound (by kernel_rfl) sNumT_enc fun ⟨s, l, n⟩ hc => by
  have h0 := hc _ (.head _)
  have h1 := hc _ (.tail _ (.head _))
  have h2 := hc _ (.tail _ (.tail _ (.head _)))
  have h3 := hc _ (.tail _ (.tail _ (.tail _ (.head _))))
  have h4 := hc _ (.tail _ (.tail _ (.tail _ (.tail _ (.head _)))))
  exact satG GBa_ok mixed Try.func90 (numH_e s l n) (numH_v s l n h0 h1 h2 h3 h4)
theorem GBb_ok : AllOk Try.prog GBb := .cons chkF_sound <| .cons rpwF_sound <| .cons rdnF_sound <| .cons sizeH_sound <| .cons numH_sound <| GBa_ok
theorem pwF_sound : Sound Try.prog 56 sPutW.ctr := sPutW.sound (by kernel_rfl) sPutW_enc fun ⟨s, p, n, k, v⟩ hc => by
  have h0 := hc _ (.head _)
  have h1 := hc _ (.tail _ (.head _))
  have h2 := hc _ (.tail _ (.tail _ (.head _)))
  have h3 := hc _ (.tail _ (.tail _ (.tail _ (.head _))))
  have h4 := hc _ (.tail _ (.tail _ (.tail _ (.tail _ (.head _)))))
  have h5 := hc _ (.tail _ (.tail _ (.tail _ (.tail _ (.tail _ (.head _))))))
  have h6 := hc _ (.tail _ (.tail _ (.tail _ (.tail _ (.tail _ (.tail _ (.head _)))))))
  have h7 := hc _ (.tail _ (.tail _ (.tail _ (.tail _ (.tail _ (.tail _ (.tail _ (.head _))))))))
  have h8 := hc _ (.tail _ (.tail _ (.tail _ (.tail _ (.tail _ (.tail _ (.tail _ (.tail _ (.head _)))))))))
  exact satG GBb_ok mixed Try.func56 (pwF_e s p n k v) (pwF_v s p n k v ⟨h0, h1, h2, h3, h4, h5, h6, h7⟩ h8)
theorem dnF_sound : Sound Try.prog 57 sDoneW.ctr := sDoneW.sound (by kernel_rfl) sDoneW_enc fun ⟨s, p, n⟩ hc => by
  have h0 := hc _ (.head _)
  have h1 := hc _ (.tail _ (.head _))
  have h2 := hc _ (.tail _ (.tail _ (.head _)))
  have h3 := hc _ (.tail _ (.tail _ (.tail _ (.head _))))
  have h4 := hc _ (.tail _ (.tail _ (.tail _ (.tail _ (.head _)))))
  exact satG GBb_ok mixed Try.func57 (dnF_e s p n) (dnF_v s p n h0 h1 h2 h3 h4)
theorem bitsH_sound : Sound Try.prog 65 sBits.ctr := sBits.sound (by kernel_rfl) sBits_enc fun s hc => by
  have h0 := hc _ (.head _)
  exact satG GBb_ok mixed Try.func65 (bitsH_e s) (bitsH_v s h0)
theorem rightH_sound : Sound Try.prog 89 sRight.ctr := sRight.sound (by kernel_rfl) sRight_enc fun ⟨s, l⟩ hc => by
  have h0 := hc _ (.head _)
  exact satG GBb_ok mixed Try.func89 (rightH_e s l) (rightH_v s l h0)
theorem GBc_ok : AllOk Try.prog GBc := .cons pwF_sound <| .cons dnF_sound <| .cons bitsH_sound <| .cons rightH_sound <| GBb_ok
theorem readH_sound : Sound Try.prog 47 sReadB.ctr := sReadB.sound (by kernel_rfl) sReadB_enc fun s hc => by
  have h0 := hc _ (.head _)
  exact satG GBc_ok mixed Try.func47 (readH_e s) (readH_v s h0)
theorem peekH_sound : Sound Try.prog 67 sPeek.ctr := sPeek.sound (by kernel_rfl) sPeek_enc fun ⟨s, l, n⟩ hc => by
  have h0 := hc _ (.head _)
  exact satG GBc_ok mixed Try.func67 (peekH_e s l n) (peekH_v s l n h0)
theorem GBd_ok : AllOk Try.prog GBd := .cons readH_sound <| .cons peekH_sound <| GBc_ok
theorem takeH_sound : Sound Try.prog 49 sTake.ctr := sTake.sound (by kernel_rfl) sTake_enc fun ⟨s, l, n⟩ hc => by
  have h0 := hc _ (.head _)
  exact satG GBd_ok mixed Try.func49 (takeH_e s l n) (takeH_v s l n h0)
theorem GBe_ok : AllOk Try.prog GBe := .cons takeH_sound <| GBd_ok
end Go.Proofs.Ytmdbliacaeokaaa
namespace Go.Proofs.Ytmdbliacaeokaaa
open Go Go.RowKit
set_option linter.unusedVariables false
set_option linter.unusedSimpArgs false
set_option maxRecDepth 100000
theorem hiI_pos {n : Int} (h : 0 < n) : hiI n = (Nat.log2 n.toNat : Nat) := by
  unfold hiI
  rw [decide_eq_false (by omega)]
  rfl
theorem hi_bd {y : Int} (h : 1 ≤ y) : 0 ≤ hiI y ∧ 2 ^ (hiI y).toNat ≤ y ∧ y < 2 ^ ((hiI y).toNat + 1) := by
  rw [hiI_pos (by omega), toNat_cast]
  obtain ⟨n, rfl⟩ := Int.eq_ofNat_of_zero_le (show 0 ≤ y by omega)
  rw [toNat_cast]
  have h1 := Nat.log2_self_le (n := n) (by omega)
  have h2 := Nat.lt_log2_self (n := n)
  refine ⟨by omega, ?_, ?_⟩
  · exact_mod_cast h1
  · exact_mod_cast h2
theorem pow_lt_of {a b : Nat} (h : (2 : Int) ^ a < 2 ^ b) : a < b := by
  rcases Nat.lt_or_ge a b with h1 | h1
  · exact h1
  · have := pow_mono h1; omega
theorem tk_iff {s : ByteArray} {l n : Int} (hb : bkE s = 0) (h0 : 0 ≤ l) (h1 : l ≤ bkN s) (n0 : 0 ≤ n) (n1 : n ≤ 32) : (n ≤ l → tkE s l n = 0) ∧ (l < n → tkE s l n = 5) := by
  have hp := pk_ok (rgE_ok hb h0 h1) n0 n1
  exact ⟨tk_good hp, tk_short hp⟩
def dgL : List Int → Int
  | [] => 0
  | x :: r => x + 256 * dgL r
def dgS (s : ByteArray) : Int := dgL (bytesN s)
def byteR (l : List Int) : Prop := ∀ x ∈ l, 0 ≤ x ∧ x < 256
theorem dgL_app : ∀ a b : List Int, dgL (a ++ b) = dgL a + 256 ^ a.length * dgL b
  | [], b => by show dgL b = 0 + 256 ^ 0 * dgL b; rw [Int.pow_zero]; omega
  | x :: a, b => by
    show x + 256 * dgL (a ++ b) = x + 256 * dgL a + 256 ^ (a.length + 1) * dgL b
    rw [dgL_app a b, Int.pow_succ, Int.mul_add, Int.mul_comm (256 ^ a.length) 256, Int.mul_assoc]
    omega
theorem dgL_rng : ∀ a : List Int, byteR a → 0 ≤ dgL a ∧ dgL a < 256 ^ a.length
  | [], _ => by show (0 : Int) ≤ 0 ∧ (0 : Int) < 256 ^ 0; decide
  | x :: a, h => by
    have ih := dgL_rng a fun y hy => h y (List.mem_cons_of_mem _ hy)
    have hx := h x (by simp)
    show 0 ≤ x + 256 * dgL a ∧ x + 256 * dgL a < 256 ^ (a.length + 1)
    rw [Int.pow_succ]
    omega
theorem emod_mul' (X : Int) {a b : Int} (ha : 0 < a) (hb : 0 < b) : X % (a * b) = X % a + a * (X / a % b) := by
  have e1 := Int.emod_add_mul_ediv X a
  have e2 := Int.emod_add_mul_ediv (X / a) b
  have h1 := Int.emod_nonneg X (show a ≠ 0 by omega)
  have h2 := Int.emod_lt_of_pos X ha
  have h3 := Int.emod_nonneg (X / a) (show b ≠ 0 by omega)
  have h4 := Int.emod_lt_of_pos (X / a) hb
  have m1 : 0 ≤ a * (X / a % b) := Int.mul_nonneg (by omega) h3
  have m2 : a * (X / a % b) ≤ a * (b - 1) := Int.mul_le_mul_of_nonneg_left (by omega) (by omega)
  rw [Int.mul_sub, Int.mul_one] at m2
  have e3 : X = X % a + a * (X / a % b) + a * b * (X / a / b) := by
    rw [Int.mul_assoc, Int.add_assoc, ← Int.mul_add, e2, e1]
  conv => lhs; rw [e3]
  rw [Int.add_mul_emod_self_left, Int.emod_eq_of_lt (by omega) (by omega)]
theorem dgL_low : ∀ (m : Nat) (x : Int), dgL (lowB m x) = x % 256 ^ m
  | 0, x => by show (0 : Int) = x % 256 ^ 0; rw [Int.pow_zero, Int.emod_one]
  | m + 1, x => by
    have hp : (0 : Int) < 256 ^ m := by rw [pow256]; exact pow_pos' _
    show x % 256 + 256 * dgL (lowB m (x / 256)) = x % 256 ^ (m + 1)
    rw [dgL_low m, Int.pow_succ, Int.mul_comm (256 ^ m) 256, emod_mul' x (by decide) hp]
theorem bytesN_app (a b : ByteArray) : bytesN (a ++ b) = bytesN a ++ bytesN b := by
  unfold bytesN
  rw [ByteArray.data_append, Array.toList_append, List.map_append]
theorem bytesN_str {xs : List Int} (h : byteR xs) : bytesN (strOfNums xs) = xs := by
  unfold bytesN
  rw [str_data]
  show List.map _ (List.map _ xs) = xs
  rw [List.map_map]
  conv => rhs; rw [← List.map_id xs]
  refine List.map_congr_left fun x hx => ?_
  have := h x hx
  show ((UInt8.ofNat x.toNat).toNat : Int) = x
  have e : (UInt8.ofNat x.toNat).toNat = x.toNat % 256 := UInt8.toNat_ofNat'
  rw [e]
  omega
theorem bytesN_rng (s : ByteArray) : byteR (bytesN s) := by
  intro x hx
  unfold bytesN at hx
  obtain ⟨b, _, rfl⟩ := List.mem_map.1 hx
  have := b.toNat_lt
  omega
theorem lowB_rng : ∀ (m : Nat) (x : Int), byteR (lowB m x)
  | 0, x => fun y hy => by cases hy
  | m + 1, x => fun y hy => by
    change y ∈ x % 256 :: lowB m (x / 256) at hy
    rcases List.mem_cons.1 hy with rfl | hy
    · omega
    · exact lowB_rng m _ y hy
theorem dgS_app (s t : ByteArray) : dgS (s ++ t) = dgS s + 2 ^ (8 * s.size) * dgS t := by
  unfold dgS
  rw [bytesN_app, dgL_app, bytes_len, pow256]
theorem dgS_rng (s : ByteArray) : 0 ≤ dgS s ∧ dgS s < 2 ^ (8 * s.size) := by
  have := dgL_rng _ (bytesN_rng s)
  rw [bytes_len, pow256] at this
  exact this
theorem dgS_str {xs : List Int} (h : byteR xs) : dgS (strOfNums xs) = dgL xs := by unfold dgS; rw [bytesN_str h]
theorem dig : ∀ (l : List Int), byteR l → ∀ i, i < l.length → dgL l / 256 ^ i % 256 = l.getD i 0
  | [], _, i, h => by simp at h
  | x :: r, hb, 0, h => by
    have hx := hb x (by simp)
    show (x + 256 * dgL r) / 256 ^ 0 % 256 = x
    rw [Int.pow_zero, Int.ediv_one]
    omega
  | x :: r, hb, i + 1, h => by
    have hx := hb x (by simp)
    have ih := dig r (fun y hy => hb y (List.mem_cons_of_mem _ hy)) i (by simpa using h)
    show (x + 256 * dgL r) / 256 ^ (i + 1) % 256 = r.getD i 0
    rw [← ih, Int.pow_succ, Int.mul_comm (256 ^ i) 256, ← Int.ediv_ediv_of_nonneg (by decide)]
    congr 2
    omega
theorem byI_dig {s : ByteArray} {i : Nat} (h : i < s.size) : byI s i = dgS s / 256 ^ i % 256 := by
  unfold dgS
  rw [dig _ (bytesN_rng s) i (by rw [bytes_len]; exact h)]
  unfold byI bytesN
  have hl : i < s.data.toList.length := h
  rw [List.getD_eq_getElem?_getD, List.getD_eq_getElem?_getD, List.getElem?_map, List.getElem?_eq_getElem hl]
  rfl
def valW (s : ByteArray) (p : Int) : Int := dgS s + p * 2 ^ (8 * s.size)
def lenW (s : ByteArray) (n : Int) : Nat := 8 * s.size + n.toNat
theorem put_val {s : ByteArray} {p n k v : Int} (h : PutN p n k v) : valW (wS s p n k v) (wP p n k v) = valW s p + v * 2 ^ lenW s n ∧ lenW (wS s p n k v) (wN n k) = lenW s n + k.toNat := by
  obtain ⟨x0, x1, x2⟩ := h.X
  obtain ⟨e, r0, r1⟩ := wM_eq h.n0 h.k0
  have n0 := h.n0
  have k0 := h.k0
  refine ⟨?_, by unfold lenW; rw [wS_size]; omega⟩
  unfold valW
  rw [wS_size]
  unfold wS wP
  rw [dgS_app, dgS_str (lowB_rng _ _), dgL_low]
  have e1 := Int.emod_add_mul_ediv (wX p n v) (256 ^ wM n k)
  have e2 : (2 : Int) ^ (8 * (s.size + wM n k)) = 2 ^ (8 * s.size) * 256 ^ wM n k := by rw [pow256, ← Int.pow_add]; congr 1; omega
  have e3 : wX p n v / 256 ^ wM n k * (2 ^ (8 * s.size) * 256 ^ wM n k) = 2 ^ (8 * s.size) * (256 ^ wM n k * (wX p n v / 256 ^ wM n k)) := by
    rw [Int.mul_comm, Int.mul_assoc]
  rw [e2, e3, Int.add_assoc, ← Int.mul_add, e1]
  unfold wX lenW
  rw [Int.mul_add, Int.mul_comm _ p, Int.mul_comm _ (v * 2 ^ n.toNat), Int.mul_assoc, ← Int.pow_add, Nat.add_comm n.toNat, Int.add_assoc]
theorem hi_eq {x : Int} {n : Nat} (h0 : 2 ^ n ≤ x) (h1 : x < 2 ^ (n + 1)) : hiI x = n := by
  have hp := pow_pos' n
  obtain ⟨k0, k1, k2⟩ := hi_bd (show 1 ≤ x by omega)
  have a := pow_lt_of (a := n) (b := (hiI x).toNat + 1) (by omega)
  have b := pow_lt_of (a := (hiI x).toNat) (b := n + 1) (by omega)
  omega
structure DoneV (s : ByteArray) (p n : Int) : Prop where
  nb : noB (dS s p n) = false
  bn : bkN (dS s p n) = (lenW s n : Nat)
  le : dgS (dS s p n) = valW s p + 2 ^ lenW s n
  sz : (dS s p n).size = s.size + 1
theorem done_val {s : ByteArray} {p n : Int} (n0 : 0 ≤ n) (n7 : n ≤ 7) (p0 : 0 ≤ p) (p1 : p < 2 ^ n.toNat) : DoneV s p n := by
  have h7 := nn7 n0 n7
  have hp := pow_pos' n.toNat
  have hb : byteR [p + 2 ^ n.toNat] := fun x hx => by
    rw [List.mem_singleton.1 hx]
    omega
  have hsz : (dS s p n).size = s.size + 1 := by
    unfold dS
    rw [app_size, strOfNums_size]
    rfl
  have hlast : lastB (dS s p n) = p + 2 ^ n.toNat := by
    have e := byI_dig (s := dS s p n) (i := s.size) (by omega)
    have e2 : dgS (dS s p n) = dgS s + 2 ^ (8 * s.size) * (p + 2 ^ n.toNat) := by
      unfold dS
      rw [dgS_app, dgS_str hb]
      show _ = dgS s + 2 ^ (8 * s.size) * (p + 2 ^ n.toNat)
      show dgS s + 2 ^ (8 * s.size) * (p + 2 ^ n.toNat + 256 * 0) = _
      rw [Int.mul_zero, Int.add_zero]
    have hs := dgS_rng s
    have hpp := pow_pos' (8 * s.size)
    rw [e2, pow256, Int.add_mul_ediv_left _ _ (by omega), Int.ediv_eq_zero_of_lt hs.1 hs.2, Int.zero_add, Int.emod_eq_of_lt (by omega) (by omega)] at e
    unfold lastB
    rw [hsz, Nat.add_sub_cancel]
    exact e
  have hnb : noB (dS s p n) = false := by
    unfold noB
    rw [hlast, hsz]
    have h1 : Nat.beq (s.size + 1) 0 = false := rfl
    have h2 : (p + 2 ^ n.toNat == 0) = false := beq_eq_false_iff_ne.2 (by omega)
    rw [h1, h2]
    rfl
  refine ⟨hnb, ?_, ?_, hsz⟩
  · unfold bkN
    rw [hnb, hlast, hsz, hi_eq (n := n.toNat) (by omega) (by rw [Int.pow_succ]; omega)]
    unfold lenW
    simp only [cond_false]
    omega
  · unfold dS valW lenW
    rw [dgS_app, dgS_str hb]
    show dgS s + 2 ^ (8 * s.size) * (p + 2 ^ n.toNat + 256 * 0) = _
    rw [Int.mul_zero, Int.add_zero, Int.mul_add, Int.pow_add, Int.mul_comm _ p]
    omega
end Go.Proofs.Ytmdbliacaeokaaa
namespace Go.Proofs.Ytmdbliacaeokaaa
open Go Go.RowKit
set_option linter.unusedVariables false
set_option linter.unusedSimpArgs false
set_option maxRecDepth 100000
def codd (l : List Int) (x : Int) : Prop := 0 ≤ x ∧ x < l.length ∧ 0 < l.getD x.toNat 0
def lLn (l : List Int) : List Int → Nat
  | [] => 0
  | x :: r => (hB l x.toNat).toNat + lLn l r
def vLn (l : List Int) : List Int → Int
  | [] => 0
  | x :: r => hV l x.toNat * 2 ^ lLn l r + vLn l r
theorem codd_bd {l : List Int} (hg : Good l) {x : Int} (h : codd l x) : CodB l x.toNat := by
  obtain ⟨h0, h1, h2⟩ := h
  obtain ⟨i, hc⟩ := cod_has (l := l) (k := x.toNat) (by omega) h2
  exact cod_bd hg hc
theorem vLn_rng {l : List Int} (hg : Good l) : ∀ r, (∀ x ∈ r, codd l x) → 0 ≤ vLn l r ∧ vLn l r < 2 ^ lLn l r ∧ r.length ≤ lLn l r ∧ lLn l r ≤ 11 * r.length
  | [], _ => by
    show (0 : Int) ≤ 0 ∧ (0 : Int) < 2 ^ 0 ∧ 0 ≤ 0 ∧ 0 ≤ _
    refine ⟨by omega, by decide, by omega, by omega⟩
  | x :: r, h => by
    obtain ⟨i0, i1, i2, i3⟩ := vLn_rng hg r fun y hy => h y (List.mem_cons_of_mem _ hy)
    obtain ⟨b0, b1, v0, v1⟩ := codd_bd hg (h x (by simp))
    have hp := pow_pos' (lLn l r)
    have m0 := Int.mul_nonneg v0 (Int.le_of_lt hp)
    have m1 := Int.mul_le_mul_of_nonneg_right (show hV l x.toNat + 1 ≤ 2 ^ (hB l x.toNat).toNat by omega) (Int.le_of_lt hp)
    rw [Int.add_mul, Int.one_mul, ← Int.pow_add] at m1
    simp only [vLn, lLn, List.length_cons]
    refine ⟨by omega, by omega, by omega, by omega⟩
structure HwOk (l : List Int) (s : ByteArray) (k : Nat) : Prop where
  n0 : 0 ≤ hwN l s k
  n7 : hwN l s k ≤ 7
  p0 : 0 ≤ hwP l s k
  p1 : hwP l s k < 2 ^ (hwN l s k).toNat
  sz : (hwS l s k).size ≤ 2 * k
def txOk (l : List Int) (s : ByteArray) : Prop := ∀ x ∈ bytesN s, codd l x
theorem byK_mem {s : ByteArray} {k : Nat} (h : k < s.size) : byK s k ∈ bytesN s := by
  have hl := bytes_len s
  exact getD_mem' (by unfold nthI; omega)
theorem hw_ok {l : List Int} {s : ByteArray} (hg : Good l) (ht : txOk l s) : ∀ k, k ≤ s.size → HwOk l s k
  | 0, _ => ⟨Int.le_refl 0, (by show (0 : Int) ≤ 7; decide), Int.le_refl 0, (by show (0 : Int) < 2 ^ (0 : Int).toNat; decide), Nat.zero_le _⟩
  | k + 1, hk => by
    have ih := hw_ok hg ht k (by omega)
    obtain ⟨b0, b1, v0, v1⟩ := codd_bd hg (ht _ (byK_mem (s := s) (k := k) (by omega)))
    have hp : PutN (hwP l s k) (hwN l s k) (hB l (byK s k).toNat) (hV l (byK s k).toNat) := ⟨ih.n0, ih.n7, ih.p0, ih.p1, by omega, by omega, v0, v1⟩
    obtain ⟨e, r0, r1⟩ := wM_eq (n := hwN l s k) (k := hB l (byK s k).toNat) ih.n0 (by omega)
    have hP := hp.P
    have i7 := ih.n7
    have isz := ih.sz
    refine ⟨r0, r1, hP.1, hP.2, ?_⟩
    show (wS (hwS l s k) (hwP l s k) (hwN l s k) (hB l (byK s k).toNat) (hV l (byK s k).toNat)).size ≤ _
    rw [wS_size]
    omega
theorem hw_put {l : List Int} {s : ByteArray} (hg : Good l) (ht : txOk l s) {k : Nat} (hk : k < s.size) : PutN (hwP l s k) (hwN l s k) (hB l (byK s k).toNat) (hV l (byK s k).toNat) := by
  have ih := hw_ok hg ht k (by omega)
  obtain ⟨b0, b1, v0, v1⟩ := codd_bd hg (ht _ (byK_mem (s := s) (k := k) (by omega)))
  exact ⟨ih.n0, ih.n7, ih.p0, ih.p1, by omega, by omega, v0, v1⟩
theorem drop_byK {s : ByteArray} {k : Nat} (h : k < s.size) : (bytesN s).drop (s.size - (k + 1)) = byK s k :: (bytesN s).drop (s.size - k) := by
  have hl := bytes_len s
  rw [List.drop_eq_getElem_cons (by omega), show s.size - (k + 1) + 1 = s.size - k by omega]
  congr 1
  unfold byK nthS nthI
  have e : (bytesN s).length - 1 - k = s.size - (k + 1) := by omega
  rw [e, List.getD_eq_getElem?_getD, List.getElem?_eq_getElem (by omega)]
  rfl
theorem hw_val {l : List Int} {s : ByteArray} (hg : Good l) (ht : txOk l s) : ∀ k, k ≤ s.size → valW (hwS l s k) (hwP l s k) = vLn l ((bytesN s).drop (s.size - k)) ∧ lenW (hwS l s k) (hwN l s k) = lLn l ((bytesN s).drop (s.size - k))
  | 0, _ => by
    have hl := bytes_len s
    rw [Nat.sub_zero, List.drop_eq_nil_of_le (by omega)]
    exact ⟨rfl, rfl⟩
  | k + 1, hk => by
    obtain ⟨i1, i2⟩ := hw_val hg ht k (by omega)
    obtain ⟨p1, p2⟩ := put_val (s := hwS l s k) (hw_put hg ht (show k < s.size by omega))
    rw [drop_byK (by omega)]
    refine ⟨?_, ?_⟩
    · show valW (wS (hwS l s k) (hwP l s k) (hwN l s k) (hB l (byK s k).toNat) (hV l (byK s k).toNat)) (wP (hwP l s k) (hwN l s k) (hB l (byK s k).toNat) (hV l (byK s k).toNat)) = hV l (byK s k).toNat * 2 ^ lLn l _ + vLn l _
      rw [p1, i1, i2, Int.add_comm]
    · show lenW (wS (hwS l s k) (hwP l s k) (hwN l s k) (hB l (byK s k).toNat) (hV l (byK s k).toNat)) (wN (hwN l s k) (hB l (byK s k).toNat)) = (hB l (byK s k).toNat).toNat + lLn l _
      rw [p2, i2, Nat.add_comm]
structure Wrt (l : List Int) (s : ByteArray) : Prop where
  nb : noB (wrH l s) = false
  bn : bkN (wrH l s) = (lLn l (bytesN s) : Nat)
  dg : dgS (wrH l s) = vLn l (bytesN s) + 2 ^ lLn l (bytesN s)
  sz : (wrH l s).size = lLn l (bytesN s) / 8 + 1
theorem wrt_ok {l : List Int} {s : ByteArray} (hg : Good l) (ht : txOk l s) : Wrt l s := by
  have ho := hw_ok hg ht s.size (Nat.le_refl _)
  obtain ⟨e1, e2⟩ := hw_val hg ht s.size (Nat.le_refl _)
  rw [Nat.sub_self, List.drop_zero] at e1 e2
  obtain ⟨d1, d2, d3, d4⟩ := done_val (s := hwS l s s.size) ho.n0 ho.n7 ho.p0 ho.p1
  have n0 := ho.n0
  have n7 := ho.n7
  refine ⟨d1, ?_, ?_, ?_⟩
  · rw [← e2]; exact d2
  · rw [← e1, ← e2]; exact d3
  · rw [← e2]
    show (dS _ _ _).size = _
    rw [d4]
    unfold lenW
    omega
end Go.Proofs.Ytmdbliacaeokaaa
namespace Go.Proofs.Ytmdbliacaeokaaa
open Go Go.RowKit
set_option linter.unusedVariables false
set_option maxRecDepth 100000
def nz7_t (l : List Int) : Prop :=
 (∃ (x0 : Nat), Nat.le x0 (List.length l) ∧ l = l ∧ (0 : Int) = nzL (List.take x0 l) ∧ (0 : Int) = (↑x0 : Int)) ∧
 ∀ (x1 : Nat),
 Nat.le x1 (List.length l) →
 (decide ((↑x1 : Int) < (↑(List.length l) : Int)) = true →
 (0 : Int) ≤ (↑x1 : Int) ∧
 (↑x1 : Int) < (↑(List.length l) : Int) ∧
 ((List.getD l (Int.toNat (↑x1 : Int)) (0 : Int) != (0 : Int)) = true →
 ∃ (y2 : Nat),
 Nat.le y2 (List.length l) ∧
 Nat.sub (List.length l) y2 < Nat.sub (List.length l) x1 ∧
 l = l ∧ IntKind.wrap IntKind.i64 (nzL (List.take x1 l) + (1 : Int)) = nzL (List.take y2 l) ∧ IntKind.wrap IntKind.i64 ((↑x1 : Int) + (1 : Int)) = (↑y2 : Int)) ∧
 ((List.getD l (Int.toNat (↑x1 : Int)) (0 : Int) != (0 : Int)) = false →
 ∃ (y3 : Nat),
 Nat.le y3 (List.length l) ∧
 Nat.sub (List.length l) y3 < Nat.sub (List.length l) x1 ∧
 l = l ∧ nzL (List.take x1 l) = nzL (List.take y3 l) ∧ IntKind.wrap IntKind.i64 ((↑x1 : Int) + (1 : Int)) = (↑y3 : Int))) ∧
 (decide ((↑x1 : Int) < (↑(List.length l) : Int)) = false → nzL (List.take x1 l) = nzL l)
theorem nz7_e (l : List Int) : nz7_t l = vcG Try.prog (Gof []) (one6 (oNz l)) Try.f71 [.dat (.ints .i64 l)] [] (.leaf ((.v (.int .i64 (nzL l)))) ([])) := by kernel_rfl
end Go.Proofs.Ytmdbliacaeokaaa
namespace Go.Proofs.Ytmdbliacaeokaaa
open Go Go.RowKit
set_option linter.unusedVariables false
set_option linter.unusedSimpArgs false
set_option maxRecDepth 100000
theorem nz_snoc (l : List Int) (x : Int) : nzL (l ++ [x]) = cond (x != 0) (nzL l + 1) (nzL l) := by simp [nzL, List.foldl_append]
theorem nz_bd (l : List Int) : 0 ≤ nzL l ∧ nzL l ≤ l.length := by
  induction l using snoc_ind' with
  | h0 => exact ⟨by decide, by decide⟩
  | h1 l z ih =>
    rw [nz_snoc, List.length_append, List.length_singleton]
    cases z != 0 <;> simp only [cond_true, cond_false] <;> omega
theorem nz7_v (l : List Int) (h0 : l.length ≤ 4294967296) : nz7_t l := by
  unfold nz7_t
  refine ⟨⟨0, by rw [nle]; omega, rfl, rfl, rfl⟩, fun i hi => ⟨fun hlt => ?_, fun hge => ?_⟩⟩
  · simp only [decide_eq_true_eq] at hlt
    rw [toNat_cast]
    have hi' : i < l.length := by omega
    have hs := nz_snoc (l.take i) (l.getD i 0)
    rw [← take_succ l 0 hi'] at hs
    have hb := nz_bd (l.take i)
    rw [List.length_take, Nat.min_eq_left (by omega)] at hb
    refine ⟨by omega, by omega, fun h => ⟨i + 1, by rw [nle]; omega, by show l.length - (i + 1) < l.length - i; omega, by trivial, ?_, by rw [wr (by omega) (by omega)]; simp⟩, fun h => ⟨i + 1, by rw [nle]; omega, by show l.length - (i + 1) < l.length - i; omega, by trivial, ?_, by rw [wr (by omega) (by omega)]; simp⟩⟩
    · rw [hs, h, wr (by omega) (by omega)]; rfl
    · rw [hs, h]; rfl
  · simp only [decide_eq_false_iff_not] at hge
    rw [List.take_of_length_le (by omega)]
theorem nz7_sound : Sound Try.prog 71 sNz.ctr := sNz.sound (by kernel_rfl) sNz_enc fun l hc => by
  have h0 := hc _ (.head _)
  exact satG AllOk.nil mixed Try.func71 (nz7_e l) (nz7_v l h0)
end Go.Proofs.Ytmdbliacaeokaaa
namespace Go.Proofs.Ytmdbliacaeokaaa
open Go Go.RowKit
set_option linter.unusedVariables false
set_option linter.unusedSimpArgs false
set_option maxRecDepth 100000
theorem room_long {l : List Int} (h : 256 < l.length) : roomE l = 6 ∧ roomV l = 0 := by
  have : roomE l = 6 := by unfold roomE; rw [decide_eq_true h]; rfl
  exact ⟨this, by unfold roomV; rw [this]; rfl⟩
theorem room_bad {l : List Int} (h : l.length ≤ 256) (hb : l.all okLen = false) : roomE l = 2 ∧ roomV l = 0 := by
  have : roomE l = 2 := by unfold roomE; rw [decide_eq_false (by omega), hb]; rfl
  exact ⟨this, by unfold roomV; rw [this]; rfl⟩
theorem room_ok {l : List Int} (h : l.length ≤ 256) (hb : l.all okLen = true) : roomE l = 0 ∧ roomV l = roomL l := by
  have : roomE l = 0 := by unfold roomE; rw [decide_eq_false (by omega), hb]; rfl
  exact ⟨this, by unfold roomV; rw [this]; rfl⟩
structure RmS (l : List Int) (i : Nat) : Prop where
  x0 : 0 ≤ l.getD i 0
  x1 : l.getD i 0 ≤ 11
  ok : (l.take (i + 1)).all okLen = true
  s0 : 0 ≤ sumM 11 (l.take i)
  s1 : sumM 11 (l.take i) ≤ 524288
  pos : 0 < l.getD i 0 → sumM 11 (l.take (i + 1)) = sumM 11 (l.take i) + 2 ^ (11 - l.getD i 0).toNat
  not : ¬ 0 < l.getD i 0 → sumM 11 (l.take (i + 1)) = sumM 11 (l.take i)
  pw : 0 < l.getD i 0 → (2 : Int) ^ (11 - l.getD i 0).toNat ≤ 2048
theorem rm_step {l : List Int} {i : Nat} (hi : i < l.length) (hL : l.length ≤ 256) (hal : (l.take i).all okLen = true) (h0 : ¬ l.getD i 0 < 0) (h1 : ¬ l.getD i 0 > 11) : RmS l i := by
  have hs := sumM_bd 11 (by omega) (by omega) (l.take i)
  rw [List.length_take] at hs
  refine ⟨by omega, by omega, by rw [all_snoc hi, hal, okLen_iff.2 ⟨by omega, by omega⟩]; rfl, hs.1, by omega, fun h => ?_, fun h => ?_, fun h => ?_⟩
  · rw [take_succ l 0 hi, sumM_snoc, decide_eq_true h, cond_true]
  · rw [take_succ l 0 hi, sumM_snoc, decide_eq_false h, cond_false]
  · exact pow_mono (show (11 - l.getD i 0).toNat ≤ 11 by omega)
theorem roomU_v (l : List Int) (h0 : l.length ≤ 4294967296) : roomU_t l := by
  unfold roomU_t
  simp only [gt_iff_lt, decide_eq_true_eq, decide_eq_false_iff_not]
  refine ⟨fun h => ?_, fun h => ⟨⟨0, ⟨by omega, by omega, rfl⟩, rfl, (by first | rfl | trivial), (by first | rfl | trivial), (by first | rfl | trivial)⟩, fun i ⟨hi, hL, hal⟩ => ⟨fun hlt => ?_, fun hge => ?_⟩⟩⟩
  · obtain ⟨e1, e2⟩ := room_long (l := l) (by omega)
    exact ⟨e2.symm, e1.symm⟩
  · have hi' : i < l.length := by omega
    simp only [toNat_cast]
    have bad : okLen (l.getD i 0) = false → 0 = roomV l ∧ 2 = roomE l := fun hb => by
      obtain ⟨e1, e2⟩ := room_bad hL (all_of_bad hi' hb)
      exact ⟨e2.symm, e1.symm⟩
    refine ⟨by omega, by omega, fun h1 => bad (okLen_false.2 (.inl h1)), fun h1 => ⟨fun h2 => bad (okLen_false.2 (.inr h2)), fun h2 => ?_⟩⟩
    have st := rm_step hi' hL hal h1 (by omega)
    have x0 := st.x0
    have x1 := st.x1
    have s0 := st.s0
    have s1 := st.s1
    refine ⟨fun hp => ?_, fun hp => ⟨i + 1, ⟨by omega, hL, st.ok⟩, by show l.length - (i + 1) < l.length - i; omega, (st.not hp).symm, (by first | rfl | trivial), (by first | rfl | trivial), by rw [wr (by omega) (by omega)]; push_cast; rfl⟩⟩
    have pw := st.pw hp
    have pp := pow_pos' (11 - l.getD i 0).toNat
    rw [wr (n := 11 - l.getD i 0) (by omega) (by omega), shl1 (by omega) (by omega)]
    refine ⟨by omega, i + 1, ⟨by omega, hL, st.ok⟩, by show l.length - (i + 1) < l.length - i; omega, ?_, (by first | rfl | trivial), (by first | rfl | trivial), by rw [wr (by omega) (by omega)]; push_cast; rfl⟩
    rw [st.pos hp, wr (by omega) (by omega)]
  · have : i = l.length := by omega
    subst this
    rw [List.take_length] at hal ⊢
    obtain ⟨e1, e2⟩ := room_ok hL hal
    exact ⟨e2.symm, e1.symm⟩
theorem rroomU_v (l : List Int) (h0 : l.length ≤ 4294967296) : rroomU_t l := by
  unfold rroomU_t
  simp only [gt_iff_lt, decide_eq_true_eq, decide_eq_false_iff_not]
  refine ⟨fun h => ?_, fun h => ⟨⟨0, ⟨by omega, by omega, rfl⟩, (by first | rfl | trivial), rfl, (by first | rfl | trivial)⟩, fun i ⟨hi, hL, hal⟩ => ⟨fun hlt => ?_, fun hge => ?_⟩⟩⟩
  · obtain ⟨e1, e2⟩ := room_long (l := l) (by omega)
    exact ⟨e2.symm, e1.symm⟩
  · have hi' : i < l.length := by omega
    simp only [toNat_cast]
    have bad : okLen (l.getD i 0) = false → 0 = roomV l ∧ 2 = roomE l := fun hb => by
      obtain ⟨e1, e2⟩ := room_bad hL (all_of_bad hi' hb)
      exact ⟨e2.symm, e1.symm⟩
    refine ⟨by omega, by omega, fun h1 => bad (okLen_false.2 (.inl h1)), fun h1 => ⟨by omega, by omega, fun h2 => bad (okLen_false.2 (.inr h2)), fun h2 => ?_⟩⟩
    have st := rm_step hi' hL hal h1 (by omega)
    have x0 := st.x0
    have x1 := st.x1
    have s0 := st.s0
    have s1 := st.s1
    refine ⟨by omega, by omega, fun hp => ?_, fun hp => ⟨i + 1, ⟨by omega, hL, st.ok⟩, by show l.length - (i + 1) < l.length - i; omega, (by first | rfl | trivial), (st.not hp).symm, by rw [wr (by omega) (by omega)]; push_cast; rfl⟩⟩
    have pw := st.pw hp
    have pp := pow_pos' (11 - l.getD i 0).toNat
    rw [wr (n := 11 - l.getD i 0) (by omega) (by omega), wru (by omega) (by omega), shl1 (by omega) (by omega)]
    refine ⟨by omega, by omega, by omega, i + 1, ⟨by omega, hL, st.ok⟩, by show l.length - (i + 1) < l.length - i; omega, (by first | rfl | trivial), ?_, by rw [wr (by omega) (by omega)]; push_cast; rfl⟩
    rw [st.pos hp, wr (by omega) (by omega)]
  · have : i = l.length := by omega
    subst this
    rw [List.take_length] at hal ⊢
    obtain ⟨e1, e2⟩ := room_ok hL hal
    exact ⟨e2.symm, e1.symm⟩
theorem codedU_v (l : List Int) (h0 : l.length ≤ 4294967296) : codedU_t l := by
  unfold codedU_t
  simp only [gt_iff_lt, decide_eq_true_eq, decide_eq_false_iff_not]
  refine ⟨⟨0, Nat.zero_le _, rfl, rfl, (by first | rfl | trivial), (by first | rfl | trivial), (by first | rfl | trivial)⟩, fun i hi => ⟨fun hlt => ?_, fun hge => ?_⟩⟩
  · rw [nle] at hi
    have hi' : i < l.length := by omega
    simp only [toNat_cast]
    have hc := cntP_bd (l.take i)
    rw [List.length_take] at hc
    have hg := (gmx_ge (l.take i)).1
    refine ⟨by omega, by omega, fun hp => ⟨i + 1, by rw [nle]; omega, by show l.length - (i + 1) < l.length - i; omega, ?_, ?_, (by first | rfl | trivial), (by first | rfl | trivial), by rw [wr (by omega) (by omega)]; push_cast; rfl⟩, fun hp => ⟨i + 1, by rw [nle]; omega, by show l.length - (i + 1) < l.length - i; omega, ?_, ?_, (by first | rfl | trivial), (by first | rfl | trivial), by rw [wr (by omega) (by omega)]; push_cast; rfl⟩⟩
    · rw [take_succ l 0 hi', cntP_snoc, decide_eq_true hp, cond_true, wr (by omega) (by omega)]
    · rw [take_succ l 0 hi', gmx_snoc]
    · rw [take_succ l 0 hi', cntP_snoc, decide_eq_false hp, cond_false]
    · rw [take_succ l 0 hi', gmx_snoc]
      omega
  · rw [nle] at hi
    have : i = l.length := by omega
    subst this
    rw [List.take_length]
    exact ⟨rfl, rfl⟩
theorem nz_cnt {l : List Int} (h : l.all okLen = true) : nzL l = cntP l := by
  induction l using snoc_ind' with
  | h0 => rfl
  | h1 l z ih =>
    simp only [List.all_append, List.all_cons, List.all_nil, Bool.and_true, Bool.and_eq_true] at h
    have hz := okLen_iff.1 h.2
    rw [nz_snoc, cntP_snoc, ih h.1]
    by_cases h0 : z = 0
    · subst h0; rfl
    · have e1 : (z != 0) = true := by simpa using h0
      rw [e1, decide_eq_true (show 0 < z by omega)]
theorem lchk_err {l : List Int} (h : roomE l ≠ 0) : lchk l = roomE l := by
  unfold lchk
  rw [beq_eq_false_iff_ne.2 h]
  rfl
theorem lchk_few {l : List Int} (h : roomE l = 0) (h2 : cntP l < 2) : lchk l = 7 := by
  unfold lchk
  rw [h, decide_eq_true h2]
  rfl
theorem lchk_sum {l : List Int} (h : roomE l = 0) (h2 : ¬ cntP l < 2) : lchk l = cond (roomL l == 2048) 0 21 := by
  unfold lchk
  rw [h, decide_eq_false h2]
  rfl
theorem roomE_0 {l : List Int} (h : roomE l = 0) : l.length ≤ 256 ∧ l.all okLen = true := by
  unfold roomE at h
  by_cases h1 : 256 < l.length
  · rw [decide_eq_true h1] at h; cases h
  · cases h2 : l.all okLen
    · rw [decide_eq_false h1, h2] at h; cases h
    · exact ⟨by omega, rfl⟩
theorem lchkU_v (l : List Int) (h0 : l.length ≤ 4294967296) : lchkU_t l := by
  unfold lchkU_t
  refine ⟨h0, h0, fun h => (lchk_err (nz h)).symm, fun h => ⟨fun h2 => ?_, fun h2 => ?_⟩⟩
  · exact (lchk_few (eq0 h) (by simpa using h2)).symm
  · have e := eq0 h
    obtain ⟨e1, e2⟩ := roomE_0 e
    rw [lchk_sum e (by simpa using h2), (room_ok e1 e2).2]
    refine ⟨fun h3 => ?_, fun h3 => ?_⟩
    · rw [show (roomL l == 2048) = false by simpa using h3]; rfl
    · rw [show (roomL l == 2048) = true by simpa using h3]; rfl
theorem rlchkU_v (l : List Int) (h0 : l.length ≤ 4294967296) : rlchkU_t l := by
  unfold rlchkU_t
  refine ⟨h0, fun h => (lchk_err (nz h)).symm, fun h => ⟨h0, ?_⟩⟩
  have e := eq0 h
  obtain ⟨e1, e2⟩ := roomE_0 e
  rw [nz_cnt e2, (room_ok e1 e2).2]
  refine ⟨fun h2 => ?_, fun h2 => ?_⟩
  · exact (lchk_few e (by simpa using h2)).symm
  · rw [lchk_sum e (by simpa using h2)]
    refine ⟨fun h3 => ?_, fun h3 => ?_⟩
    · rw [show (roomL l == 2048) = false by simpa using h3]; rfl
    · rw [show (roomL l == 2048) = true by simpa using h3]; rfl
theorem nuU_v (l : List Int) (n : Int) (h0 : l.length ≤ 4294967296) : nuU_t l n := by
  unfold nuU_t nuE
  refine ⟨h0, ?_⟩
  simp only [gt_iff_lt]
  cases h1 : lchk l == 0 <;> cases h2 : decide (n < 0) <;> cases h3 : decide (131072 < n) <;> simp
  all_goals simpa using h1
end Go.Proofs.Ytmdbliacaeokaaa
namespace Go.Proofs.Ytmdbliacaeokaaa
open Go Go.RowKit
set_option linter.unusedVariables false
set_option linter.unusedSimpArgs false
set_option maxRecDepth 100000
theorem look_app {c : Ctr} : ∀ (A B : List (Nat × Ctr)) (f : Nat), lookupL (A ++ B) f = some c → lookupL A f = some c ∨ lookupL B f = some c
  | [], _, _, h => .inr h
  | (i, y) :: r, B, f, h => by
    simp only [List.cons_append, lookupL] at h ⊢
    cases hb : Nat.beq f i
    · rw [hb] at h; exact look_app r B f h
    · rw [hb] at h; exact .inl h
theorem all_app {P : Program} {A B : List (Nat × Ctr)} (hA : AllOk P A) (hB : AllOk P B) : AllOk P (A ++ B) := fun f c h => (look_app A B f h).elim (hA f c) (hB f c)
theorem mapB (s : ByteArray) : List.map (fun (b : UInt8) => (↑(UInt8.toNat b) : Int)) s.data.toList = bytesN s := rfl
theorem byte_at {s : ByteArray} {i : Nat} (h : i < s.size) : (bytesN s).getD i 0 = byI s i ∧ 0 ≤ byI s i ∧ byI s i < 256 := by
  have hr := byI_rng s i
  refine ⟨?_, hr.1, hr.2⟩
  unfold byI bytesN
  have hl : i < s.data.toList.length := h
  rw [List.getD_eq_getElem?_getD, List.getD_eq_getElem?_getD, List.getElem?_map, List.getElem?_eq_getElem hl]
  rfl
theorem any_snoc {f : Int → Bool} {l : List Int} {i : Nat} (h : i < l.length) : (l.take (i + 1)).any f = ((l.take i).any f || f (l.getD i 0)) := by
  rw [take_succ l 0 h, List.any_append]
  simp
theorem any_here {f : Int → Bool} {l : List Int} {i : Nat} (h : i < l.length) (hf : f (l.getD i 0) = true) : l.any f = true := List.any_eq_true.2 ⟨_, getD_mem' h, hf⟩
theorem noC_big {l : List Int} {x : Int} (h : (l.length : Int) ≤ x) : noC l x = true := by unfold noC; rw [decide_eq_true h]; rfl
theorem noC_zero {l : List Int} {x : Int} (h : l.getD x.toNat 0 = 0) : noC l x = true := by
  unfold noC
  rw [h]
  simp
theorem noC_not {l : List Int} {x : Int} (h : ¬ (l.length : Int) ≤ x) (h2 : l.getD x.toNat 0 ≠ 0) : noC l x = false := by
  unfold noC
  rw [decide_eq_false h, beq_eq_false_iff_ne.2 h2]
  rfl
theorem tx_err {l : List Int} {s : ByteArray} (h : lchk l ≠ 0) : txE l s = lchk l := by
  unfold txE
  rw [beq_eq_false_iff_ne.2 h]
  rfl
theorem tx_long {l : List Int} {s : ByteArray} (h : lchk l = 0) (h2 : 131072 < s.size) : txE l s = 4 := by
  unfold txE
  rw [h, decide_eq_true h2]
  rfl
theorem tx_any {l : List Int} {s : ByteArray} (h : lchk l = 0) (h2 : ¬ 131072 < s.size) : txE l s = cond ((bytesN s).any (noC l)) 7 0 := by
  unfold txE
  rw [h, decide_eq_false h2]
  rfl
theorem txU_v (l : List Int) (s : ByteArray) (h0 : l.length ≤ 4294967296) (h1 : s.size ≤ 4294967296) : txU_t l s := by
  unfold txU_t
  rw [mapB]
  have hl := bytes_len s
  simp only [gt_iff_lt, ge_iff_le, decide_eq_true_eq, decide_eq_false_iff_not]
  refine ⟨h0, fun h => (tx_err (nz h)).symm, fun h => ⟨fun h2 => (tx_long (eq0 h) (by omega)).symm, fun h2 => ⟨by omega, ⟨0, ⟨by omega, eq0 h, by omega, rfl⟩, (by first | rfl | trivial), (by first | rfl | trivial), (by first | rfl | trivial), (by first | rfl | trivial)⟩, fun i ⟨hi, hc, hs, hal⟩ => ⟨fun hlt => ?_, fun hge => ?_⟩⟩⟩⟩
  · have hi' : i < (bytesN s).length := by omega
    obtain ⟨b1, b2, b3⟩ := byte_at (s := s) (i := i) (by omega)
    simp only [toNat_cast]
    have bad : noC l ((bytesN s).getD i 0) = true → 7 = txE l s := fun hb => by
      rw [tx_any hc (by omega), any_here hi' hb]; rfl
    rw [wr (n := (bytesN s).getD i 0) (by omega) (by omega)]
    refine ⟨by omega, by omega, hi', fun h3 => bad (noC_big h3), fun h3 => ⟨by omega, by omega, fun h4 => bad (noC_zero (by simpa using h4)), fun h4 => ⟨i + 1, ⟨by omega, hc, hs, ?_⟩, by show s.size - (i + 1) < s.size - i; omega, (by first | rfl | trivial), (by first | rfl | trivial), by rw [wr (by omega) (by omega)]; push_cast; rfl, (by first | rfl | trivial)⟩⟩⟩
    rw [any_snoc hi', hal, noC_not h3 (by simpa using h4)]
    rfl
  · rw [tx_any hc (by omega)]
    rw [List.take_of_length_le (by omega)] at hal
    rw [hal]
    rfl
theorem txF_long {l : List Int} {s : ByteArray} (h : lchk l = 0) (h2 : 131072 < s.size) : txF l s = 4 := by
  unfold txF
  rw [h, decide_eq_true h2]
  rfl
theorem txF_ok {l : List Int} {s : ByteArray} (h : lchk l = 0) (h2 : ¬ 131072 < s.size) : txF l s = 0 := by
  unfold txF
  rw [h, decide_eq_false h2]
  rfl
theorem txF_err {l : List Int} {s : ByteArray} (h : lchk l ≠ 0) : txF l s = lchk l := by
  unfold txF
  rw [beq_eq_false_iff_ne.2 h]
  rfl
theorem txF_0 {l : List Int} {s : ByteArray} (h : txF l s = 0) : lchk l = 0 ∧ ¬ 131072 < s.size := by
  by_cases h1 : lchk l = 0
  · by_cases h2 : 131072 < s.size
    · rw [txF_long h1 h2] at h; cases h
    · exact ⟨h1, h2⟩
  · rw [txF_err h1] at h
    exact absurd h h1
theorem txI_all (l : List Int) (s : ByteArray) : txI l s s.size = txE l s := by
  unfold txI txE txF
  rw [List.take_of_length_le (by rw [bytes_len]; exact Nat.le_refl _)]
  cases h1 : lchk l == 0
  · simp only [cond_false]
    rw [h1]
    rfl
  · simp only [cond_true]
    cases decide (131072 < s.size) <;> rfl
theorem txI_0 {l : List Int} {s : ByteArray} {i : Nat} (h : txI l s i = 0) : txF l s = 0 ∧ ((bytesN s).take i).any (noC l) = false := by
  unfold txI at h
  by_cases h1 : txF l s = 0
  · rw [h1] at h
    cases h2 : ((bytesN s).take i).any (noC l)
    · exact ⟨h1, rfl⟩
    · rw [h2] at h; cases h
  · rw [beq_eq_false_iff_ne.2 h1] at h
    exact absurd h h1
theorem txI_some {l : List Int} {s : ByteArray} {i : Nat} (hi : i ≤ s.size) (h : txI l s i ≠ 0) : txI l s i = txE l s := by
  by_cases h1 : txF l s = 0
  · obtain ⟨e1, e2⟩ := txF_0 h1
    cases h2 : ((bytesN s).take i).any (noC l)
    · exact absurd (by unfold txI; rw [h1, h2]; rfl) h
    · have : (bytesN s).any (noC l) = true := by
        obtain ⟨x, hx, hn⟩ := List.any_eq_true.1 h2
        exact List.any_eq_true.2 ⟨x, List.mem_of_mem_take hx, hn⟩
      rw [tx_any e1 e2, this]
      unfold txI
      rw [h1, h2]
      rfl
  · have e : txI l s i = txF l s := by unfold txI; rw [beq_eq_false_iff_ne.2 h1]; rfl
    rw [e]
    by_cases h2 : lchk l = 0
    · by_cases h3 : 131072 < s.size
      · rw [txF_long h2 h3, tx_long h2 h3]
      · exact absurd (txF_ok h2 h3) h1
    · rw [txF_err h2, tx_err h2]
theorem txI_zero (l : List Int) (s : ByteArray) : txI l s 0 = txF l s := by
  unfold txI
  cases h : txF l s == 0
  · rfl
  · have : txF l s = 0 := by simpa using h
    rw [this]; rfl
theorem txI_bad {l : List Int} {s : ByteArray} {i : Nat} (hi : i < s.size) (h : txI l s i = 0) (hb : noC l ((bytesN s).getD i 0) = true) : txI l s (i + 1) = 7 := by
  obtain ⟨e1, e2⟩ := txI_0 h
  have hl := bytes_len s
  unfold txI
  rw [any_snoc (by omega), hb, Bool.or_true, e1]
  rfl
theorem txI_good {l : List Int} {s : ByteArray} {i : Nat} (hi : i < s.size) (h : txI l s i = 0) (hb : noC l ((bytesN s).getD i 0) = false) : txI l s (i + 1) = txI l s i := by
  obtain ⟨e1, e2⟩ := txI_0 h
  have hl := bytes_len s
  rw [h]
  unfold txI
  rw [any_snoc (by omega), hb, e2, e1]
  rfl
theorem rtxU_v (l : List Int) (s : ByteArray) (h0 : l.length ≤ 4294967296) (h1 : s.size ≤ 4294967296) : rtxU_t l s := by
  unfold rtxU_t
  have hl := bytes_len s
  simp only [gt_iff_lt, ge_iff_le, decide_eq_true_eq, decide_eq_false_iff_not]
  refine ⟨h0, ⟨fun h => ⟨fun h2 => ⟨(), trivial, (by first | rfl | trivial), (by first | rfl | trivial), (txF_long (by simpa using h) (by omega)).symm⟩, fun h2 => ⟨(), trivial, (by first | rfl | trivial), (by first | rfl | trivial), ?_⟩⟩, fun h => ⟨(), trivial, (by first | rfl | trivial), (by first | rfl | trivial), (txF_err (by simpa using h)).symm⟩⟩, fun _ _ => ⟨⟨0, Nat.zero_le _, (by first | rfl | trivial), (by first | rfl | trivial), (txI_zero l s).symm, (by first | rfl | trivial)⟩, fun i hi => ⟨fun hlt => ⟨fun hz => ⟨i, ?_, ?_⟩, fun hz => ?_⟩, fun hge => ?_⟩⟩⟩
  · rw [txF_ok (by simpa using h) (by omega)]
    simpa using h
  · have hz' : txI l s i = 0 := by simpa using hz
    obtain ⟨b1, b2, b3⟩ := byte_at (s := s) (i := i) (by omega)
    simp only [toNat_cast]
    have e : (((s.data.toList.getD i 0).toNat : Nat) : Int) = byI s i := rfl
    rw [e, wr (n := byI s i) (by omega) (by omega)]
    rw [← b1] at b2 b3 ⊢
    refine ⟨by omega, by omega, fun h3 => ⟨(), by rw [nle]; omega, (by first | rfl | trivial), (by first | rfl | trivial), (txI_bad (by omega) hz' (noC_big h3)).symm, (by first | rfl | trivial)⟩, fun h3 => ⟨by omega, by omega, by omega, by omega, fun h4 => ⟨(), by rw [nle]; omega, (by first | rfl | trivial), (by first | rfl | trivial), (txI_bad (by omega) hz' (noC_zero (by rw [b1]; exact eq_of_beq h4))).symm, (by first | rfl | trivial)⟩, fun h4 => ⟨(), by rw [nle]; omega, (by first | rfl | trivial), (by first | rfl | trivial), (txI_good (by omega) hz' (noC_not h3 (by rw [b1]; exact ne_of_beq_false h4))).symm, (by first | rfl | trivial)⟩⟩⟩
  · intro _ hg
    rw [nle] at hg
    exact ⟨i + 1, hg, by show s.size - (i + 1) < s.size - i; omega, (by first | rfl | trivial), (by first | rfl | trivial), (by first | rfl | trivial), by rw [wr (by omega) (by omega)]; push_cast; rfl⟩
  · rw [nle] at hi
    exact txI_some hi (by simpa using hz)
  · rw [nle] at hi
    have : i = s.size := by omega
    subst this
    exact txI_all l s
theorem tx_ok {l : List Int} {s : ByteArray} (h : txE l s = 0) : chk l = 0 ∧ lchk l = 0 ∧ s.size ≤ 131072 ∧ txOk l s := by
  by_cases h1 : lchk l = 0
  · by_cases h2 : 131072 < s.size
    · rw [tx_long h1 h2] at h; cases h
    · rw [tx_any h1 h2] at h
      cases h3 : (bytesN s).any (noC l)
      · have hg := good (lchk_0 h1)
        refine ⟨lchk_0 h1, h1, by omega, fun x hx => ?_⟩
        have hr := bytesN_rng s x hx
        have hn := List.any_eq_false.1 h3 x hx
        have hn' : noC l x = false := by simpa using hn
        unfold noC at hn'
        rw [Bool.or_eq_false_iff] at hn'
        have e1 : ¬ (l.length : Int) ≤ x := by simpa using hn'.1
        have e2 : l.getD x.toNat 0 ≠ 0 := by simpa using hn'.2
        have e3 := hg.lens _ (getD_mem' (show x.toNat < l.length by omega))
        exact ⟨hr.1, by omega, by omega⟩
      · rw [h3] at h; cases h
  · rw [tx_err h1] at h
    exact absurd h h1
theorem ok_tx {l : List Int} {s : ByteArray} (h : lchk l = 0) (hs : s.size ≤ 131072) (ht : txOk l s) : txE l s = 0 := by
  rw [tx_any h (by omega)]
  have : (bytesN s).any (noC l) = false := by
    rw [List.any_eq_false]
    intro x hx
    obtain ⟨a, b, c⟩ := ht x hx
    rw [noC_not (by omega) (by omega)]
    simp
  rw [this]
  rfl
theorem codL_len (l : List Int) : (codL l).length = l.length := by unfold codL; rw [codF_len]; simp
theorem cdRow {l : List Int} {i : Nat} : ((codL l).getD i []).getD 0 0 = hB l i ∧ ((codL l).getD i []).getD 1 0 = hV l i := ⟨rfl, rfl⟩
theorem tabsU_v (l : List Int) (hc : chk l = 0) : tabsU_t l := by
  unfold tabsU_t
  have hg := good hc
  have hL := hg.len
  refine ⟨fun _ => ⟨by omega, ⟨0, Nat.zero_le _, (by first | rfl | trivial), (by first | rfl | trivial), fun _ => rfl, fun _ => rfl, (by first | rfl | trivial)⟩, fun i hi => ⟨fun hlt => ?_, fun hge => ?_⟩⟩, fun hn => absurd hc hn⟩
  · rw [nle] at hi
    rw [codL_len] at hlt ⊢
    simp only [gt_iff_lt, decide_eq_true_eq, decide_eq_false_iff_not, toNat_cast] at hlt ⊢
    rw [(cdRow (l := l) (i := i)).1, (cdRow (l := l) (i := i)).2]
    have e8 : IntKind.wrap IntKind.u8 (i : Int) = (i : Int) := by rw [wrap8]; omega
    rw [e8]
    refine ⟨by omega, by omega, by omega, fun hp => ⟨i + 1, by rw [nle]; omega, by show l.length - (i + 1) < l.length - i; omega, (by first | rfl | trivial), by rw [wr (by omega) (by omega)]; push_cast; rfl, fun q => ?_, fun q => ?_, (by first | rfl | trivial)⟩, fun hp => ⟨i + 1, by rw [nle]; omega, by show l.length - (i + 1) < l.length - i; omega, (by first | rfl | trivial), by rw [wr (by omega) (by omega)]; push_cast; rfl, fun q => ?_, fun q => ?_, (by first | rfl | trivial)⟩⟩
    · show _ = mget (cond (decide (0 < hB l i)) (([(i : Int)], [hB l i, hV l i]) :: mC l i) (mC l i)) q
      rw [decide_eq_true hp]; rfl
    · show _ = mget (cond (decide (0 < hB l i)) (([hB l i, hV l i], [(i : Int)]) :: mB l i) (mB l i)) q
      rw [decide_eq_true hp]; rfl
    · show _ = mget (cond (decide (0 < hB l i)) (([(i : Int)], [hB l i, hV l i]) :: mC l i) (mC l i)) q
      rw [decide_eq_false hp]; rfl
    · show _ = mget (cond (decide (0 < hB l i)) (([hB l i, hV l i], [(i : Int)]) :: mB l i) (mB l i)) q
      rw [decide_eq_false hp]; rfl
  · rw [nle] at hi
    rw [codL_len] at hge
    have : i = l.length := by
      have : ¬ ((i : Int) < l.length) := by simpa using hge
      omega
    subst this
    exact ⟨fun _ => rfl, fun _ => rfl⟩
theorem bkuU_v (xs : List Int) : bkuU_t xs := rfl
theorem itBkU_len (l : List Int) : (itBkU l).length = l.length := by unfold itBkU; rw [List.length_map, List.length_range]
theorem itBkU_at {l : List Int} {k : Nat} (h : k < l.length) : (itBkU l)[k]? = some [.int .i64 (nthI l k : Nat), .int .u8 (nthS l k)] := by
  unfold itBkU
  rw [List.getElem?_map, List.getElem?_range h]
  rfl
theorem bkuI_v (l : List Int) (h0 : l.length ≤ 4294967296) (l0 : Nat) : bkuI_t l l0 := by
  unfold bkuI_t
  refine ⟨(), 0, Nat.zero_le _, rfl, ⟨(by first | rfl | trivial), by rw [wr (by omega) (by omega)]; simp, (by first | rfl | trivial)⟩, fun k hk => ⟨fun hlt => ?_, fun hge => ?_⟩⟩
  · have hlt : (l.length : Int) - 1 - k ≥ 0 := by simpa using hlt
    have e1 : ((l.length : Int) - 1 - k).toNat = nthI l k := by unfold nthI; omega
    have e2 : (l.length : Int) - 1 - k = (nthI l k : Nat) := by unfold nthI; omega
    rw [nle] at hk
    refine ⟨by omega, by omega, by omega, (by first | rfl | trivial), ?_, ⟨k + 1, by rw [nle]; omega, rfl, by rw [Nat.sub_eq, Nat.sub_eq]; omega, (by first | rfl | trivial), ?_, (by first | rfl | trivial)⟩, trivial⟩
    · rw [e1, e2]
      exact itBkU_at (by omega)
    · rw [wr (by omega) (by omega)]; push_cast; omega
  · have hge : ¬ (l.length : Int) - 1 - k ≥ 0 := by simpa using hge
    rw [nle] at hk
    rw [itBkU_len]
    omega
theorem bku_isat (l : List Int) (h0 : l.length ≤ 4294967296) : ISat Try.prog 77 [.p 400016 0 0] [(400016, .cells 46 [.o 400008]), (400008, .row 5 (.ints .u8 l))] (itBkU l) := by
  have h0 : ISat Try.prog 77 [.p 0 0 0] [(0, .cells 46 [.o 1]), (1, .row 5 (.ints .u8 l))] (itBkU l) :=
    isat_of_vcI (Ωi := fun l0 => oBkuF l0 l) AllOk.nil mixed Try.func77 (by kernel_rfl) fun l0 => by
      have := bkuI_v l h0 l0
      rw [bkuI_e] at this
      exact this
  exact h0.ren (fun i => 400016 - 8 * i) (by
    intro a b ha hb e
    simp at ha hb
    rcases ha with rfl | rfl <;> rcases hb with rfl | rfl <;> simp_all) rfl rfl
theorem mval_C {l : List Int} (hg : Good l) {x : Int} (h : codd l x) : mval 2 (mC l l.length) [x] = [hB l x.toNat, hV l x.toNat] := by
  obtain ⟨h0, h1, h2⟩ := h
  have hb := codd_bd hg ⟨h0, h1, h2⟩
  have b0 := hb.b0
  have : (decide (0 ≤ x) && decide (x < (l.length : Nat)) && decide (0 < hB l x.toNat)) = true := by
    simp only [Bool.and_eq_true, decide_eq_true_eq]
    omega
  unfold mval
  rw [mC_get, this]
  rfl
theorem v_u64 {x : Int} {n : Nat} (h0 : 0 ≤ x) (h1 : x < 2 ^ n) (hn : n ≤ 32) : IntKind.wrap IntKind.u64 x = x := wru h0 (by have := pow_mono hn; simp at this; omega)
theorem hw_S (l : List Int) (s : ByteArray) (k : Nat) : hwS l s (k + 1) = wS (hwS l s k) (hwP l s k) (hwN l s k) (hB l (byK s k).toNat) (hV l (byK s k).toNat) := rfl
theorem hw_P (l : List Int) (s : ByteArray) (k : Nat) : hwP l s (k + 1) = wP (hwP l s k) (hwN l s k) (hB l (byK s k).toNat) (hV l (byK s k).toNat) := rfl
theorem hw_N (l : List Int) (s : ByteArray) (k : Nat) : hwN l s (k + 1) = wN (hwN l s k) (hB l (byK s k).toNat) := rfl
theorem wrU_v (l : List Int) (s : ByteArray) (hc : chk l = 0) (hx : txE l s = 0) (hs : s.size ≤ 100000) : wrU_t l s := by
  unfold wrU_t
  rw [mapB]
  have hl := bytes_len s
  have hg := good hc
  obtain ⟨_, _, _, ht⟩ := tx_ok hx
  have hit : (List.map (fun (k : Nat) => [Value.int IntKind.i64 (↑(nthI (bytesN s) k) : Int), Value.int IntKind.u8 (nthS (bytesN s) k)]) (List.range (List.length (bytesN s)))) = itBkU (bytesN s) := rfl
  rw [hit, itBkU_len]
  have ho := hw_ok hg ht s.size (Nat.le_refl _)
  refine ⟨hc, by omega, by omega, 0, bku_isat (bytesN s) (by omega), (by first | rfl | trivial), trivial, ⟨rfl, rfl, rfl, fun _ => rfl⟩, fun i hi _ => ?_, fun _ => ?_⟩
  · have hi' : i < s.size := by omega
    have hm := mval_C hg (ht _ (byK_mem (s := s) (k := i) hi'))
    have hk := hw_put hg ht hi'
    have h2 := hw_ok hg ht i (by omega)
    have hb := codd_bd hg (ht _ (byK_mem (s := s) (k := i) hi'))
    have hu : IntKind.wrap IntKind.u64 (hV l (byK s i).toNat) = hV l (byK s i).toNat := v_u64 hb.v0 hb.v1 (by have := hb.b1; omega)
    rw [hm]
    simp only [List.headD_cons, List.tail_cons]
    rw [hu]
    have hsz := h2.sz
    refine ⟨itBkU_at (by omega), (by first | rfl | trivial), hk.n0, hk.n7, hk.p0, hk.p1, hk.k0, hk.k1, hk.v0, hk.v1, by omega, trivial, (hw_S l s i).symm, (hw_P l s i).symm, (hw_N l s i).symm, (by intro _; first | rfl | trivial)⟩
  · rw [hl]
    have hsz := ho.sz
    exact ⟨ho.n0, ho.n7, ho.p0, ho.p1, by omega, rfl⟩
theorem rwrU_v (l : List Int) (s : ByteArray) (hc : chk l = 0) (hx : txE l s = 0) (hs : s.size ≤ 100000) : rwrU_t l s := by
  unfold rwrU_t
  have hl := bytes_len s
  have hg := good hc
  have hL := hg.len
  obtain ⟨_, _, _, ht⟩ := tx_ok hx
  refine ⟨fun _ => ⟨by omega, ⟨0, Nat.zero_le _, (by first | rfl | trivial), by rw [wr (by omega) (by omega)]; simp, (by first | rfl | trivial), (by first | rfl | trivial), (by first | rfl | trivial), (by first | rfl | trivial)⟩, fun i hi => ⟨fun hlt => ?_, fun hge => ?_⟩⟩, fun hn => absurd hc hn⟩
  · rw [nle] at hi
    have hlt : (s.size : Int) - 1 - i ≥ 0 := by simpa using hlt
    have hi' : i < s.size := by omega
    have e1 : ((s.size : Int) - 1 - i).toNat = nthI (bytesN s) i := by unfold nthI; omega
    have e2 : (((s.data.toList.getD (nthI (bytesN s) i) 0).toNat : Nat) : Int) = byK s i := by
      have := (byte_at (s := s) (i := nthI (bytesN s) i) (by unfold nthI; omega)).1
      exact this.symm
    rw [e1, e2, codL_len, (cdRow (l := l) (i := (byK s i).toNat)).1, (cdRow (l := l) (i := (byK s i).toNat)).2]
    have hcd := ht _ (byK_mem (s := s) (k := i) hi')
    obtain ⟨c0, c1, c2⟩ := hcd
    have hk := hw_put hg ht hi'
    have h2 := hw_ok hg ht i (by omega)
    have hb := codd_bd hg (ht _ (byK_mem (s := s) (k := i) hi'))
    have hu : IntKind.wrap IntKind.u64 (hV l (byK s i).toNat) = hV l (byK s i).toNat := v_u64 hb.v0 hb.v1 (by have := hb.b1; omega)
    rw [hu]
    have hsz := h2.sz
    refine ⟨by omega, by omega, by omega, by omega, by omega, by omega, by omega, by omega, by omega, by omega, hk.n0, hk.n7, hk.p0, hk.p1, hk.k0, hk.k1, hk.v0, hk.v1, by omega, i + 1, by rw [nle]; omega, by show s.size - (i + 1) < s.size - i; omega, (by first | rfl | trivial), by rw [wr (by omega) (by omega)]; push_cast; omega, (by first | rfl | trivial), (hw_S l s i).symm, (hw_P l s i).symm, (hw_N l s i).symm⟩
  · rw [nle] at hi
    have hge : ¬ (s.size : Int) - 1 - i ≥ 0 := by simpa using hge
    have : i = s.size := by omega
    subst this
    have ho := hw_ok hg ht s.size (Nat.le_refl _)
    have hsz := ho.sz
    exact ⟨ho.n0, ho.n7, ho.p0, ho.p1, by omega, rfl⟩
end Go.Proofs.Ytmdbliacaeokaaa
namespace Go.Proofs.Ytmdbliacaeokaaa
open Go Go.RowKit
set_option linter.unusedVariables false
set_option linter.unusedSimpArgs false
set_option maxRecDepth 100000
theorem rd_none {l : List Int} {s : ByteArray} {n : Int} {x : RdS} (h : RdP l s n x) (hn : ¬ n ≤ x.out.length) (hd : x.L = 0 ∨ 11 ≤ x.b) : rdX l s n = none := by
  obtain ⟨L, b, v, out⟩ := x
  rw [← h.is]
  simp only at hn hd ⊢
  cases L with
  | zero => simp only [hrd]; rw [decide_eq_false hn]; rfl
  | succ L =>
    have : 11 ≤ b := by omega
    simp only [hrd]
    rw [decide_eq_false hn, decide_eq_true this]
    rfl
theorem rd_done {l : List Int} {s : ByteArray} {n : Int} {x : RdS} (h : RdP l s n x) (hn : n ≤ x.out.length) (h0 : x.L = 0) : rdX l s n = some x.out := by
  obtain ⟨L, b, v, out⟩ := x
  rw [← h.is]
  simp only at hn h0 ⊢
  subst h0
  simp only [hrd]
  rw [decide_eq_true hn]
  rfl
theorem rd_over {l : List Int} {s : ByteArray} {n : Int} {x : RdS} (h : RdP l s n x) (hn : n ≤ x.out.length) (h0 : x.L ≠ 0) : rdX l s n = none := by
  obtain ⟨L, b, v, out⟩ := x
  rw [← h.is]
  simp only at hn h0 ⊢
  cases L with
  | zero => exact absurd rfl h0
  | succ L =>
    simp only [hrd]
    rw [decide_eq_true hn]
    rfl
theorem rd_nn {l : List Int} {s : ByteArray} {n : Int} (h : rdX l s n = none) : ByteArray.empty = rdS l s n ∧ (22 : Int) = rdE l s n := by
  unfold rdS rdE
  rw [h]
  exact ⟨rfl, rfl⟩
theorem rd_ss {l : List Int} {s : ByteArray} {n : Int} {o : List Int} (h : rdX l s n = some o) : strOfNums o = rdS l s n ∧ (0 : Int) = rdE l s n := by
  unfold rdS rdE
  rw [h]
  exact ⟨rfl, rfl⟩
theorem pw_double {b : Int} (h : 0 ≤ b) : (2 : Int) ^ (b + 1).toNat = 2 * 2 ^ b.toNat := by
  rw [show (b + 1).toNat = b.toNat + 1 by omega, Int.pow_succ]
  omega
theorem rd_more {l : List Int} {s : ByteArray} {n : Int} {L : Nat} {b v : Int} {out : List Int} (h : RdP l s n ⟨L + 1, b, v, out⟩) (hn : ¬ n ≤ out.length) (hb : b < 11) (hf : fLc l (b + 1) (2 * v + bkBit s (L : Nat)) < 0) :
    RdP l s n ⟨L, b + 1, 2 * v + bkBit s (L : Nat), out⟩ := by
  obtain ⟨e, le, b0, b1, v0, v1, o1, is⟩ := h
  simp only at le b0 b1 v0 v1 o1 is
  have h01 := bkBit_01 s (L : Nat)
  have h2 := pw_double b0
  have a0 := v0 (by omega)
  have a1 := v1 (by omega)
  refine ⟨e, by show (L : Int) ≤ _; omega, by show 0 ≤ b + 1; omega, by show b + 1 + (L : Int) ≤ _; omega, fun _ => by show 0 ≤ 2 * v + bkBit s L; omega, fun _ => by show 2 * v + bkBit s L < 2 ^ (b + 1).toNat; omega, o1, ?_⟩
  rw [← is]
  simp only [hrd]
  rw [decide_eq_false hn, decide_eq_false (by omega), decide_eq_true hf]
  rfl
theorem rd_code {l : List Int} {s : ByteArray} {n : Int} {L : Nat} {b v : Int} {out : List Int} (h : RdP l s n ⟨L + 1, b, v, out⟩) (hn : ¬ n ≤ out.length) (hb : b < 11) (hf : ¬ fLc l (b + 1) (2 * v + bkBit s (L : Nat)) < 0) :
    RdP l s n ⟨L, 0, 0, out ++ [fLc l (b + 1) (2 * v + bkBit s (L : Nat))]⟩ := by
  obtain ⟨e, le, b0, b1, v0, v1, o1, is⟩ := h
  simp only at le b0 b1 v0 v1 o1 is
  refine ⟨e, by show (L : Int) ≤ _; omega, Int.le_refl 0, by show 0 + (L : Int) ≤ _; omega, fun _ => Int.le_refl 0, fun _ => by show (0 : Int) < 2 ^ (0 : Int).toNat; decide, by simp only [List.length_append, List.length_singleton]; omega, ?_⟩
  rw [← is]
  simp only [hrd]
  rw [decide_eq_false hn, decide_eq_false (by omega), decide_eq_false hf]
  rfl
theorem rd_dead {l : List Int} {s : ByteArray} {n : Int} {L : Nat} {b v w : Int} {out : List Int} (h : RdP l s n ⟨L + 1, b, v, out⟩) (hn : ¬ n ≤ out.length) (hb : 11 ≤ b) : RdP l s n ⟨L, b + 1, w, out⟩ := by
  have hX := rd_none h hn (.inr hb)
  obtain ⟨e, le, b0, b1, v0, v1, o1, is⟩ := h
  simp only at le b0 b1 o1
  refine ⟨e, by show (L : Int) ≤ _; omega, by show 0 ≤ b + 1; omega, by show b + 1 + (L : Int) ≤ _; omega, fun h => by have h' : b + 1 ≤ 11 := h; omega, fun h => by have h' : b + 1 ≤ 11 := h; omega, o1, ?_⟩
  rw [hX]
  cases L with
  | zero => simp only [hrd]; rw [decide_eq_false hn]; rfl
  | succ L => simp only [hrd]; rw [decide_eq_false hn, decide_eq_true (show (11 : Int) ≤ b + 1 by omega)]; rfl
theorem take_bit {s : ByteArray} {L : Nat} (hb : bkE s = 0) (hl : (L : Int) ≤ bkN s) (h0 : L ≠ 0) : tkE s (L : Int) 1 = 0 ∧ tkS s (L : Int) 1 = s ∧ tkL s (L : Int) 1 = ((L - 1 : Nat) : Int) ∧ tkV s (L : Int) 1 = bkBit s ((L - 1 : Nat) : Int) := by
  have h := (tk_iff hb (l := (L : Int)) (n := 1) (by omega) hl (by omega) (by omega)).1 (by omega)
  obtain ⟨v1, v2, v3, _, _⟩ := tk_vals h
  refine ⟨h, v1.symm, by omega, ?_⟩
  rw [← v3]
  show 2 * pkF s L 0 + bkBit s ((L : Int) - 1 - (0 : Nat)) = _
  show 2 * 0 + bkBit s ((L : Int) - 1 - (0 : Nat)) = _
  rw [show (L : Int) - 1 - ((0 : Nat) : Int) = ((L - 1 : Nat) : Int) by omega]
  omega
theorem take_no {s : ByteArray} (hb : bkE s = 0) : tkE s ((0 : Nat) : Int) 1 = 5 := by
  have hr := bkN_rng (bkE_0 hb).1
  exact (tk_iff hb (l := ((0 : Nat) : Int)) (n := 1) (by omega) (by omega) (by omega) (by omega)).2 (by omega)
theorem or1_i64 (a b : Nat) (hb : b < 2) (h : 2 * a + b < 4294967296) : bits .or .i64 ((2 * a : Nat) : Int) (b : Int) = ((2 * a + b : Nat) : Int) := by
  have hx : ∀ a : Nat, a < 4294967296 → (BitVec.ofInt 64 (a : Int)).toNat = a := fun a ha => by
    rw [BitVec.ofInt_natCast, BitVec.toNat_ofNat]; exact Nat.mod_eq_of_lt (by omega)
  show IntKind.i64.wrap ((BitVec.ofInt 64 ((2 * a : Nat) : Int) ||| BitVec.ofInt 64 (b : Int)).toNat : Int) = _
  rw [BitVec.toNat_or, hx _ (by omega), hx _ (by omega)]
  have := Nat.two_pow_add_eq_or_of_lt (i := 1) (b := b) (by omega) a
  rw [Nat.pow_one] at this
  rw [← this]
  exact wr (by omega) (by omega)
theorem next_val {s : ByteArray} {v : Int} {k : Nat} (h0 : 0 ≤ v) (h1 : v < 4096) :
    bits BinOp.or IntKind.i64 (IntKind.wrap IntKind.i64 (v * (2 : Int) ^ min (Int.toNat (1 : Int)) (IntKind.bits IntKind.i64))) (IntKind.wrap IntKind.i64 (bkBit s (k : Nat))) = 2 * v + bkBit s (k : Nat) := by
  have hb := bkBit_01 s (k : Nat)
  have e : min (Int.toNat (1 : Int)) (IntKind.bits IntKind.i64) = 1 := rfl
  rw [e, show (2 : Int) ^ 1 = 2 from rfl, wr (n := v * 2) (by omega) (by omega), wr (n := bkBit s (k : Nat)) (by omega) (by omega)]
  obtain ⟨a, rfl⟩ := Int.eq_ofNat_of_zero_le h0
  obtain ⟨c, hc⟩ := Int.eq_ofNat_of_zero_le (show 0 ≤ bkBit s (k : Nat) by omega)
  rw [hc] at hb ⊢
  have := or1_i64 a c (by omega) (by omega)
  rw [show (a : Int) * 2 = ((2 * a : Nat) : Int) by omega, this]
  omega
theorem rd_start {l : List Int} {s : ByteArray} {n : Int} (hb : bkE s = 0) (hn : 0 ≤ n) : RdP l s n ⟨(bkN s).toNat, 0, 0, []⟩ := by
  have hr := bkN_rng (bkE_0 hb).1
  refine ⟨hb, by show (((bkN s).toNat : Nat) : Int) ≤ _; omega, Int.le_refl 0, by show (0 : Int) + (((bkN s).toNat : Nat) : Int) ≤ _; omega, fun _ => Int.le_refl 0, fun _ => by show (0 : Int) < 2 ^ (0 : Int).toNat; decide, by simpa using hn, ?_⟩
  unfold rdX
  rw [beq0 hb]
  rfl
theorem mhas_B {l : List Int} {b v : Int} (hb : 0 < b) : mhas (mB l l.length) [b, v] = !decide (fLc l b v < 0) := by
  rw [mhas_mget, mB_get l b v hb]
  show _ = !decide (fnd l b v l.length < 0)
  cases decide (fnd l b v l.length < 0) <;> rfl
theorem mval_B {l : List Int} {b v : Int} (hb : 0 < b) (h : ¬ fLc l b v < 0) : mval 1 (mB l l.length) [b, v] = [fLc l b v] := by
  unfold mval
  rw [mB_get l b v hb, decide_eq_false (show ¬ fnd l b v l.length < 0 from h)]
  rfl
theorem rdU_v (l : List Int) (s : ByteArray) (n : Int) (hc : chk l = 0) (h1 : s.size ≤ 4294967296) (hn0 : 0 ≤ n) (hn1 : n ≤ 131072) : rdU_t l s n := by
  unfold rdU_t
  have hg := good hc
  refine ⟨h1, fun h => rd_nn (by unfold rdX; rw [nez0 h]; rfl), fun h => ?_⟩
  have hb := eq0 h
  obtain ⟨k1, k2, k3, k4⟩ := bkE_0 hb
  have hr := bkN_rng k1
  refine ⟨hc, by omega, by omega, by omega, by omega, ⟨_, rd_start hb hn0, (by first | rfl | trivial), k4, by rw [k3]; show bkN s = (((bkN s).toNat : Nat) : Int); omega, fun _ => rfl, rfl, rfl, rfl⟩, fun x hx => ⟨fun hlt => ?_, fun hge => ?_⟩⟩
  · have hlt' : ¬ n ≤ x.out.length := by
      have : (x.out.length : Int) < n := by simpa using hlt
      omega
    clear hlt
    have hlt := hlt'
    refine ⟨h1, fun ht => ?_, fun ht => ?_⟩
    · refine rd_nn (rd_none hx hlt (.inl ?_))
      by_cases h0 : x.L = 0
      · exact h0
      · exact absurd (take_bit hb hx.le h0).1 (nz ht)
    · have h0 : x.L ≠ 0 := fun h0 => by
        have := take_no hb
        rw [h0] at ht
        have := eq0 ht
        omega
      obtain ⟨t1, t2, t3, t4⟩ := take_bit hb hx.le h0
      obtain ⟨L, b, v, out⟩ := x
      simp only at hlt h0 t1 t2 t3 t4 ⊢
      have hb0 := hx.b0
      have hb1 := hx.b1
      have hle := hx.le
      have ho1 := hx.o1
      simp only at hb0 hb1 hle ho1
      have ew : IntKind.wrap IntKind.i64 (b + 1) = b + 1 := wr (by omega) (by omega)
      rw [t2, t3, t4, ew]
      obtain ⟨L', rfl⟩ : ∃ L', L = L' + 1 := ⟨L - 1, by omega⟩
      simp only [Nat.add_sub_cancel]
      rw [mhas_B (by omega)]
      by_cases hd : 11 ≤ b
      · have hf := fLc_11 hg (b := b + 1) (v := bits BinOp.or IntKind.i64 (IntKind.wrap IntKind.i64 (v * (2 : Int) ^ min (Int.toNat (1 : Int)) (IntKind.bits IntKind.i64))) (IntKind.wrap IntKind.i64 (bkBit s (L' : Nat)))) (by omega)
        rw [hf]
        refine ⟨by omega, fun _ => ⟨⟨L', b + 1, _, out⟩, rd_dead hx hlt hd, by show L' < L' + 1; omega, (by first | rfl | trivial), (by first | rfl | trivial), (by first | rfl | trivial), (by intro _; first | rfl | trivial), (by first | rfl | trivial), (by first | rfl | trivial), (by first | rfl | trivial)⟩, fun hh => by simp at hh⟩
      · have hv0 := hx.v0 (by show b ≤ 11; omega)
        have hv1 := hx.v1 (by show b ≤ 11; omega)
        simp only at hv0 hv1
        have hp := pow_mono (show b.toNat ≤ 11 by omega)
        have hv2 : v < 4096 := by
          have : (2 : Int) ^ 11 = 2048 := rfl
          omega
        rw [next_val hv0 hv2]
        refine ⟨by omega, fun hh => ?_, fun hh => ?_⟩
        · have hf : fLc l (b + 1) (2 * v + bkBit s (L' : Nat)) < 0 := by simpa using hh
          exact ⟨⟨L', b + 1, _, out⟩, rd_more hx hlt (by omega) hf, by show L' < L' + 1; omega, (by first | rfl | trivial), (by first | rfl | trivial), (by first | rfl | trivial), (by intro _; first | rfl | trivial), (by first | rfl | trivial), (by first | rfl | trivial), (by first | rfl | trivial)⟩
        · have hf : ¬ fLc l (b + 1) (2 * v + bkBit s (L' : Nat)) < 0 := by simpa using hh
          rw [mval_B (by omega) hf]
          refine ⟨by omega, ⟨L', 0, 0, _⟩, rd_code hx hlt (by omega) hf, by show L' < L' + 1; omega, (by first | rfl | trivial), (by first | rfl | trivial), (by first | rfl | trivial), (by intro _; first | rfl | trivial), (by first | rfl | trivial), (by first | rfl | trivial), (by first | rfl | trivial)⟩
  · have hge : n ≤ x.out.length := by
      have : ¬ (x.out.length : Int) < n := by simpa using hge
      omega
    refine ⟨fun hL => rd_nn (rd_over hx hge ?_), fun hL => rd_ss (rd_done hx hge ?_)⟩
    · have : (x.L : Int) > 0 := by simpa using hL
      omega
    · have : ¬ (x.L : Int) > 0 := by simpa using hL
      omega
end Go.Proofs.Ytmdbliacaeokaaa
namespace Go.Proofs.Ytmdbliacaeokaaa
open Go Go.RowKit
set_option linter.unusedVariables false
set_option linter.unusedSimpArgs false
set_option maxRecDepth 100000
theorem roomU_sound : Sound Try.prog 63 sRoomL.ctr := sRoomL.sound (by kernel_rfl) sRoomL_enc fun l hc => by
  have h0 := hc _ (.head _)
  exact satG AllOk.nil mixed Try.func63 (roomU_e l) (roomU_v l h0)
theorem rroomU_sound : Sound Try.prog 70 sRoomL.ctr := sRoomL.sound (by kernel_rfl) sRoomL_enc fun l hc => by
  have h0 := hc _ (.head _)
  exact satG AllOk.nil mixed Try.func70 (rroomU_e l) (rroomU_v l h0)
theorem codedU_sound : Sound Try.prog 64 sCoded.ctr := sCoded.sound (by kernel_rfl) sCoded_enc fun l hc => by
  have h0 := hc _ (.head _)
  exact satG AllOk.nil mixed Try.func64 (codedU_e l) (codedU_v l h0)
theorem bkuU_sound : Sound Try.prog 55 sBackU.ctr := sBackU.sound (by kernel_rfl) sBackU_enc fun xs hc => by
  have h0 := hc _ (.head _)
  exact satG AllOk.nil mixed Try.func55 (bkuU_e xs) (bkuU_v xs)
theorem GUa_ok : AllOk Try.prog GUa := .cons roomU_sound <| .cons rroomU_sound <| .cons codedU_sound <| .cons bkuU_sound <| .cons nz7_sound <| all_app GBe_ok G6i_ok
theorem lchkU_sound : Sound Try.prog 46 sLchk.ctr := sLchk.sound (by kernel_rfl) sLchk_enc fun l hc => by
  have h0 := hc _ (.head _)
  exact satG GUa_ok mixed Try.func46 (lchkU_e l) (lchkU_v l h0)
theorem rlchkU_sound : Sound Try.prog 50 sLchk.ctr := sLchk.sound (by kernel_rfl) sLchk_enc fun l hc => by
  have h0 := hc _ (.head _)
  exact satG GUa_ok mixed Try.func50 (rlchkU_e l) (rlchkU_v l h0)
theorem tabsU_sound : Sound Try.prog 48 sTabs.ctr := sTabs.sound (by kernel_rfl) sTabs_enc fun l hc => by
  have h0 := hc _ (.head _)
  exact satG GUa_ok mixed Try.func48 (tabsU_e l) (tabsU_v l h0)
theorem rwrU_sound : Sound Try.prog 40 sWrH.ctr := sWrH.sound (by kernel_rfl) sWrH_enc fun ⟨l, s⟩ hc => by
  have h0 := hc _ (.head _)
  have h1 := hc _ (.tail _ (.head _))
  have h2 := hc _ (.tail _ (.tail _ (.head _)))
  exact satG GUa_ok mixed Try.func40 (rwrU_e l s) (rwrU_v l s h0 h1 h2)
theorem GUb_ok : AllOk Try.prog GUb := .cons lchkU_sound <| .cons rlchkU_sound <| .cons tabsU_sound <| .cons rwrU_sound <| GUa_ok
theorem txU_sound : Sound Try.prog 37 sTxE.ctr := sTxE.sound (by kernel_rfl) sTxE_enc fun ⟨l, s⟩ hc => by
  have h0 := hc _ (.head _)
  have h1 := hc _ (.tail _ (.head _))
  exact satG GUb_ok mixed Try.func37 (txU_e l s) (txU_v l s h0 h1)
theorem rtxU_sound : Sound Try.prog 39 sTxE.ctr := sTxE.sound (by kernel_rfl) sTxE_enc fun ⟨l, s⟩ hc => by
  have h0 := hc _ (.head _)
  have h1 := hc _ (.tail _ (.head _))
  exact satG GUb_ok mixed Try.func39 (rtxU_e l s) (rtxU_v l s h0 h1)
theorem nuU_sound : Sound Try.prog 29 sNuE.ctr := sNuE.sound (by kernel_rfl) sNuE_enc fun ⟨l, n⟩ hc => by
  have h0 := hc _ (.head _)
  exact satG GUb_ok mixed Try.func29 (nuU_e l n) (nuU_v l n h0)
theorem wrU_sound : Sound Try.prog 38 sWrH.ctr := sWrH.sound (by kernel_rfl) sWrH_enc fun ⟨l, s⟩ hc => by
  have h0 := hc _ (.head _)
  have h1 := hc _ (.tail _ (.head _))
  have h2 := hc _ (.tail _ (.tail _ (.head _)))
  exact satG GUb_ok mixed Try.func38 (wrU_e l s) (wrU_v l s h0 h1 h2)
theorem rdU_sound : Sound Try.prog 30 sRdH.ctr := sRdH.sound (by kernel_rfl) sRdH_enc fun ⟨l, b, n⟩ hc => by
  have h0 := hc _ (.head _)
  have h1 := hc _ (.tail _ (.head _))
  have h2 := hc _ (.tail _ (.tail _ (.head _)))
  have h3 := hc _ (.tail _ (.tail _ (.tail _ (.head _))))
  exact satG GUb_ok mixed Try.func30 (rdU_e l b n) (rdU_v l b n h0 h1 h2 h3)
theorem GUc_ok : AllOk Try.prog GUc := .cons txU_sound <| .cons rtxU_sound <| .cons nuU_sound <| .cons wrU_sound <| .cons rdU_sound <| GUb_ok
end Go.Proofs.Ytmdbliacaeokaaa
namespace Go.Proofs.Ytmdbliacaeokaaa
open Go Go.RowKit
set_option linter.unusedVariables false
set_option maxRecDepth 100000
def DvOk (s : ByteArray) (p : List Int) : Prop := p.length = 4 ∧ ∀ i, i < 4 → 0 ≤ p.getD i 0 ∧ p.getD i 0 ≤ (rsS s p i).size
def lit2P (n : Int) : Nat → List Int
  | 0 => []
  | 1 => [n % 256]
  | _ => [n % 256, n / 256 % 256]
def lit2N (n : Int) : Nat → Int
  | 0 => n
  | 1 => n / 256
  | _ => n / 256 / 256
def litS (l : List Int) (s : ByteArray) : Bool := decide (l.length ≤ 260) && decide (s.size ≤ 1200)
end Go.Proofs.Ytmdbliacaeokaaa
namespace Go.Proofs.Ytmdbliacaeokaaa
open Go Go.RowKit
set_option linter.unusedVariables false
set_option linter.unusedSimpArgs false
set_option maxRecDepth 100000
theorem ext_bytes (s : ByteArray) (a b : Nat) : bytesN (s.extract a b) = ((bytesN s).drop a).take (b - a) := by
  unfold bytesN
  rw [ByteArray.data_extract, Array.toList_extract, List.extract_eq_take_drop, List.map_take, List.map_drop]
def offP (p : List Int) : Nat → Nat
  | 0 => 0
  | i + 1 => offP p i + (p.getD i 0).toNat
theorem rs_bytes (s : ByteArray) (p : List Int) : ∀ i, bytesN (rsS s p i) = (bytesN s).drop (offP p i)
  | 0 => rfl
  | i + 1 => by
    have hl := bytes_len (rsS s p i)
    show bytesN ((rsS s p i).extract (p.getD i 0).toNat (rsS s p i).size) = _
    rw [ext_bytes, List.take_of_length_le (by rw [List.length_drop, hl]; omega), rs_bytes s p i, List.drop_drop]
    rfl
theorem rs_size (s : ByteArray) (p : List Int) (i : Nat) : (rsS s p i).size = s.size - offP p i := by
  have := congrArg List.length (rs_bytes s p i)
  rw [bytes_len, List.length_drop, bytes_len] at this
  exact this
theorem pc_bytes (s : ByteArray) (p : List Int) (i : Nat) : bytesN (pcS s p i) = ((bytesN s).drop (offP p i)).take (p.getD i 0).toNat := by
  unfold pcS
  rw [ext_bytes, rs_bytes, List.drop_zero, Nat.sub_zero]
theorem pc_le (s : ByteArray) (p : List Int) (i : Nat) : (pcS s p i).size ≤ s.size := by
  have := congrArg List.length (pc_bytes s p i)
  rw [bytes_len, List.length_take, List.length_drop, bytes_len] at this
  omega
theorem pc_ok {l : List Int} {s : ByteArray} (h : txOk l s) (p : List Int) (i : Nat) : txOk l (pcS s p i) := fun x hx => by
  rw [pc_bytes] at hx
  exact h x (List.mem_of_mem_drop (List.mem_of_mem_take hx))
structure PtS (n : Int) : Prop where
  k0 : 0 ≤ ptK n
  k1 : 3 * ptK n ≤ n
  k2 : ptK n ≤ n
theorem pt_ok {n : Int} (h : 6 ≤ n) : PtS n := by
  constructor <;> (show _ ≤ _; unfold ptK; omega)
theorem ptL_0 (n : Int) : (ptL n).getD 0 0 = ptK n := rfl
theorem ptL_1 (n : Int) : (ptL n).getD 1 0 = ptK n := rfl
theorem ptL_2 (n : Int) : (ptL n).getD 2 0 = ptK n := rfl
theorem ptL_3 (n : Int) : (ptL n).getD 3 0 = n - 3 * ptK n := rfl
theorem ptL_bd {n : Int} (h : 6 ≤ n) {i : Nat} (hi : i < 4) : 0 ≤ (ptL n).getD i 0 ∧ (ptL n).getD i 0 ≤ n := by
  obtain ⟨k0, k1, k2⟩ := pt_ok h
  have : i = 0 ∨ i = 1 ∨ i = 2 ∨ i = 3 := by omega
  rcases this with rfl | rfl | rfl | rfl
  · rw [ptL_0]; omega
  · rw [ptL_1]; omega
  · rw [ptL_2]; omega
  · rw [ptL_3]; omega
theorem off4 (p : List Int) : offP p 1 = (p.getD 0 0).toNat ∧ offP p 2 = (p.getD 0 0).toNat + (p.getD 1 0).toNat ∧ offP p 3 = (p.getD 0 0).toNat + (p.getD 1 0).toNat + (p.getD 2 0).toNat ∧
    offP p 4 = (p.getD 0 0).toNat + (p.getD 1 0).toNat + (p.getD 2 0).toNat + (p.getD 3 0).toNat := by
  refine ⟨?_, ?_, ?_, ?_⟩ <;> simp only [offP] <;> omega
theorem offP_le {p : List Int} : ∀ {i j : Nat}, i ≤ j → offP p i ≤ offP p j := by
  intro i j h
  induction j with
  | zero => have : i = 0 := by omega
            subst this; exact Nat.le_refl _
  | succ j ih =>
    by_cases e : i = j + 1
    · subst e; exact Nat.le_refl _
    · have := ih (by omega)
      simp only [offP]
      omega
theorem dv_of {s : ByteArray} {p : List Int} (h4 : p.length = 4) (h0 : ∀ i, i < 4 → 0 ≤ p.getD i 0) (hs : offP p 4 = s.size) : DvOk s p := by
  refine ⟨h4, fun i hi => ⟨h0 i hi, ?_⟩⟩
  have := offP_le (p := p) (show i + 1 ≤ 4 by omega)
  simp only [offP] at this hs
  have h := h0 i hi
  rw [rs_size]
  omega
theorem pt_off {n : Int} (h : 6 ≤ n) : offP (ptL n) 4 = n.toNat := by
  obtain ⟨k0, k1, k2⟩ := pt_ok h
  rw [(off4 (ptL n)).2.2.2, ptL_0, ptL_1, ptL_2, ptL_3]
  omega
theorem pt_dv {s : ByteArray} (h : 6 ≤ s.size) : DvOk s (ptL s.size) :=
  dv_of rfl (fun i hi => (ptL_bd (by omega) hi).1) (by rw [pt_off (by omega)]; omega)
theorem jn_snoc (xs : List ByteArray) (x : ByteArray) : jn (xs ++ [x]) = jn xs ++ x := by unfold jn; rw [List.foldl_append]; rfl
theorem jn_two (a b : ByteArray) : jn [a, b] = a ++ b := by
  show ByteArray.empty ++ a ++ b = a ++ b
  rw [ByteArray.empty_append]
theorem strs_succ (l : List Int) (s : ByteArray) (i : Nat) : strs4 l s (i + 1) = strs4 l s i ++ [stH l s i] := by
  unfold strs4
  rw [List.range_succ, List.map_append]
  rfl
theorem heads_succ (l : List Int) (s : ByteArray) {i : Nat} (h : i < 3) : heads4 l s (i + 1) = heads4 l s i ++ [lit2 (stH l s i).size] := by
  unfold heads4
  rw [Nat.min_eq_left (show i + 1 ≤ 3 by omega), Nat.min_eq_left (show i ≤ 3 by omega), List.range_succ, List.map_append]
  rfl
theorem heads_all (l : List Int) (s : ByteArray) {i : Nat} (h : 3 ≤ i) : heads4 l s (i + 1) = heads4 l s i := by
  unfold heads4
  rw [Nat.min_eq_right (show 3 ≤ i + 1 by omega), Nat.min_eq_right h]
theorem strs_len (l : List Int) (s : ByteArray) (i : Nat) : (strs4 l s i).length = i := by unfold strs4; rw [List.length_map, List.length_range]
theorem heads_len (l : List Int) (s : ByteArray) (i : Nat) : (heads4 l s i).length ≤ 3 := by unfold heads4; rw [List.length_map, List.length_range]; omega
theorem wr_size {l : List Int} {s : ByteArray} (hg : Good l) (ht : txOk l s) (hs : s.size ≤ 40000) : (wrH l s).size ≤ 55001 := by
  obtain ⟨w1, w2, w3, w4⟩ := wrt_ok hg ht
  obtain ⟨i0, i1, i2, i3⟩ := vLn_rng hg (bytesN s) ht
  have := bytes_len s
  rw [w4]
  omega
theorem st_size {l : List Int} {s : ByteArray} (hg : Good l) (ht : txOk l s) (hs : s.size ≤ 40000) (i : Nat) : (stH l s i).size ≤ 55001 :=
  wr_size hg (pc_ok ht _ i) (Nat.le_trans (pc_le _ _ _) hs)
theorem lit2_size (n : Int) : (lit2 n).size = 2 := by unfold lit2; rw [strOfNums_size]; rfl
theorem strs_size {l : List Int} {s : ByteArray} (hg : Good l) (ht : txOk l s) (hs : s.size ≤ 40000) : ∀ i, (jn (strs4 l s i)).size ≤ i * 55001
  | 0 => Nat.zero_le _
  | i + 1 => by
    have ih := strs_size hg ht hs i
    have := st_size hg ht hs i
    rw [strs_succ, jn_snoc, app_size]
    omega
theorem heads_size (l : List Int) (s : ByteArray) : ∀ i, (jn (heads4 l s i)).size ≤ 2 * i
  | 0 => by show (0 : Nat) ≤ _; omega
  | i + 1 => by
    have ih := heads_size l s i
    by_cases h : i < 3
    · rw [heads_succ l s h, jn_snoc, app_size, lit2_size]
      omega
    · rw [heads_all l s (by omega)]
      omega
theorem w4E_err {l : List Int} {s : ByteArray} (h : txE l s ≠ 0) : w4E l s = txE l s ∧ w4O l s = ByteArray.empty := by
  have : w4E l s = txE l s := by unfold w4E; rw [beq_eq_false_iff_ne.2 h]; rfl
  exact ⟨this, by unfold w4O; rw [this, beq_eq_false_iff_ne.2 h]; rfl⟩
theorem w4E_few {l : List Int} {s : ByteArray} (h : txE l s = 0) (h2 : s.size < 6) : w4E l s = 20 ∧ w4O l s = ByteArray.empty := by
  have : w4E l s = 20 := by unfold w4E; rw [h, decide_eq_true h2]; rfl
  exact ⟨this, by unfold w4O; rw [this]; rfl⟩
theorem w4E_ok {l : List Int} {s : ByteArray} (h : txE l s = 0) (h2 : ¬ s.size < 6) : w4E l s = 0 ∧ w4O l s = w4H l s := by
  have : w4E l s = 0 := by unfold w4E; rw [h, decide_eq_false h2]; rfl
  exact ⟨this, by unfold w4O; rw [this]; rfl⟩
theorem w4E_0 {l : List Int} {s : ByteArray} (h : w4E l s = 0) : txE l s = 0 ∧ ¬ s.size < 6 ∧ w4O l s = w4H l s := by
  by_cases h1 : txE l s = 0
  · by_cases h2 : s.size < 6
    · rw [(w4E_few h1 h2).1] at h; cases h
    · exact ⟨h1, h2, (w4E_ok h1 h2).2⟩
  · rw [(w4E_err h1).1] at h
    exact absurd h h1
end Go.Proofs.Ytmdbliacaeokaaa
namespace Go.Proofs.Ytmdbliacaeokaaa
open Go Go.RowKit
set_option linter.unusedVariables false
set_option linter.unusedSimpArgs false
set_option maxRecDepth 100000
def sFld2 : Spec where
  ι := Int
  dec l H := match l with
    | [.v (.int .u64 n), .v (.int .i64 2)] => some (n, [])
    | _ => none
  args := fun n => [.v (.int .u64 n), .v (.int .i64 2)]
  pre := fun n => [⟨0 ≤ n, inferInstance⟩, ⟨n < 65536, inferInstance⟩]
  out := fun n => .leaf (.v (.string (lit2 n))) []
theorem sFld2_enc : ∀ l H n i ls, sFld2.dec l H = some (i, ls) → l = renL (rho ls n) (sFld2.args i) ∧ givenHp H ls = renH (rho ls n) (sFld2.hp i) := by
  intro l H n i ls h
  simp only [sFld2] at h
  repeat' split at h
  all_goals first
    | (cases h; done)
    | (cases h; exact ⟨rfl, rfl⟩)
def sLit2 : Spec where
  ι := Int
  dec l H := match l with
    | [.v (.int .u64 n), .v (.int .i64 2)] => some (n, [])
    | _ => none
  args := fun n => [.v (.int .u64 n), .v (.int .i64 2)]
  pre := fun n => [⟨0 ≤ n, inferInstance⟩, ⟨n < 65536, inferInstance⟩]
  out := fun n => .leaf (.tu [.v (.string (lit2 n)), .v (.int .i64 0)]) []
theorem sLit2_enc : ∀ l H n i ls, sLit2.dec l H = some (i, ls) → l = renL (rho ls n) (sLit2.args i) ∧ givenHp H ls = renH (rho ls n) (sLit2.hp i) := by
  intro l H n i ls h
  simp only [sLit2] at h
  repeat' split at h
  all_goals first
    | (cases h; done)
    | (cases h; exact ⟨rfl, rfl⟩)
def sPtL : Spec where
  ι := Int
  dec l H := match l with
    | [.v (.int .i64 n)] => some (n, [])
    | _ => none
  args := fun n => [.v (.int .i64 n)]
  pre := fun n => [⟨0 ≤ n, inferInstance⟩, ⟨n ≤ 131072, inferInstance⟩]
  out := fun n => .leaf (.av (.ints .i64 (ptL n))) []
theorem sPtL_enc : ∀ l H n i ls, sPtL.dec l H = some (i, ls) → l = renL (rho ls n) (sPtL.args i) ∧ givenHp H ls = renH (rho ls n) (sPtL.hp i) := by
  intro l H n i ls h
  simp only [sPtL] at h
  repeat' split at h
  all_goals first
    | (cases h; done)
    | (cases h; exact ⟨rfl, rfl⟩)
def sPtV : Spec where
  ι := Int
  dec l H := match l with
    | [.v (.int .i64 n)] => some (n, [])
    | _ => none
  args := fun n => [.v (.int .i64 n)]
  out := fun n => .leaf (.tu [.av (.ints .i64 (ptV n)), .v (.int .i64 (ptE n))]) []
theorem sPtV_enc : ∀ l H n i ls, sPtV.dec l H = some (i, ls) → l = renL (rho ls n) (sPtV.args i) ∧ givenHp H ls = renH (rho ls n) (sPtV.hp i) := by
  intro l H n i ls h
  simp only [sPtV] at h
  repeat' split at h
  all_goals first
    | (cases h; done)
    | (cases h; exact ⟨rfl, rfl⟩)
def sDivd : Spec where
  ι := ByteArray × List Int
  dec l H := match l with
    | [.v (.string s), .av (.ints .i64 p)] => some ((s, p), [])
    | _ => none
  args := fun (s, p) => [.v (.string s), .av (.ints .i64 p)]
  pre := fun (s, p) => [⟨p.length = 4, inferInstance⟩]
  out := fun (s, p) => .leaf (.fn (.func 54) [] [.p 2000 0 0, .p 2001 0 0]) [(2000, .arr 36 (.ints .i64 p)), (2001, .cells 9 [.v (.string s)])]
theorem sDivd_enc : ∀ l H n i ls, sDivd.dec l H = some (i, ls) → l = renL (rho ls n) (sDivd.args i) ∧ givenHp H ls = renH (rho ls n) (sDivd.hp i) := by
  intro l H n i ls h
  simp only [sDivd] at h
  repeat' split at h
  all_goals first
    | (cases h; done)
    | (cases h; exact ⟨rfl, rfl⟩)
def sJoin : Spec where
  ι := List ByteArray
  dec l H := match l with
    | [.dat (.strs xs)] => some (xs, [])
    | _ => none
  args := fun xs => [.dat (.strs xs)]
  pre := fun xs => [⟨xs.length ≤ 4294967296, inferInstance⟩, ⟨(jn xs).size ≤ 4294967296, inferInstance⟩]
  out := fun xs => .leaf (.v (.string (jn xs))) []
theorem sJoin_enc : ∀ l H n i ls, sJoin.dec l H = some (i, ls) → l = renL (rho ls n) (sJoin.args i) ∧ givenHp H ls = renH (rho ls n) (sJoin.hp i) := by
  intro l H n i ls h
  simp only [sJoin] at h
  repeat' split at h
  all_goals first
    | (cases h; done)
    | (cases h; exact ⟨rfl, rfl⟩)
def sWrO : Spec where
  ι := List Int × ByteArray
  dec l H := match l with
    | [.dat (.ints .i64 l), .v (.string s)] => some ((l, s), [])
    | _ => none
  args := fun (l, s) => [.dat (.ints .i64 l), .v (.string s)]
  pre := fun (l, s) => [⟨l.length ≤ 4294967296, inferInstance⟩, ⟨s.size ≤ 40000, inferInstance⟩]
  out := fun (l, s) => .leaf (.tu [.v (.string (wrO l s)), .v (.int .i64 (txE l s))]) []
theorem sWrO_enc : ∀ l H n i ls, sWrO.dec l H = some (i, ls) → l = renL (rho ls n) (sWrO.args i) ∧ givenHp H ls = renH (rho ls n) (sWrO.hp i) := by
  intro l H n i ls h
  simp only [sWrO] at h
  repeat' split at h
  all_goals first
    | (cases h; done)
    | (cases h; exact ⟨rfl, rfl⟩)
def sSzO : Spec where
  ι := List Int × ByteArray
  dec l H := match l with
    | [.dat (.ints .i64 l), .v (.string s)] => some ((l, s), [])
    | _ => none
  args := fun (l, s) => [.dat (.ints .i64 l), .v (.string s)]
  pre := fun (l, s) => [⟨l.length ≤ 4294967296, inferInstance⟩, ⟨s.size ≤ 40000, inferInstance⟩]
  out := fun (l, s) => .leaf (.tu [.v (.int .i64 (szO l s)), .v (.int .i64 (txE l s))]) []
theorem sSzO_enc : ∀ l H n i ls, sSzO.dec l H = some (i, ls) → l = renL (rho ls n) (sSzO.args i) ∧ givenHp H ls = renH (rho ls n) (sSzO.hp i) := by
  intro l H n i ls h
  simp only [sSzO] at h
  repeat' split at h
  all_goals first
    | (cases h; done)
    | (cases h; exact ⟨rfl, rfl⟩)
def sRdO : Spec where
  ι := List Int × ByteArray × Int
  dec l H := match l with
    | [.dat (.ints .i64 l), .v (.string b), .v (.int .i64 n)] => some ((l, b, n), [])
    | _ => none
  args := fun (l, b, n) => [.dat (.ints .i64 l), .v (.string b), .v (.int .i64 n)]
  pre := fun (l, b, n) => [⟨l.length ≤ 4294967296, inferInstance⟩, ⟨b.size ≤ 4294967296, inferInstance⟩]
  out := fun (l, b, n) => .leaf (.tu [.v (.string (rO l b n)), .v (.int .i64 (rE l b n))]) []
theorem sRdO_enc : ∀ l H n i ls, sRdO.dec l H = some (i, ls) → l = renL (rho ls n) (sRdO.args i) ∧ givenHp H ls = renH (rho ls n) (sRdO.hp i) := by
  intro l H n i ls h
  simp only [sRdO] at h
  repeat' split at h
  all_goals first
    | (cases h; done)
    | (cases h; exact ⟨rfl, rfl⟩)
def sW4 : Spec where
  ι := List Int × ByteArray
  dec l H := match l with
    | [.dat (.ints .i64 l), .v (.string s)] => some ((l, s), [])
    | _ => none
  args := fun (l, s) => [.dat (.ints .i64 l), .v (.string s)]
  pre := fun (l, s) => [⟨l.length ≤ 4294967296, inferInstance⟩, ⟨s.size ≤ 40000, inferInstance⟩]
  out := fun (l, s) => .leaf (.tu [.v (.string (w4O l s)), .v (.int .i64 (w4E l s))]) []
theorem sW4_enc : ∀ l H n i ls, sW4.dec l H = some (i, ls) → l = renL (rho ls n) (sW4.args i) ∧ givenHp H ls = renH (rho ls n) (sW4.hp i) := by
  intro l H n i ls h
  simp only [sW4] at h
  repeat' split at h
  all_goals first
    | (cases h; done)
    | (cases h; exact ⟨rfl, rfl⟩)
def sLight : Spec where
  ι := List Int × ByteArray
  dec l H := match l with
    | [.dat (.ints .i64 l), .v (.string s)] => some ((l, s), [])
    | _ => none
  args := fun (l, s) => [.dat (.ints .i64 l), .v (.string s)]
  out := fun (l, s) => .leaf (.v (.bool (litS l s))) []
theorem sLight_enc : ∀ l H n i ls, sLight.dec l H = some (i, ls) → l = renL (rho ls n) (sLight.args i) ∧ givenHp H ls = renH (rho ls n) (sLight.hp i) := by
  intro l H n i ls h
  simp only [sLight] at h
  repeat' split at h
  all_goals first
    | (cases h; done)
    | (cases h; exact ⟨rfl, rfl⟩)
def oFld2 (n : Int) : LoopInv := { ι := Nat, p := fun i => i ≤ 2, tm := fun i => [(0, .v (.int .u64 (lit2N n i))), (5, .o 5000), (7, .v (.int .i64 2)), (8, .v (.int .i64 (i : Nat)))], hp := fun i => [(5000, .row 5 (.ints .u8 (lit2P n i)))], μ := fun i => 2 - i }
def oRlit (n : Int) : LoopInv := { ι := Nat, p := fun i => i ≤ 2, tm := fun i => [(0, .v (.int .u64 (lit2N n i))), (1, .v (.int .i64 2)), (6, .v (.string (strOfNums (lit2P n i)))), (7, .v (.int .i64 (i : Nat)))], hp := fun _ => [], μ := fun i => 2 - i }
def oJoin (xs : List ByteArray) : LoopInv := { ι := Nat, p := fun i => i ≤ xs.length, tm := fun i => [(3, .v (.string (jn (xs.take i)))), (6, .dat (.strs xs)), (7, .v (.int .i64 xs.length)), (8, .v (.int .i64 (i : Nat)))], hp := fun _ => [], μ := fun i => xs.length - i }
def oDvI (l0 : Nat) (s : ByteArray) (p : List Int) : LoopInvI := { ι := Nat, p := fun i => i ≤ 4, tm := fun i => [(0, .v (.func (.yield l0) #[] #[])), (1, .p 0 0 0), (2, .p 1 0 0), (6, .av (.ints .i64 p)), (7, .v (.int .i64 (i : Nat)))], hp := fun i => [(0, .arr 36 (.ints .i64 p)), (1, .cells 9 [.v (.string (rsS s p i))])], μ := fun i => 4 - i, y := fun i => i }
def oDvF (l0 : Nat) (s : ByteArray) (p : List Int) : Nat → Option LoopFamI := fun k => cond (Nat.beq k 0) (some ⟨Unit, fun _ => oDvI l0 s p⟩) none
def rW4 (l : List Int) (s : ByteArray) : RngInv := { f := 54, cap := [.p 800032 0 0, .p 800033 0 0], hpI := [(800032, .arr 36 (.ints .i64 (ptL s.size))), (800033, .cells 9 [.v (.string s)])], xs := itDv s (ptL s.size), it := fun i => [.int .i64 (i : Nat), .string (pcS s (ptL s.size) i)], tm := [(2, .p 1000 0 0), (4, .p 1001 0 0), (5, .p 1002 0 0), (7, .p 1003 0 0), (8, .p 1004 0 0)], hp := fun i => [(1000, .cells 22 [.dat (.ints .i64 l)]), (1001, .cells 9 [.v (.string ByteArray.empty)]), (1002, .cells 26 [.v (.int .i64 0)]), (1003, .cells 60 [.o 5005]), (1004, .cells 60 [.o 5006]), (5005, .row 9 (.strs (heads4 l s i))), (5006, .row 9 (.strs (strs4 l s i)))] }
def oW4C (l : List Int) (s : ByteArray) : LoopInv := { ι := Unit, p := fun _ => True, tm := fun _ => [(1, .v (.string s)), (2, .p 5000 0 0), (4, .p 5001 0 0), (5, .p 5002 0 0), (6, .v (.int .i64 (w4E l s)))], hp := fun _ => [(5000, .cells 22 [.dat (.ints .i64 l)]), (5001, .cells 9 [.v (.string ByteArray.empty)]), (5002, .cells 26 [.v (.int .i64 0)])], μ := fun _ => 0 }
def oW4 (l : List Int) (s : ByteArray) : Nat → Option LoopFam := fun k => cond (Nat.beq k 0) (some (.rng Nat fun _ => rW4 l s)) (cond (Nat.beq k 1004) (some (.one (oW4C l s))) none)
def oRw4 (l : List Int) (s : ByteArray) : LoopInv := { ι := Nat, p := fun i => i ≤ 4 ∧ w4E l s = 0, tm := fun i => [(0, .dat (.ints .i64 l)), (1, .v (.string (rsS s (ptL s.size) i))), (7, .p 5000 0 0), (8, .v (.string (jn (heads4 l s i)))), (9, .v (.string (jn (strs4 l s i)))), (10, .v (.int .i64 (i : Nat)))], hp := fun _ => [(5000, .arr 36 (.ints .i64 (ptL s.size)))], μ := fun i => 4 - i }
def GUd : List (Nat × Ctr) := (60, sFld2.ctr) :: (43, sLit2.ctr) :: (34, sPtL.ctr) :: (23, sPtV.ctr) :: (35, sDivd.ctr) :: (42, sJoin.ctr) :: (16, sWrO.ctr) :: (20, sSzO.ctr) :: (11, sRdO.ctr) :: (17, sWrO.ctr) :: GUc
def GUe : List (Nat × Ctr) := (41, sLit2.ctr) :: (22, sPtV.ctr) :: (21, sSzO.ctr) :: (19, sW4.ctr) :: GUd
def GUf : List (Nat × Ctr) := (18, sW4.ctr) :: (10, sOwnL.ctr) :: (15, sEqL.ctr) :: (8, sLight.ctr) :: GUe
end Go.Proofs.Ytmdbliacaeokaaa
namespace Go.Proofs.Ytmdbliacaeokaaa
open Go Go.RowKit
set_option linter.unusedVariables false
set_option maxRecDepth 100000
def fldJ_t (n : Int) : Prop :=
 (0 : Int) ≤ (0 : Int) ∧
 (0 : Int) ≤ (8 : Int) ∧
 (↑((1 : Nat)) : Int) * (8 : Int) ≤ (281474976710656 : Int) ∧
 (8 : Int) ≤ (9223372036854775807 : Int) ∧
 (∃ (x0 : Nat), Nat.le x0 (2 : Nat) ∧ n = lit2N n x0 ∧ (2 : Int) = (2 : Int) ∧ (0 : Int) = (↑x0 : Int) ∧ List.replicate (Int.toNat (0 : Int)) (0 : Int) = lit2P n x0) ∧
 ∀ (x1 : Nat),
 Nat.le x1 (2 : Nat) →
 (decide ((↑x1 : Int) < (2 : Int)) = true →
 (List.length (lit2P n x1) + (1 : Nat)) * (1 : Nat) ≤ (140737488355328 : Nat) ∧
 (0 : Int) ≤ (8 : Int) ∧
 ∃ (y2 : Nat),
 Nat.le y2 (2 : Nat) ∧
 Nat.sub (2 : Nat) y2 < Nat.sub (2 : Nat) x1 ∧
 Int.fdiv (lit2N n x1) ((2 : Int) ^ min (Int.toNat (8 : Int)) (IntKind.bits IntKind.u64)) = lit2N n y2 ∧
 (2 : Int) = (2 : Int) ∧ IntKind.wrap IntKind.i64 ((↑x1 : Int) + (1 : Int)) = (↑y2 : Int) ∧ lit2P n x1 ++ [IntKind.wrap IntKind.u8 (lit2N n x1)] = lit2P n y2) ∧
 (decide ((↑x1 : Int) < (2 : Int)) = false → strOfNums (lit2P n x1) = lit2 n)
theorem fldJ_e (n : Int) : fldJ_t n = vcG Try.prog (Gof []) (one (oFld2 n)) Try.f60 [.v (.int .u64 n), .v (.int .i64 2)] [] (.leaf ((.v (.string (lit2 n)))) ([])) := by kernel_rfl
def rlitJ_t (n : Int) : Prop :=
 (decide ((2 : Int) < (1 : Int)) = true → ByteArray.empty = lit2 n ∧ (2 : Int) = (0 : Int)) ∧
 (decide ((2 : Int) < (1 : Int)) = false →
 (decide ((2 : Int) > (8 : Int)) = true → ByteArray.empty = lit2 n ∧ (2 : Int) = (0 : Int)) ∧
 (decide ((2 : Int) > (8 : Int)) = false →
 (∃ (x0 : Nat), Nat.le x0 (2 : Nat) ∧ n = lit2N n x0 ∧ (2 : Int) = (2 : Int) ∧ ByteArray.empty = strOfNums (lit2P n x0) ∧ (0 : Int) = (↑x0 : Int)) ∧
 ∀ (x1 : Nat),
 Nat.le x1 (2 : Nat) →
 (decide ((↑x1 : Int) < (2 : Int)) = true →
 (256 : Int) ≠ (0 : Int) ∧
 ByteArray.size (strOfNums (lit2P n x1)) + ByteArray.size (strOfNums [IntKind.wrap IntKind.u8 (Int.tmod (lit2N n x1) (256 : Int))]) ≤ (9223372036854775807 : Nat) ∧
 (256 : Int) ≠ (0 : Int) ∧
 ∃ (y2 : Nat),
 Nat.le y2 (2 : Nat) ∧
 Nat.sub (2 : Nat) y2 < Nat.sub (2 : Nat) x1 ∧
 IntKind.wrap IntKind.u64 (Int.tdiv (lit2N n x1) (256 : Int)) = lit2N n y2 ∧
 (2 : Int) = (2 : Int) ∧
 strOfNums (lit2P n x1) ++ strOfNums [IntKind.wrap IntKind.u8 (Int.tmod (lit2N n x1) (256 : Int))] = strOfNums (lit2P n y2) ∧
 IntKind.wrap IntKind.i64 ((↑x1 : Int) + (1 : Int)) = (↑y2 : Int)) ∧
 (decide ((↑x1 : Int) < (2 : Int)) = false →
 (decide (lit2N n x1 > (0 : Int)) = true → ByteArray.empty = lit2 n ∧ (2 : Int) = (0 : Int)) ∧
 (decide (lit2N n x1 > (0 : Int)) = false → strOfNums (lit2P n x1) = lit2 n ∧ (0 : Int) = (0 : Int)))))
theorem rlitJ_e (n : Int) : rlitJ_t n = vcG Try.prog (Gof []) (one (oRlit n)) Try.f43 [.v (.int .u64 n), .v (.int .i64 2)] [] (.leaf ((.tu [.v (.string (lit2 n)), .v (.int .i64 0)])) ([])) := by kernel_rfl
def ptlJ_t (n : Int) : Prop :=
 (4 : Int) ≠ (0 : Int) ∧
 List.length
 [IntKind.wrap IntKind.i64 (Int.tdiv (IntKind.wrap IntKind.i64 (n + (3 : Int))) (4 : Int)), IntKind.wrap IntKind.i64 (Int.tdiv (IntKind.wrap IntKind.i64 (n + (3 : Int))) (4 : Int)),
 IntKind.wrap IntKind.i64 (Int.tdiv (IntKind.wrap IntKind.i64 (n + (3 : Int))) (4 : Int)),
 IntKind.wrap IntKind.i64 (n - IntKind.wrap IntKind.i64 ((3 : Int) * IntKind.wrap IntKind.i64 (Int.tdiv (IntKind.wrap IntKind.i64 (n + (3 : Int))) (4 : Int))))] =
 List.length (List.replicate (4 : Nat) (0 : Int)) ∧
 (4 : Nat) =
 Nat.succ
 (Nat.add
 (List.length
 [IntKind.wrap IntKind.i64 (Int.tdiv (IntKind.wrap IntKind.i64 (n + (3 : Int))) (4 : Int)), IntKind.wrap IntKind.i64 (Int.tdiv (IntKind.wrap IntKind.i64 (n + (3 : Int))) (4 : Int)),
 IntKind.wrap IntKind.i64 (n - IntKind.wrap IntKind.i64 ((3 : Int) * IntKind.wrap IntKind.i64 (Int.tdiv (IntKind.wrap IntKind.i64 (n + (3 : Int))) (4 : Int))))])
 ((0 : Nat))) ∧
 [IntKind.wrap IntKind.i64 (Int.tdiv (IntKind.wrap IntKind.i64 (n + (3 : Int))) (4 : Int)), IntKind.wrap IntKind.i64 (Int.tdiv (IntKind.wrap IntKind.i64 (n + (3 : Int))) (4 : Int)),
 IntKind.wrap IntKind.i64 (Int.tdiv (IntKind.wrap IntKind.i64 (n + (3 : Int))) (4 : Int)),
 IntKind.wrap IntKind.i64 (n - IntKind.wrap IntKind.i64 ((3 : Int) * IntKind.wrap IntKind.i64 (Int.tdiv (IntKind.wrap IntKind.i64 (n + (3 : Int))) (4 : Int))))] =
 ptL n
theorem ptlJ_e (n : Int) : ptlJ_t n = vcG Try.prog (Gof []) (fun _ => none) Try.f34 [.v (.int .i64 n)] [] (.leaf ((.av (.ints .i64 (ptL n)))) ([])) := by kernel_rfl
def rptvJ_t (n : Int) : Prop :=
 (decide (n < (0 : Int)) = true →
 List.length [(0 : Int), (0 : Int), (0 : Int), (0 : Int)] = List.length (List.replicate (4 : Nat) (0 : Int)) ∧
 (4 : Nat) = (4 : Nat) ∧ [(0 : Int), (0 : Int), (0 : Int), (0 : Int)] = ptV n ∧ (2 : Int) = ptE n) ∧
 (decide (n < (0 : Int)) = false →
 (decide (n > (131072 : Int)) = true →
 List.length [(0 : Int), (0 : Int), (0 : Int), (0 : Int)] = List.length (List.replicate (4 : Nat) (0 : Int)) ∧
 (4 : Nat) = (4 : Nat) ∧ [(0 : Int), (0 : Int), (0 : Int), (0 : Int)] = ptV n ∧ (2 : Int) = ptE n) ∧
 (decide (n > (131072 : Int)) = false →
 (decide (n < (6 : Int)) = true →
 List.length [(0 : Int), (0 : Int), (0 : Int), (0 : Int)] = List.length (List.replicate (4 : Nat) (0 : Int)) ∧
 (4 : Nat) = (4 : Nat) ∧ [(0 : Int), (0 : Int), (0 : Int), (0 : Int)] = ptV n ∧ (20 : Int) = ptE n) ∧
 (decide (n < (6 : Int)) = false →
 (4 : Int) ≠ (0 : Int) ∧
 List.length
 [IntKind.wrap IntKind.i64 (Int.tdiv (IntKind.wrap IntKind.i64 (n + (3 : Int))) (4 : Int)), IntKind.wrap IntKind.i64 (Int.tdiv (IntKind.wrap IntKind.i64 (n + (3 : Int))) (4 : Int)),
 IntKind.wrap IntKind.i64 (Int.tdiv (IntKind.wrap IntKind.i64 (n + (3 : Int))) (4 : Int)),
 IntKind.wrap IntKind.i64 (n - IntKind.wrap IntKind.i64 ((3 : Int) * IntKind.wrap IntKind.i64 (Int.tdiv (IntKind.wrap IntKind.i64 (n + (3 : Int))) (4 : Int))))] =
 List.length (List.replicate (4 : Nat) (0 : Int)) ∧
 (4 : Nat) =
 Nat.succ
 (Nat.add
 (List.length
 [IntKind.wrap IntKind.i64 (Int.tdiv (IntKind.wrap IntKind.i64 (n + (3 : Int))) (4 : Int)),
 IntKind.wrap IntKind.i64 (Int.tdiv (IntKind.wrap IntKind.i64 (n + (3 : Int))) (4 : Int)),
 IntKind.wrap IntKind.i64 (n - IntKind.wrap IntKind.i64 ((3 : Int) * IntKind.wrap IntKind.i64 (Int.tdiv (IntKind.wrap IntKind.i64 (n + (3 : Int))) (4 : Int))))])
 ((0 : Nat))) ∧
 [IntKind.wrap IntKind.i64 (Int.tdiv (IntKind.wrap IntKind.i64 (n + (3 : Int))) (4 : Int)), IntKind.wrap IntKind.i64 (Int.tdiv (IntKind.wrap IntKind.i64 (n + (3 : Int))) (4 : Int)),
 IntKind.wrap IntKind.i64 (Int.tdiv (IntKind.wrap IntKind.i64 (n + (3 : Int))) (4 : Int)),
 IntKind.wrap IntKind.i64 (n - IntKind.wrap IntKind.i64 ((3 : Int) * IntKind.wrap IntKind.i64 (Int.tdiv (IntKind.wrap IntKind.i64 (n + (3 : Int))) (4 : Int))))] =
 ptV n ∧
 (0 : Int) = ptE n)))
theorem rptvJ_e (n : Int) : rptvJ_t n = vcG Try.prog (Gof []) (fun _ => none) Try.f23 [.v (.int .i64 n)] [] (.leaf ((.tu [.av (.ints .i64 (ptV n)), .v (.int .i64 (ptE n))])) ([])) := by kernel_rfl
def divJ_t (s : ByteArray) (p : List Int) : Prop :=
 p = p ∧ s = s
theorem divJ_e (s : ByteArray) (p : List Int) : divJ_t s p = vcG Try.prog (Gof []) (fun _ => none) Try.f35 [.v (.string s), .av (.ints .i64 p)] [] (.leaf ((.fn (.func 54) [] [.p 2000 0 0, .p 2001 0 0])) ([(2000, .arr 36 (.ints .i64 p)), (2001, .cells 9 [.v (.string s)])])) := by kernel_rfl
def joinJ_t (xs : List ByteArray) : Prop :=
 (∃ (x0 : Nat), Nat.le x0 (List.length xs) ∧ ByteArray.empty = jn (List.take x0 xs) ∧ xs = xs ∧ (↑(List.length xs) : Int) = (↑(List.length xs) : Int) ∧ (0 : Int) = (↑x0 : Int)) ∧
 ∀ (x1 : Nat),
 Nat.le x1 (List.length xs) →
 (decide ((↑x1 : Int) < (↑(List.length xs) : Int)) = true →
 (0 : Int) ≤ (↑x1 : Int) ∧
 (↑x1 : Int) < (↑(List.length xs) : Int) ∧
 ByteArray.size (jn (List.take x1 xs)) + ByteArray.size (List.getD xs (Int.toNat (↑x1 : Int)) ByteArray.empty) ≤ (9223372036854775807 : Nat) ∧
 ∃ (y2 : Nat),
 Nat.le y2 (List.length xs) ∧
 Nat.sub (List.length xs) y2 < Nat.sub (List.length xs) x1 ∧
 jn (List.take x1 xs) ++ List.getD xs (Int.toNat (↑x1 : Int)) ByteArray.empty = jn (List.take y2 xs) ∧
 xs = xs ∧ (↑(List.length xs) : Int) = (↑(List.length xs) : Int) ∧ IntKind.wrap IntKind.i64 ((↑x1 : Int) + (1 : Int)) = (↑y2 : Int)) ∧
 (decide ((↑x1 : Int) < (↑(List.length xs) : Int)) = false → jn (List.take x1 xs) = jn xs)
theorem joinJ_e (xs : List ByteArray) : joinJ_t xs = vcG Try.prog (Gof []) (one (oJoin xs)) Try.f42 [.dat (.strs xs)] [] (.leaf ((.v (.string (jn xs)))) ([])) := by kernel_rfl
def lightJ_t (l : List Int) (s : ByteArray) : Prop :=
 (decide ((↑(List.length l) : Int) ≤ (260 : Int)) = true → decide ((↑(ByteArray.size s) : Int) ≤ (1200 : Int)) = litS l s) ∧ (decide ((↑(List.length l) : Int) ≤ (260 : Int)) = false → false = litS l s)
theorem lightJ_e (l : List Int) (s : ByteArray) : lightJ_t l s = vcG Try.prog (Gof []) (fun _ => none) Try.f8 [.dat (.ints .i64 l), .v (.string s)] [] (.leaf ((.v (.bool (litS l s)))) ([])) := by kernel_rfl
def wroJ_t (l : List Int) (s : ByteArray) : Prop :=
 List.length l ≤ (4294967296 : Nat) ∧
 ByteArray.size s ≤ (4294967296 : Nat) ∧
 ((txE l s != (0 : Int)) = true → ByteArray.empty = wrO l s ∧ txE l s = txE l s) ∧
 ((txE l s != (0 : Int)) = false → chk l = (0 : Int) ∧ txE l s = (0 : Int) ∧ ByteArray.size s ≤ (100000 : Nat) ∧ wrH l s = wrO l s ∧ (0 : Int) = txE l s)
theorem wroJ_e (l : List Int) (s : ByteArray) : wroJ_t l s = vcG Try.prog (Gof GUc) (fun _ => none) Try.f16 [.dat (.ints .i64 l), .v (.string s)] [] (.leaf ((.tu [.v (.string (wrO l s)), .v (.int .i64 (txE l s))])) ([])) := by kernel_rfl
def szoJ_t (l : List Int) (s : ByteArray) : Prop :=
 List.length l ≤ (4294967296 : Nat) ∧
 ByteArray.size s ≤ (4294967296 : Nat) ∧
 ((txE l s != (0 : Int)) = true → (0 : Int) = szO l s ∧ txE l s = txE l s) ∧
 ((txE l s != (0 : Int)) = false → chk l = (0 : Int) ∧ txE l s = (0 : Int) ∧ ByteArray.size s ≤ (100000 : Nat) ∧ (↑(ByteArray.size (wrH l s)) : Int) = szO l s ∧ (0 : Int) = txE l s)
theorem szoJ_e (l : List Int) (s : ByteArray) : szoJ_t l s = vcG Try.prog (Gof GUc) (fun _ => none) Try.f20 [.dat (.ints .i64 l), .v (.string s)] [] (.leaf ((.tu [.v (.int .i64 (szO l s)), .v (.int .i64 (txE l s))])) ([])) := by kernel_rfl
def rdoJ_t (l : List Int) (b : ByteArray) (n : Int) : Prop :=
 List.length l ≤ (4294967296 : Nat) ∧
 ((nuE l n != (0 : Int)) = true → ByteArray.empty = rO l b n ∧ nuE l n = rE l b n) ∧
 ((nuE l n != (0 : Int)) = false → chk l = (0 : Int) ∧ ByteArray.size b ≤ (4294967296 : Nat) ∧ (0 : Int) ≤ n ∧ n ≤ (131072 : Int) ∧ rdS l b n = rO l b n ∧ rdE l b n = rE l b n)
theorem rdoJ_e (l : List Int) (b : ByteArray) (n : Int) : rdoJ_t l b n = vcG Try.prog (Gof GUc) (fun _ => none) Try.f11 [.dat (.ints .i64 l), .v (.string b), .v (.int .i64 n)] [] (.leaf ((.tu [.v (.string (rO l b n)), .v (.int .i64 (rE l b n))])) ([])) := by kernel_rfl
def rwroJ_t (l : List Int) (s : ByteArray) : Prop :=
 List.length l ≤ (4294967296 : Nat) ∧
 ByteArray.size s ≤ (4294967296 : Nat) ∧
 ((txE l s != (0 : Int)) = true → ByteArray.empty = wrO l s ∧ txE l s = txE l s) ∧
 ((txE l s != (0 : Int)) = false → chk l = (0 : Int) ∧ txE l s = (0 : Int) ∧ ByteArray.size s ≤ (100000 : Nat) ∧ wrH l s = wrO l s ∧ (0 : Int) = txE l s)
theorem rwroJ_e (l : List Int) (s : ByteArray) : rwroJ_t l s = vcG Try.prog (Gof GUc) (fun _ => none) Try.f17 [.dat (.ints .i64 l), .v (.string s)] [] (.leaf ((.tu [.v (.string (wrO l s)), .v (.int .i64 (txE l s))])) ([])) := by kernel_rfl
def litJ_t (n : Int) : Prop :=
 (decide ((2 : Int) < (1 : Int)) = true → ByteArray.empty = lit2 n ∧ (2 : Int) = (0 : Int)) ∧
 (decide ((2 : Int) < (1 : Int)) = false →
 (decide ((2 : Int) > (8 : Int)) = true → ByteArray.empty = lit2 n ∧ (2 : Int) = (0 : Int)) ∧
 (decide ((2 : Int) > (8 : Int)) = false →
 (decide ((2 : Int) < (8 : Int)) = true →
 (0 : Int) ≤ IntKind.wrap IntKind.i64 ((8 : Int) * (2 : Int)) ∧
 ((Int.fdiv n ((2 : Int) ^ min (Int.toNat (IntKind.wrap IntKind.i64 ((8 : Int) * (2 : Int)))) (IntKind.bits IntKind.u64)) != (0 : Int)) = true →
 ByteArray.empty = lit2 n ∧ (2 : Int) = (0 : Int)) ∧
 ((Int.fdiv n ((2 : Int) ^ min (Int.toNat (IntKind.wrap IntKind.i64 ((8 : Int) * (2 : Int)))) (IntKind.bits IntKind.u64)) != (0 : Int)) = false →
 (0 : Int) ≤ n ∧ n < (65536 : Int) ∧ lit2 n = lit2 n ∧ (0 : Int) = (0 : Int))) ∧
 (decide ((2 : Int) < (8 : Int)) = false → (0 : Int) ≤ n ∧ n < (65536 : Int) ∧ lit2 n = lit2 n ∧ (0 : Int) = (0 : Int))))
theorem litJ_e (n : Int) : litJ_t n = vcG Try.prog (Gof GUd) (fun _ => none) Try.f41 [.v (.int .u64 n), .v (.int .i64 2)] [] (.leaf ((.tu [.v (.string (lit2 n)), .v (.int .i64 0)])) ([])) := by kernel_rfl
def ptvJ_t (n : Int) : Prop :=
 (decide (n < (0 : Int)) = true →
 List.length [(0 : Int), (0 : Int), (0 : Int), (0 : Int)] = List.length (List.replicate (4 : Nat) (0 : Int)) ∧
 (4 : Nat) = (4 : Nat) ∧ [(0 : Int), (0 : Int), (0 : Int), (0 : Int)] = ptV n ∧ (2 : Int) = ptE n) ∧
 (decide (n < (0 : Int)) = false →
 (decide (n > (131072 : Int)) = true →
 List.length [(0 : Int), (0 : Int), (0 : Int), (0 : Int)] = List.length (List.replicate (4 : Nat) (0 : Int)) ∧
 (4 : Nat) = (4 : Nat) ∧ [(0 : Int), (0 : Int), (0 : Int), (0 : Int)] = ptV n ∧ (2 : Int) = ptE n) ∧
 (decide (n > (131072 : Int)) = false →
 (decide (n < (6 : Int)) = true →
 List.length [(0 : Int), (0 : Int), (0 : Int), (0 : Int)] = List.length (List.replicate (4 : Nat) (0 : Int)) ∧
 (4 : Nat) = (4 : Nat) ∧ [(0 : Int), (0 : Int), (0 : Int), (0 : Int)] = ptV n ∧ (20 : Int) = ptE n) ∧
 (decide (n < (6 : Int)) = false →
 (0 : Int) ≤ n ∧
 n ≤ (131072 : Int) ∧
 List.length (ptL n) = (4 : Nat) ∧
 List.length (ptL n) = List.length (List.replicate (4 : Nat) (0 : Int)) ∧
 (4 : Nat) = Nat.succ (Nat.add (List.length [ptK n, ptK n, n - (3 : Int) * ptK n]) ((0 : Nat))) ∧ ptL n = ptV n ∧ (0 : Int) = ptE n)))
theorem ptvJ_e (n : Int) : ptvJ_t n = vcG Try.prog (Gof GUd) (fun _ => none) Try.f22 [.v (.int .i64 n)] [] (.leaf ((.tu [.av (.ints .i64 (ptV n)), .v (.int .i64 (ptE n))])) ([])) := by kernel_rfl
def rszoJ_t (l : List Int) (s : ByteArray) : Prop :=
 List.length l ≤ (4294967296 : Nat) ∧ ByteArray.size s ≤ (40000 : Nat) ∧ (↑(ByteArray.size (wrO l s)) : Int) = szO l s ∧ txE l s = txE l s
theorem rszoJ_e (l : List Int) (s : ByteArray) : rszoJ_t l s = vcG Try.prog (Gof GUd) (fun _ => none) Try.f21 [.dat (.ints .i64 l), .v (.string s)] [] (.leaf ((.tu [.v (.int .i64 (szO l s)), .v (.int .i64 (txE l s))])) ([])) := by kernel_rfl
def rw4J_t (l : List Int) (s : ByteArray) : Prop :=
 List.length l ≤ (4294967296 : Nat) ∧
 ByteArray.size s ≤ (4294967296 : Nat) ∧
 ((txE l s != (0 : Int)) = true → ByteArray.empty = w4O l s ∧ txE l s = w4E l s) ∧
 ((txE l s != (0 : Int)) = false →
 List.length (ptV (↑(ByteArray.size s) : Int)) = (4 : Nat) ∧
 List.length (ptV (↑(ByteArray.size s) : Int)) = List.length (List.replicate (4 : Nat) (0 : Int)) ∧
 ((ptE (↑(ByteArray.size s) : Int) != (0 : Int)) = true → ByteArray.empty = w4O l s ∧ ptE (↑(ByteArray.size s) : Int) = w4E l s) ∧
 ((ptE (↑(ByteArray.size s) : Int) != (0 : Int)) = false →
 (∃ (x0 : Nat),
 (x0 ≤ (4 : Nat) ∧ w4E l s = (0 : Int)) ∧
 l = l ∧
 s = rsS s (ptL (↑(ByteArray.size s) : Int)) x0 ∧
 ByteArray.empty = jn (heads4 l s x0) ∧ ByteArray.empty = jn (strs4 l s x0) ∧ (0 : Int) = (↑x0 : Int) ∧ ptV (↑(ByteArray.size s) : Int) = ptL (↑(ByteArray.size s) : Int)) ∧
 ∀ (x1 : Nat),
 x1 ≤ (4 : Nat) ∧ w4E l s = (0 : Int) →
 (decide ((↑x1 : Int) < (4 : Int)) = true →
 (0 : Int) ≤ (↑x1 : Int) ∧
 (↑x1 : Int) < (↑(4 : Nat) : Int) ∧
 Int.toNat (↑x1 : Int) <
 Nat.succ
 (Nat.add (List.length [ptK (↑(ByteArray.size s) : Int), ptK (↑(ByteArray.size s) : Int), (↑(ByteArray.size s) : Int) - (3 : Int) * ptK (↑(ByteArray.size s) : Int)])
 ((0 : Nat))) ∧
 (0 : Int) ≤ (0 : Int) ∧
 (0 : Int) ≤ List.getD (ptL (↑(ByteArray.size s) : Int)) (Int.toNat (↑x1 : Int)) (0 : Int) ∧
 List.getD (ptL (↑(ByteArray.size s) : Int)) (Int.toNat (↑x1 : Int)) (0 : Int) ≤ (↑(ByteArray.size (rsS s (ptL (↑(ByteArray.size s) : Int)) x1)) : Int) ∧
 chk l = (0 : Int) ∧
 txE l
 (ByteArray.extract (rsS s (ptL (↑(ByteArray.size s) : Int)) x1) (Int.toNat (0 : Int))
 (Int.toNat (List.getD (ptL (↑(ByteArray.size s) : Int)) (Int.toNat (↑x1 : Int)) (0 : Int)))) =
 (0 : Int) ∧
 ByteArray.size
 (ByteArray.extract (rsS s (ptL (↑(ByteArray.size s) : Int)) x1) (Int.toNat (0 : Int))
 (Int.toNat (List.getD (ptL (↑(ByteArray.size s) : Int)) (Int.toNat (↑x1 : Int)) (0 : Int)))) ≤
 (100000 : Nat) ∧
 (0 : Int) ≤ (↑x1 : Int) ∧
 (↑x1 : Int) < (↑(4 : Nat) : Int) ∧
 Int.toNat (↑x1 : Int) <
 Nat.succ
 (Nat.add
 (List.length
 [ptK (↑(ByteArray.size s) : Int), ptK (↑(ByteArray.size s) : Int), (↑(ByteArray.size s) : Int) - (3 : Int) * ptK (↑(ByteArray.size s) : Int)])
 ((0 : Nat))) ∧
 (0 : Int) ≤ List.getD (ptL (↑(ByteArray.size s) : Int)) (Int.toNat (↑x1 : Int)) (0 : Int) ∧
 List.getD (ptL (↑(ByteArray.size s) : Int)) (Int.toNat (↑x1 : Int)) (0 : Int) ≤
 (↑(ByteArray.size (rsS s (ptL (↑(ByteArray.size s) : Int)) x1)) : Int) ∧
 (↑(ByteArray.size (rsS s (ptL (↑(ByteArray.size s) : Int)) x1)) : Int) ≤ (↑(ByteArray.size (rsS s (ptL (↑(ByteArray.size s) : Int)) x1)) : Int) ∧
 (decide ((↑x1 : Int) < (3 : Int)) = true →
 (decide
 ((↑(ByteArray.size
 (wrH l
 (ByteArray.extract (rsS s (ptL (↑(ByteArray.size s) : Int)) x1) (Int.toNat (0 : Int))
 (Int.toNat (List.getD (ptL (↑(ByteArray.size s) : Int)) (Int.toNat (↑x1 : Int)) (0 : Int)))))) :
 Int) >
 (65535 : Int)) =
 true →
 ByteArray.empty = w4O l s ∧ (4 : Int) = w4E l s) ∧
 (decide
 ((↑(ByteArray.size
 (wrH l
 (ByteArray.extract (rsS s (ptL (↑(ByteArray.size s) : Int)) x1) (Int.toNat (0 : Int))
 (Int.toNat (List.getD (ptL (↑(ByteArray.size s) : Int)) (Int.toNat (↑x1 : Int)) (0 : Int)))))) :
 Int) >
 (65535 : Int)) =
 false →
 (0 : Int) ≤
 IntKind.wrap IntKind.u64
 (↑(ByteArray.size
 (wrH l
 (ByteArray.extract (rsS s (ptL (↑(ByteArray.size s) : Int)) x1) (Int.toNat (0 : Int))
 (Int.toNat (List.getD (ptL (↑(ByteArray.size s) : Int)) (Int.toNat (↑x1 : Int)) (0 : Int)))))) :
 Int) ∧
 IntKind.wrap IntKind.u64
 (↑(ByteArray.size
 (wrH l
 (ByteArray.extract (rsS s (ptL (↑(ByteArray.size s) : Int)) x1) (Int.toNat (0 : Int))
 (Int.toNat (List.getD (ptL (↑(ByteArray.size s) : Int)) (Int.toNat (↑x1 : Int)) (0 : Int)))))) :
 Int) <
 (65536 : Int) ∧
 ByteArray.size (jn (heads4 l s x1)) +
 ByteArray.size
 (lit2
 (IntKind.wrap IntKind.u64
 (↑(ByteArray.size
 (wrH l
 (ByteArray.extract (rsS s (ptL (↑(ByteArray.size s) : Int)) x1) (Int.toNat (0 : Int))
 (Int.toNat (List.getD (ptL (↑(ByteArray.size s) : Int)) (Int.toNat (↑x1 : Int)) (0 : Int)))))) :
 Int))) ≤
 (9223372036854775807 : Nat) ∧
 ByteArray.size (jn (strs4 l s x1)) +
 ByteArray.size
 (wrH l
 (ByteArray.extract (rsS s (ptL (↑(ByteArray.size s) : Int)) x1) (Int.toNat (0 : Int))
 (Int.toNat (List.getD (ptL (↑(ByteArray.size s) : Int)) (Int.toNat (↑x1 : Int)) (0 : Int))))) ≤
 (9223372036854775807 : Nat) ∧
 ∃ (y2 : Nat),
 (y2 ≤ (4 : Nat) ∧ w4E l s = (0 : Int)) ∧
 Nat.sub (4 : Nat) y2 < Nat.sub (4 : Nat) x1 ∧
 l = l ∧
 ByteArray.extract (rsS s (ptL (↑(ByteArray.size s) : Int)) x1)
 (Int.toNat (List.getD (ptL (↑(ByteArray.size s) : Int)) (Int.toNat (↑x1 : Int)) (0 : Int)))
 (Int.toNat (↑(ByteArray.size (rsS s (ptL (↑(ByteArray.size s) : Int)) x1)) : Int)) =
 rsS s (ptL (↑(ByteArray.size s) : Int)) y2 ∧
 jn (heads4 l s x1) ++
 lit2
 (IntKind.wrap IntKind.u64
 (↑(ByteArray.size
 (wrH l
 (ByteArray.extract (rsS s (ptL (↑(ByteArray.size s) : Int)) x1) (Int.toNat (0 : Int))
 (Int.toNat (List.getD (ptL (↑(ByteArray.size s) : Int)) (Int.toNat (↑x1 : Int)) (0 : Int)))))) :
 Int)) =
 jn (heads4 l s y2) ∧
 jn (strs4 l s x1) ++
 wrH l
 (ByteArray.extract (rsS s (ptL (↑(ByteArray.size s) : Int)) x1) (Int.toNat (0 : Int))
 (Int.toNat (List.getD (ptL (↑(ByteArray.size s) : Int)) (Int.toNat (↑x1 : Int)) (0 : Int)))) =
 jn (strs4 l s y2) ∧
 IntKind.wrap IntKind.i64 ((↑x1 : Int) + (1 : Int)) = (↑y2 : Int) ∧
 ptL (↑(ByteArray.size s) : Int) = ptL (↑(ByteArray.size s) : Int))) ∧
 (decide ((↑x1 : Int) < (3 : Int)) = false →
 ByteArray.size (jn (strs4 l s x1)) +
 ByteArray.size
 (wrH l
 (ByteArray.extract (rsS s (ptL (↑(ByteArray.size s) : Int)) x1) (Int.toNat (0 : Int))
 (Int.toNat (List.getD (ptL (↑(ByteArray.size s) : Int)) (Int.toNat (↑x1 : Int)) (0 : Int))))) ≤
 (9223372036854775807 : Nat) ∧
 ∃ (y3 : Nat),
 (y3 ≤ (4 : Nat) ∧ w4E l s = (0 : Int)) ∧
 Nat.sub (4 : Nat) y3 < Nat.sub (4 : Nat) x1 ∧
 l = l ∧
 ByteArray.extract (rsS s (ptL (↑(ByteArray.size s) : Int)) x1)
 (Int.toNat (List.getD (ptL (↑(ByteArray.size s) : Int)) (Int.toNat (↑x1 : Int)) (0 : Int)))
 (Int.toNat (↑(ByteArray.size (rsS s (ptL (↑(ByteArray.size s) : Int)) x1)) : Int)) =
 rsS s (ptL (↑(ByteArray.size s) : Int)) y3 ∧
 jn (heads4 l s x1) = jn (heads4 l s y3) ∧
 jn (strs4 l s x1) ++
 wrH l
 (ByteArray.extract (rsS s (ptL (↑(ByteArray.size s) : Int)) x1) (Int.toNat (0 : Int))
 (Int.toNat (List.getD (ptL (↑(ByteArray.size s) : Int)) (Int.toNat (↑x1 : Int)) (0 : Int)))) =
 jn (strs4 l s y3) ∧
 IntKind.wrap IntKind.i64 ((↑x1 : Int) + (1 : Int)) = (↑y3 : Int) ∧
 ptL (↑(ByteArray.size s) : Int) = ptL (↑(ByteArray.size s) : Int))) ∧
 (decide ((↑x1 : Int) < (4 : Int)) = false →
 ByteArray.size (jn (heads4 l s x1)) + ByteArray.size (jn (strs4 l s x1)) ≤ (9223372036854775807 : Nat) ∧
 jn (heads4 l s x1) ++ jn (strs4 l s x1) = w4O l s ∧ (0 : Int) = w4E l s)))
theorem rw4J_e (l : List Int) (s : ByteArray) : rw4J_t l s = vcG Try.prog (Gof GUd) (one (oRw4 l s)) Try.f19 [.dat (.ints .i64 l), .v (.string s)] [] (.leaf ((.tu [.v (.string (w4O l s)), .v (.int .i64 (w4E l s))])) ([])) := by kernel_rfl
def w4J_t (l : List Int) (s : ByteArray) : Prop :=
 List.length l ≤ (4294967296 : Nat) ∧
 ByteArray.size s ≤ (4294967296 : Nat) ∧
 (((txE l s == (0 : Int)) = true →
 (decide ((↑(ByteArray.size s) : Int) < (6 : Int)) = true → ∃ (x0 : Unit), True ∧ s = s ∧ (20 : Int) = w4E l s ∧ l = l ∧ ByteArray.empty = ByteArray.empty ∧ (0 : Int) = (0 : Int)) ∧
 (decide ((↑(ByteArray.size s) : Int) < (6 : Int)) = false → ∃ (x1 : Unit), True ∧ s = s ∧ txE l s = w4E l s ∧ l = l ∧ ByteArray.empty = ByteArray.empty ∧ (0 : Int) = (0 : Int))) ∧
 ((txE l s == (0 : Int)) = false → ∃ (x2 : Unit), True ∧ s = s ∧ txE l s = w4E l s ∧ l = l ∧ ByteArray.empty = ByteArray.empty ∧ (0 : Int) = (0 : Int))) ∧
 ∀ (x3 : Unit),
 True →
 ((w4E l s != (0 : Int)) = true → ByteArray.empty = w4O l s ∧ w4E l s = w4E l s) ∧
 ((w4E l s != (0 : Int)) = false →
 (0 : Int) ≤ (↑(ByteArray.size s) : Int) ∧
 (↑(ByteArray.size s) : Int) ≤ (131072 : Int) ∧
 List.length (ptL (↑(ByteArray.size s) : Int)) = (4 : Nat) ∧
 ∃ (y4 : Nat),
 (ISatE Try.prog ((54 : Nat)) [SV.p (800032 : Nat) (0 : Nat) (0 : Nat), SV.p (800033 : Nat) (0 : Nat) (0 : Nat)]
 [((800032 : Nat), SBlk.arr (36 : TypeId) (Dat.ints IntKind.i64 (ptL (↑(ByteArray.size s) : Int)))), ((800033 : Nat), SBlk.cells (9 : TypeId) [SV.v (Value.string s)])]
 ([Value.int IntKind.i64 (↑((0 : Nat)) : Int), Value.string (pcS s (ptL (↑(ByteArray.size s) : Int)) ((0 : Nat)))] ::
 List.map (fun (i : Nat) => [Value.int IntKind.i64 (↑i : Int), Value.string (pcS s (ptL (↑(ByteArray.size s) : Int)) i)]) [(1 : Nat), (2 : Nat), (3 : Nat)])
 fun (x : Nat) => []) ∧
 (ptL (↑(ByteArray.size s) : Int) = ptL (↑(ByteArray.size s) : Int) ∧ s = s) ∧
 True ∧
 (l = l ∧ ByteArray.empty = ByteArray.empty ∧ (0 : Int) = (0 : Int) ∧ (0 : Nat) = (0 : Nat) ∧ (0 : Nat) = (0 : Nat)) ∧
 (∀ (i5 : Nat),
 i5 <
 List.length
 ([Value.int IntKind.i64 (↑((0 : Nat)) : Int), Value.string (pcS s (ptL (↑(ByteArray.size s) : Int)) ((0 : Nat)))] ::
 List.map (fun (i : Nat) => [Value.int IntKind.i64 (↑i : Int), Value.string (pcS s (ptL (↑(ByteArray.size s) : Int)) i)]) [(1 : Nat), (2 : Nat), (3 : Nat)]) →
 True →
 ([Value.int IntKind.i64 (↑((0 : Nat)) : Int), Value.string (pcS s (ptL (↑(ByteArray.size s) : Int)) ((0 : Nat)))] ::
 List.map (fun (i : Nat) => [Value.int IntKind.i64 (↑i : Int), Value.string (pcS s (ptL (↑(ByteArray.size s) : Int)) i)])
 [(1 : Nat), (2 : Nat), (3 : Nat)])[i5]? =
 some [Value.int IntKind.i64 (↑i5 : Int), Value.string (pcS s (ptL (↑(ByteArray.size s) : Int)) i5)] ∧
 List.length [Value.int IntKind.i64 (↑i5 : Int), Value.string (pcS s (ptL (↑(ByteArray.size s) : Int)) i5)] = List.length #[(32 : Nat), (33 : Nat)].toList ∧
 chk l = (0 : Int) ∧
 txE l (pcS s (ptL (↑(ByteArray.size s) : Int)) i5) = (0 : Int) ∧
 ByteArray.size (pcS s (ptL (↑(ByteArray.size s) : Int)) i5) ≤ (100000 : Nat) ∧
 (decide ((↑i5 : Int) < (3 : Int)) = true →
 (decide ((↑(ByteArray.size (wrH l (pcS s (ptL (↑(ByteArray.size s) : Int)) i5))) : Int) > (65535 : Int)) = true →
 ByteArray.empty = w4O l s ∧ (4 : Int) = w4E l s) ∧
 (decide ((↑(ByteArray.size (wrH l (pcS s (ptL (↑(ByteArray.size s) : Int)) i5))) : Int) > (65535 : Int)) = false →
 (0 : Int) ≤ IntKind.wrap IntKind.u64 (↑(ByteArray.size (wrH l (pcS s (ptL (↑(ByteArray.size s) : Int)) i5))) : Int) ∧
 IntKind.wrap IntKind.u64 (↑(ByteArray.size (wrH l (pcS s (ptL (↑(ByteArray.size s) : Int)) i5))) : Int) < (65536 : Int) ∧
 (List.length (heads4 l s i5) + (1 : Nat)) * (16 : Nat) ≤ (140737488355328 : Nat) ∧
 (List.length (strs4 l s i5) + (1 : Nat)) * (16 : Nat) ≤ (140737488355328 : Nat) ∧
 True ∧
 l = l ∧
 ByteArray.empty = ByteArray.empty ∧
 (0 : Int) = (0 : Int) ∧
 heads4 l s i5 ++
 [lit2 (IntKind.wrap IntKind.u64 (↑(ByteArray.size (wrH l (pcS s (ptL (↑(ByteArray.size s) : Int)) i5))) : Int))] =
 heads4 l s (i5 + (1 : Nat)) ∧
 strs4 l s i5 ++ [wrH l (pcS s (ptL (↑(ByteArray.size s) : Int)) i5)] = strs4 l s (i5 + (1 : Nat)))) ∧
 (decide ((↑i5 : Int) < (3 : Int)) = false →
 (List.length (strs4 l s i5) + (1 : Nat)) * (16 : Nat) ≤ (140737488355328 : Nat) ∧
 True ∧
 l = l ∧
 ByteArray.empty = ByteArray.empty ∧
 (0 : Int) = (0 : Int) ∧
 heads4 l s i5 = heads4 l s (i5 + (1 : Nat)) ∧
 strs4 l s i5 ++ [wrH l (pcS s (ptL (↑(ByteArray.size s) : Int)) i5)] = strs4 l s (i5 + (1 : Nat)))) ∧
 (True →
 List.length
 (heads4 l s
 (List.length
 ([Value.int IntKind.i64 (↑((0 : Nat)) : Int), Value.string (pcS s (ptL (↑(ByteArray.size s) : Int)) ((0 : Nat)))] ::
 List.map (fun (i : Nat) => [Value.int IntKind.i64 (↑i : Int), Value.string (pcS s (ptL (↑(ByteArray.size s) : Int)) i)])
 [(1 : Nat), (2 : Nat), (3 : Nat)]))) ≤
 (4294967296 : Nat) ∧
 ByteArray.size
 (jn
 (heads4 l s
 (List.length
 ([Value.int IntKind.i64 (↑((0 : Nat)) : Int), Value.string (pcS s (ptL (↑(ByteArray.size s) : Int)) ((0 : Nat)))] ::
 List.map (fun (i : Nat) => [Value.int IntKind.i64 (↑i : Int), Value.string (pcS s (ptL (↑(ByteArray.size s) : Int)) i)])
 [(1 : Nat), (2 : Nat), (3 : Nat)])))) ≤
 (4294967296 : Nat) ∧
 List.length
 (strs4 l s
 (List.length
 ([Value.int IntKind.i64 (↑((0 : Nat)) : Int), Value.string (pcS s (ptL (↑(ByteArray.size s) : Int)) ((0 : Nat)))] ::
 List.map (fun (i : Nat) => [Value.int IntKind.i64 (↑i : Int), Value.string (pcS s (ptL (↑(ByteArray.size s) : Int)) i)])
 [(1 : Nat), (2 : Nat), (3 : Nat)]))) ≤
 (4294967296 : Nat) ∧
 ByteArray.size
 (jn
 (strs4 l s
 (List.length
 ([Value.int IntKind.i64 (↑((0 : Nat)) : Int), Value.string (pcS s (ptL (↑(ByteArray.size s) : Int)) ((0 : Nat)))] ::
 List.map (fun (i : Nat) => [Value.int IntKind.i64 (↑i : Int), Value.string (pcS s (ptL (↑(ByteArray.size s) : Int)) i)])
 [(1 : Nat), (2 : Nat), (3 : Nat)])))) ≤
 (4294967296 : Nat) ∧
 List.length
 [jn
 (heads4 l s
 (List.length
 ([Value.int IntKind.i64 (↑((0 : Nat)) : Int), Value.string (pcS s (ptL (↑(ByteArray.size s) : Int)) ((0 : Nat)))] ::
 List.map (fun (i : Nat) => [Value.int IntKind.i64 (↑i : Int), Value.string (pcS s (ptL (↑(ByteArray.size s) : Int)) i)])
 [(1 : Nat), (2 : Nat), (3 : Nat)]))),
 jn
 (strs4 l s
 (List.length
 ([Value.int IntKind.i64 (↑((0 : Nat)) : Int), Value.string (pcS s (ptL (↑(ByteArray.size s) : Int)) ((0 : Nat)))] ::
 List.map (fun (i : Nat) => [Value.int IntKind.i64 (↑i : Int), Value.string (pcS s (ptL (↑(ByteArray.size s) : Int)) i)])
 [(1 : Nat), (2 : Nat), (3 : Nat)])))] ≤
 (4294967296 : Nat) ∧
 ByteArray.size
 (jn
 [jn
 (heads4 l s
 (List.length
 ([Value.int IntKind.i64 (↑((0 : Nat)) : Int), Value.string (pcS s (ptL (↑(ByteArray.size s) : Int)) ((0 : Nat)))] ::
 List.map (fun (i : Nat) => [Value.int IntKind.i64 (↑i : Int), Value.string (pcS s (ptL (↑(ByteArray.size s) : Int)) i)])
 [(1 : Nat), (2 : Nat), (3 : Nat)]))),
 jn
 (strs4 l s
 (List.length
 ([Value.int IntKind.i64 (↑((0 : Nat)) : Int), Value.string (pcS s (ptL (↑(ByteArray.size s) : Int)) ((0 : Nat)))] ::
 List.map (fun (i : Nat) => [Value.int IntKind.i64 (↑i : Int), Value.string (pcS s (ptL (↑(ByteArray.size s) : Int)) i)])
 [(1 : Nat), (2 : Nat), (3 : Nat)])))]) ≤
 (4294967296 : Nat) ∧
 jn
 [jn
 (heads4 l s
 (List.length
 ([Value.int IntKind.i64 (↑((0 : Nat)) : Int), Value.string (pcS s (ptL (↑(ByteArray.size s) : Int)) ((0 : Nat)))] ::
 List.map (fun (i : Nat) => [Value.int IntKind.i64 (↑i : Int), Value.string (pcS s (ptL (↑(ByteArray.size s) : Int)) i)])
 [(1 : Nat), (2 : Nat), (3 : Nat)]))),
 jn
 (strs4 l s
 (List.length
 ([Value.int IntKind.i64 (↑((0 : Nat)) : Int), Value.string (pcS s (ptL (↑(ByteArray.size s) : Int)) ((0 : Nat)))] ::
 List.map (fun (i : Nat) => [Value.int IntKind.i64 (↑i : Int), Value.string (pcS s (ptL (↑(ByteArray.size s) : Int)) i)])
 [(1 : Nat), (2 : Nat), (3 : Nat)])))] =
 w4O l s ∧
 (0 : Int) = w4E l s))
theorem w4J_e (l : List Int) (s : ByteArray) : w4J_t l s = vcG Try.prog (Gof GUe) (oW4 l s) Try.f18 [.dat (.ints .i64 l), .v (.string s)] [] (.leaf ((.tu [.v (.string (w4O l s)), .v (.int .i64 (w4E l s))])) ([])) := by kernel_rfl
def dvJ_t (s : ByteArray) (p : List Int) (l0 : Nat) : Prop :=
 (4 : Nat) = List.length p ∧
 ∃ (g0 : Unit),
 ∃ (x1 : Nat),
 Nat.le x1 (4 : Nat) ∧
 ((0 : Nat), true) = (x1, true) ∧
 (Value.func (Fn.yield l0) #[] #[] = Value.func (Fn.yield l0) #[] #[] ∧ p = p ∧ (0 : Int) = (↑x1 : Int) ∧ p = p ∧ s = rsS s p x1) ∧
 ∀ (x2 : Nat),
 Nat.le x2 (4 : Nat) →
 (decide ((↑x2 : Int) < (4 : Int)) = true →
 (0 : Int) ≤ (↑x2 : Int) ∧
 (↑x2 : Int) < (↑(4 : Nat) : Int) ∧
 (4 : Nat) = List.length p ∧
 (0 : Int) ≤ (0 : Int) ∧
 (0 : Int) ≤ List.getD p (Int.toNat (↑x2 : Int)) (0 : Int) ∧
 List.getD p (Int.toNat (↑x2 : Int)) (0 : Int) ≤ (↑(ByteArray.size (rsS s p x2)) : Int) ∧
 l0 = l0 ∧
 (itDv s p)[x2]? =
 some
 [Value.int IntKind.i64 (↑x2 : Int),
 Value.string (ByteArray.extract (rsS s p x2) (Int.toNat (0 : Int)) (Int.toNat (List.getD p (Int.toNat (↑x2 : Int)) (0 : Int))))] ∧
 ((0 : Int) ≤ List.getD p (Int.toNat (↑x2 : Int)) (0 : Int) ∧
 List.getD p (Int.toNat (↑x2 : Int)) (0 : Int) ≤ (↑(ByteArray.size (rsS s p x2)) : Int) ∧
 (↑(ByteArray.size (rsS s p x2)) : Int) ≤ (↑(ByteArray.size (rsS s p x2)) : Int) ∧
 ∃ (y3 : Nat),
 Nat.le y3 (4 : Nat) ∧
 (x2 + (1 : Nat), true) = (y3, true) ∧
 Nat.sub (4 : Nat) y3 < Nat.sub (4 : Nat) x2 ∧
 Value.func (Fn.yield l0) #[] #[] = Value.func (Fn.yield l0) #[] #[] ∧
 p = p ∧
 IntKind.wrap IntKind.i64 ((↑x2 : Int) + (1 : Int)) = (↑y3 : Int) ∧
 p = p ∧
 ByteArray.extract (rsS s p x2) (Int.toNat (List.getD p (Int.toNat (↑x2 : Int)) (0 : Int)))
 (Int.toNat (↑(ByteArray.size (rsS s p x2)) : Int)) =
 rsS s p y3) ∧
 True) ∧
 (decide ((↑x2 : Int) < (4 : Int)) = false → x2 = List.length (itDv s p))
theorem dvJ_e (s : ByteArray) (p : List Int) (l0 : Nat) : dvJ_t s p l0 = vcFI Try.prog (Gof []) l0 (itDv s p) (oDvF l0 s p) Try.f54 [.p 0 0 0, .p 1 0 0] [(0, .arr 36 (.ints .i64 p)), (1, .cells 9 [.v (.string s)])]  := by kernel_rfl
end Go.Proofs.Ytmdbliacaeokaaa
namespace Go.Proofs.Ytmdbliacaeokaaa
open Go Go.RowKit
set_option linter.unusedVariables false
set_option linter.unusedSimpArgs false
set_option maxRecDepth 100000
theorem fldJ_v (n : Int) (h0 : 0 ≤ n) (h1 : n < 65536) : fldJ_t n := by
  unfold fldJ_t
  refine ⟨by omega, by omega, by decide, by omega, ⟨0, Nat.zero_le _, rfl, (by first | rfl | trivial), rfl, rfl⟩, fun i hi => ⟨fun hlt => ?_, fun hge => ?_⟩⟩
  · have hlt : (i : Int) < 2 := by simpa using hlt
    have hi' : i = 0 ∨ i = 1 := by omega
    have e8 : min (Int.toNat (8 : Int)) (IntKind.bits IntKind.u64) = 8 := rfl
    rcases hi' with rfl | rfl
    · refine ⟨by show (0 + 1) * 1 ≤ _; omega, by omega, 1, by rw [nle]; omega, by show 2 - 1 < 2 - 0; omega, ?_, (by first | rfl | trivial), by rw [wr (by omega) (by omega)]; rfl, ?_⟩
      · show Int.fdiv n _ = n / 256
        rw [e8, fdivp (by decide)]
        rfl
      · show [] ++ [IntKind.wrap IntKind.u8 n] = [n % 256]
        rw [wrap8]; rfl
    · refine ⟨by show (1 + 1) * 1 ≤ _; omega, by omega, 2, by rw [nle]; omega, by show 2 - 2 < 2 - 1; omega, ?_, (by first | rfl | trivial), by rw [wr (by omega) (by omega)]; rfl, ?_⟩
      · show Int.fdiv (n / 256) _ = n / 256 / 256
        rw [e8, fdivp (by decide)]
        rfl
      · show [n % 256] ++ [IntKind.wrap IntKind.u8 (n / 256)] = [n % 256, n / 256 % 256]
        rw [wrap8]; rfl
  · rw [nle] at hi
    have hge : ¬ (i : Int) < 2 := by simpa using hge
    have : i = 2 := by omega
    subst this
    rfl
theorem rlitJ_v (n : Int) (h0 : 0 ≤ n) (h1 : n < 65536) : rlitJ_t n := by
  unfold rlitJ_t
  refine ⟨fun h => by simp at h, fun _ => ⟨fun h => by simp at h, fun _ => ⟨⟨0, Nat.zero_le _, rfl, (by first | rfl | trivial), rfl, (by first | rfl | trivial)⟩, fun i hi => ⟨fun hlt => ?_, fun hge => ?_⟩⟩⟩⟩
  · have hlt : (i : Int) < 2 := by simpa using hlt
    have hi' : i = 0 ∨ i = 1 := by omega
    rcases hi' with rfl | rfl
    · have e1 : Int.tmod n 256 = n % 256 := Int.tmod_eq_emod_of_nonneg h0
      have e2 : Int.tdiv n 256 = n / 256 := Int.tdiv_eq_ediv_of_nonneg h0
      refine ⟨by omega, by rw [strOfNums_size, strOfNums_size]; simp [lit2P], by omega, 1, by rw [nle]; omega, by show 2 - 1 < 2 - 0; omega, ?_, (by first | rfl | trivial), ?_, by rw [wr (by omega) (by omega)]; rfl⟩
      · show IntKind.wrap IntKind.u64 (Int.tdiv n 256) = n / 256
        rw [e2, wru (by omega) (by omega)]
      · show strOfNums [] ++ strOfNums [IntKind.wrap IntKind.u8 (Int.tmod n 256)] = strOfNums [n % 256]
        rw [← str_app, e1, wrap8, Int.emod_emod_of_dvd _ (Int.dvd_refl _)]; rfl
    · have e1 : Int.tmod (n / 256) 256 = n / 256 % 256 := Int.tmod_eq_emod_of_nonneg (by omega)
      have e2 : Int.tdiv (n / 256) 256 = n / 256 / 256 := Int.tdiv_eq_ediv_of_nonneg (by omega)
      refine ⟨by omega, by rw [strOfNums_size, strOfNums_size]; simp [lit2P], by omega, 2, by rw [nle]; omega, by show 2 - 2 < 2 - 1; omega, ?_, (by first | rfl | trivial), ?_, by rw [wr (by omega) (by omega)]; rfl⟩
      · show IntKind.wrap IntKind.u64 (Int.tdiv (n / 256) 256) = n / 256 / 256
        rw [e2, wru (by omega) (by omega)]
      · show strOfNums [n % 256] ++ strOfNums [IntKind.wrap IntKind.u8 (Int.tmod (n / 256) 256)] = strOfNums [n % 256, n / 256 % 256]
        rw [← str_app, e1, wrap8, Int.emod_emod_of_dvd _ (Int.dvd_refl _)]; rfl
  · rw [nle] at hi
    have hge : ¬ (i : Int) < 2 := by simpa using hge
    have : i = 2 := by omega
    subst this
    refine ⟨fun h => ?_, fun _ => ⟨rfl, rfl⟩⟩
    have h : lit2N n 2 > 0 := by simpa using h
    have h' : n / 256 / 256 > 0 := h
    omega
theorem litJ_v (n : Int) (h0 : 0 ≤ n) (h1 : n < 65536) : litJ_t n := by
  unfold litJ_t
  refine ⟨fun h => by simp at h, fun _ => ⟨fun h => by simp at h, fun _ => ⟨fun _ => ⟨by decide, fun h => ?_, fun _ => ⟨h0, h1, (by first | rfl | trivial), (by first | rfl | trivial)⟩⟩, fun h => by simp at h⟩⟩⟩
  have e : (2 : Int) ^ min (Int.toNat (IntKind.wrap IntKind.i64 (8 * 2))) (IntKind.bits IntKind.u64) = 65536 := by decide
  rw [e, fdivp (by decide), Int.ediv_eq_zero_of_lt h0 h1] at h
  cases h
theorem ptl_eq {n : Int} (h0 : 0 ≤ n) (h1 : n ≤ 131072) :
    IntKind.wrap IntKind.i64 (Int.tdiv (IntKind.wrap IntKind.i64 (n + 3)) 4) = ptK n ∧ IntKind.wrap IntKind.i64 (n - IntKind.wrap IntKind.i64 (3 * ptK n)) = n - 3 * ptK n := by
  have e1 : IntKind.wrap IntKind.i64 (n + 3) = n + 3 := wr (by omega) (by omega)
  have e2 : Int.tdiv (n + 3) 4 = (n + 3) / 4 := Int.tdiv_eq_ediv_of_nonneg (by omega)
  have ek : ptK n = (n + 3) / 4 := rfl
  refine ⟨by rw [e1, e2]; exact wr (by omega) (by omega), ?_⟩
  rw [wr (n := 3 * ptK n) (by omega) (by omega), wr (by omega) (by omega)]
theorem ptlJ_v (n : Int) (h0 : 0 ≤ n) (h1 : n ≤ 131072) : ptlJ_t n := by
  unfold ptlJ_t
  obtain ⟨e1, e2⟩ := ptl_eq h0 h1
  rw [e1, e2]
  exact ⟨by omega, rfl, rfl, rfl⟩
theorem pt_neg' {n : Int} (h : n < 0) : ptE n = 2 ∧ ptV n = [0, 0, 0, 0] := by
  have : ptE n = 2 := by unfold ptE; rw [decide_eq_true h]; rfl
  exact ⟨this, by unfold ptV; rw [this]; rfl⟩
theorem pt_big {n : Int} (h : 131072 < n) : ptE n = 2 ∧ ptV n = [0, 0, 0, 0] := by
  have : ptE n = 2 := by unfold ptE; rw [decide_eq_true h, Bool.or_true]; rfl
  exact ⟨this, by unfold ptV; rw [this]; rfl⟩
theorem pt_few {n : Int} (h0 : 0 ≤ n) (h : n < 6) : ptE n = 20 ∧ ptV n = [0, 0, 0, 0] := by
  have : ptE n = 20 := by unfold ptE; rw [decide_eq_false (by omega), decide_eq_false (by omega), decide_eq_true h]; rfl
  exact ⟨this, by unfold ptV; rw [this]; rfl⟩
theorem pt_fine {n : Int} (h0 : 6 ≤ n) (h : n ≤ 131072) : ptE n = 0 ∧ ptV n = ptL n := by
  have : ptE n = 0 := by unfold ptE; rw [decide_eq_false (by omega), decide_eq_false (by omega), decide_eq_false (by omega)]; rfl
  exact ⟨this, by unfold ptV; rw [this]; rfl⟩
theorem rptvJ_v (n : Int) : rptvJ_t n := by
  unfold rptvJ_t
  simp only [gt_iff_lt, decide_eq_true_eq, decide_eq_false_iff_not]
  refine ⟨fun h => ?_, fun h => ⟨fun h2 => ?_, fun h2 => ⟨fun h3 => ?_, fun h3 => ?_⟩⟩⟩
  · obtain ⟨e1, e2⟩ := pt_neg' h
    exact ⟨rfl, (by first | rfl | trivial), e2.symm, e1.symm⟩
  · obtain ⟨e1, e2⟩ := pt_big h2
    exact ⟨rfl, (by first | rfl | trivial), e2.symm, e1.symm⟩
  · obtain ⟨e1, e2⟩ := pt_few (by omega) h3
    exact ⟨rfl, (by first | rfl | trivial), e2.symm, e1.symm⟩
  · obtain ⟨e1, e2⟩ := pt_fine (n := n) (by omega) (by omega)
    obtain ⟨e3, e4⟩ := ptl_eq (n := n) (by omega) (by omega)
    rw [e3, e4]
    exact ⟨by omega, rfl, rfl, e2.symm, e1.symm⟩
theorem ptvJ_v (n : Int) : ptvJ_t n := by
  unfold ptvJ_t
  simp only [gt_iff_lt, decide_eq_true_eq, decide_eq_false_iff_not]
  refine ⟨fun h => ?_, fun h => ⟨fun h2 => ?_, fun h2 => ⟨fun h3 => ?_, fun h3 => ?_⟩⟩⟩
  · obtain ⟨e1, e2⟩ := pt_neg' h
    exact ⟨rfl, (by first | rfl | trivial), e2.symm, e1.symm⟩
  · obtain ⟨e1, e2⟩ := pt_big h2
    exact ⟨rfl, (by first | rfl | trivial), e2.symm, e1.symm⟩
  · obtain ⟨e1, e2⟩ := pt_few (by omega) h3
    exact ⟨rfl, (by first | rfl | trivial), e2.symm, e1.symm⟩
  · obtain ⟨e1, e2⟩ := pt_fine (n := n) (by omega) (by omega)
    exact ⟨by omega, by omega, rfl, rfl, rfl, e2.symm, e1.symm⟩
theorem divJ_v (s : ByteArray) (p : List Int) (h : p.length = 4) : divJ_t s p := ⟨rfl, rfl⟩
theorem itDv_at {s : ByteArray} {p : List Int} {i : Nat} (h : i < 4) : (itDv s p)[i]? = some [.int .i64 (i : Nat), .string (pcS s p i)] := by
  unfold itDv
  rw [List.getElem?_map, List.getElem?_range h]
  rfl
theorem dvJ_v (s : ByteArray) (p : List Int) (hd : DvOk s p) (l0 : Nat) : dvJ_t s p l0 := by
  unfold dvJ_t
  refine ⟨hd.1.symm, (), 0, Nat.zero_le _, rfl, ⟨(by first | rfl | trivial), (by first | rfl | trivial), (by first | rfl | trivial), (by first | rfl | trivial), rfl⟩, fun i hi => ⟨fun hlt => ?_, fun hge => ?_⟩⟩
  · have hlt : (i : Int) < 4 := by simpa using hlt
    obtain ⟨p0, p1⟩ := hd.2 i (by omega)
    simp only [toNat_cast]
    refine ⟨by omega, by omega, hd.1.symm, by omega, p0, p1, (by first | rfl | trivial), itDv_at (by omega), ⟨p0, p1, by omega, i + 1, by rw [nle]; omega, rfl, by show 4 - (i + 1) < 4 - i; omega, (by first | rfl | trivial), (by first | rfl | trivial), by rw [wr (by omega) (by omega)]; push_cast; rfl, (by first | rfl | trivial), rfl⟩, trivial⟩
  · rw [nle] at hi
    have hge : ¬ (i : Int) < 4 := by simpa using hge
    show i = 4
    omega
theorem dv_isat (s : ByteArray) (p : List Int) (hd : DvOk s p) (k : Nat) : ISat Try.prog 54 [.p k 0 0, .p (k + 1) 0 0] [(k, .arr 36 (.ints .i64 p)), (k + 1, .cells 9 [.v (.string s)])] (itDv s p) := by
  have h0 : ISat Try.prog 54 [.p 0 0 0, .p 1 0 0] [(0, .arr 36 (.ints .i64 p)), (1, .cells 9 [.v (.string s)])] (itDv s p) :=
    isat_of_vcI (Ωi := fun l0 => oDvF l0 s p) AllOk.nil mixed Try.func54 (by kernel_rfl) fun l0 => by
      have := dvJ_v s p hd l0
      rw [dvJ_e] at this
      exact this
  exact h0.ren (fun i => k + i) (by intro a b _ _ e; omega) rfl rfl
theorem jn_app : ∀ (xs : List ByteArray) (a : ByteArray), xs.foldl (· ++ ·) a = a ++ jn xs
  | [], a => by show a = a ++ ByteArray.empty; rw [ByteArray.append_empty]
  | x :: r, a => by
    show r.foldl (· ++ ·) (a ++ x) = a ++ r.foldl (· ++ ·) (ByteArray.empty ++ x)
    rw [jn_app r (a ++ x), jn_app r (ByteArray.empty ++ x), ByteArray.empty_append, ByteArray.append_assoc]
theorem take_snocB {xs : List ByteArray} {i : Nat} (h : i < xs.length) : xs.take (i + 1) = xs.take i ++ [xs.getD i ByteArray.empty] := by
  rw [List.take_add_one, List.getElem?_eq_getElem h, List.getD_eq_getElem?_getD, List.getElem?_eq_getElem h]
  rfl
theorem jn_apd (a b : List ByteArray) : jn (a ++ b) = jn a ++ jn b := by
  show (a ++ b).foldl (· ++ ·) ByteArray.empty = _
  rw [List.foldl_append]
  exact jn_app b _
theorem jn_take (xs : List ByteArray) (i : Nat) : (jn (xs.take i)).size ≤ (jn xs).size := by
  conv => rhs; rw [← List.take_append_drop i xs, jn_apd, app_size]
  omega
theorem joinJ_v (xs : List ByteArray) (h0 : xs.length ≤ 4294967296) (h1 : (jn xs).size ≤ 4294967296) : joinJ_t xs := by
  unfold joinJ_t
  refine ⟨⟨0, Nat.zero_le _, rfl, (by first | rfl | trivial), (by first | rfl | trivial), (by first | rfl | trivial)⟩, fun i hi => ⟨fun hlt => ?_, fun hge => ?_⟩⟩
  · rw [nle] at hi
    have hlt : (i : Int) < xs.length := by simpa using hlt
    have hi' : i < xs.length := by omega
    have e : jn (xs.take (i + 1)) = jn (xs.take i) ++ xs.getD i ByteArray.empty := by rw [take_snocB hi', jn_snoc]
    have hs := jn_take xs (i + 1)
    rw [e, app_size] at hs
    simp only [toNat_cast]
    exact ⟨by omega, by omega, by omega, i + 1, by rw [nle]; omega, by show xs.length - (i + 1) < xs.length - i; omega, e.symm, (by first | rfl | trivial), (by first | rfl | trivial), by rw [wr (by omega) (by omega)]; push_cast; rfl⟩
  · rw [nle] at hi
    have hge : ¬ (i : Int) < xs.length := by simpa using hge
    rw [List.take_of_length_le (by omega)]
theorem lightJ_v (l : List Int) (s : ByteArray) : lightJ_t l s := by
  unfold lightJ_t litS
  refine ⟨fun h => ?_, fun h => ?_⟩
  · have h : (l.length : Int) ≤ 260 := by simpa using h
    rw [decide_eq_true (show l.length ≤ 260 by omega), Bool.true_and]
    exact decide_eq_decide.2 (by omega)
  · have h : ¬ (l.length : Int) ≤ 260 := by simpa using h
    rw [decide_eq_false (show ¬ l.length ≤ 260 by omega)]
    rfl
theorem wrO_err {l : List Int} {s : ByteArray} (h : txE l s ≠ 0) : wrO l s = ByteArray.empty ∧ szO l s = 0 := by
  unfold wrO szO
  rw [beq_eq_false_iff_ne.2 h]
  exact ⟨rfl, rfl⟩
theorem wrO_ok {l : List Int} {s : ByteArray} (h : txE l s = 0) : wrO l s = wrH l s ∧ szO l s = (wrH l s).size := by
  unfold wrO szO
  rw [h]
  exact ⟨rfl, rfl⟩
theorem wroJ_v (l : List Int) (s : ByteArray) (h0 : l.length ≤ 4294967296) (h1 : s.size ≤ 40000) : wroJ_t l s := by
  unfold wroJ_t
  refine ⟨h0, by omega, fun h => ⟨(wrO_err (nz h)).1.symm, rfl⟩, fun h => ?_⟩
  have e := eq0 h
  exact ⟨(tx_ok e).1, e, by omega, (wrO_ok e).1.symm, e.symm⟩
theorem szoJ_v (l : List Int) (s : ByteArray) (h0 : l.length ≤ 4294967296) (h1 : s.size ≤ 40000) : szoJ_t l s := by
  unfold szoJ_t
  refine ⟨h0, by omega, fun h => ⟨(wrO_err (nz h)).2.symm, rfl⟩, fun h => ?_⟩
  have e := eq0 h
  exact ⟨(tx_ok e).1, e, by omega, (wrO_ok e).2.symm, e.symm⟩
theorem rszoJ_v (l : List Int) (s : ByteArray) (h0 : l.length ≤ 4294967296) (h1 : s.size ≤ 40000) : rszoJ_t l s := by
  unfold rszoJ_t
  refine ⟨h0, h1, ?_, rfl⟩
  by_cases h : txE l s = 0
  · rw [(wrO_ok h).1, (wrO_ok h).2]
  · rw [(wrO_err h).1, (wrO_err h).2]; rfl
theorem nu_0 {l : List Int} {n : Int} (h : nuE l n = 0) : chk l = 0 ∧ lchk l = 0 ∧ 0 ≤ n ∧ n ≤ 131072 := by
  unfold nuE at h
  by_cases h1 : lchk l = 0
  · rw [h1] at h
    cases h2 : decide (n < 0) || decide (131072 < n)
    · rw [Bool.or_eq_false_iff] at h2
      have a := h2.1
      have b := h2.2
      simp only [decide_eq_false_iff_not] at a b
      exact ⟨lchk_0 h1, h1, by omega, by omega⟩
    · rw [h2] at h; cases h
  · rw [beq_eq_false_iff_ne.2 h1] at h
    exact absurd h h1
theorem rO_err {l : List Int} {b : ByteArray} {n : Int} (h : nuE l n ≠ 0) : rO l b n = ByteArray.empty ∧ rE l b n = nuE l n := by
  unfold rO rE
  rw [beq_eq_false_iff_ne.2 h]
  exact ⟨rfl, rfl⟩
theorem rO_ok {l : List Int} {b : ByteArray} {n : Int} (h : nuE l n = 0) : rO l b n = rdS l b n ∧ rE l b n = rdE l b n := by
  unfold rO rE
  rw [h]
  exact ⟨rfl, rfl⟩
theorem rdoJ_v (l : List Int) (b : ByteArray) (n : Int) (h0 : l.length ≤ 4294967296) (h1 : b.size ≤ 4294967296) : rdoJ_t l b n := by
  unfold rdoJ_t
  refine ⟨h0, fun h => ⟨(rO_err (nz h)).1.symm, (rO_err (nz h)).2.symm⟩, fun h => ?_⟩
  have e := eq0 h
  obtain ⟨a, _, c, d⟩ := nu_0 e
  exact ⟨a, h1, c, d, (rO_ok e).1.symm, (rO_ok e).2.symm⟩
theorem rw4J_v (l : List Int) (s : ByteArray) (h0 : l.length ≤ 4294967296) (h1 : s.size ≤ 40000) : rw4J_t l s := by
  unfold rw4J_t
  refine ⟨h0, by omega, fun h => ⟨(w4E_err (nz h)).2.symm, (w4E_err (nz h)).1.symm⟩, fun h => ?_⟩
  have hx := eq0 h
  obtain ⟨hc, hlc, hs, ht⟩ := tx_ok hx
  have hg := good hc
  by_cases h6 : s.size < 6
  · obtain ⟨e1, e2⟩ := pt_few (n := (s.size : Int)) (by omega) (by omega)
    obtain ⟨f1, f2⟩ := w4E_few hx h6
    rw [e2, e1, f1, f2]
    exact ⟨rfl, rfl, fun _ => ⟨rfl, rfl⟩, fun h => by simp at h⟩
  · obtain ⟨e1, e2⟩ := pt_fine (n := (s.size : Int)) (by omega) (by omega)
    obtain ⟨f1, f2⟩ := w4E_ok hx h6
    have hd := pt_dv (s := s) (by omega)
    rw [e2, e1, f1, f2]
    refine ⟨rfl, rfl, fun h => by simp at h, fun _ => ⟨⟨0, ⟨by omega, rfl⟩, (by first | rfl | trivial), rfl, rfl, rfl, (by first | rfl | trivial), (by first | rfl | trivial)⟩, fun i ⟨hi, _⟩ => ⟨fun hlt => ?_, fun hge => ?_⟩⟩⟩
    · have hlt : (i : Int) < 4 := by simpa using hlt
      obtain ⟨p0, p1⟩ := hd.2 i (by omega)
      simp only [toNat_cast]
      have ew : wrH l ((rsS s (ptL s.size) i).extract (Int.toNat 0) ((ptL s.size).getD i 0).toNat) = stH l s i := rfl
      have ez : txE l ((rsS s (ptL s.size) i).extract (Int.toNat 0) ((ptL s.size).getD i 0).toNat) = txE l (pcS s (ptL s.size) i) := rfl
      have es : ((rsS s (ptL s.size) i).extract (Int.toNat 0) ((ptL s.size).getD i 0).toNat).size = (pcS s (ptL s.size) i).size := rfl
      rw [ew, ez, es]
      have q1 := pc_ok ht (ptL s.size) i
      have q2 := pc_le s (ptL s.size) i
      have q3 := st_size hg ht h1 i
      have q4 := strs_size hg ht h1 i
      have q5 := heads_size l s i
      have q6 := lit2_size (stH l s i).size
      have eu : IntKind.wrap IntKind.u64 ((stH l s i).size : Int) = ((stH l s i).size : Int) := wru (by omega) (by omega)
      rw [eu]
      have hi4 : i < 4 := by omega
      refine ⟨by omega, by omega, hi4, by omega, p0, p1, hc, ok_tx hlc (by omega) q1, by omega, by omega, by omega, hi4, p0, p1, by omega, fun h3 => ⟨fun h4 => ?_, fun h4 => ⟨by omega, by omega, by omega, by omega, i + 1, ⟨by omega, (by first | rfl | trivial)⟩, by show 4 - (i + 1) < 4 - i; omega, (by first | rfl | trivial), rfl, ?_, ?_, by rw [wr (by omega) (by omega)]; push_cast; rfl, (by first | rfl | trivial)⟩⟩, fun h3 => ⟨by omega, i + 1, ⟨by omega, (by first | rfl | trivial)⟩, by show 4 - (i + 1) < 4 - i; omega, (by first | rfl | trivial), rfl, ?_, ?_, by rw [wr (by omega) (by omega)]; push_cast; rfl, (by first | rfl | trivial)⟩⟩
      · have : ((stH l s i).size : Int) > 65535 := by simpa using h4
        omega
      · have h3 : (i : Int) < 3 := by simpa using h3
        rw [heads_succ l s (by omega), jn_snoc]
      · rw [strs_succ, jn_snoc]
      · have h3 : ¬ (i : Int) < 3 := by simpa using h3
        rw [heads_all l s (by omega)]
      · rw [strs_succ, jn_snoc]
    · have hge : ¬ (i : Int) < 4 := by simpa using hge
      have : i = 4 := by omega
      subst this
      have q4 := strs_size hg ht h1 4
      have q5 := heads_size l s 4
      exact ⟨by omega, rfl, rfl⟩
theorem w4J_v (l : List Int) (s : ByteArray) (h0 : l.length ≤ 4294967296) (h1 : s.size ≤ 40000) : w4J_t l s := by
  unfold w4J_t
  refine ⟨h0, by omega, ⟨fun h => ⟨fun h2 => ⟨(), trivial, (by first | rfl | trivial), ?_, (by first | rfl | trivial), (by first | rfl | trivial), (by first | rfl | trivial)⟩, fun h2 => ⟨(), trivial, (by first | rfl | trivial), ?_, (by first | rfl | trivial), (by first | rfl | trivial), (by first | rfl | trivial)⟩⟩, fun h => ⟨(), trivial, (by first | rfl | trivial), ?_, (by first | rfl | trivial), (by first | rfl | trivial), (by first | rfl | trivial)⟩⟩, fun _ _ => ⟨fun h => ?_, fun h => ?_⟩⟩
  · have : (s.size : Int) < 6 := by simpa using h2
    exact (w4E_few (eq_of_beq h) (by omega)).1.symm
  · have : ¬ (s.size : Int) < 6 := by simpa using h2
    rw [(w4E_ok (eq_of_beq h) (by omega)).1]
    exact eq_of_beq h
  · exact (w4E_err (ne_of_beq_false h)).1.symm
  · have hn := nz h
    refine ⟨?_, rfl⟩
    unfold w4O
    rw [beq_eq_false_iff_ne.2 hn]
    rfl
  · have he := eq0 h
    obtain ⟨hx, h6, hO⟩ := w4E_0 he
    obtain ⟨hc, hlc, hs, ht⟩ := tx_ok hx
    have hg := good hc
    have hd := pt_dv (s := s) (by omega)
    have hit : (([Value.int IntKind.i64 (↑((0 : Nat)) : Int), Value.string (pcS s (ptL (↑(ByteArray.size s) : Int)) ((0 : Nat)))] :: List.map (fun (i : Nat) => [Value.int IntKind.i64 (↑i : Int), Value.string (pcS s (ptL (↑(ByteArray.size s) : Int)) i)]) [(1 : Nat), (2 : Nat), (3 : Nat)])) = itDv s (ptL s.size) := rfl
    have hlen : (itDv s (ptL s.size)).length = 4 := rfl
    rw [hit, hlen]
    refine ⟨by omega, by omega, rfl, 0, dv_isat s (ptL s.size) hd 800032, ⟨(by first | rfl | trivial), (by first | rfl | trivial)⟩, trivial, ⟨(by first | rfl | trivial), (by first | rfl | trivial), (by first | rfl | trivial), (by first | rfl | trivial), (by first | rfl | trivial)⟩, fun i hi _ => ?_, fun _ => ?_⟩
    · have q1 := pc_ok ht (ptL s.size) i
      have q2 := pc_le s (ptL s.size) i
      have q3 := st_size hg ht h1 i
      have q7 := strs_len l s i
      have q8 := heads_len l s i
      have ew : wrH l (pcS s (ptL s.size) i) = stH l s i := rfl
      rw [ew]
      have eu : IntKind.wrap IntKind.u64 ((stH l s i).size : Int) = ((stH l s i).size : Int) := wru (by omega) (by omega)
      rw [eu]
      refine ⟨itDv_at hi, rfl, hc, ok_tx hlc (by omega) q1, by omega, fun h3 => ⟨fun h4 => ?_, fun h4 => ⟨by omega, by omega, by omega, by omega, trivial, (by first | rfl | trivial), (by first | rfl | trivial), (by first | rfl | trivial), ?_, ?_⟩⟩, fun h3 => ⟨by omega, trivial, (by first | rfl | trivial), (by first | rfl | trivial), (by first | rfl | trivial), ?_, ?_⟩⟩
      · have : ((stH l s i).size : Int) > 65535 := by simpa using h4
        omega
      · have h3 : (i : Int) < 3 := by simpa using h3
        rw [heads_succ l s (by omega)]
      · rw [strs_succ]
      · have h3 : ¬ (i : Int) < 3 := by simpa using h3
        rw [heads_all l s (by omega)]
      · rw [strs_succ]
    · have q4 := strs_size hg ht h1 4
      have q5 := heads_size l s 4
      have q7 := strs_len l s 4
      have q8 := heads_len l s 4
      rw [jn_two, app_size, hO]
      exact ⟨by omega, by omega, by omega, by omega, by show (2 : Nat) ≤ _; omega, by omega, rfl, he.symm⟩
end Go.Proofs.Ytmdbliacaeokaaa
namespace Go.Proofs.Ytmdbliacaeokaaa
open Go Go.RowKit
set_option linter.unusedVariables false
set_option maxRecDepth 100000
def shownL : List Int := List.set (List.set (List.set (List.replicate 100 0) 97 1) 98 2) 99 2
def wrsB (s w : ByteArray) : Bool := (txE shownL s == 0) && (wrO shownL s).toList == w.toList
def rdsB (b : ByteArray) (n : Int) (w : ByteArray) (e : Int) : Bool := (rO shownL b n).toList == w.toList && rE shownL b n == e
end Go.Proofs.Ytmdbliacaeokaaa
namespace Go.Proofs.Ytmdbliacaeokaaa
open Go Go.RowKit
set_option linter.unusedVariables false
set_option linter.unusedSimpArgs false
set_option maxRecDepth 100000
def sShown : Spec where
  ι := Unit
  dec l H := match l with
    | [] => some ((), [])
    | _ => none
  args := fun _ => []
  out := fun _ => .leaf (.o 2000) [(2000, .row 3 (.ints .i64 shownL))]
theorem sShown_enc : ∀ l H n i ls, sShown.dec l H = some (i, ls) → l = renL (rho ls n) (sShown.args i) ∧ givenHp H ls = renH (rho ls n) (sShown.hp i) := by
  intro l H n i ls h
  simp only [sShown] at h
  repeat' split at h
  all_goals first
    | (cases h; done)
    | (cases h; exact ⟨rfl, rfl⟩)
def sWrs : Spec where
  ι := ByteArray × ByteArray
  dec l H := match l with
    | [.v (.string s), .v (.string w)] => some ((s, w), [])
    | _ => none
  args := fun (s, w) => [.v (.string s), .v (.string w)]
  pre := fun (s, w) => [⟨s.size ≤ 40000, inferInstance⟩]
  out := fun (s, w) => .leaf (.v (.bool (wrsB s w))) []
theorem sWrs_enc : ∀ l H n i ls, sWrs.dec l H = some (i, ls) → l = renL (rho ls n) (sWrs.args i) ∧ givenHp H ls = renH (rho ls n) (sWrs.hp i) := by
  intro l H n i ls h
  simp only [sWrs] at h
  repeat' split at h
  all_goals first
    | (cases h; done)
    | (cases h; exact ⟨rfl, rfl⟩)
def sRds : Spec where
  ι := ByteArray × Int × ByteArray × Int
  dec l H := match l with
    | [.v (.string b), .v (.int .i64 n), .v (.string w), .v (.int .i64 e)] => some ((b, n, w, e), [])
    | _ => none
  args := fun (b, n, w, e) => [.v (.string b), .v (.int .i64 n), .v (.string w), .v (.int .i64 e)]
  pre := fun (b, n, w, e) => [⟨b.size ≤ 4294967296, inferInstance⟩]
  out := fun (b, n, w, e) => .leaf (.v (.bool (rdsB b n w e))) []
theorem sRds_enc : ∀ l H n i ls, sRds.dec l H = some (i, ls) → l = renL (rho ls n) (sRds.args i) ∧ givenHp H ls = renH (rho ls n) (sRds.hp i) := by
  intro l H n i ls h
  simp only [sRds] at h
  repeat' split at h
  all_goals first
    | (cases h; done)
    | (cases h; exact ⟨rfl, rfl⟩)
def sTrue : Spec where
  ι := Unit
  dec l H := match l with
    | [] => some ((), [])
    | _ => none
  args := fun _ => []
  out := fun _ => .leaf (.v (.bool true)) []
theorem sTrue_enc : ∀ l H n i ls, sTrue.dec l H = some (i, ls) → l = renL (rho ls n) (sTrue.args i) ∧ givenHp H ls = renH (rho ls n) (sTrue.hp i) := by
  intro l H n i ls h
  simp only [sTrue] at h
  repeat' split at h
  all_goals first
    | (cases h; done)
    | (cases h; exact ⟨rfl, rfl⟩)
def GUg : List (Nat × Ctr) := (24, sShown.ctr) :: GUf
def GUh : List (Nat × Ctr) := (25, sWrs.ctr) :: (26, sRds.ctr) :: GUg
def GUi : List (Nat × Ctr) := (9, sTrue.ctr) :: GUh
end Go.Proofs.Ytmdbliacaeokaaa
namespace Go.Proofs.Ytmdbliacaeokaaa
open Go Go.RowKit
set_option linter.unusedVariables false
set_option maxRecDepth 100000
def shownN_t  : Prop :=
 (0 : Int) ≤ (100 : Int) ∧
 (100 : Int) ≤ (100 : Int) ∧
 (↑((8 : Nat)) : Int) * (100 : Int) ≤ (281474976710656 : Int) ∧
 (100 : Int) ≤ (9223372036854775807 : Int) ∧
 (0 : Int) ≤ (97 : Int) ∧
 (97 : Int) < (↑(List.length (List.replicate (Int.toNat (100 : Int)) (0 : Int))) : Int) ∧
 Int.toNat (97 : Int) < List.length (List.replicate (Int.toNat (100 : Int)) (0 : Int)) ∧
 (0 : Int) ≤ (98 : Int) ∧
 (98 : Int) < (↑(List.length (List.set (List.replicate (Int.toNat (100 : Int)) (0 : Int)) (Int.toNat (97 : Int)) (1 : Int))) : Int) ∧
 Int.toNat (98 : Int) < List.length (List.set (List.replicate (Int.toNat (100 : Int)) (0 : Int)) (Int.toNat (97 : Int)) (1 : Int)) ∧
 (0 : Int) ≤ (99 : Int) ∧
 (99 : Int) < (↑(List.length (List.set (List.set (List.replicate (Int.toNat (100 : Int)) (0 : Int)) (Int.toNat (97 : Int)) (1 : Int)) (Int.toNat (98 : Int)) (2 : Int))) : Int) ∧
 Int.toNat (99 : Int) < List.length (List.set (List.set (List.replicate (Int.toNat (100 : Int)) (0 : Int)) (Int.toNat (97 : Int)) (1 : Int)) (Int.toNat (98 : Int)) (2 : Int)) ∧
 List.set (List.set (List.set (List.replicate (Int.toNat (100 : Int)) (0 : Int)) (Int.toNat (97 : Int)) (1 : Int)) (Int.toNat (98 : Int)) (2 : Int)) (Int.toNat (99 : Int))
 (2 : Int) =
 shownL
theorem shownN_e  : shownN_t  = vcG Try.prog (Gof []) (fun _ => none) Try.f24 [] [] (.leaf ((.o 2000)) ([(2000, .row 3 (.ints .i64 shownL))])) := by kernel_rfl
def wrsN_t (s w : ByteArray) : Prop :=
 List.length shownL ≤ (4294967296 : Nat) ∧
 ByteArray.size s ≤ (40000 : Nat) ∧
 ((txE shownL s == (0 : Int)) = true → (ByteArray.toList (wrO shownL s) == ByteArray.toList w) = wrsB s w) ∧ ((txE shownL s == (0 : Int)) = false → false = wrsB s w)
theorem wrsN_e (s w : ByteArray) : wrsN_t s w = vcG Try.prog (Gof GUg) (fun _ => none) Try.f25 [.v (.string s), .v (.string w)] [] (.leaf ((.v (.bool (wrsB s w)))) ([])) := by kernel_rfl
def rdsN_t (b : ByteArray) (n : Int) (w : ByteArray) (e : Int) : Prop :=
 List.length shownL ≤ (4294967296 : Nat) ∧
 ByteArray.size b ≤ (4294967296 : Nat) ∧
 ((ByteArray.toList (rO shownL b n) == ByteArray.toList w) = true → (rE shownL b n == e) = rdsB b n w e) ∧ ((ByteArray.toList (rO shownL b n) == ByteArray.toList w) = false → false = rdsB b n w e)
theorem rdsN_e (b : ByteArray) (n : Int) (w : ByteArray) (e : Int) : rdsN_t b n w e = vcG Try.prog (Gof GUg) (fun _ => none) Try.f26 [.v (.string b), .v (.int .i64 n), .v (.string w), .v (.int .i64 e)] [] (.leaf ((.v (.bool (rdsB b n w e)))) ([])) := by kernel_rfl
def awakeN_t  : Prop :=
 List.length (ptV (10 : Int)) = (4 : Nat) ∧
 List.length (ptV (10 : Int)) = List.length (List.replicate (4 : Nat) (0 : Int)) ∧
 ByteArray.size { data := #[(97 : UInt8), (98 : UInt8), (99 : UInt8)] } ≤ (40000 : Nat) ∧
 (wrsB { data := #[(97 : UInt8), (98 : UInt8), (99 : UInt8)] } { data := #[(49 : UInt8)] } = true →
 ByteArray.size ByteArray.empty ≤ (40000 : Nat) ∧
 (wrsB ByteArray.empty { data := #[(1 : UInt8)] } = true →
 ByteArray.size { data := #[(49 : UInt8)] } ≤ (4294967296 : Nat) ∧
 (rdsB { data := #[(49 : UInt8)] } (3 : Int) { data := #[(97 : UInt8), (98 : UInt8), (99 : UInt8)] } (0 : Int) = true →
 ByteArray.size { data := #[(49 : UInt8)] } ≤ (4294967296 : Nat) ∧
 (rdsB { data := #[(49 : UInt8)] } (2 : Int) ByteArray.empty (22 : Int) = true →
 ((ptE (10 : Int) == (0 : Int)) = true →
 (4 : Nat) = List.length (ptV (10 : Int)) ∧
 (4 : Nat) = List.length (ptV (10 : Int)) ∧
 (4 : Nat) = List.length [(3 : Int), (3 : Int), (3 : Int), (1 : Int)] ∧ (ptV (10 : Int) == [(3 : Int), (3 : Int), (3 : Int), (1 : Int)]) = true) ∧
 ((ptE (10 : Int) == (0 : Int)) = false → false = true)) ∧
 (rdsB { data := #[(49 : UInt8)] } (2 : Int) ByteArray.empty (22 : Int) = false → false = true)) ∧
 (rdsB { data := #[(49 : UInt8)] } (3 : Int) { data := #[(97 : UInt8), (98 : UInt8), (99 : UInt8)] } (0 : Int) = false → false = true)) ∧
 (wrsB ByteArray.empty { data := #[(1 : UInt8)] } = false → false = true)) ∧
 (wrsB { data := #[(97 : UInt8), (98 : UInt8), (99 : UInt8)] } { data := #[(49 : UInt8)] } = false → false = true)
theorem awakeN_e  : awakeN_t  = vcG Try.prog (Gof GUh) (fun _ => none) Try.f9 [] [] (.leaf ((.v (.bool true))) ([])) := by kernel_rfl
def lawWrN_t (l : List Int) (s : ByteArray) (n : Int) : Prop :=
 ((!litS l s) = true → true = true) ∧
 ((!litS l s) = false →
 List.length l ≤ (4294967296 : Nat) ∧
 List.length l ≤ (4294967296 : Nat) ∧
 ByteArray.size s ≤ (40000 : Nat) ∧
 List.length l ≤ (4294967296 : Nat) ∧
 ByteArray.size s ≤ (40000 : Nat) ∧
 List.length l ≤ (4294967296 : Nat) ∧
 ByteArray.size s ≤ (40000 : Nat) ∧
 List.length l ≤ (4294967296 : Nat) ∧
 ByteArray.size s ≤ (40000 : Nat) ∧
 ((!ByteArray.toList (wrO l s) == ByteArray.toList (wrO l s)) = true → false = true) ∧
 ((!ByteArray.toList (wrO l s) == ByteArray.toList (wrO l s)) = false →
 ((txE l s != txE l s) = true → false = true) ∧
 ((txE l s != txE l s) = false →
 ((!ByteArray.toList (w4O l s) == ByteArray.toList (w4O l s)) = true → false = true) ∧
 ((!ByteArray.toList (w4O l s) == ByteArray.toList (w4O l s)) = false →
 ((w4E l s != w4E l s) = true → false = true) ∧
 ((w4E l s != w4E l s) = false →
 List.length l ≤ (4294967296 : Nat) ∧
 ByteArray.size s ≤ (40000 : Nat) ∧
 List.length l ≤ (4294967296 : Nat) ∧
 ByteArray.size s ≤ (40000 : Nat) ∧
 List.length (ptV n) = (4 : Nat) ∧
 List.length (ptV n) = List.length (List.replicate (4 : Nat) (0 : Int)) ∧
 List.length (ptV n) = (4 : Nat) ∧
 List.length (ptV n) = List.length (List.replicate (4 : Nat) (0 : Int)) ∧
 ((szO l s == szO l s) = true →
 ((txE l s == txE l s) = true →
 (4 : Nat) = List.length (ptV n) ∧
 (4 : Nat) = List.length (ptV n) ∧
 (4 : Nat) = List.length (ptV n) ∧
 (4 : Nat) = List.length (ptV n) ∧
 ((ptV n == ptV n) = true →
 ((ptE n == ptE n) = true →
 List.length l ≤ (4294967296 : Nat) ∧ (eqL l l = true → true = true) ∧ (eqL l l = false → false = true)) ∧
 ((ptE n == ptE n) = false → false = true)) ∧
 ((ptV n == ptV n) = false → false = true)) ∧
 ((txE l s == txE l s) = false → false = true)) ∧
 ((szO l s == szO l s) = false → false = true))))))
theorem lawWrN_e (l : List Int) (s : ByteArray) (n : Int) : lawWrN_t l s n = vcG Try.prog (Gof GUi) (fun _ => none) Try.f4 [.dat (.ints .i64 l), .v (.string s), .v (.int .i64 n)] [] (.leaf ((.v (.bool true))) ([])) := by kernel_rfl
end Go.Proofs.Ytmdbliacaeokaaa
namespace Go.Proofs.Ytmdbliacaeokaaa
open Go Go.RowKit
set_option linter.unusedVariables false
set_option linter.unusedSimpArgs false
set_option maxRecDepth 100000
theorem fldJ_sound : Sound Try.prog 60 sFld2.ctr := sFld2.sound (by kernel_rfl) sFld2_enc fun n hc => by
  have h0 := hc _ (.head _)
  have h1 := hc _ (.tail _ (.head _))
  exact satG AllOk.nil mixed Try.func60 (fldJ_e n) (fldJ_v n h0 h1)
theorem rlitJ_sound : Sound Try.prog 43 sLit2.ctr := sLit2.sound (by kernel_rfl) sLit2_enc fun n hc => by
  have h0 := hc _ (.head _)
  have h1 := hc _ (.tail _ (.head _))
  exact satG AllOk.nil mixed Try.func43 (rlitJ_e n) (rlitJ_v n h0 h1)
theorem ptlJ_sound : Sound Try.prog 34 sPtL.ctr := sPtL.sound (by kernel_rfl) sPtL_enc fun n hc => by
  have h0 := hc _ (.head _)
  have h1 := hc _ (.tail _ (.head _))
  exact satG AllOk.nil mixed Try.func34 (ptlJ_e n) (ptlJ_v n h0 h1)
theorem rptvJ_sound : Sound Try.prog 23 sPtV.ctr := sPtV.sound (by kernel_rfl) sPtV_enc fun n hc => by
  exact satG AllOk.nil mixed Try.func23 (rptvJ_e n) (rptvJ_v n)
theorem divJ_sound : Sound Try.prog 35 sDivd.ctr := sDivd.sound (by kernel_rfl) sDivd_enc fun ⟨s, p⟩ hc => by
  have h0 := hc _ (.head _)
  exact satG AllOk.nil mixed Try.func35 (divJ_e s p) (divJ_v s p h0)
theorem joinJ_sound : Sound Try.prog 42 sJoin.ctr := sJoin.sound (by kernel_rfl) sJoin_enc fun xs hc => by
  have h0 := hc _ (.head _)
  have h1 := hc _ (.tail _ (.head _))
  exact satG AllOk.nil mixed Try.func42 (joinJ_e xs) (joinJ_v xs h0 h1)
theorem lightJ_sound : Sound Try.prog 8 sLight.ctr := sLight.sound (by kernel_rfl) sLight_enc fun ⟨l, s⟩ hc => by
  exact satG AllOk.nil mixed Try.func8 (lightJ_e l s) (lightJ_v l s)
theorem wroJ_sound : Sound Try.prog 16 sWrO.ctr := sWrO.sound (by kernel_rfl) sWrO_enc fun ⟨l, s⟩ hc => by
  have h0 := hc _ (.head _)
  have h1 := hc _ (.tail _ (.head _))
  exact satG GUc_ok mixed Try.func16 (wroJ_e l s) (wroJ_v l s h0 h1)
theorem szoJ_sound : Sound Try.prog 20 sSzO.ctr := sSzO.sound (by kernel_rfl) sSzO_enc fun ⟨l, s⟩ hc => by
  have h0 := hc _ (.head _)
  have h1 := hc _ (.tail _ (.head _))
  exact satG GUc_ok mixed Try.func20 (szoJ_e l s) (szoJ_v l s h0 h1)
theorem rdoJ_sound : Sound Try.prog 11 sRdO.ctr := sRdO.sound (by kernel_rfl) sRdO_enc fun ⟨l, b, n⟩ hc => by
  have h0 := hc _ (.head _)
  have h1 := hc _ (.tail _ (.head _))
  exact satG GUc_ok mixed Try.func11 (rdoJ_e l b n) (rdoJ_v l b n h0 h1)
theorem rwroJ_sound : Sound Try.prog 17 sWrO.ctr := sWrO.sound (by kernel_rfl) sWrO_enc fun ⟨l, s⟩ hc => by
  have h0 := hc _ (.head _)
  have h1 := hc _ (.tail _ (.head _))
  exact satG GUc_ok mixed Try.func17 (rwroJ_e l s) (wroJ_v l s h0 h1)
theorem GUd_ok : AllOk Try.prog GUd := .cons fldJ_sound <| .cons rlitJ_sound <| .cons ptlJ_sound <| .cons rptvJ_sound <| .cons divJ_sound <| .cons joinJ_sound <| .cons wroJ_sound <| .cons szoJ_sound <| .cons rdoJ_sound <| .cons rwroJ_sound <| GUc_ok
theorem litJ_sound : Sound Try.prog 41 sLit2.ctr := sLit2.sound (by kernel_rfl) sLit2_enc fun n hc => by
  have h0 := hc _ (.head _)
  have h1 := hc _ (.tail _ (.head _))
  exact satG GUd_ok mixed Try.func41 (litJ_e n) (litJ_v n h0 h1)
theorem ptvJ_sound : Sound Try.prog 22 sPtV.ctr := sPtV.sound (by kernel_rfl) sPtV_enc fun n hc => by
  exact satG GUd_ok mixed Try.func22 (ptvJ_e n) (ptvJ_v n)
theorem rszoJ_sound : Sound Try.prog 21 sSzO.ctr := sSzO.sound (by kernel_rfl) sSzO_enc fun ⟨l, s⟩ hc => by
  have h0 := hc _ (.head _)
  have h1 := hc _ (.tail _ (.head _))
  exact satG GUd_ok mixed Try.func21 (rszoJ_e l s) (rszoJ_v l s h0 h1)
theorem rw4J_sound : Sound Try.prog 19 sW4.ctr := sW4.sound (by kernel_rfl) sW4_enc fun ⟨l, s⟩ hc => by
  have h0 := hc _ (.head _)
  have h1 := hc _ (.tail _ (.head _))
  exact satG GUd_ok mixed Try.func19 (rw4J_e l s) (rw4J_v l s h0 h1)
theorem GUe_ok : AllOk Try.prog GUe := .cons litJ_sound <| .cons ptvJ_sound <| .cons rszoJ_sound <| .cons rw4J_sound <| GUd_ok
theorem w4J_sound : Sound Try.prog 18 sW4.ctr := sW4.sound (by kernel_rfl) sW4_enc fun ⟨l, s⟩ hc => by
  have h0 := hc _ (.head _)
  have h1 := hc _ (.tail _ (.head _))
  exact satG GUe_ok mixed Try.func18 (w4J_e l s) (w4J_v l s h0 h1)
theorem GUf_ok : AllOk Try.prog GUf := .cons w4J_sound <| .cons own6_sound <| .cons eq6_sound <| .cons lightJ_sound <| GUe_ok
theorem shownN_v : shownN_t := by
  unfold shownN_t
  decide +kernel
theorem shownN_sound : Sound Try.prog 24 sShown.ctr := sShown.sound (by kernel_rfl) sShown_enc fun _ hc => by
  exact satG AllOk.nil mixed Try.func24 (shownN_e ) (shownN_v)
theorem GUg_ok : AllOk Try.prog GUg := .cons shownN_sound <| GUf_ok
theorem wrsN_v (s w : ByteArray) (h0 : s.size ≤ 40000) : wrsN_t s w := by
  unfold wrsN_t wrsB
  refine ⟨by decide, h0, fun h => ?_, fun h => ?_⟩
  · rw [h, Bool.true_and]
  · rw [h, Bool.false_and]
theorem rdsN_v (b : ByteArray) (n : Int) (w : ByteArray) (e : Int) (h0 : b.size ≤ 4294967296) : rdsN_t b n w e := by
  unfold rdsN_t rdsB
  refine ⟨by decide, h0, fun h => ?_, fun h => ?_⟩
  · rw [h, Bool.true_and]
  · rw [h, Bool.false_and]
theorem wrsN_sound : Sound Try.prog 25 sWrs.ctr := sWrs.sound (by kernel_rfl) sWrs_enc fun ⟨s, w⟩ hc => by
  have h0 := hc _ (.head _)
  exact satG GUg_ok mixed Try.func25 (wrsN_e s w) (wrsN_v s w h0)
theorem rdsN_sound : Sound Try.prog 26 sRds.ctr := sRds.sound (by kernel_rfl) sRds_enc fun ⟨b, n, w, e⟩ hc => by
  have h0 := hc _ (.head _)
  exact satG GUg_ok mixed Try.func26 (rdsN_e b n w e) (rdsN_v b n w e h0)
theorem GUh_ok : AllOk Try.prog GUh := .cons wrsN_sound <| .cons rdsN_sound <| GUg_ok
end Go.Proofs.Ytmdbliacaeokaaa
namespace Go.Proofs.Ytmdbliacaeokaaa
open Go Go.RowKit
set_option linter.unusedVariables false
set_option linter.unusedSimpArgs false
set_option maxRecDepth 100000
theorem awakeN_v : awakeN_t := by
  unfold awakeN_t
  decide +kernel
theorem awakeN_sound : Sound Try.prog 9 sTrue.ctr := sTrue.sound (by kernel_rfl) sTrue_enc fun _ hc => by
  exact satG GUh_ok mixed Try.func9 (awakeN_e ) (awakeN_v)
theorem GUi_ok : AllOk Try.prog GUi := .cons awakeN_sound <| GUh_ok
theorem litS_of {l : List Int} {s : ByteArray} (h : (!litS l s) = false) : l.length ≤ 260 ∧ s.size ≤ 1200 := by
  have h : litS l s = true := by simpa using h
  unfold litS at h
  simpa using h
theorem eqL_refl (a : List Int) : eqL a a = true := by unfold eqL; simp
theorem ptV_len (n : Int) : (ptV n).length = 4 := by
  unfold ptV
  cases ptE n == 0 <;> rfl
theorem lawWrN_v (l : List Int) (s : ByteArray) (n : Int) : lawWrN_t l s n := by
  unfold lawWrN_t
  refine ⟨fun _ => rfl, fun h => ?_⟩
  obtain ⟨h1, h2⟩ := litS_of h
  have a1 : l.length ≤ 4294967296 := by omega
  have a2 : s.size ≤ 40000 := by omega
  simp [a1, a2, eqL_refl, ptV_len]
theorem hwrites_any (A : Option Addr) (m cap : Nat) (zs : List Int) (s : ByteArray) (n : Int) (W : World) (hI : IntsIn W A m cap zs) (hs : s.size ≤ 9223372036854775807) (hn : InR n) :
    Calls Try.prog 4 #[.slice A m cap, .string s, .int .i64 n] W fun e w' => e = .returned (.bool true) ∧ Below W.heap.size W w' := by
  refine law_true (us := [.slice A m cap, .string s, .int .i64 n]) (satG GUi_ok mixed Try.func4 (lawWrN_e (zs.take m) s n) (lawWrN_v _ _ _)) (.inr rfl) ?_
  simp only [Reps]
  exact ⟨_, _, rfl, dat_ints hI, _, _, rfl, rfl, _, _, rfl, rfl, rfl⟩
end Go.Proofs.Ytmdbliacaeokaaa

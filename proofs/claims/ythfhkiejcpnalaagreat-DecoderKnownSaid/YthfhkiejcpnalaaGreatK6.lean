/-
  Texts joined: Dnt, Do, Dp. Conditions: each theorem's own.
-/
import Derived.Test.YthfhkiejcpnalaaGreatK5
import Derived.Test.YthfhkiejcpnalaaGreatK3
namespace Go.Proofs.YthfhkiejcpnalaaGreat
open Go Go.RowKit
set_option linter.unusedVariables false
set_option maxRecDepth 100000
def dcSz_t (b : ByteArray) : Prop :=
 ((ckE b (0 : Int) != (0 : Int)) = true → ckE b (0 : Int) = (0 : Int) ∧ (0 : Int) = (0 : Int) ∧ List.length (dzL b) = (0 : Nat)) ∧
 ((ckE b (0 : Int) != (0 : Int)) = false →
 (∃ (x0 : Nat), Nat.le x0 (dzN b) ∧ b = b ∧ (0 : Int) = dzA b x0 ∧ (0 : Int) = (0 : Int) ∧ (0 : Int) = (0 : Int) ∧ List.length (List.replicate x0 (0 : Int)) = (0 : Nat)) ∧
 ∀ (x1 : Nat),
 Nat.le x1 (dzN b) →
 (decide (dzA b x1 < (↑(ByteArray.size b) : Int)) = true →
 (dsS b (dzA b x1) = true →
 (0 : Int) ≤ dzA b x1 ∧
 dzA b x1 ≤ (↑(ByteArray.size b) : Int) ∧
 ByteArray.size b ≤ (1000000 : Nat) ∧
 ((↑(ByteArray.size b) : Int) - dzA b x1 ≥ (4 : Int) ∨ (↑(ByteArray.size b) : Int) - dzA b x1 ≤ (1 : Int)) ∧
 skOk b (dzA b x1) = true ∧
 ByteArray.size b ≤ (1000000 : Nat) ∧
 (((0 : Int) != (0 : Int)) = true → (0 : Int) = (0 : Int) ∧ (0 : Int) = (0 : Int) ∧ List.length (dzL b) = (0 : Nat)) ∧
 (((0 : Int) != (0 : Int)) = false →
 (List.length (List.replicate x1 (0 : Int)) + (1 : Nat)) * (8 : Nat) ≤ (140737488355328 : Nat) ∧
 ∃ (y2 : Nat),
 Nat.le y2 (dzN b) ∧
 Nat.sub (dzN b) y2 < Nat.sub (dzN b) x1 ∧
 b = b ∧
 skX b (dzA b x1) = dzA b y2 ∧ (0 : Int) = (0 : Int) ∧ (0 : Int) = (0 : Int) ∧ List.replicate x1 (0 : Int) ++ [(0 : Int)] = List.replicate y2 (0 : Int))) ∧
 (¬dsS b (dzA b x1) = true →
 (0 : Int) ≤ dzA b x1 ∧
 dzA b x1 ≤ (↑(ByteArray.size b) : Int) ∧
 ByteArray.size b ≤ (1000000 : Nat) ∧
 ((↑(ByteArray.size b) : Int) - dzA b x1 ≥ (4 : Int) ∨ (↑(ByteArray.size b) : Int) - dzA b x1 ≤ (1 : Int)) ∧
 ByteArray.size b ≤ (1000000 : Nat) ∧
 (((hdE b (dzA b x1)).fst != (0 : Int)) = true → (hdE b (dzA b x1)).fst = (0 : Int) ∧ (hdE b (dzA b x1)).snd = (0 : Int) ∧ List.length (dzL b) = (0 : Nat)) ∧
 (((hdE b (dzA b x1)).fst != (0 : Int)) = false →
 (List.length (List.replicate x1 (0 : Int)) + (1 : Nat)) * (8 : Nat) ≤ (140737488355328 : Nat) ∧
 (0 : Int) = (0 : Int) ∧ (0 : Int) = (0 : Int) ∧ List.replicate x1 (0 : Int) ++ [hhS b (dzA b x1)] = dzL b))) ∧
 (decide (dzA b x1 < (↑(ByteArray.size b) : Int)) = false → (0 : Int) = (0 : Int) ∧ (0 : Int) = (0 : Int) ∧ List.replicate x1 (0 : Int) = dzL b))
theorem dcSz_e (b : ByteArray) : dcSz_t b = vcG Tryz.prog (Gof GDcf) (oDz b) Tryz.f7 [.v (.string b)] [] (.leaf (.tu [.o 2000, .ag [.v (.int .i64 0), .v (.int .i64 0)]]) ([(2000, .row 3 (.ints .i64 (dzL b)))])) := by kernel_rfl
def sameInts_t (a b : List Int) : Prop :=
 (((↑(List.length a) : Int) != (↑(List.length b) : Int)) = true → false = eqI a b) ∧
 (((↑(List.length a) : Int) != (↑(List.length b) : Int)) = false →
 (∃ (x0 : Nat), (x0 ≤ List.length a ∧ List.take x0 a = List.take x0 b) ∧ a = a ∧ b = b ∧ (0 : Int) = (↑x0 : Int)) ∧
 ∀ (x1 : Nat),
 x1 ≤ List.length a ∧ List.take x1 a = List.take x1 b →
 (decide ((↑x1 : Int) < (↑(List.length a) : Int)) = true →
 (0 : Int) ≤ (↑x1 : Int) ∧
 (↑x1 : Int) < (↑(List.length a) : Int) ∧
 (0 : Int) ≤ (↑x1 : Int) ∧
 (↑x1 : Int) < (↑(List.length b) : Int) ∧
 ((List.getD a (Int.toNat (↑x1 : Int)) (0 : Int) != List.getD b (Int.toNat (↑x1 : Int)) (0 : Int)) = true → false = eqI a b) ∧
 ((List.getD a (Int.toNat (↑x1 : Int)) (0 : Int) != List.getD b (Int.toNat (↑x1 : Int)) (0 : Int)) = false →
 ∃ (y2 : Nat),
 (y2 ≤ List.length a ∧ List.take y2 a = List.take y2 b) ∧
 Nat.sub (List.length a) y2 < Nat.sub (List.length a) x1 ∧ a = a ∧ b = b ∧ IntKind.wrap IntKind.i64 ((↑x1 : Int) + (1 : Int)) = (↑y2 : Int))) ∧
 (decide ((↑x1 : Int) < (↑(List.length a) : Int)) = false → true = eqI a b))
theorem sameInts_e (a b : List Int) : sameInts_t a b = vcG Tryz.prog (Gof []) (oEq a b) Tryz.f13 [.dat (.ints .i64 a), .dat (.ints .i64 b)] [] (.leaf ((.v (.bool (eqI a b)))) ([])) := by kernel_rfl
def lMean_t (b : ByteArray) (m : Int) (w : ByteArray) : Prop :=
 (ckE b m = (0 : Int) → dfK b m = true ∧ dpZ b m = true) ∧
 (((dcE b m).fst == (0 : Int) && ((dcE b m).snd == (0 : Int) && true)) = true → (ByteArray.toList (dcO b m) == ByteArray.toList w) = true) ∧
 (((dcE b m).fst == (0 : Int) && ((dcE b m).snd == (0 : Int) && true)) = false → false = true)
theorem lMean_e (b : ByteArray) (m : Int) (w : ByteArray) : lMean_t b m w = vcG Tryz.prog (Gof GDcf) (fun _ => none) Tryz.f11 [.v (.string b), .v (.int .i64 m), .v (.string w)] [] (.leaf ((.v (.bool true))) ([])) := by kernel_rfl
def lWrng_t (b : ByteArray) (m e a : Int) : Prop :=
 (ckE b m = (0 : Int) → dfK b m = true ∧ dpZ b m = true) ∧
 ((ByteArray.toList (dcO b m) == ByteArray.toList ByteArray.empty) = true → ((dcE b m).fst == e && ((dcE b m).snd == a && true)) = true) ∧
 ((ByteArray.toList (dcO b m) == ByteArray.toList ByteArray.empty) = false → false = true)
theorem lWrng_e (b : ByteArray) (m e a : Int) : lWrng_t b m e a = vcG Tryz.prog (Gof GDcf) (fun _ => none) Tryz.f12 [.v (.string b), .v (.int .i64 m), .v (.int .i64 e), .v (.int .i64 a)] [] (.leaf ((.v (.bool true))) ([])) := by kernel_rfl
def lAwk_t  : Prop :=
 (ckE ByteArray.empty (0 : Int) = (0 : Int) → dfK ByteArray.empty (0 : Int) = true ∧ dpZ ByteArray.empty (0 : Int) = true) ∧
 dcE ByteArray.empty (0 : Int) = ((0 : Int), (0 : Int)) ∧
 dcO ByteArray.empty (0 : Int) = ByteArray.empty ∧
 (true = true →
 (ckE { data := #[(40 : UInt8), (181 : UInt8), (47 : UInt8), (253 : UInt8), (0 : UInt8), (0 : UInt8), (9 : UInt8), (0 : UInt8), (0 : UInt8), (97 : UInt8)] } (9 : Int) = (0 : Int) →
 dfK { data := #[(40 : UInt8), (181 : UInt8), (47 : UInt8), (253 : UInt8), (0 : UInt8), (0 : UInt8), (9 : UInt8), (0 : UInt8), (0 : UInt8), (97 : UInt8)] } (9 : Int) = true ∧
 dpZ { data := #[(40 : UInt8), (181 : UInt8), (47 : UInt8), (253 : UInt8), (0 : UInt8), (0 : UInt8), (9 : UInt8), (0 : UInt8), (0 : UInt8), (97 : UInt8)] } (9 : Int) = true) ∧
 dcE { data := #[(40 : UInt8), (181 : UInt8), (47 : UInt8), (253 : UInt8), (0 : UInt8), (0 : UInt8), (9 : UInt8), (0 : UInt8), (0 : UInt8), (97 : UInt8)] } (9 : Int) =
 ((0 : Int), (0 : Int)) ∧
 dcO { data := #[(40 : UInt8), (181 : UInt8), (47 : UInt8), (253 : UInt8), (0 : UInt8), (0 : UInt8), (9 : UInt8), (0 : UInt8), (0 : UInt8), (97 : UInt8)] } (9 : Int) =
 { data := #[(97 : UInt8)] } ∧
 (true = true →
 (ckE
 {
 data :=
 #[(80 : UInt8), (42 : UInt8), (77 : UInt8), (24 : UInt8), (1 : UInt8), (0 : UInt8), (0 : UInt8), (0 : UInt8), (255 : UInt8), (40 : UInt8), (181 : UInt8), (47 : UInt8),
 (253 : UInt8), (0 : UInt8), (0 : UInt8), (9 : UInt8), (0 : UInt8), (0 : UInt8), (97 : UInt8), (40 : UInt8), (181 : UInt8), (47 : UInt8), (253 : UInt8), (0 : UInt8),
 (0 : UInt8), (9 : UInt8), (0 : UInt8), (0 : UInt8), (97 : UInt8)] }
 (9 : Int) =
 (0 : Int) →
 dfK
 {
 data :=
 #[(80 : UInt8), (42 : UInt8), (77 : UInt8), (24 : UInt8), (1 : UInt8), (0 : UInt8), (0 : UInt8), (0 : UInt8), (255 : UInt8), (40 : UInt8), (181 : UInt8),
 (47 : UInt8), (253 : UInt8), (0 : UInt8), (0 : UInt8), (9 : UInt8), (0 : UInt8), (0 : UInt8), (97 : UInt8), (40 : UInt8), (181 : UInt8), (47 : UInt8),
 (253 : UInt8), (0 : UInt8), (0 : UInt8), (9 : UInt8), (0 : UInt8), (0 : UInt8), (97 : UInt8)] }
 (9 : Int) =
 true ∧
 dpZ
 {
 data :=
 #[(80 : UInt8), (42 : UInt8), (77 : UInt8), (24 : UInt8), (1 : UInt8), (0 : UInt8), (0 : UInt8), (0 : UInt8), (255 : UInt8), (40 : UInt8), (181 : UInt8),
 (47 : UInt8), (253 : UInt8), (0 : UInt8), (0 : UInt8), (9 : UInt8), (0 : UInt8), (0 : UInt8), (97 : UInt8), (40 : UInt8), (181 : UInt8), (47 : UInt8),
 (253 : UInt8), (0 : UInt8), (0 : UInt8), (9 : UInt8), (0 : UInt8), (0 : UInt8), (97 : UInt8)] }
 (9 : Int) =
 true) ∧
 dcE
 {
 data :=
 #[(80 : UInt8), (42 : UInt8), (77 : UInt8), (24 : UInt8), (1 : UInt8), (0 : UInt8), (0 : UInt8), (0 : UInt8), (255 : UInt8), (40 : UInt8), (181 : UInt8), (47 : UInt8),
 (253 : UInt8), (0 : UInt8), (0 : UInt8), (9 : UInt8), (0 : UInt8), (0 : UInt8), (97 : UInt8), (40 : UInt8), (181 : UInt8), (47 : UInt8), (253 : UInt8), (0 : UInt8),
 (0 : UInt8), (9 : UInt8), (0 : UInt8), (0 : UInt8), (97 : UInt8)] }
 (9 : Int) =
 ((0 : Int), (0 : Int)) ∧
 dcO
 {
 data :=
 #[(80 : UInt8), (42 : UInt8), (77 : UInt8), (24 : UInt8), (1 : UInt8), (0 : UInt8), (0 : UInt8), (0 : UInt8), (255 : UInt8), (40 : UInt8), (181 : UInt8),
 (47 : UInt8), (253 : UInt8), (0 : UInt8), (0 : UInt8), (9 : UInt8), (0 : UInt8), (0 : UInt8), (97 : UInt8), (40 : UInt8), (181 : UInt8), (47 : UInt8),
 (253 : UInt8), (0 : UInt8), (0 : UInt8), (9 : UInt8), (0 : UInt8), (0 : UInt8), (97 : UInt8)] }
 (9 : Int) =
 { data := #[(97 : UInt8), (97 : UInt8)] } ∧
 (true = true →
 (ckE { data := #[(40 : UInt8), (181 : UInt8), (47 : UInt8), (253 : UInt8), (0 : UInt8), (0 : UInt8), (9 : UInt8), (0 : UInt8), (0 : UInt8), (97 : UInt8)] } (0 : Int) =
 (0 : Int) →
 dfK { data := #[(40 : UInt8), (181 : UInt8), (47 : UInt8), (253 : UInt8), (0 : UInt8), (0 : UInt8), (9 : UInt8), (0 : UInt8), (0 : UInt8), (97 : UInt8)] } (0 : Int) =
 true ∧
 dpZ { data := #[(40 : UInt8), (181 : UInt8), (47 : UInt8), (253 : UInt8), (0 : UInt8), (0 : UInt8), (9 : UInt8), (0 : UInt8), (0 : UInt8), (97 : UInt8)] }
 (0 : Int) =
 true) ∧
 dcE { data := #[(40 : UInt8), (181 : UInt8), (47 : UInt8), (253 : UInt8), (0 : UInt8), (0 : UInt8), (9 : UInt8), (0 : UInt8), (0 : UInt8), (97 : UInt8)] } (0 : Int) =
 ((18 : Int), (6 : Int)) ∧
 dcO { data := #[(40 : UInt8), (181 : UInt8), (47 : UInt8), (253 : UInt8), (0 : UInt8), (0 : UInt8), (9 : UInt8), (0 : UInt8), (0 : UInt8), (97 : UInt8)] } (0 : Int) =
 ByteArray.empty ∧
 true = true) ∧
 (true = false → false = true)) ∧
 (true = false → false = true)) ∧
 (true = false → false = true)
theorem lAwk_e  : lAwk_t  = vcG Tryz.prog (Gof GDcg) (fun _ => none) Tryz.f10 [] [] (.leaf ((.v (.bool true))) ([])) := by kernel_rfl
def lawKn_t  : Prop :=
 ckE
 {
 data :=
 #[(80 : UInt8), (42 : UInt8), (77 : UInt8), (24 : UInt8), (1 : UInt8), (0 : UInt8), (0 : UInt8), (0 : UInt8), (255 : UInt8), (40 : UInt8), (181 : UInt8), (47 : UInt8), (253 : UInt8),
 (0 : UInt8), (0 : UInt8), (9 : UInt8), (0 : UInt8), (0 : UInt8), (97 : UInt8), (40 : UInt8), (181 : UInt8), (47 : UInt8), (253 : UInt8), (0 : UInt8), (0 : UInt8), (9 : UInt8), (0 : UInt8),
 (0 : UInt8), (97 : UInt8)] }
 (9 : Int) =
 (0 : Int) ∧
 dfK
 {
 data :=
 #[(80 : UInt8), (42 : UInt8), (77 : UInt8), (24 : UInt8), (1 : UInt8), (0 : UInt8), (0 : UInt8), (0 : UInt8), (255 : UInt8), (40 : UInt8), (181 : UInt8), (47 : UInt8), (253 : UInt8),
 (0 : UInt8), (0 : UInt8), (9 : UInt8), (0 : UInt8), (0 : UInt8), (97 : UInt8), (40 : UInt8), (181 : UInt8), (47 : UInt8), (253 : UInt8), (0 : UInt8), (0 : UInt8), (9 : UInt8),
 (0 : UInt8), (0 : UInt8), (97 : UInt8)] }
 (9 : Int) =
 true ∧
 dpZ
 {
 data :=
 #[(80 : UInt8), (42 : UInt8), (77 : UInt8), (24 : UInt8), (1 : UInt8), (0 : UInt8), (0 : UInt8), (0 : UInt8), (255 : UInt8), (40 : UInt8), (181 : UInt8), (47 : UInt8), (253 : UInt8),
 (0 : UInt8), (0 : UInt8), (9 : UInt8), (0 : UInt8), (0 : UInt8), (97 : UInt8), (40 : UInt8), (181 : UInt8), (47 : UInt8), (253 : UInt8), (0 : UInt8), (0 : UInt8), (9 : UInt8),
 (0 : UInt8), (0 : UInt8), (97 : UInt8)] }
 (9 : Int) =
 true ∧
 (dpE
 {
 data :=
 #[(80 : UInt8), (42 : UInt8), (77 : UInt8), (24 : UInt8), (1 : UInt8), (0 : UInt8), (0 : UInt8), (0 : UInt8), (255 : UInt8), (40 : UInt8), (181 : UInt8), (47 : UInt8), (253 : UInt8),
 (0 : UInt8), (0 : UInt8), (9 : UInt8), (0 : UInt8), (0 : UInt8), (97 : UInt8), (40 : UInt8), (181 : UInt8), (47 : UInt8), (253 : UInt8), (0 : UInt8), (0 : UInt8), (9 : UInt8),
 (0 : UInt8), (0 : UInt8), (97 : UInt8)] }
 (9 : Int)).fst =
 (0 : Int) ∧
 (ckE
 {
 data :=
 #[(40 : UInt8), (181 : UInt8), (47 : UInt8), (253 : UInt8), (0 : UInt8), (0 : UInt8), (9 : UInt8), (0 : UInt8), (0 : UInt8), (97 : UInt8), (80 : UInt8), (42 : UInt8), (77 : UInt8),
 (24 : UInt8), (1 : UInt8), (0 : UInt8), (0 : UInt8), (0 : UInt8), (255 : UInt8), (40 : UInt8), (181 : UInt8), (47 : UInt8), (253 : UInt8), (0 : UInt8), (0 : UInt8), (9 : UInt8),
 (0 : UInt8), (0 : UInt8), (97 : UInt8)] }
 (9 : Int) =
 (0 : Int) →
 dfK
 {
 data :=
 #[(40 : UInt8), (181 : UInt8), (47 : UInt8), (253 : UInt8), (0 : UInt8), (0 : UInt8), (9 : UInt8), (0 : UInt8), (0 : UInt8), (97 : UInt8), (80 : UInt8), (42 : UInt8),
 (77 : UInt8), (24 : UInt8), (1 : UInt8), (0 : UInt8), (0 : UInt8), (0 : UInt8), (255 : UInt8), (40 : UInt8), (181 : UInt8), (47 : UInt8), (253 : UInt8), (0 : UInt8),
 (0 : UInt8), (9 : UInt8), (0 : UInt8), (0 : UInt8), (97 : UInt8)] }
 (9 : Int) =
 true ∧
 dpZ
 {
 data :=
 #[(40 : UInt8), (181 : UInt8), (47 : UInt8), (253 : UInt8), (0 : UInt8), (0 : UInt8), (9 : UInt8), (0 : UInt8), (0 : UInt8), (97 : UInt8), (80 : UInt8), (42 : UInt8),
 (77 : UInt8), (24 : UInt8), (1 : UInt8), (0 : UInt8), (0 : UInt8), (0 : UInt8), (255 : UInt8), (40 : UInt8), (181 : UInt8), (47 : UInt8), (253 : UInt8), (0 : UInt8),
 (0 : UInt8), (9 : UInt8), (0 : UInt8), (0 : UInt8), (97 : UInt8)] }
 (9 : Int) =
 true) ∧
 ckE
 {
 data :=
 #[(40 : UInt8), (181 : UInt8), (47 : UInt8), (253 : UInt8), (0 : UInt8), (0 : UInt8), (9 : UInt8), (0 : UInt8), (0 : UInt8), (97 : UInt8), (40 : UInt8), (181 : UInt8),
 (47 : UInt8), (253 : UInt8), (0 : UInt8), (0 : UInt8), (9 : UInt8), (0 : UInt8), (0 : UInt8), (97 : UInt8)] }
 (9 : Int) =
 (0 : Int) ∧
 dfK
 {
 data :=
 #[(40 : UInt8), (181 : UInt8), (47 : UInt8), (253 : UInt8), (0 : UInt8), (0 : UInt8), (9 : UInt8), (0 : UInt8), (0 : UInt8), (97 : UInt8), (40 : UInt8), (181 : UInt8),
 (47 : UInt8), (253 : UInt8), (0 : UInt8), (0 : UInt8), (9 : UInt8), (0 : UInt8), (0 : UInt8), (97 : UInt8)] }
 (9 : Int) =
 true ∧
 (0 : Int) ≤ (1 : Int) ∧
 ckE { data := #[(40 : UInt8), (181 : UInt8), (47 : UInt8), (253 : UInt8), (0 : UInt8), (0 : UInt8), (9 : UInt8), (0 : UInt8), (0 : UInt8), (97 : UInt8)] } (9 : Int) = (0 : Int) ∧
 dfK { data := #[(40 : UInt8), (181 : UInt8), (47 : UInt8), (253 : UInt8), (0 : UInt8), (0 : UInt8), (9 : UInt8), (0 : UInt8), (0 : UInt8), (97 : UInt8)] } (9 : Int) = true ∧
 (0 : Int) ≤ (1 : Int) ∧
 dzK
 {
 data :=
 #[(80 : UInt8), (42 : UInt8), (77 : UInt8), (24 : UInt8), (1 : UInt8), (0 : UInt8), (0 : UInt8), (0 : UInt8), (255 : UInt8), (40 : UInt8), (181 : UInt8), (47 : UInt8),
 (253 : UInt8), (0 : UInt8), (0 : UInt8), (9 : UInt8), (0 : UInt8), (0 : UInt8), (97 : UInt8)] } =
 true ∧
 ckE
 {
 data :=
 #[(80 : UInt8), (42 : UInt8), (77 : UInt8), (24 : UInt8), (1 : UInt8), (0 : UInt8), (0 : UInt8), (0 : UInt8), (255 : UInt8), (40 : UInt8), (181 : UInt8),
 (47 : UInt8), (253 : UInt8), (0 : UInt8), (0 : UInt8), (9 : UInt8), (0 : UInt8), (0 : UInt8), (97 : UInt8)] }
 (0 : Int) =
 (0 : Int) ∧
 dzK ByteArray.empty = true ∧
 ckE ByteArray.empty (0 : Int) = (0 : Int) ∧
 ckE { data := #[(40 : UInt8), (181 : UInt8), (47 : UInt8), (253 : UInt8), (0 : UInt8), (0 : UInt8), (9 : UInt8), (0 : UInt8), (0 : UInt8), (97 : UInt8), (0 : UInt8)] }
 (9 : Int) =
 (0 : Int) ∧
 dfK { data := #[(40 : UInt8), (181 : UInt8), (47 : UInt8), (253 : UInt8), (0 : UInt8), (0 : UInt8), (9 : UInt8), (0 : UInt8), (0 : UInt8), (97 : UInt8), (0 : UInt8)] }
 (9 : Int) =
 true ∧
 dpZ
 {
 data :=
 #[(40 : UInt8), (181 : UInt8), (47 : UInt8), (253 : UInt8), (0 : UInt8), (0 : UInt8), (9 : UInt8), (0 : UInt8), (0 : UInt8), (97 : UInt8), (0 : UInt8)] }
 (9 : Int) =
 true ∧
 (ckE { data := #[(40 : UInt8), (181 : UInt8), (47 : UInt8), (253 : UInt8), (0 : UInt8), (0 : UInt8), (9 : UInt8), (0 : UInt8), (0 : UInt8), (97 : UInt8)] }
 (1048577 : Int) =
 (0 : Int) →
 dfK { data := #[(40 : UInt8), (181 : UInt8), (47 : UInt8), (253 : UInt8), (0 : UInt8), (0 : UInt8), (9 : UInt8), (0 : UInt8), (0 : UInt8), (97 : UInt8)] }
 (1048577 : Int) =
 true ∧
 dpZ { data := #[(40 : UInt8), (181 : UInt8), (47 : UInt8), (253 : UInt8), (0 : UInt8), (0 : UInt8), (9 : UInt8), (0 : UInt8), (0 : UInt8), (97 : UInt8)] }
 (1048577 : Int) =
 true) ∧
 (true = true →
 (ckE
 {
 data :=
 #[(40 : UInt8), (181 : UInt8), (47 : UInt8), (253 : UInt8), (0 : UInt8), (0 : UInt8), (9 : UInt8), (0 : UInt8), (0 : UInt8), (97 : UInt8),
 (40 : UInt8), (181 : UInt8), (47 : UInt8), (253 : UInt8), (0 : UInt8), (0 : UInt8), (9 : UInt8), (0 : UInt8), (0 : UInt8), (97 : UInt8)] }
 (9 : Int) =
 (0 : Int) →
 dfK
 {
 data :=
 #[(40 : UInt8), (181 : UInt8), (47 : UInt8), (253 : UInt8), (0 : UInt8), (0 : UInt8), (9 : UInt8), (0 : UInt8), (0 : UInt8), (97 : UInt8),
 (40 : UInt8), (181 : UInt8), (47 : UInt8), (253 : UInt8), (0 : UInt8), (0 : UInt8), (9 : UInt8), (0 : UInt8), (0 : UInt8), (97 : UInt8)] }
 (9 : Int) =
 true ∧
 dpZ
 {
 data :=
 #[(40 : UInt8), (181 : UInt8), (47 : UInt8), (253 : UInt8), (0 : UInt8), (0 : UInt8), (9 : UInt8), (0 : UInt8), (0 : UInt8), (97 : UInt8),
 (40 : UInt8), (181 : UInt8), (47 : UInt8), (253 : UInt8), (0 : UInt8), (0 : UInt8), (9 : UInt8), (0 : UInt8), (0 : UInt8), (97 : UInt8)] }
 (9 : Int) =
 true) ∧
 dcE
 {
 data :=
 #[(40 : UInt8), (181 : UInt8), (47 : UInt8), (253 : UInt8), (0 : UInt8), (0 : UInt8), (9 : UInt8), (0 : UInt8), (0 : UInt8), (97 : UInt8),
 (40 : UInt8), (181 : UInt8), (47 : UInt8), (253 : UInt8), (0 : UInt8), (0 : UInt8), (9 : UInt8), (0 : UInt8), (0 : UInt8), (97 : UInt8)] }
 (9 : Int) =
 ((0 : Int), (0 : Int)) ∧
 dcO
 {
 data :=
 #[(40 : UInt8), (181 : UInt8), (47 : UInt8), (253 : UInt8), (0 : UInt8), (0 : UInt8), (9 : UInt8), (0 : UInt8), (0 : UInt8), (97 : UInt8),
 (40 : UInt8), (181 : UInt8), (47 : UInt8), (253 : UInt8), (0 : UInt8), (0 : UInt8), (9 : UInt8), (0 : UInt8), (0 : UInt8), (97 : UInt8)] }
 (9 : Int) =
 { data := #[(97 : UInt8), (97 : UInt8)] } ∧
 (true = true →
 (ckE
 {
 data :=
 #[(80 : UInt8), (42 : UInt8), (77 : UInt8), (24 : UInt8), (1 : UInt8), (0 : UInt8), (0 : UInt8), (0 : UInt8), (255 : UInt8),
 (40 : UInt8), (181 : UInt8), (47 : UInt8), (253 : UInt8), (0 : UInt8), (0 : UInt8), (9 : UInt8), (0 : UInt8), (0 : UInt8),
 (97 : UInt8)] }
 (9 : Int) =
 (0 : Int) →
 dfK
 {
 data :=
 #[(80 : UInt8), (42 : UInt8), (77 : UInt8), (24 : UInt8), (1 : UInt8), (0 : UInt8), (0 : UInt8), (0 : UInt8), (255 : UInt8),
 (40 : UInt8), (181 : UInt8), (47 : UInt8), (253 : UInt8), (0 : UInt8), (0 : UInt8), (9 : UInt8), (0 : UInt8), (0 : UInt8),
 (97 : UInt8)] }
 (9 : Int) =
 true ∧
 dpZ
 {
 data :=
 #[(80 : UInt8), (42 : UInt8), (77 : UInt8), (24 : UInt8), (1 : UInt8), (0 : UInt8), (0 : UInt8), (0 : UInt8), (255 : UInt8),
 (40 : UInt8), (181 : UInt8), (47 : UInt8), (253 : UInt8), (0 : UInt8), (0 : UInt8), (9 : UInt8), (0 : UInt8), (0 : UInt8),
 (97 : UInt8)] }
 (9 : Int) =
 true) ∧
 dcE
 {
 data :=
 #[(80 : UInt8), (42 : UInt8), (77 : UInt8), (24 : UInt8), (1 : UInt8), (0 : UInt8), (0 : UInt8), (0 : UInt8), (255 : UInt8),
 (40 : UInt8), (181 : UInt8), (47 : UInt8), (253 : UInt8), (0 : UInt8), (0 : UInt8), (9 : UInt8), (0 : UInt8), (0 : UInt8),
 (97 : UInt8)] }
 (9 : Int) =
 ((0 : Int), (0 : Int)) ∧
 dcO
 {
 data :=
 #[(80 : UInt8), (42 : UInt8), (77 : UInt8), (24 : UInt8), (1 : UInt8), (0 : UInt8), (0 : UInt8), (0 : UInt8), (255 : UInt8),
 (40 : UInt8), (181 : UInt8), (47 : UInt8), (253 : UInt8), (0 : UInt8), (0 : UInt8), (9 : UInt8), (0 : UInt8), (0 : UInt8),
 (97 : UInt8)] }
 (9 : Int) =
 { data := #[(97 : UInt8)] } ∧
 (true = true →
 (ckE
 {
 data :=
 #[(40 : UInt8), (181 : UInt8), (47 : UInt8), (253 : UInt8), (0 : UInt8), (0 : UInt8), (9 : UInt8), (0 : UInt8), (0 : UInt8),
 (97 : UInt8), (40 : UInt8), (181 : UInt8), (47 : UInt8), (253 : UInt8), (0 : UInt8), (0 : UInt8), (9 : UInt8), (0 : UInt8),
 (0 : UInt8), (97 : UInt8)] }
 (1 : Int) =
 (0 : Int) →
 dfK
 {
 data :=
 #[(40 : UInt8), (181 : UInt8), (47 : UInt8), (253 : UInt8), (0 : UInt8), (0 : UInt8), (9 : UInt8), (0 : UInt8), (0 : UInt8),
 (97 : UInt8), (40 : UInt8), (181 : UInt8), (47 : UInt8), (253 : UInt8), (0 : UInt8), (0 : UInt8), (9 : UInt8),
 (0 : UInt8), (0 : UInt8), (97 : UInt8)] }
 (1 : Int) =
 true ∧
 dpZ
 {
 data :=
 #[(40 : UInt8), (181 : UInt8), (47 : UInt8), (253 : UInt8), (0 : UInt8), (0 : UInt8), (9 : UInt8), (0 : UInt8), (0 : UInt8),
 (97 : UInt8), (40 : UInt8), (181 : UInt8), (47 : UInt8), (253 : UInt8), (0 : UInt8), (0 : UInt8), (9 : UInt8),
 (0 : UInt8), (0 : UInt8), (97 : UInt8)] }
 (1 : Int) =
 true) ∧
 dcE
 {
 data :=
 #[(40 : UInt8), (181 : UInt8), (47 : UInt8), (253 : UInt8), (0 : UInt8), (0 : UInt8), (9 : UInt8), (0 : UInt8), (0 : UInt8),
 (97 : UInt8), (40 : UInt8), (181 : UInt8), (47 : UInt8), (253 : UInt8), (0 : UInt8), (0 : UInt8), (9 : UInt8), (0 : UInt8),
 (0 : UInt8), (97 : UInt8)] }
 (1 : Int) =
 ((18 : Int), (16 : Int)) ∧
 dcO
 {
 data :=
 #[(40 : UInt8), (181 : UInt8), (47 : UInt8), (253 : UInt8), (0 : UInt8), (0 : UInt8), (9 : UInt8), (0 : UInt8), (0 : UInt8),
 (97 : UInt8), (40 : UInt8), (181 : UInt8), (47 : UInt8), (253 : UInt8), (0 : UInt8), (0 : UInt8), (9 : UInt8),
 (0 : UInt8), (0 : UInt8), (97 : UInt8)] }
 (1 : Int) =
 ByteArray.empty ∧
 (true = true →
 (((0 : Int) == (0 : Int) && ((0 : Int) == (0 : Int) && true)) = true →
 List.length
 (dpB
 {
 data :=
 #[(80 : UInt8), (42 : UInt8), (77 : UInt8), (24 : UInt8), (1 : UInt8), (0 : UInt8), (0 : UInt8), (0 : UInt8),
 (255 : UInt8), (40 : UInt8), (181 : UInt8), (47 : UInt8), (253 : UInt8), (0 : UInt8), (0 : UInt8),
 (9 : UInt8), (0 : UInt8), (0 : UInt8), (97 : UInt8), (40 : UInt8), (181 : UInt8), (47 : UInt8), (253 : UInt8),
 (0 : UInt8), (0 : UInt8), (9 : UInt8), (0 : UInt8), (0 : UInt8), (97 : UInt8)] }
 (9 : Int)
 (dpK
 {
 data :=
 #[(80 : UInt8), (42 : UInt8), (77 : UInt8), (24 : UInt8), (1 : UInt8), (0 : UInt8), (0 : UInt8), (0 : UInt8),
 (255 : UInt8), (40 : UInt8), (181 : UInt8), (47 : UInt8), (253 : UInt8), (0 : UInt8), (0 : UInt8),
 (9 : UInt8), (0 : UInt8), (0 : UInt8), (97 : UInt8), (40 : UInt8), (181 : UInt8), (47 : UInt8),
 (253 : UInt8), (0 : UInt8), (0 : UInt8), (9 : UInt8), (0 : UInt8), (0 : UInt8), (97 : UInt8)] }
 (9 : Int))) ≤
 (4294967296 : Nat) ∧
 (eqI
 (dpB
 {
 data :=
 #[(80 : UInt8), (42 : UInt8), (77 : UInt8), (24 : UInt8), (1 : UInt8), (0 : UInt8), (0 : UInt8),
 (0 : UInt8), (255 : UInt8), (40 : UInt8), (181 : UInt8), (47 : UInt8), (253 : UInt8), (0 : UInt8),
 (0 : UInt8), (9 : UInt8), (0 : UInt8), (0 : UInt8), (97 : UInt8), (40 : UInt8), (181 : UInt8),
 (47 : UInt8), (253 : UInt8), (0 : UInt8), (0 : UInt8), (9 : UInt8), (0 : UInt8), (0 : UInt8),
 (97 : UInt8)] }
 (9 : Int)
 (dpK
 {
 data :=
 #[(80 : UInt8), (42 : UInt8), (77 : UInt8), (24 : UInt8), (1 : UInt8), (0 : UInt8), (0 : UInt8),
 (0 : UInt8), (255 : UInt8), (40 : UInt8), (181 : UInt8), (47 : UInt8), (253 : UInt8), (0 : UInt8),
 (0 : UInt8), (9 : UInt8), (0 : UInt8), (0 : UInt8), (97 : UInt8), (40 : UInt8), (181 : UInt8),
 (47 : UInt8), (253 : UInt8), (0 : UInt8), (0 : UInt8), (9 : UInt8), (0 : UInt8), (0 : UInt8),
 (97 : UInt8)] }
 (9 : Int)))
 [(0 : Int), (9 : Int), (19 : Int)] =
 true →
 (((dcE
 {
 data :=
 #[(40 : UInt8), (181 : UInt8), (47 : UInt8), (253 : UInt8), (0 : UInt8), (0 : UInt8), (9 : UInt8),
 (0 : UInt8), (0 : UInt8), (97 : UInt8), (80 : UInt8), (42 : UInt8), (77 : UInt8), (24 : UInt8),
 (1 : UInt8), (0 : UInt8), (0 : UInt8), (0 : UInt8), (255 : UInt8), (40 : UInt8), (181 : UInt8),
 (47 : UInt8), (253 : UInt8), (0 : UInt8), (0 : UInt8), (9 : UInt8), (0 : UInt8), (0 : UInt8),
 (97 : UInt8)] }
 (9 : Int)).fst ==
 (0 : Int) &&
 ((dcE
 {
 data :=
 #[(40 : UInt8), (181 : UInt8), (47 : UInt8), (253 : UInt8), (0 : UInt8), (0 : UInt8), (9 : UInt8),
 (0 : UInt8), (0 : UInt8), (97 : UInt8), (80 : UInt8), (42 : UInt8), (77 : UInt8), (24 : UInt8),
 (1 : UInt8), (0 : UInt8), (0 : UInt8), (0 : UInt8), (255 : UInt8), (40 : UInt8), (181 : UInt8),
 (47 : UInt8), (253 : UInt8), (0 : UInt8), (0 : UInt8), (9 : UInt8), (0 : UInt8), (0 : UInt8),
 (97 : UInt8)] }
 (9 : Int)).snd ==
 (0 : Int) &&
 true)) =
 true →
 (((↑(ByteArray.size
 (dcO
 {
 data :=
 #[(40 : UInt8), (181 : UInt8), (47 : UInt8), (253 : UInt8), (0 : UInt8), (0 : UInt8),
 (9 : UInt8), (0 : UInt8), (0 : UInt8), (97 : UInt8), (80 : UInt8), (42 : UInt8),
 (77 : UInt8), (24 : UInt8), (1 : UInt8), (0 : UInt8), (0 : UInt8), (0 : UInt8),
 (255 : UInt8), (40 : UInt8), (181 : UInt8), (47 : UInt8), (253 : UInt8), (0 : UInt8),
 (0 : UInt8), (9 : UInt8), (0 : UInt8), (0 : UInt8), (97 : UInt8)] }
 (9 : Int))) :
 Int) ==
 (2 : Int)) =
 true →
 (((dgE
 {
 data :=
 #[(40 : UInt8), (181 : UInt8), (47 : UInt8), (253 : UInt8), (0 : UInt8), (0 : UInt8),
 (9 : UInt8), (0 : UInt8), (0 : UInt8), (97 : UInt8), (40 : UInt8), (181 : UInt8),
 (47 : UInt8), (253 : UInt8), (0 : UInt8), (0 : UInt8), (9 : UInt8), (0 : UInt8),
 (0 : UInt8), (97 : UInt8)] }
 (9 : Int) (1 : Int)).fst ==
 (0 : Int) &&
 ((dgE
 {
 data :=
 #[(40 : UInt8), (181 : UInt8), (47 : UInt8), (253 : UInt8), (0 : UInt8), (0 : UInt8),
 (9 : UInt8), (0 : UInt8), (0 : UInt8), (97 : UInt8), (40 : UInt8), (181 : UInt8),
 (47 : UInt8), (253 : UInt8), (0 : UInt8), (0 : UInt8), (9 : UInt8), (0 : UInt8),
 (0 : UInt8), (97 : UInt8)] }
 (9 : Int) (1 : Int)).snd ==
 (0 : Int) &&
 true)) =
 true →
 ((ByteArray.toList
 (dgO
 {
 data :=
 #[(40 : UInt8), (181 : UInt8), (47 : UInt8), (253 : UInt8), (0 : UInt8), (0 : UInt8),
 (9 : UInt8), (0 : UInt8), (0 : UInt8), (97 : UInt8), (40 : UInt8), (181 : UInt8),
 (47 : UInt8), (253 : UInt8), (0 : UInt8), (0 : UInt8), (9 : UInt8), (0 : UInt8),
 (0 : UInt8), (97 : UInt8)] }
 (9 : Int) (1 : Int)) ==
 ByteArray.toList { data := #[(97 : UInt8)] }) =
 true →
 (((dgE
 {
 data :=
 #[(40 : UInt8), (181 : UInt8), (47 : UInt8), (253 : UInt8), (0 : UInt8),
 (0 : UInt8), (9 : UInt8), (0 : UInt8), (0 : UInt8), (97 : UInt8)] }
 (9 : Int) (1 : Int)).fst ==
 (2 : Int) &&
 ((dgE
 {
 data :=
 #[(40 : UInt8), (181 : UInt8), (47 : UInt8), (253 : UInt8), (0 : UInt8),
 (0 : UInt8), (9 : UInt8), (0 : UInt8), (0 : UInt8), (97 : UInt8)] }
 (9 : Int) (1 : Int)).snd ==
 (0 : Int) &&
 true)) =
 true →
 (((0 : Int) == (0 : Int) && ((0 : Int) == (0 : Int) && true)) = true →
 List.length
 (dzL
 {
 data :=
 #[(80 : UInt8), (42 : UInt8), (77 : UInt8), (24 : UInt8), (1 : UInt8),
 (0 : UInt8), (0 : UInt8), (0 : UInt8), (255 : UInt8), (40 : UInt8),
 (181 : UInt8), (47 : UInt8), (253 : UInt8), (0 : UInt8), (0 : UInt8),
 (9 : UInt8), (0 : UInt8), (0 : UInt8), (97 : UInt8)] }) ≤
 (4294967296 : Nat) ∧
 (eqI
 (dzL
 {
 data :=
 #[(80 : UInt8), (42 : UInt8), (77 : UInt8), (24 : UInt8), (1 : UInt8),
 (0 : UInt8), (0 : UInt8), (0 : UInt8), (255 : UInt8), (40 : UInt8),
 (181 : UInt8), (47 : UInt8), (253 : UInt8), (0 : UInt8), (0 : UInt8),
 (9 : UInt8), (0 : UInt8), (0 : UInt8), (97 : UInt8)] })
 [(0 : Int), (-1 : Int)] =
 true →
 (((0 : Int) == (0 : Int) && ((0 : Int) == (0 : Int) && true)) = true →
 (((↑(List.length (dzL ByteArray.empty)) : Int) == (0 : Int)) = true →
 ((ByteArray.toList
 (dpO
 {
 data :=
 #[(40 : UInt8), (181 : UInt8), (47 : UInt8), (253 : UInt8),
 (0 : UInt8), (0 : UInt8), (9 : UInt8), (0 : UInt8),
 (0 : UInt8), (97 : UInt8), (0 : UInt8)] }
 (9 : Int)
 (dpK
 {
 data :=
 #[(40 : UInt8), (181 : UInt8), (47 : UInt8), (253 : UInt8),
 (0 : UInt8), (0 : UInt8), (9 : UInt8), (0 : UInt8),
 (0 : UInt8), (97 : UInt8), (0 : UInt8)] }
 (9 : Int))) ==
 ByteArray.toList { data := #[(97 : UInt8)] }) =
 true →
 ((dfA
 {
 data :=
 #[(40 : UInt8), (181 : UInt8), (47 : UInt8), (253 : UInt8),
 (0 : UInt8), (0 : UInt8), (9 : UInt8), (0 : UInt8),
 (0 : UInt8), (97 : UInt8), (0 : UInt8)] }
 (9 : Int)
 (dpK
 {
 data :=
 #[(40 : UInt8), (181 : UInt8), (47 : UInt8), (253 : UInt8),
 (0 : UInt8), (0 : UInt8), (9 : UInt8), (0 : UInt8),
 (0 : UInt8), (97 : UInt8), (0 : UInt8)] }
 (9 : Int)) ==
 (10 : Int)) =
 true →
 (((dpE
 {
 data :=
 #[(40 : UInt8), (181 : UInt8), (47 : UInt8),
 (253 : UInt8), (0 : UInt8), (0 : UInt8),
 (9 : UInt8), (0 : UInt8), (0 : UInt8), (97 : UInt8),
 (0 : UInt8)] }
 (9 : Int)).fst ==
 (14 : Int) &&
 ((dpE
 {
 data :=
 #[(40 : UInt8), (181 : UInt8), (47 : UInt8),
 (253 : UInt8), (0 : UInt8), (0 : UInt8),
 (9 : UInt8), (0 : UInt8), (0 : UInt8),
 (97 : UInt8), (0 : UInt8)] }
 (9 : Int)).snd ==
 (10 : Int) &&
 true)) =
 true →
 ((dcE
 {
 data :=
 #[(40 : UInt8), (181 : UInt8), (47 : UInt8),
 (253 : UInt8), (0 : UInt8), (0 : UInt8),
 (9 : UInt8), (0 : UInt8), (0 : UInt8),
 (97 : UInt8)] }
 (1048577 : Int)).fst ==
 (2 : Int) &&
 ((dcE
 {
 data :=
 #[(40 : UInt8), (181 : UInt8), (47 : UInt8),
 (253 : UInt8), (0 : UInt8), (0 : UInt8),
 (9 : UInt8), (0 : UInt8), (0 : UInt8),
 (97 : UInt8)] }
 (1048577 : Int)).snd ==
 (0 : Int) &&
 true)) =
 true) ∧
 (((dpE
 {
 data :=
 #[(40 : UInt8), (181 : UInt8), (47 : UInt8),
 (253 : UInt8), (0 : UInt8), (0 : UInt8),
 (9 : UInt8), (0 : UInt8), (0 : UInt8), (97 : UInt8),
 (0 : UInt8)] }
 (9 : Int)).fst ==
 (14 : Int) &&
 ((dpE
 {
 data :=
 #[(40 : UInt8), (181 : UInt8), (47 : UInt8),
 (253 : UInt8), (0 : UInt8), (0 : UInt8),
 (9 : UInt8), (0 : UInt8), (0 : UInt8),
 (97 : UInt8), (0 : UInt8)] }
 (9 : Int)).snd ==
 (10 : Int) &&
 true)) =
 false →
 false = true)) ∧
 ((dfA
 {
 data :=
 #[(40 : UInt8), (181 : UInt8), (47 : UInt8), (253 : UInt8),
 (0 : UInt8), (0 : UInt8), (9 : UInt8), (0 : UInt8),
 (0 : UInt8), (97 : UInt8), (0 : UInt8)] }
 (9 : Int)
 (dpK
 {
 data :=
 #[(40 : UInt8), (181 : UInt8), (47 : UInt8), (253 : UInt8),
 (0 : UInt8), (0 : UInt8), (9 : UInt8), (0 : UInt8),
 (0 : UInt8), (97 : UInt8), (0 : UInt8)] }
 (9 : Int)) ==
 (10 : Int)) =
 false →
 false = true)) ∧
 ((ByteArray.toList
 (dpO
 {
 data :=
 #[(40 : UInt8), (181 : UInt8), (47 : UInt8), (253 : UInt8),
 (0 : UInt8), (0 : UInt8), (9 : UInt8), (0 : UInt8),
 (0 : UInt8), (97 : UInt8), (0 : UInt8)] }
 (9 : Int)
 (dpK
 {
 data :=
 #[(40 : UInt8), (181 : UInt8), (47 : UInt8), (253 : UInt8),
 (0 : UInt8), (0 : UInt8), (9 : UInt8), (0 : UInt8),
 (0 : UInt8), (97 : UInt8), (0 : UInt8)] }
 (9 : Int))) ==
 ByteArray.toList { data := #[(97 : UInt8)] }) =
 false →
 false = true)) ∧
 (((↑(List.length (dzL ByteArray.empty)) : Int) == (0 : Int)) = false →
 false = true)) ∧
 (((0 : Int) == (0 : Int) && ((0 : Int) == (0 : Int) && true)) = false →
 false = true)) ∧
 (eqI
 (dzL
 {
 data :=
 #[(80 : UInt8), (42 : UInt8), (77 : UInt8), (24 : UInt8), (1 : UInt8),
 (0 : UInt8), (0 : UInt8), (0 : UInt8), (255 : UInt8), (40 : UInt8),
 (181 : UInt8), (47 : UInt8), (253 : UInt8), (0 : UInt8), (0 : UInt8),
 (9 : UInt8), (0 : UInt8), (0 : UInt8), (97 : UInt8)] })
 [(0 : Int), (-1 : Int)] =
 false →
 false = true)) ∧
 (((0 : Int) == (0 : Int) && ((0 : Int) == (0 : Int) && true)) = false → false = true)) ∧
 (((dgE
 {
 data :=
 #[(40 : UInt8), (181 : UInt8), (47 : UInt8), (253 : UInt8), (0 : UInt8),
 (0 : UInt8), (9 : UInt8), (0 : UInt8), (0 : UInt8), (97 : UInt8)] }
 (9 : Int) (1 : Int)).fst ==
 (2 : Int) &&
 ((dgE
 {
 data :=
 #[(40 : UInt8), (181 : UInt8), (47 : UInt8), (253 : UInt8), (0 : UInt8),
 (0 : UInt8), (9 : UInt8), (0 : UInt8), (0 : UInt8), (97 : UInt8)] }
 (9 : Int) (1 : Int)).snd ==
 (0 : Int) &&
 true)) =
 false →
 false = true)) ∧
 ((ByteArray.toList
 (dgO
 {
 data :=
 #[(40 : UInt8), (181 : UInt8), (47 : UInt8), (253 : UInt8), (0 : UInt8), (0 : UInt8),
 (9 : UInt8), (0 : UInt8), (0 : UInt8), (97 : UInt8), (40 : UInt8), (181 : UInt8),
 (47 : UInt8), (253 : UInt8), (0 : UInt8), (0 : UInt8), (9 : UInt8), (0 : UInt8),
 (0 : UInt8), (97 : UInt8)] }
 (9 : Int) (1 : Int)) ==
 ByteArray.toList { data := #[(97 : UInt8)] }) =
 false →
 false = true)) ∧
 (((dgE
 {
 data :=
 #[(40 : UInt8), (181 : UInt8), (47 : UInt8), (253 : UInt8), (0 : UInt8), (0 : UInt8),
 (9 : UInt8), (0 : UInt8), (0 : UInt8), (97 : UInt8), (40 : UInt8), (181 : UInt8),
 (47 : UInt8), (253 : UInt8), (0 : UInt8), (0 : UInt8), (9 : UInt8), (0 : UInt8),
 (0 : UInt8), (97 : UInt8)] }
 (9 : Int) (1 : Int)).fst ==
 (0 : Int) &&
 ((dgE
 {
 data :=
 #[(40 : UInt8), (181 : UInt8), (47 : UInt8), (253 : UInt8), (0 : UInt8), (0 : UInt8),
 (9 : UInt8), (0 : UInt8), (0 : UInt8), (97 : UInt8), (40 : UInt8), (181 : UInt8),
 (47 : UInt8), (253 : UInt8), (0 : UInt8), (0 : UInt8), (9 : UInt8), (0 : UInt8),
 (0 : UInt8), (97 : UInt8)] }
 (9 : Int) (1 : Int)).snd ==
 (0 : Int) &&
 true)) =
 false →
 false = true)) ∧
 (((↑(ByteArray.size
 (dcO
 {
 data :=
 #[(40 : UInt8), (181 : UInt8), (47 : UInt8), (253 : UInt8), (0 : UInt8), (0 : UInt8),
 (9 : UInt8), (0 : UInt8), (0 : UInt8), (97 : UInt8), (80 : UInt8), (42 : UInt8),
 (77 : UInt8), (24 : UInt8), (1 : UInt8), (0 : UInt8), (0 : UInt8), (0 : UInt8),
 (255 : UInt8), (40 : UInt8), (181 : UInt8), (47 : UInt8), (253 : UInt8), (0 : UInt8),
 (0 : UInt8), (9 : UInt8), (0 : UInt8), (0 : UInt8), (97 : UInt8)] }
 (9 : Int))) :
 Int) ==
 (2 : Int)) =
 false →
 false = true)) ∧
 (((dcE
 {
 data :=
 #[(40 : UInt8), (181 : UInt8), (47 : UInt8), (253 : UInt8), (0 : UInt8), (0 : UInt8), (9 : UInt8),
 (0 : UInt8), (0 : UInt8), (97 : UInt8), (80 : UInt8), (42 : UInt8), (77 : UInt8), (24 : UInt8),
 (1 : UInt8), (0 : UInt8), (0 : UInt8), (0 : UInt8), (255 : UInt8), (40 : UInt8), (181 : UInt8),
 (47 : UInt8), (253 : UInt8), (0 : UInt8), (0 : UInt8), (9 : UInt8), (0 : UInt8), (0 : UInt8),
 (97 : UInt8)] }
 (9 : Int)).fst ==
 (0 : Int) &&
 ((dcE
 {
 data :=
 #[(40 : UInt8), (181 : UInt8), (47 : UInt8), (253 : UInt8), (0 : UInt8), (0 : UInt8), (9 : UInt8),
 (0 : UInt8), (0 : UInt8), (97 : UInt8), (80 : UInt8), (42 : UInt8), (77 : UInt8), (24 : UInt8),
 (1 : UInt8), (0 : UInt8), (0 : UInt8), (0 : UInt8), (255 : UInt8), (40 : UInt8), (181 : UInt8),
 (47 : UInt8), (253 : UInt8), (0 : UInt8), (0 : UInt8), (9 : UInt8), (0 : UInt8), (0 : UInt8),
 (97 : UInt8)] }
 (9 : Int)).snd ==
 (0 : Int) &&
 true)) =
 false →
 false = true)) ∧
 (eqI
 (dpB
 {
 data :=
 #[(80 : UInt8), (42 : UInt8), (77 : UInt8), (24 : UInt8), (1 : UInt8), (0 : UInt8), (0 : UInt8),
 (0 : UInt8), (255 : UInt8), (40 : UInt8), (181 : UInt8), (47 : UInt8), (253 : UInt8), (0 : UInt8),
 (0 : UInt8), (9 : UInt8), (0 : UInt8), (0 : UInt8), (97 : UInt8), (40 : UInt8), (181 : UInt8),
 (47 : UInt8), (253 : UInt8), (0 : UInt8), (0 : UInt8), (9 : UInt8), (0 : UInt8), (0 : UInt8),
 (97 : UInt8)] }
 (9 : Int)
 (dpK
 {
 data :=
 #[(80 : UInt8), (42 : UInt8), (77 : UInt8), (24 : UInt8), (1 : UInt8), (0 : UInt8), (0 : UInt8),
 (0 : UInt8), (255 : UInt8), (40 : UInt8), (181 : UInt8), (47 : UInt8), (253 : UInt8), (0 : UInt8),
 (0 : UInt8), (9 : UInt8), (0 : UInt8), (0 : UInt8), (97 : UInt8), (40 : UInt8), (181 : UInt8),
 (47 : UInt8), (253 : UInt8), (0 : UInt8), (0 : UInt8), (9 : UInt8), (0 : UInt8), (0 : UInt8),
 (97 : UInt8)] }
 (9 : Int)))
 [(0 : Int), (9 : Int), (19 : Int)] =
 false →
 false = true)) ∧
 (((0 : Int) == (0 : Int) && ((0 : Int) == (0 : Int) && true)) = false → false = true)) ∧
 (true = false → false = true)) ∧
 (true = false → false = true)) ∧
 (true = false → false = true)) ∧
 (true = false → false = true)
theorem lawKn_e  : lawKn_t  = vcG Tryz.prog (Gof GDch) (fun _ => none) Tryz.f3 [] [] (.leaf ((.v (.bool true))) ([])) := by kernel_rfl
end Go.Proofs.YthfhkiejcpnalaaGreat
namespace Go.Proofs.YthfhkiejcpnalaaGreat
open Go Go.RowKit
set_option linter.unusedVariables false
set_option linter.unusedSimpArgs false
set_option maxRecDepth 100000
theorem eq_false_of_getD {a b : List Int} (h : a.length = b.length) {i : Nat} (hi : i < a.length) (hne : a.getD i 0 ≠ b.getD i 0) : eqI a b = false := by
  unfold eqI
  rw [beq_eq_false_iff_ne]
  rintro rfl
  exact hne rfl
theorem take_step {a b : List Int} {i : Nat} (ha : i < a.length) (hb : i < b.length) (h : a.take i = b.take i) (he : a.getD i 0 = b.getD i 0) : a.take (i + 1) = b.take (i + 1) := by
  rw [take_succ a 0 ha, take_succ b 0 hb, h, he]
theorem eq_true_of_take {a b : List Int} (h : a.length = b.length) {i : Nat} (hi : a.length ≤ i) (ht : a.take i = b.take i) : eqI a b = true := by
  rw [List.take_of_length_le hi, List.take_of_length_le (by omega)] at ht
  unfold eqI
  rw [ht]
  simp
theorem eq_len {a b : List Int} (h : ((a.length : Int) != (b.length : Int)) = true) : eqI a b = false := by
  unfold eqI
  rw [beq_eq_false_iff_ne]
  rintro rfl
  simp at h
theorem sameInts_v (a b : List Int) (h0 : a.length ≤ 4294967296) : sameInts_t a b := by
  unfold sameInts_t
  refine ⟨fun h => (eq_len h).symm, fun h => ?_⟩
  have hl : a.length = b.length := by have h' := h; simp at h'; omega
  refine ⟨⟨0, ⟨by omega, rfl⟩, rfl, rfl, rfl⟩, fun i hi => ⟨fun hlt => ?_, fun hge => ?_⟩⟩
  · simp only [decide_eq_true_eq] at hlt
    have ht : Int.toNat (i : Int) = i := rfl
    rw [ht]
    refine ⟨by omega, by omega, by omega, by omega, fun hne => ?_, fun he => ?_⟩
    · exact (eq_false_of_getD hl (i := i) (by omega) (by simpa using hne)).symm
    · exact ⟨i + 1, ⟨by omega, take_step (by omega) (by omega) hi.2 (by simpa using he)⟩, by show a.length - (i+1) < a.length - i; omega, by trivial, by trivial, by rw [wr (by omega) (by omega)]; simp⟩
  · simp only [decide_eq_false_iff_not] at hge
    exact (eq_true_of_take hl (by omega) hi.2).symm
section
variable {b : ByteArray}
theorem dzK_of (h : dzK b = true) : (b.size ≤ 1000000 ∧ dzN b ≤ 1000000) ∧ (∀ i, i < dzN b → (0 ≤ dzA b i ∧ dzA b i ≤ (b.size : Int) ∧ ((b.size : Int) - dzA b i ≥ 4 ∨ (b.size : Int) - dzA b i ≤ 1)) ∧ dsS b (dzA b i) = true ∧ skOk b (dzA b i) = true ∧ dzA b i < (b.size : Int)) ∧
    ((b.size : Int) ≤ dzA b (dzN b) ∨ (dzA b (dzN b) < (b.size : Int) ∧ (0 ≤ dzA b (dzN b) ∧ dzA b (dzN b) ≤ (b.size : Int) ∧ ((b.size : Int) - dzA b (dzN b) ≥ 4 ∨ (b.size : Int) - dzA b (dzN b) ≤ 1)) ∧ dsS b (dzA b (dzN b)) = false ∧ (hdE b (dzA b (dzN b))).1 = 0)) := by
  unfold dzK dzP at h
  simp only [Bool.and_eq_true, Bool.or_eq_true, decide_eq_true_eq, List.all_eq_true, Bool.not_eq_true', beq_iff_eq] at h
  exact ⟨h.1, fun i hi => h.2.1 i (List.mem_range.2 hi), h.2.2⟩
theorem dcSz_v (h : dzK b = true) (hc : ckE b 0 = 0) : dcSz_t b := by
  obtain ⟨⟨hs, hn⟩, k1, k2⟩ := dzK_of h
  refine ⟨fun e => ?_, fun e => ⟨⟨0, Nat.zero_le _, rfl, rfl, rfl, rfl, rfl⟩, fun i hi => ⟨fun hA => ⟨fun hS => ?_, fun hS => ?_⟩, fun hA => ⟨rfl, rfl, ?_⟩⟩⟩⟩
  · rw [hc] at e; cases e
  · have hi : i < dzN b := by
      by_cases h : i < dzN b
      · exact h
      · have : i = dzN b := Nat.le_antisymm hi (by omega)
        subst this
        simp only [decide_eq_true_eq] at hA
        rcases k2 with k2 | k2
        · omega
        · rw [k2.2.2.1] at hS; cases hS
    obtain ⟨⟨q1, q2, q3⟩, q4, q5, q6⟩ := k1 i hi
    refine ⟨q1, q2, hs, q3, q5, hs, (fun h => by cases h), fun _ => ⟨by simp; omega, i + 1, hi, ?_, rfl, rfl, rfl, rfl, ?_⟩⟩
    · show dzN b - (i + 1) < dzN b - i
      omega
    · rw [List.replicate_succ']
  · have hi : i = dzN b := by
      by_cases h : i < dzN b
      · exact absurd (k1 i h).2.1 hS
      · exact Nat.le_antisymm hi (by omega)
    subst hi
    simp only [decide_eq_true_eq] at hA
    rcases k2 with k2 | ⟨_, ⟨q1, q2, q3⟩, q4, q5⟩
    · omega
    · refine ⟨q1, q2, hs, q3, hs, fun e => ?_, fun _ => ⟨by simp; omega, rfl, rfl, ?_⟩⟩
      · rw [q5] at e; cases e
      · unfold dzL
        rw [decide_eq_true hA]
        rfl
  · simp only [decide_eq_false_iff_not] at hA
    have hi : i = dzN b := by
      by_cases h : i < dzN b
      · exact absurd (k1 i h).2.2.2 hA
      · exact Nat.le_antisymm hi (by omega)
    subst hi
    unfold dzL
    rw [decide_eq_false hA]
    rfl
end
theorem lMean_v (b : ByteArray) (m : Int) (w : ByteArray) (h0 : ckE b m = 0 → dfK b m = true ∧ dpZ b m = true) (h1 : dcE b m = (0, 0)) (h2 : dcO b m = w) : lMean_t b m w := by
  unfold lMean_t
  rw [h1, h2]
  exact ⟨h0, fun _ => by simp, fun h => by cases h⟩
theorem lWrng_v (b : ByteArray) (m e a : Int) (h0 : ckE b m = 0 → dfK b m = true ∧ dpZ b m = true) (h1 : dcE b m = (e, a)) (h2 : dcO b m = ByteArray.empty) : lWrng_t b m e a := by
  unfold lWrng_t
  rw [h1, h2]
  exact ⟨h0, fun _ => by simp, fun h => by simp at h⟩
set_option synthInstance.maxSize 100000 in
set_option synthInstance.maxHeartbeats 0 in
theorem lAwk_v : lAwk_t := by
  unfold lAwk_t
  decide +kernel
theorem dcSz_sound : Sound Tryz.prog 7 sDcSz.ctr := sDcSz.sound (by kernel_rfl) sDcSz_enc fun b hc => by
  have h0 := hc _ (.head _)
  have h1 := hc _ (.tail _ (.head _))
  exact satG GDcf_ok mixed Tryz.func7 (dcSz_e b) (dcSz_v h0 h1)
theorem sameInts_sound : Sound Tryz.prog 13 sEq.ctr := sEq.sound (by kernel_rfl) sEq_enc fun ⟨a, b⟩ hc => by
  have h0 := hc _ (.head _)
  exact satG AllOk.nil mixed Tryz.func13 (sameInts_e a b) (sameInts_v a b h0)
theorem lMean_sound : Sound Tryz.prog 11 sMean.ctr := sMean.sound (by kernel_rfl) sMean_enc fun ⟨b, m, w⟩ hc => by
  have h0 := hc _ (.head _)
  have h1 := hc _ (.tail _ (.head _))
  have h2 := hc _ (.tail _ (.tail _ (.head _)))
  exact satG GDcf_ok mixed Tryz.func11 (lMean_e b m w) (lMean_v b m w h0 h1 h2)
theorem lWrng_sound : Sound Tryz.prog 12 sWrng.ctr := sWrng.sound (by kernel_rfl) sWrng_enc fun ⟨b, m, e, a⟩ hc => by
  have h0 := hc _ (.head _)
  have h1 := hc _ (.tail _ (.head _))
  have h2 := hc _ (.tail _ (.tail _ (.head _)))
  exact satG GDcf_ok mixed Tryz.func12 (lWrng_e b m e a) (lWrng_v b m e a h0 h1 h2)
theorem GDcg_ok : AllOk Tryz.prog GDcg := .cons dcSz_sound <| .cons sameInts_sound <| .cons lMean_sound <| .cons lWrng_sound <| GDcf_ok
theorem lAwk_sound : Sound Tryz.prog 10 sTrue.ctr := sTrue.sound (by kernel_rfl) sTrue_enc fun _ hc => by
  exact satG GDcg_ok mixed Tryz.func10 (lAwk_e ) (lAwk_v)
theorem GDch_ok : AllOk Tryz.prog GDch := .cons lAwk_sound <| GDcg_ok
end Go.Proofs.YthfhkiejcpnalaaGreat
namespace Go.Proofs.YthfhkiejcpnalaaGreat
open Go Go.RowKit
set_option linter.unusedVariables false
set_option linter.unusedSimpArgs false
set_option maxRecDepth 100000
set_option synthInstance.maxSize 100000 in
set_option synthInstance.maxHeartbeats 0 in
theorem lawKn_v : lawKn_t := by
  unfold lawKn_t
  decide +kernel
theorem dknown_any (W : World) : Calls Tryz.prog 3 #[] W fun e w' => e = .returned (.bool true) ∧ Below W.heap.size W w' :=
  law_true (us := []) (satG GDch_ok mixed Tryz.func3 lawKn_e lawKn_v) (.inr rfl) (by simp only [Reps])
end Go.Proofs.YthfhkiejcpnalaaGreat

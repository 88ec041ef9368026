/-
  Texts joined: D8F, BF, BA, C6C, C6L, C6F, C6A, C6S, C6At, C6G, C6B, C6D, C6Dt, C6H, C6E, C7F, C7A, UF, UA, UAt, C7J, C7G, C7H, C7M, UG, BAt. Conditions: each theorem's own.
-/
import Derived.WalkKit
import Derived.IntWalk
import Derived.Test.YtmdbliacaeokaaaK1
import Derived.Test.YtmdbliacaeokaaaK3
import Derived.Shelf.SlSortCmp.WholeK
namespace Go.Proofs.Ytmdbliacaeokaaa
set_option linter.unusedVariables false
def hiI (n : Int) : Int := cond (decide (n ≤ 0)) (-1) (Nat.log2 n.toNat : Nat)
def pt (p : Int) : Int := cond (decide (p < 0)) 1 p
end Go.Proofs.Ytmdbliacaeokaaa
namespace Go.Proofs.Ytmdbliacaeokaaa
open Go
set_option linter.unusedVariables false
set_option linter.unusedSimpArgs false
set_option maxRecDepth 100000
def lowB : Nat → Int → List Int
  | 0, _ => []
  | m + 1, x => x % 256 :: lowB m (x / 256)
def wX (p n v : Int) : Int := p + v * 2 ^ n.toNat
def wM (n k : Int) : Nat := ((n + k) / 8).toNat
def wS (s : ByteArray) (p n k v : Int) : ByteArray := s ++ strOfNums (lowB (wM n k) (wX p n v))
def wP (p n k v : Int) : Int := wX p n v / 256 ^ wM n k
def wN (n k : Int) : Int := (n + k) % 8
def wBytes (s : ByteArray) (x : Int) (j : Nat) : List Int := bytesN s ++ lowB j x
def dS (s : ByteArray) (p n : Int) : ByteArray := s ++ strOfNums [p + 2 ^ n.toNat]
def lowV (v : Int) (i : Nat) : Int := v % 2 ^ i
def fstE : List Int → Int
  | [] => 0
  | x :: r => cond (x == 0) (fstE r) x
def putWr (w : ByteArray × Int × Int) (k v : Int) : ByteArray × Int × Int := (wS w.1 w.2.1 w.2.2 k v, wP w.2.1 w.2.2 k v, wN w.2.2 k)
def nthI (l : List Int) (k : Nat) : Nat := l.length - 1 - k
def nthS (l : List Int) (k : Nat) : Int := l.getD (nthI l k) 0
def lastB (s : ByteArray) : Int := ((s.data.toList.getD (s.size - 1) 0).toNat : Int)
def noB (s : ByteArray) : Bool := Nat.beq s.size 0 || lastB s == 0
def bkN (s : ByteArray) : Int := cond (noB s) (-1) (8 * ((s.size : Int) - 1) + hiI (lastB s))
def bkE (s : ByteArray) : Int := cond (decide (1048576 < s.size)) 4 (cond (noB s) 22 0)
def bkR (s : ByteArray) : Int := cond (bkE s == 0) (bkN s) 0
def bkS (s : ByteArray) : ByteArray := cond (bkE s == 0) s ByteArray.empty
def rgE (s : ByteArray) (left : Int) : Int := cond (bkE s == 0) (cond (decide (left < 0) || decide (bkN s < left)) 10 0) 10
def pkE (s : ByteArray) (left n : Int) : Int := cond (rgE s left == 0) (cond (decide (n < 0) || decide (32 < n)) 2 0) (rgE s left)
def byI (s : ByteArray) (i : Nat) : Int := ((s.data.toList.getD i 0).toNat : Int)
def bkBit (s : ByteArray) (k : Int) : Int := cond (decide (k < 0)) 0 (byI s (k / 8).toNat / 2 ^ (k % 8).toNat % 2)
def pkF (s : ByteArray) (left : Int) : Nat → Int
  | 0 => 0
  | i + 1 => 2 * pkF s left i + bkBit s (left - 1 - (i : Nat))
def pkV (s : ByteArray) (left n : Int) : Int := cond (pkE s left n == 0) (pkF s left n.toNat) 0
def tkE (s : ByteArray) (left n : Int) : Int := cond (pkE s left n == 0) (cond (decide (left < n)) 5 0) (pkE s left n)
def tkS (s : ByteArray) (left n : Int) : ByteArray := cond (tkE s left n == 0) s ByteArray.empty
def tkL (s : ByteArray) (left n : Int) : Int := cond (tkE s left n == 0) (left - n) 0
def tkV (s : ByteArray) (left n : Int) : Int := cond (tkE s left n == 0) (pkF s left n.toNat) 0
def tkO (s : ByteArray) (left n : Int) : Bool := tkE s left n == 0
def nxL (s : ByteArray) (left n : Int) : Int := cond (tkE s left n == 0) (left - n) left
end Go.Proofs.Ytmdbliacaeokaaa
namespace Go.Proofs.Ytmdbliacaeokaaa
open Go Go.RowKit
set_option linter.unusedVariables false
set_option linter.unusedSimpArgs false
set_option maxRecDepth 100000
def one (x : LoopInv) : Nat → Option LoopFam := fun k => cond (Nat.beq k 0) (some (.one x)) none
def sWhen : Spec where
  ι := Bool × Int
  dec l H := match l with
    | [.v (.bool b), .v (.int .i64 e)] => some ((b, e), [])
    | _ => none
  args := fun (b, e) => [.v (.bool b), .v (.int .i64 e)]
  out := fun (b, e) => .leaf (.v (.int .i64 (cond b e 0))) []
theorem sWhen_enc : ∀ l H n i ls, sWhen.dec l H = some (i, ls) → l = renL (rho ls n) (sWhen.args i) ∧ givenHp H ls = renH (rho ls n) (sWhen.hp i) := by
  intro l H n i ls h
  simp only [sWhen] at h
  repeat' split at h
  all_goals first
    | (cases h; done)
    | (cases h; exact ⟨rfl, rfl⟩)
def sFst : Spec where
  ι := List Int
  dec l H := match l with
    | [.dat (.ints .i64 l)] => some (l, [])
    | _ => none
  args := fun l => [.dat (.ints .i64 l)]
  pre := fun l => [⟨l.length ≤ 1000, inferInstance⟩]
  out := fun l => .leaf (.v (.int .i64 (fstE l))) []
theorem sFst_enc : ∀ l H n i ls, sFst.dec l H = some (i, ls) → l = renL (rho ls n) (sFst.args i) ∧ givenHp H ls = renH (rho ls n) (sFst.hp i) := by
  intro l H n i ls h
  simp only [sFst] at h
  repeat' split at h
  all_goals first
    | (cases h; done)
    | (cases h; exact ⟨rfl, rfl⟩)
def sChkW : Spec where
  ι := ByteArray × Int × Int
  dec l H := match l with
    | [.ag [.v (.string s), .v (.int .i64 p), .v (.int .i64 n)]] => some ((s, p, n), [])
    | _ => none
  args := fun (s, p, n) => [.ag [.v (.string s), .v (.int .i64 p), .v (.int .i64 n)]]
  pre := fun (s, p, n) => [⟨0 ≤ n, inferInstance⟩, ⟨n ≤ 7, inferInstance⟩, ⟨0 ≤ p, inferInstance⟩, ⟨p < 2 ^ n.toNat, inferInstance⟩, ⟨s.size ≤ 1048576, inferInstance⟩]
  out := fun (s, p, n) => .leaf (.v (.int .i64 0)) []
theorem sChkW_enc : ∀ l H n i ls, sChkW.dec l H = some (i, ls) → l = renL (rho ls n) (sChkW.args i) ∧ givenHp H ls = renH (rho ls n) (sChkW.hp i) := by
  intro l H n i ls h
  simp only [sChkW] at h
  repeat' split at h
  all_goals first
    | (cases h; done)
    | (cases h; exact ⟨rfl, rfl⟩)
def sOpenW : Spec where
  ι := ByteArray × Int × Int
  dec l H := match l with
    | [.ag [.v (.string s), .v (.int .i64 p), .v (.int .i64 n)]] => some ((s, p, n), [])
    | _ => none
  args := fun (s, p, n) => [.ag [.v (.string s), .v (.int .i64 p), .v (.int .i64 n)]]
  pre := fun (s, p, n) => [⟨0 ≤ p, inferInstance⟩, ⟨p ≤ 255, inferInstance⟩]
  out := fun (s, p, n) => .leaf (.p 2000 0 0) [(2000, .cells 118 [.v (.string s), .v (.int .u64 p), .v (.int .i64 n)])]
theorem sOpenW_enc : ∀ l H n i ls, sOpenW.dec l H = some (i, ls) → l = renL (rho ls n) (sOpenW.args i) ∧ givenHp H ls = renH (rho ls n) (sOpenW.hp i) := by
  intro l H n i ls h
  simp only [sOpenW] at h
  repeat' split at h
  all_goals first
    | (cases h; done)
    | (cases h; exact ⟨rfl, rfl⟩)
def sWput : Spec where
  ι := ByteArray × Int × Int × Int × Int
  own := true
  dec l H := match l with
    | [.p l0 0 0, .s l1 0 1 (some 1)] => match H l0 with
      | some (.cells 118 [.v (.string s), .v (.int .u64 p), .v (.int .i64 n)]) => match H l1 with
        | some (.cells 114 [.v (.int .u64 k), .v (.int .u64 v)]) => some ((s, p, n, k, v), [l0, l1])
        | _ => none
      | _ => none
    | _ => none
  args := fun (s, p, n, k, v) => [.p 0 0 0, .s 1 0 1 (some 1)]
  hp := fun (s, p, n, k, v) => [(0, .cells 118 [.v (.string s), .v (.int .u64 p), .v (.int .i64 n)]), (1, .cells 114 [.v (.int .u64 k), .v (.int .u64 v)])]
  pre := fun (s, p, n, k, v) => [⟨0 ≤ n, inferInstance⟩, ⟨n ≤ 7, inferInstance⟩, ⟨0 ≤ p, inferInstance⟩, ⟨p < 2 ^ n.toNat, inferInstance⟩, ⟨0 ≤ k, inferInstance⟩, ⟨k ≤ 32, inferInstance⟩, ⟨0 ≤ v, inferInstance⟩, ⟨v < 2 ^ k.toNat, inferInstance⟩, ⟨s.size ≤ 1048576, inferInstance⟩]
  out := fun (s, p, n, k, v) => .leaf (.tu []) [(0, .cells 118 [.v (.string (wS s p n k v)), .v (.int .u64 (wP p n k v)), .v (.int .i64 (wN n k))]), (1, .cells 114 [.v (.int .u64 k), .v (.int .u64 v)])]
theorem sWput_enc : ∀ l H n i ls, sWput.dec l H = some (i, ls) → l = renL (rho ls n) (sWput.args i) ∧ givenHp H ls = renH (rho ls n) (sWput.hp i) := by
  intro l H n i ls h
  simp only [sWput] at h
  repeat' split at h
  all_goals first
    | (cases h; done)
    | (cases h; exact ⟨rfl, rfl⟩)
    | (cases h; refine ⟨rfl, ?_⟩; simp only [givenHp, List.filterMap_cons, List.filterMap_nil, Option.map, *]; rfl)
def sPutW : Spec where
  ι := ByteArray × Int × Int × Int × Int
  dec l H := match l with
    | [.ag [.v (.string s), .v (.int .i64 p), .v (.int .i64 n)], .v (.int .i64 k), .v (.int .u64 v)] => some ((s, p, n, k, v), [])
    | _ => none
  args := fun (s, p, n, k, v) => [.ag [.v (.string s), .v (.int .i64 p), .v (.int .i64 n)], .v (.int .i64 k), .v (.int .u64 v)]
  pre := fun (s, p, n, k, v) => [⟨0 ≤ n, inferInstance⟩, ⟨n ≤ 7, inferInstance⟩, ⟨0 ≤ p, inferInstance⟩, ⟨p < 2 ^ n.toNat, inferInstance⟩, ⟨0 ≤ k, inferInstance⟩, ⟨k ≤ 32, inferInstance⟩, ⟨0 ≤ v, inferInstance⟩, ⟨v < 2 ^ k.toNat, inferInstance⟩, ⟨s.size ≤ 1000000, inferInstance⟩]
  out := fun (s, p, n, k, v) => .leaf (.tu [.ag [.v (.string (wS s p n k v)), .v (.int .i64 (wP p n k v)), .v (.int .i64 (wN n k))], .v (.int .i64 0)]) []
theorem sPutW_enc : ∀ l H n i ls, sPutW.dec l H = some (i, ls) → l = renL (rho ls n) (sPutW.args i) ∧ givenHp H ls = renH (rho ls n) (sPutW.hp i) := by
  intro l H n i ls h
  simp only [sPutW] at h
  repeat' split at h
  all_goals first
    | (cases h; done)
    | (cases h; exact ⟨rfl, rfl⟩)
def sDoneW : Spec where
  ι := ByteArray × Int × Int
  dec l H := match l with
    | [.ag [.v (.string s), .v (.int .i64 p), .v (.int .i64 n)]] => some ((s, p, n), [])
    | _ => none
  args := fun (s, p, n) => [.ag [.v (.string s), .v (.int .i64 p), .v (.int .i64 n)]]
  pre := fun (s, p, n) => [⟨0 ≤ n, inferInstance⟩, ⟨n ≤ 7, inferInstance⟩, ⟨0 ≤ p, inferInstance⟩, ⟨p < 2 ^ n.toNat, inferInstance⟩, ⟨s.size ≤ 1000000, inferInstance⟩]
  out := fun (s, p, n) => .leaf (.tu [.v (.string (dS s p n)), .v (.int .i64 0)]) []
theorem sDoneW_enc : ∀ l H n i ls, sDoneW.dec l H = some (i, ls) → l = renL (rho ls n) (sDoneW.args i) ∧ givenHp H ls = renH (rho ls n) (sDoneW.hp i) := by
  intro l H n i ls h
  simp only [sDoneW] at h
  repeat' split at h
  all_goals first
    | (cases h; done)
    | (cases h; exact ⟨rfl, rfl⟩)
def oWpB (s : ByteArray) (p n k v : Int) : LoopInv := { ι := Nat, p := fun j => j ≤ wM n k, tm := fun j => [(0, .p 0 0 0), (1, .s 1 0 1 none), (6, .o 5000)], hp := fun j => [(0, .cells 118 [.v (.string s), .v (.int .u64 (wX p n v / 256 ^ j)), .v (.int .i64 (n + k - 8 * (j : Nat)))]), (1, .cells 114 [.v (.int .u64 k), .v (.int .u64 v)]), (5000, .row 5 (.ints .u8 (wBytes s (wX p n v) j)))], μ := fun j => wM n k - j }
def oWput (s : ByteArray) (p n k v : Int) : Nat → Option LoopFam := fun i => cond (Nat.beq i 0) (some (.unr 2)) (cond (Nat.beq i 1) (some (.one (oWpB s p n k v))) none)
def oFst (l : List Int) : LoopInv := { ι := Nat, p := fun i => i ≤ l.length ∧ fstE l = fstE (l.drop i), tm := fun i => [(3, .v (.int .i64 0)), (6, .dat (.ints .i64 l)), (7, .v (.int .i64 l.length)), (8, .v (.int .i64 (i : Nat)))], hp := fun i => [], μ := fun i => l.length - i }
def sLong : Spec where
  ι := ByteArray
  dec l H := match l with
    | [.ag [.v (.string s)]] => some (s, [])
    | _ => none
  args := fun s => [.ag [.v (.string s)]]
  out := fun s => .leaf (.v (.bool (decide (1048576 < s.size)))) []
theorem sLong_enc : ∀ l H n i ls, sLong.dec l H = some (i, ls) → l = renL (rho ls n) (sLong.args i) ∧ givenHp H ls = renH (rho ls n) (sLong.hp i) := by
  intro l H n i ls h
  simp only [sLong] at h
  repeat' split at h
  all_goals first
    | (cases h; done)
    | (cases h; exact ⟨rfl, rfl⟩)
def sLen8 : Spec where
  ι := Int
  dec l H := match l with
    | [.v (.int .u8 x)] => some (x, [])
    | _ => none
  args := fun x => [.v (.int .u8 x)]
  pre := fun x => [⟨0 ≤ x, inferInstance⟩, ⟨x ≤ 255, inferInstance⟩]
  out := fun x => .leaf (.v (.int .i64 (hiI x + 1))) []
theorem sLen8_enc : ∀ l H n i ls, sLen8.dec l H = some (i, ls) → l = renL (rho ls n) (sLen8.args i) ∧ givenHp H ls = renH (rho ls n) (sLen8.hp i) := by
  intro l H n i ls h
  simp only [sLen8] at h
  repeat' split at h
  all_goals first
    | (cases h; done)
    | (cases h; exact ⟨rfl, rfl⟩)
def sBitT : Spec where
  ι := ByteArray × Int
  dec l H := match l with
    | [.ag [.v (.string s)], .v (.int .i64 i)] => some ((s, i), [])
    | _ => none
  args := fun (s, i) => [.ag [.v (.string s)], .v (.int .i64 i)]
  pre := fun (s, i) => [⟨0 ≤ i, inferInstance⟩, ⟨i < 8 * s.size, inferInstance⟩, ⟨s.size ≤ 4294967296, inferInstance⟩]
  out := fun (s, i) => .leaf (.v (.int .u64 (bkBit s i))) []
theorem sBitT_enc : ∀ l H n i ls, sBitT.dec l H = some (i, ls) → l = renL (rho ls n) (sBitT.args i) ∧ givenHp H ls = renH (rho ls n) (sBitT.hp i) := by
  intro l H n i ls h
  simp only [sBitT] at h
  repeat' split at h
  all_goals first
    | (cases h; done)
    | (cases h; exact ⟨rfl, rfl⟩)
def sSizeT : Spec where
  ι := ByteArray
  dec l H := match l with
    | [.ag [.v (.string s)]] => some (s, [])
    | _ => none
  args := fun s => [.ag [.v (.string s)]]
  pre := fun s => [⟨s.size ≤ 4294967296, inferInstance⟩]
  out := fun s => .leaf (.v (.int .i64 (bkN s))) []
theorem sSizeT_enc : ∀ l H n i ls, sSizeT.dec l H = some (i, ls) → l = renL (rho ls n) (sSizeT.args i) ∧ givenHp H ls = renH (rho ls n) (sSizeT.hp i) := by
  intro l H n i ls h
  simp only [sSizeT] at h
  repeat' split at h
  all_goals first
    | (cases h; done)
    | (cases h; exact ⟨rfl, rfl⟩)
def sNumT : Spec where
  ι := ByteArray × Int × Int
  dec l H := match l with
    | [.p l0 0 0, .v (.int .i64 n)] => match H l0 with
      | some (.cells 133 [.v (.string s), .v (.int .i64 l)]) => some ((s, l, n), [l0])
      | _ => none
    | _ => none
  args := fun (s, l, n) => [.p 0 0 0, .v (.int .i64 n)]
  hp := fun (s, l, n) => [(0, .cells 133 [.v (.string s), .v (.int .i64 l)])]
  pre := fun (s, l, n) => [⟨0 ≤ n, inferInstance⟩, ⟨n ≤ 32, inferInstance⟩, ⟨0 ≤ l, inferInstance⟩, ⟨l ≤ 8 * s.size, inferInstance⟩, ⟨s.size ≤ 4294967296, inferInstance⟩]
  out := fun (s, l, n) => .leaf (.v (.int .u64 (pkF s l n.toNat))) [(0, .cells 133 [.v (.string s), .v (.int .i64 l)])]
theorem sNumT_enc : ∀ l H n i ls, sNumT.dec l H = some (i, ls) → l = renL (rho ls n) (sNumT.args i) ∧ givenHp H ls = renH (rho ls n) (sNumT.hp i) := by
  intro l H n i ls h
  simp only [sNumT] at h
  repeat' split at h
  all_goals first
    | (cases h; done)
    | (cases h; exact ⟨rfl, rfl⟩)
    | (cases h; refine ⟨rfl, ?_⟩; simp only [givenHp, List.filterMap_cons, List.filterMap_nil, Option.map, *]; rfl)
def sBits : Spec where
  ι := ByteArray
  dec l H := match l with
    | [.v (.string s)] => some (s, [])
    | _ => none
  args := fun s => [.v (.string s)]
  pre := fun s => [⟨s.size ≤ 4294967296, inferInstance⟩]
  out := fun s => .leaf (.tu [.v (.int .i64 (bkR s)), .v (.int .i64 (bkE s))]) []
theorem sBits_enc : ∀ l H n i ls, sBits.dec l H = some (i, ls) → l = renL (rho ls n) (sBits.args i) ∧ givenHp H ls = renH (rho ls n) (sBits.hp i) := by
  intro l H n i ls h
  simp only [sBits] at h
  repeat' split at h
  all_goals first
    | (cases h; done)
    | (cases h; exact ⟨rfl, rfl⟩)
def sReadB : Spec where
  ι := ByteArray
  dec l H := match l with
    | [.v (.string s)] => some (s, [])
    | _ => none
  args := fun s => [.v (.string s)]
  pre := fun s => [⟨s.size ≤ 4294967296, inferInstance⟩]
  out := fun s => .leaf (.tu [.ag [.v (.string (bkS s)), .v (.int .i64 (bkR s))], .v (.int .i64 (bkE s))]) []
theorem sReadB_enc : ∀ l H n i ls, sReadB.dec l H = some (i, ls) → l = renL (rho ls n) (sReadB.args i) ∧ givenHp H ls = renH (rho ls n) (sReadB.hp i) := by
  intro l H n i ls h
  simp only [sReadB] at h
  repeat' split at h
  all_goals first
    | (cases h; done)
    | (cases h; exact ⟨rfl, rfl⟩)
def sRight : Spec where
  ι := ByteArray × Int
  dec l H := match l with
    | [.ag [.v (.string s), .v (.int .i64 l)]] => some ((s, l), [])
    | _ => none
  args := fun (s, l) => [.ag [.v (.string s), .v (.int .i64 l)]]
  pre := fun (s, l) => [⟨s.size ≤ 4294967296, inferInstance⟩]
  out := fun (s, l) => .leaf (.v (.int .i64 (rgE s l))) []
theorem sRight_enc : ∀ l H n i ls, sRight.dec l H = some (i, ls) → l = renL (rho ls n) (sRight.args i) ∧ givenHp H ls = renH (rho ls n) (sRight.hp i) := by
  intro l H n i ls h
  simp only [sRight] at h
  repeat' split at h
  all_goals first
    | (cases h; done)
    | (cases h; exact ⟨rfl, rfl⟩)
def sPeek : Spec where
  ι := ByteArray × Int × Int
  dec l H := match l with
    | [.ag [.v (.string s), .v (.int .i64 l)], .v (.int .i64 n)] => some ((s, l, n), [])
    | _ => none
  args := fun (s, l, n) => [.ag [.v (.string s), .v (.int .i64 l)], .v (.int .i64 n)]
  pre := fun (s, l, n) => [⟨s.size ≤ 4294967296, inferInstance⟩]
  out := fun (s, l, n) => .leaf (.tu [.v (.int .u64 (pkV s l n)), .v (.int .i64 (pkE s l n))]) []
theorem sPeek_enc : ∀ l H n i ls, sPeek.dec l H = some (i, ls) → l = renL (rho ls n) (sPeek.args i) ∧ givenHp H ls = renH (rho ls n) (sPeek.hp i) := by
  intro l H n i ls h
  simp only [sPeek] at h
  repeat' split at h
  all_goals first
    | (cases h; done)
    | (cases h; exact ⟨rfl, rfl⟩)
def sTake : Spec where
  ι := ByteArray × Int × Int
  dec l H := match l with
    | [.ag [.v (.string s), .v (.int .i64 l)], .v (.int .i64 n)] => some ((s, l, n), [])
    | _ => none
  args := fun (s, l, n) => [.ag [.v (.string s), .v (.int .i64 l)], .v (.int .i64 n)]
  pre := fun (s, l, n) => [⟨s.size ≤ 4294967296, inferInstance⟩]
  out := fun (s, l, n) => .leaf (.tu [.ag [.v (.string (tkS s l n)), .v (.int .i64 (tkL s l n))], .v (.int .u64 (tkV s l n)), .v (.int .i64 (tkE s l n))]) []
theorem sTake_enc : ∀ l H n i ls, sTake.dec l H = some (i, ls) → l = renL (rho ls n) (sTake.args i) ∧ givenHp H ls = renH (rho ls n) (sTake.hp i) := by
  intro l H n i ls h
  simp only [sTake] at h
  repeat' split at h
  all_goals first
    | (cases h; done)
    | (cases h; exact ⟨rfl, rfl⟩)
def oNumT (s : ByteArray) (l n : Int) : LoopInv := { ι := Nat, p := fun i => (i : Int) ≤ n, tm := fun i => [(0, .p 0 0 0), (5, .v (.int .u64 (pkF s l i))), (8, .v (.int .i64 n)), (9, .v (.int .i64 (i : Nat)))], hp := fun i => [(0, .cells 133 [.v (.string s), .v (.int .i64 l)])], μ := fun i => n.toNat - i }
def GBa : List (Nat × Ctr) := (69, sWhen.ctr) :: (68, sFst.ctr) :: (79, sOpenW.ctr) :: (80, sWput.ctr) :: (84, sLong.ctr) :: (95, sLen8.ctr) :: (103, sBitT.ctr) :: []
def GBb : List (Nat × Ctr) := (78, sChkW.ctr) :: (85, sSizeT.ctr) :: (90, sNumT.ctr) :: GBa
def GBc : List (Nat × Ctr) := (56, sPutW.ctr) :: (57, sDoneW.ctr) :: (65, sBits.ctr) :: (89, sRight.ctr) :: GBb
def GBd : List (Nat × Ctr) := (47, sReadB.ctr) :: (67, sPeek.ctr) :: GBc
def GBe : List (Nat × Ctr) := (49, sTake.ctr) :: GBd
end Go.Proofs.Ytmdbliacaeokaaa
namespace Go.Proofs.Ytmdbliacaeokaaa
open Go Go.Shelf Go.RowKit Go.Lib Go.Sort
set_option linter.unusedVariables false
set_option linter.unusedSimpArgs false
set_option maxRecDepth 100000
def cmpI (a b : Int) : Int := if a < b then -1 else if b < a then 1 else 0
theorem nan_w (a : Int) (w : World) : Calls Try.prog 108 #[.int .i64 a] w fun e w' => e = .returned (.bool false) ∧ w' = w := by
  go_enter Try.func108, Try.ntmps108
  go_wp2
  go_ret
  simp
theorem cmp_w (a b : Int) (w : World) : Calls Try.prog 101 #[.int .i64 a, .int .i64 b] w fun e w' => e = .returned (.int .i64 (cmpI a b)) ∧ w' = w := by
  have h := nan_w
  unfold cmpI
  go_enter Try.func101, Try.ntmps101
  go_wp2_with (go_at_call 108; refine (h _ _).mono ?_; rintro e w' ⟨rfl, rfl⟩)
  all_goals (go_ret; exact ⟨rfl, rfl⟩)
theorem or_w (a b : Int) (w : World) (g : Nat) (h0 : w.cell? ⟨g, 0, none⟩ = some (.int .i64 a)) (h1 : w.cell? ⟨g, 1, none⟩ = some (.int .i64 b)) :
    Calls Try.prog 100 #[.slice (some ⟨g, 0, none⟩) 2 2] w fun e w' => e = .returned (.int .i64 (if a = 0 then b else a)) ∧ w' = w := by
  by_cases ha : a = 0
  · subst ha
    rw [if_pos rfl]
    by_cases hb : b = 0
    · subst hb
      go_enter Try.func100, Try.ntmps100
      go_wp2
      refine wp_loop_rounds 3 ?_
      rw [rounds_succ]
      go_wp2
      rw [rounds_succ]
      go_wp2
      rw [rounds_succ]
      go_wp2
      go_ret
      exact ⟨rfl, rfl⟩
    · have hb2 : (b != 0) = true := by simpa using hb
      go_enter Try.func100, Try.ntmps100
      go_wp2
      refine wp_loop_rounds 3 ?_
      rw [rounds_succ]
      go_wp2
      rw [rounds_succ]
      go_wp2
      go_ret
      exact ⟨rfl, rfl⟩
  · have ha2 : (a != 0) = true := by simpa using ha
    rw [if_neg ha]
    go_enter Try.func100, Try.ntmps100
    go_wp2
    refine wp_loop_rounds 3 ?_
    rw [rounds_succ]
    go_wp2
    go_ret
    exact ⟨rfl, rfl⟩
theorem closure_w (x y : Int × Int) (w : World) : Calls Try.prog 99 #[.agg #[.int .i64 x.1, .int .i64 x.2], .agg #[.int .i64 y.1, .int .i64 y.2]] w fun e w' =>
    e = .returned (.int .i64 (if cmpI y.2 x.2 = 0 then cmpI x.1 y.1 else cmpI y.2 x.2)) ∧ ∃ q os', w' = Sort.grow (w.drewN q) os' := by
  have hc := cmp_w
  generalize e1 : cmpI y.2 x.2 = c1
  generalize e2 : cmpI x.1 y.1 = c2
  obtain ⟨c3, h3⟩ : ∃ c3, (if c1 = 0 then c2 else c1) = c3 := ⟨_, rfl⟩
  have ho := or_w c1 c2
  simp only [h3] at ho ⊢
  go_enter Try.func99, Try.ntmps99
  go_wp2
  obtain ⟨W1, hW1⟩ : ∃ W1, W1 = ((w.alloc (.cells #[.int .i64 x.1, .int .i64 x.2] 129)).alloc (.cells #[.int .i64 y.1, .int .i64 y.2] 129)).drew := ⟨_, rfl⟩
  obtain ⟨W2, hW2⟩ : ∃ W2, W2 = (((w.alloc (.cells #[.int .i64 x.1, .int .i64 x.2] 129)).alloc (.cells #[.int .i64 y.1, .int .i64 y.2] 129)).alloc (.cells #[.int .i64 c1, .int .i64 c2] 3)).drew := ⟨_, rfl⟩
  go_region_held3 (fun w' => w'.cell? ⟨w.heap.size, 0, none⟩ = some (.int .i64 x.1) ∧ w'.cell? ⟨w.heap.size, 1, none⟩ = some (.int .i64 x.2) ∧ w'.cell? ⟨w.heap.size + 1, 0, none⟩ = some (.int .i64 y.1) ∧ w'.cell? ⟨w.heap.size + 1, 1, none⟩ = some (.int .i64 y.2) ∧ (w' = W1 ∨ w' = W2))
    (first | assumption | (refine ⟨?_, ?_, ?_, ?_, ?_⟩ <;> first | exact Or.inl rfl | exact Or.inl hW1.symm | (simp [go_sem]; done) | (rw [hW1]; simp [go_sem]; done) | exact Or.inr hW2.symm | (rw [hW2]; exact Or.inr (by simp [go_sem, *])) | skip))
    (first | (go_at_call 101; refine (hc _ _ _).mono ?_; rintro e w' ⟨rfl, rfl⟩) | (go_at_call 100; refine (ho _ _ (by simp [go_sem]) (by simp [go_sem])).mono ?_; rintro e w' ⟨rfl, rfl⟩))
  go_wp2
  go_ret
  exact ⟨rfl, 1, _, by rw [Sort.alloc_eq_grow, Sort.alloc_eq_grow, Sort.alloc_eq_grow, Sort.grow_grow, Sort.grow_grow]; rfl⟩
end Go.Proofs.Ytmdbliacaeokaaa
namespace Go.Proofs.Ytmdbliacaeokaaa
open Go Go.Shelf
def sortSym_ren : Go.Shelf.Ren := ⟨fun | 6 => 98 | 15 => 107 | 14 => 106 | 28 => 118 | 29 => 119 | 20 => 110 | 21 => 111 | 22 => 112 | 23 => 113 | 24 => 114 | 25 => 115 | 26 => 116 | 27 => 117 | 46 => 120 | 47 => 121 | 48 => 122 | 49 => 123 | 50 => 124 | 57 => 125 | n => n, fun | 22 => 143 | 24 => 129 | 25 => 146 | 3 => 3 | 39 => 79 | 0 => 0 | 53 => 161 | 55 => 49 | 4 => 4 | 46 => 154 | 45 => 153 | 50 => 158 | 5 => 5 | 9 => 9 | 66 => 163 | 70 => 167 | 76 => 169 | 77 => 95 | n => n, fun | n => n⟩
theorem sortSym : Go.Proofs.SlLaysF0.n6 Try.prog sortSym_ren := {
  mixed := by kernel_rfl
  f6 := ⟨Try.f98.name, by decide, Try.func98.trans (congrArg some (by kernel_rfl))⟩
  f14 := ⟨Try.f106.name, by decide, Try.func106.trans (congrArg some (by kernel_rfl))⟩
  f15 := Try.func107.trans (congrArg some (by kernel_rfl))
  f20 := ⟨Try.f110.name, by decide, Try.func110.trans (congrArg some (by kernel_rfl))⟩
  f21 := ⟨Try.f111.name, by decide, Try.func111.trans (congrArg some (by kernel_rfl))⟩
  f22 := ⟨Try.f112.name, by decide, Try.func112.trans (congrArg some (by kernel_rfl))⟩
  f23 := ⟨Try.f113.name, by decide, Try.func113.trans (congrArg some (by kernel_rfl))⟩
  f24 := ⟨Try.f114.name, by decide, Try.func114.trans (congrArg some (by kernel_rfl))⟩
  f25 := ⟨Try.f115.name, by decide, Try.func115.trans (congrArg some (by kernel_rfl))⟩
  f26 := ⟨Try.f116.name, by decide, Try.func116.trans (congrArg some (by kernel_rfl))⟩
  f27 := ⟨Try.f117.name, by decide, Try.func117.trans (congrArg some (by kernel_rfl))⟩
  f28 := Try.func118.trans (congrArg some (by kernel_rfl))
  f29 := Try.func119.trans (congrArg some (by kernel_rfl))
  f46 := ⟨Try.f120.name, by decide, Try.func120.trans (congrArg some (by kernel_rfl))⟩
  f47 := Try.func121.trans (congrArg some (by kernel_rfl))
  f48 := Try.func122.trans (congrArg some (by kernel_rfl))
  f49 := ⟨Try.f123.name, by decide, Try.func123.trans (congrArg some (by kernel_rfl))⟩
  f50 := ⟨Try.f124.name, by decide, Try.func124.trans (congrArg some (by kernel_rfl))⟩
  f57 := ⟨Try.f125.name, by decide, Try.func125.trans (congrArg some (by kernel_rfl))⟩
  t0 := Try.underlying0
  a0 := Try.isAgg0
  z0 := Try.sizeOf0
  v0 := Try.zeroValue0
  t3 := Try.underlying3
  a3 := Try.isAgg3
  z3 := Try.sizeOf3
  v3 := Try.zeroValue3
  t4 := Try.underlying4
  a4 := Try.isAgg4
  z4 := Try.sizeOf4
  v4 := Try.zeroValue4
  t5 := Try.underlying5
  a5 := Try.isAgg5
  z5 := Try.sizeOf5
  v5 := Try.zeroValue5
  t9 := Try.underlying9
  a9 := Try.isAgg9
  z9 := Try.sizeOf9
  v9 := Try.zeroValue9
  t22 := Try.underlying143
  a22 := Try.isAgg143
  z22 := Try.sizeOf143
  v22 := Try.zeroValue143
  t25 := Try.underlying146
  a25 := Try.isAgg146
  z25 := Try.sizeOf146
  v25 := Try.zeroValue146
  t39 := Try.underlying79
  a39 := Try.isAgg79
  z39 := Try.sizeOf79
  v39 := Try.zeroValue79
  t45 := Try.underlying153
  a45 := Try.isAgg153
  z45 := Try.sizeOf153
  v45 := Try.zeroValue153
  t46 := Try.underlying154
  a46 := Try.isAgg154
  z46 := Try.sizeOf154
  v46 := Try.zeroValue154
  t50 := Try.underlying158
  a50 := Try.isAgg158
  z50 := Try.sizeOf158
  v50 := Try.zeroValue158
  t53 := Try.underlying161
  a53 := Try.isAgg161
  z53 := Try.sizeOf161
  v53 := Try.zeroValue161
  t55 := Try.underlying49
  a55 := Try.isAgg49
  z55 := Try.sizeOf49
  v55 := Try.zeroValue49
  t66 := Try.underlying163
  a66 := Try.isAgg163
  z66 := Try.sizeOf163
  v66 := Try.zeroValue163
  t70 := Try.underlying167
  a70 := Try.isAgg167
  z70 := Try.sizeOf167
  v70 := Try.zeroValue167
  t76 := Try.underlying169
  a76 := Try.isAgg169
  z76 := Try.sizeOf169
  v76 := Try.zeroValue169
  t77 := Try.underlying95
  a77 := Try.isAgg95
  z77 := Try.sizeOf95
  v77 := Try.zeroValue95 }
end Go.Proofs.Ytmdbliacaeokaaa
namespace Go.Proofs.Ytmdbliacaeokaaa
open Go Go.RowKit
set_option linter.unusedVariables false
set_option maxRecDepth 100000
def okLen (x : Int) : Bool := decide (0 ≤ x) && decide (x ≤ 11)
def zeros12 : List Int := [0, 0, 0, 0, 0, 0, 0, 0, 0, 0, 0, 0]
def bump (out : List Int) (x : Int) : List Int := out.set x.toNat (out.getD x.toNat 0 + 1)
def bumps (l : List Int) : List Int := l.foldl bump zeros12
def manyG (out : List Int) : List Int → List Int × Int
  | [] => (out, 0)
  | x :: r => cond (okLen x) (manyG (bump out x) r) (out, 2)
def manyT (l : List Int) : List Int × Int := cond (decide (256 < l.length)) (zeros12, 2) (manyG zeros12 l)
def rmC (c : List Int) (i : Nat) : Int := (List.range i).foldl (fun s k => s + c.getD (k + 1) 0 * 2 ^ (10 - k)) 0
def cdC (c : List Int) (i : Nat) : Int := (List.range i).foldl (fun s k => s + c.getD (k + 1) 0) 0
def cntP (l : List Int) : Int := l.foldl (fun s x => cond (decide (0 < x)) (s + 1) s) 0
def sumM (m : Int) (l : List Int) : Int := l.foldl (fun s x => cond (decide (0 < x)) (s + 2 ^ (m - x).toNat) s) 0
def roomL (l : List Int) : Int := sumM 11 l
def chk (l : List Int) : Int := cond (decide (256 < l.length)) 2 (cond (l.all okLen) (cond (decide (cntP l < 2) || !(roomL l == 2048)) 21 0) 2)
def maxL (l : List Int) : Int := l.tail.foldl max (l.headD 0)
def gmx (l : List Int) : Int := l.foldl max 0
def okCnt (x : Int) : Bool := decide (0 ≤ x) && decide (x ≤ 1099511627776)
def lenOk (l : List Int) (s n : Int) : Bool := (decide (s < l.length) && decide (0 < l.getD s.toNat 0)) || n == 0
def lenN (l : List Int) (s n : Int) : Int := cond (decide (s < l.length) && decide (0 < l.getD s.toNat 0)) (l.getD s.toNat 0) 0
def symsF (i : Int) : List Int → List (List Int)
  | [] => []
  | x :: r => cond (decide (0 < x)) ([i, x] :: symsF (i + 1) r) (symsF (i + 1) r)
def syms (l : List Int) : List (List Int) := symsF 0 l
def sLe (a b : List Int) : Bool := decide (b.getD 1 0 < a.getD 1 0) || (decide (b.getD 1 0 = a.getD 1 0) && decide (a.getD 0 0 ≤ b.getD 0 0))
def insS (a : List Int) : List (List Int) → List (List Int)
  | [] => [a]
  | b :: r => cond (sLe a b) (a :: b :: r) (b :: insS a r)
def srt : List (List Int) → List (List Int)
  | [] => []
  | a :: r => insS a (srt r)
def wid (m : Int) (s : List Int) : Nat := 2 ^ (m - s.getD 1 0).toNat
def atF (m : Int) (ss : List (List Int)) (i : Nat) : Int := (ss.take i).foldl (fun a s => a + (wid m s : Int)) 0
def itemF (m : Int) : Int → List (List Int) → List (List Value)
  | _, [] => []
  | a, s :: r => [.agg #[.int .i64 (s.getD 0 0), .int .i64 (s.getD 1 0)], .int .i64 a] :: itemF m (a + (wid m s : Int)) r
def ordS (l : List Int) : List (List Int) := srt (syms l)
def items (l : List Int) : List (List Value) := itemF (gmx l) 0 (ordS l)
def codF (m : Int) : Int → List (List Int) → List (List Int) → List (List Int)
  | _, [], out => out
  | a, s :: r, out => codF m (a + (wid m s : Int)) r (out.set (s.getD 0 0).toNat [s.getD 1 0, a / 2 ^ (m - s.getD 1 0).toNat])
def codL (l : List Int) : List (List Int) := codF (gmx l) 0 (ordS l) (List.replicate l.length [0, 0])
def codP (l : List Int) (i : Nat) : List (List Int) := codF (gmx l) 0 ((ordS l).take i) (List.replicate l.length [0, 0])
def symI (l : List Int) (i : Nat) : List Int := (ordS l).getD i []
def itemI (l : List Int) (i : Nat) : List Value := [.agg #[.int .i64 ((symI l i).getD 0 0), .int .i64 ((symI l i).getD 1 0)], .int .i64 (atF (gmx l) (ordS l) i)]
end Go.Proofs.Ytmdbliacaeokaaa
namespace Go.Proofs.Ytmdbliacaeokaaa
open Go Go.RowKit
set_option linter.unusedVariables false
set_option linter.unusedSimpArgs false
set_option maxRecDepth 100000
def sMany : Spec where
  ι := List Int
  dec l H := match l with
    | [.dat (.ints .i64 l)] => some (l, [])
    | _ => none
  args := fun l => [.dat (.ints .i64 l)]
  pre := fun l => [⟨l.length ≤ 4294967296, inferInstance⟩]
  out := fun l => .leaf (.tu [.av (.ints .i64 (manyT l).1), .v (.int .i64 (manyT l).2)]) []
theorem sMany_enc : ∀ l H n i ls, sMany.dec l H = some (i, ls) → l = renL (rho ls n) (sMany.args i) ∧ givenHp H ls = renH (rho ls n) (sMany.hp i) := by
  intro l H n i ls h
  simp only [sMany] at h
  repeat' split at h
  all_goals first
    | (cases h; done)
    | (cases h; exact ⟨rfl, rfl⟩)
def sChk : Spec where
  ι := List Int
  dec l H := match l with
    | [.dat (.ints .i64 l)] => some (l, [])
    | _ => none
  args := fun l => [.dat (.ints .i64 l)]
  pre := fun l => [⟨l.length ≤ 4294967296, inferInstance⟩]
  out := fun l => .leaf (.v (.int .i64 (chk l))) []
theorem sChk_enc : ∀ l H n i ls, sChk.dec l H = some (i, ls) → l = renL (rho ls n) (sChk.args i) ∧ givenHp H ls = renH (rho ls n) (sChk.hp i) := by
  intro l H n i ls h
  simp only [sChk] at h
  repeat' split at h
  all_goals first
    | (cases h; done)
    | (cases h; exact ⟨rfl, rfl⟩)
def sMaxL : Spec where
  ι := List Int
  dec l H := match l with
    | [.dat (.ints .i64 l)] => some (l, [])
    | _ => none
  args := fun l => [.dat (.ints .i64 l)]
  pre := fun l => [⟨0 < l.length, inferInstance⟩, ⟨l.length ≤ 4294967296, inferInstance⟩]
  out := fun l => .leaf (.v (.int .i64 (maxL l))) []
theorem sMaxL_enc : ∀ l H n i ls, sMaxL.dec l H = some (i, ls) → l = renL (rho ls n) (sMaxL.args i) ∧ givenHp H ls = renH (rho ls n) (sMaxL.hp i) := by
  intro l H n i ls h
  simp only [sMaxL] at h
  repeat' split at h
  all_goals first
    | (cases h; done)
    | (cases h; exact ⟨rfl, rfl⟩)
def sGmx : Spec where
  ι := List Int
  dec l H := match l with
    | [.dat (.ints .i64 l)] => some (l, [])
    | _ => none
  args := fun l => [.dat (.ints .i64 l)]
  pre := fun l => [⟨chk l = 0, inferInstance⟩]
  out := fun l => .leaf (.v (.int .i64 (gmx l))) []
theorem sGmx_enc : ∀ l H n i ls, sGmx.dec l H = some (i, ls) → l = renL (rho ls n) (sGmx.args i) ∧ givenHp H ls = renH (rho ls n) (sGmx.hp i) := by
  intro l H n i ls h
  simp only [sGmx] at h
  repeat' split at h
  all_goals first
    | (cases h; done)
    | (cases h; exact ⟨rfl, rfl⟩)
def sLen : Spec where
  ι := List Int × Int × Int
  dec l H := match l with
    | [.dat (.ints .i64 l), .v (.int .i64 s), .v (.int .i64 n)] => some ((l, s, n), [])
    | _ => none
  args := fun (l, s, n) => [.dat (.ints .i64 l), .v (.int .i64 s), .v (.int .i64 n)]
  pre := fun (l, s, n) => [⟨0 ≤ s, inferInstance⟩]
  out := fun (l, s, n) => .leaf (.tu [.v (.int .i64 (lenN l s n)), .v (.bool (lenOk l s n))]) []
def one6 (x : LoopInv) : Nat → Option LoopFam := fun k => cond (Nat.beq k 0) (some (.one x)) none
def oMany (l : List Int) : LoopInv := { ι := Nat, p := fun i => i ≤ l.length ∧ (l.take i).all okLen = true, tm := fun i => [(2, .p 1000 0 0), (10, .dat (.ints .i64 l)), (11, .v (.int .i64 l.length)), (12, .v (.int .i64 (i : Nat)))], hp := fun i => [(1000, .arr 140 (.ints .i64 (bumps (l.take i))))], μ := fun i => l.length - i }
def oChk6 (l : List Int) : LoopInv := { ι := Nat, p := fun i => i ≤ 11 ∧ (manyT l).2 = 0, tm := fun i => [(3, .p 1000 0 0), (5, .v (.int .i64 (rmC (manyT l).1 i))), (6, .v (.int .i64 (cdC (manyT l).1 i))), (7, .v (.int .i64 ((i : Int) + 1)))], hp := fun i => [(1000, .arr 140 (.ints .i64 (manyT l).1))], μ := fun i => 11 - i }
def oMaxL (l : List Int) : LoopInv := { ι := Nat, p := fun i => 1 ≤ i ∧ i ≤ l.length, tm := fun i => [(0, .dat (.ints .i64 l)), (3, .v (.int .i64 (maxL (l.take i)))), (4, .v (.int .i64 (i : Nat)))], hp := fun _ => [], μ := fun i => l.length - i }
def G6a : List (Nat × Ctr) := (96, sMany.ctr) :: (97, sMaxL.ctr) :: []
def G6b : List (Nat × Ctr) := (86, sChk.ctr) :: (87, sGmx.ctr) :: G6a
def G6c : List (Nat × Ctr) := G6b
def G6d : List (Nat × Ctr) := G6c
def G6e : List (Nat × Ctr) := G6d
def G6f : List (Nat × Ctr) := G6e
end Go.Proofs.Ytmdbliacaeokaaa
namespace Go.Proofs.Ytmdbliacaeokaaa
open Go Go.Shelf Go.RowKit Go.Lib Go.Sort
set_option linter.unusedVariables false
set_option linter.unusedSimpArgs false
set_option maxRecDepth 100000
theorem insS_perm (a : List Int) : ∀ l, (insS a l).Perm (a :: l)
  | [] => List.Perm.refl _
  | b :: r => by
    unfold insS
    cases sLe a b
    · exact ((insS_perm a r).cons b).trans (List.Perm.swap a b r)
    · exact List.Perm.refl _
theorem srt_perm : ∀ l, (srt l).Perm l
  | [] => List.Perm.refl _
  | a :: r => (insS_perm a (srt r)).trans ((srt_perm r).cons a)
theorem sLe_iff {a b : List Int} : sLe a b = true ↔ b.getD 1 0 < a.getD 1 0 ∨ (b.getD 1 0 = a.getD 1 0 ∧ a.getD 0 0 ≤ b.getD 0 0) := by
  simp [sLe]
theorem sLe_total {a b : List Int} (h : sLe a b = false) : sLe b a = true := by
  have h' : ¬ sLe a b = true := by rw [h]; simp
  rw [sLe_iff] at h' ⊢
  omega
theorem sLe_trans {a b c : List Int} (h : sLe a b = true) (k : sLe b c = true) : sLe a c = true := by
  rw [sLe_iff] at *
  omega
theorem insS_sorted (a : List Int) : ∀ l, l.Pairwise (fun x y => sLe x y = true) → (insS a l).Pairwise (fun x y => sLe x y = true)
  | [], _ => by simp [insS]
  | b :: r, h => by
    unfold insS
    obtain ⟨h1, h2⟩ := List.pairwise_cons.1 h
    cases hab : sLe a b
    · refine List.pairwise_cons.2 ⟨fun y hy => ?_, insS_sorted a r h2⟩
      have := (insS_perm a r).mem_iff.1 hy
      simp only [List.mem_cons] at this
      rcases this with rfl | hy
      · exact sLe_total hab
      · exact h1 y hy
    · refine List.pairwise_cons.2 ⟨fun y hy => ?_, h⟩
      simp only [List.mem_cons] at hy
      rcases hy with rfl | hy
      · exact hab
      · exact sLe_trans hab (h1 y hy)
theorem srt_sorted : ∀ l, (srt l).Pairwise (fun x y => sLe x y = true)
  | [] => List.Pairwise.nil
  | a :: r => insS_sorted a _ (srt_sorted r)
theorem srt_unique {l d : List (List Int)} (h2 : ∀ r ∈ l, r.length = 2) (hp : d.Perm l) (hs : d.Pairwise (fun x y => sLe x y = true)) : d = srt l := by
  refine List.Perm.eq_of_pairwise ?_ hs (srt_sorted l) (hp.trans (srt_perm l).symm)
  intro a b ha hb h k
  have la := h2 a (hp.mem_iff.1 ha)
  have lb := h2 b ((srt_perm l).mem_iff.1 hb)
  rw [sLe_iff] at h k
  match a, la, b, lb with
  | [a0, a1], _, [b0, b1], _ =>
    simp only [List.getD_cons_zero, List.getD_cons_succ] at h k
    have e1 : a1 = b1 := by omega
    have e0 : a0 = b0 := by omega
    rw [e1, e0]
def prL (p : Int × Int) : List Int := [p.1, p.2]
def unP (r : List Int) : Int × Int := (r.getD 0 0, r.getD 1 0)
theorem prL_unP {r : List Int} (h : r.length = 2) : prL (unP r) = r := by
  match r, h with
  | [a, b], _ => rfl
def encS (x : Int × Int) : List Value := [.int .i64 x.1, .int .i64 x.2]
def cfS (x y : Int × Int) : Int := if cmpI y.2 x.2 = 0 then cmpI x.1 y.1 else cmpI y.2 x.2
theorem ltS (x y : Int × Int) : ltOf cfS x y = decide (y.2 < x.2 ∨ (y.2 = x.2 ∧ x.1 < y.1)) := by
  unfold ltOf cfS cmpI
  by_cases h1 : y.2 < x.2
  · simp [h1]
  · by_cases h2 : x.2 < y.2
    · have : ¬ y.2 = x.2 := by omega
      simp [h1, h2, this]
    · have : y.2 = x.2 := by omega
      by_cases h3 : x.1 < y.1
      · simp [this, h3]
      · by_cases h4 : y.1 < x.1 <;> simp [this, h3, h4]
theorem swoS : SWO (ltOf cfS) where
  irrefl x := by rw [ltS]; simp
  trans x y z h1 h2 := by rw [ltS, decide_eq_true_eq] at *; omega
  ntrans x y z h1 h2 := by rw [ltS, decide_eq_false_iff_not] at *; omega
theorem sortCmp (blk off size : Nat) (w : World) : CmpLays Try.prog 99 #[] encS 2 cfS blk off size w := fun _ _ _ _ x y => closure_w x y _
theorem sorted_list {xs : List (List Int)} (h2 : ∀ r ∈ xs, r.length = 2) {d' : Array (Int × Int)} (hp : PermIn 0 (xs.map unP).toArray.size (xs.map unP).toArray d') (hs : SortedIn (ltOf cfS) 0 (xs.map unP).toArray.size d') :
    d'.toList.map prL = srt xs := by
  obtain ⟨p1, _, p3⟩ := hp
  have e1 : (xs.map unP).toArray.size = d'.size := p1.symm
  rw [e1] at p3 hs
  have p4 : d'.toList.Perm (xs.map unP) := by
    have k1 : d'.extract 0 d'.size = d' := by simp
    have k2 : ((xs.map unP).toArray.extract 0 d'.size).toList = xs.map unP := by
      rw [← e1]
      simp [List.take_of_length_le]
    rw [k1, k2] at p3
    exact p3
  refine srt_unique h2 ?_ ?_
  · have := p4.map prL
    rw [List.map_map] at this
    have e : xs.map (prL ∘ unP) = xs := by
      conv => rhs; rw [← List.map_id xs]
      exact List.map_congr_left fun r hr => prL_unP (h2 r hr)
    rw [e] at this
    exact this
  · rw [List.pairwise_map, List.pairwise_iff_getElem]
    intro i j hi hj hij
    have hi' : i < d'.size := by simpa using hi
    have hj' : j < d'.size := by simpa using hj
    have := hs i j (Nat.zero_le _) hij hj'
    rw [ltS, decide_eq_false_iff_not, getElem!_pos d' i hi', getElem!_pos d' j hj'] at this
    rw [sLe_iff]
    simp only [Array.getElem_toList, prL, List.getD_cons_zero, List.getD_cons_succ]
    omega
def sSort : Spec where
  ι := List (List Int)
  own := true
  dec l H := match l with
    | [.o l0, .fn (.func 99) [] []] => match H l0 with
      | some (.row 129 (.recs 2 xs)) => some (xs, [l0])
      | _ => none
    | _ => none
  args := fun xs => [.o 0, .fn (.func 99) [] []]
  hp := fun xs => [(0, .row 129 (.recs 2 xs))]
  pre := fun xs => [⟨1 ≤ xs.length, inferInstance⟩, ⟨xs.length ≤ 4294967296, inferInstance⟩, ⟨xs.all (fun r => decide (r.length = 2)) = true, inferInstance⟩]
  out := fun xs => .leaf (.tu []) [(0, .row 129 (.recs 2 (srt xs)))]
theorem sSort_enc : ∀ l H n i ls, sSort.dec l H = some (i, ls) → l = renL (rho ls n) (sSort.args i) ∧ givenHp H ls = renH (rho ls n) (sSort.hp i) := by
  intro l H n i ls h
  simp only [sSort] at h
  repeat' split at h
  all_goals first
    | (cases h; done)
    | (cases h; exact ⟨rfl, rfl⟩)
    | (cases h; refine ⟨rfl, ?_⟩; simp only [givenHp, List.filterMap_cons, List.filterMap_nil, Option.map, *]; rfl)
theorem putBlk {w : World} {g : Nat} {m : Nat} {F : Array Value} {os : Array Obj} {us : Array Value} {ty : TypeId} {fr : Nat × Nat} (h : w.heap[g]? = some (Obj.cells us ty fr)) :
    (Sort.grow (putRow id (Sort.ahead w m) g 0 F) os).heap[g]? = some (Obj.cells (putCells id 0 F us) ty fr) := by
  have hlt : g < w.heap.size := (Array.getElem?_eq_some_iff.1 h).1
  unfold Sort.grow putRow mapBlock Sort.ahead
  simp only
  rw [Array.getElem?_append_left (by simpa using hlt), Array.getElem?_modify, if_pos rfl, h]
  rfl
theorem putBlk_ne {w : World} {g k : Nat} {m : Nat} {F : Array Value} {os : Array Obj} (hk : k < w.heap.size) (hne : k ≠ g) : (Sort.grow (putRow id (Sort.ahead w m) g 0 F) os).heap[k]? = w.heap[k]? := by
  unfold Sort.grow putRow mapBlock Sort.ahead
  simp only
  rw [Array.getElem?_append_left (by simpa using hk), Array.getElem?_modify, if_neg (Ne.symm hne)]
theorem sort_sat (xs : List (List Int)) (h0 : 1 ≤ xs.length) (h1 : xs.length ≤ 4294967296) (h2 : xs.all (fun r => decide (r.length = 2)) = true) :
    Sat Try.prog 98 [.o 0, .fn (.func 99) [] []] [(0, .row 129 (.recs 2 xs))] (.tu []) [(0, .row 129 (.recs 2 (srt xs)))] := by
  have h2 : ∀ r ∈ xs, r.length = 2 := fun r hr => by simpa using List.all_eq_true.1 h2 r hr
  intro D β w us hargs hhp hD hβ
  simp only [Reps, Rep] at hargs
  obtain ⟨u0, r0, rfl, ⟨L, hL, rfl⟩, u1, r1, rfl, ⟨a1, a2, rfl, rfl, rfl⟩, rfl⟩ := hargs
  obtain ⟨L', hL', hB, hdis⟩ := hhp.1 0 (SBlk.row 129 (.recs 2 xs)) (by simp)
  rw [hL] at hL'
  cases hL'
  obtain ⟨hw, hlen, hB⟩ := hB
  simp only [Dat.wd, Dat.len] at hw hlen hB
  rcases hB with ⟨_, hz⟩ | ⟨hni, hcap, hmax, cs, ty', fr, hcs, hfr, hcl, hval⟩
  · omega
  obtain ⟨hnD, hlt⟩ := hdis hni
  obtain ⟨d, hd⟩ : ∃ d : Array (Int × Int), d = (xs.map unP).toArray := ⟨_, rfl⟩
  have hds : d.size = xs.length := by rw [hd]; simp
  have hget : ∀ i, i < xs.length → d[i]! = unP (xs.getD i []) := fun i hi => by
    rw [getElem!_pos d i (by omega)]
    subst hd
    simp [List.getD_eq_getElem?_getD, List.getElem?_eq_getElem hi]
  have cellv : ∀ i j, i < xs.length → j < 2 → cs[i * 2 + j]? = some (.int .i64 ((xs.getD i []).getD j 0)) := fun i j hi hj => by
    obtain ⟨x, hx, hok⟩ := hval i j hi hj
    rw [hx]
    simp only [Dat.ok] at hok
    rw [hok]
  have hH : HoldsK encS 2 w L.g 0 d := by
    intro t ht
    rw [size_flatK, hds] at ht
    have hi : t / 2 < xs.length := by omega
    have hv : (flatK encS 2 d)[t]! = .int .i64 ((xs.getD (t / 2) []).getD (t % 2) 0) := by
      rw [get_flatK _ _ _ _ (by rw [hds]; exact ht), hget _ hi]
      have : t % 2 = 0 ∨ t % 2 = 1 := by omega
      rcases this with e | e <;> rw [e] <;> rfl
    have hc := cellv (t / 2) (t % 2) hi (by omega)
    rw [show t / 2 * 2 + t % 2 = t by omega] at hc
    rw [hv]
    refine ⟨?_, ?_⟩
    · simp [World.cell?, hcs, hc]
    · simp only [World.frozen?, hcs]
      exact hfr _ (by have := (List.getElem?_eq_some_iff.1 hc).1; omega)
  have hval2 : L.val = .slice (some ⟨L.g, 0, none⟩) d.size L.cap := by
    unfold Loc.val
    rw [hni, hlen, hds]
    rfl
  have eg : ∀ args w, (callFunc 99 args).run Try.prog w = .ok (.enter 99 args) w := enters_of Try.func99 (by kernel_rfl) rfl
  have key := AnyQ.slices_SortFunc sortSym 2 Try.isAgg129 Try.sizeOf129 encS (fun _ => rfl) (fun x v hv => by simp [encS] at hv; rcases hv with rfl | rfl <;> rfl) cfS swoS 99 #[] L.g 0 L.cap d w eg (sortCmp _ _ _ _) hH hlt (by omega)
  have e : (L.val :: Value.func (.func 99) [].toArray [].toArray :: []).toArray = #[.slice (some ⟨L.g, 0, none⟩) d.size L.cap, .func (.func 99) #[] #[]] := by rw [hval2]
  rw [e]
  refine Calls.mono (show Calls Try.prog 98 _ _ _ from key) ?_
  rintro e w' ⟨rfl, d', n, os, hperm, hsort, rfl⟩
  have hds' : d'.size = xs.length := by rw [hperm.1, hds]
  have hsl : d'.toList.map prL = srt xs := by
    rw [hd] at hperm hsort
    exact sorted_list h2 hperm hsort
  refine ⟨_, D, β, rfl, ?_⟩
  have hg : (sortWorldK encS 2 w L.g 0 n d' os).heap[L.g]? = some (Obj.cells (putCells id 0 (flatK encS 2 d') cs.toArray) ty' fr) := putBlk hcs
  have hne : ∀ k, k < w.heap.size → k ≠ L.g → (sortWorldK encS 2 w L.g 0 n d' os).heap[k]? = w.heap[k]? := fun k hk hne => putBlk_ne hk hne
  have hsz : w.heap.size ≤ (sortWorldK encS 2 w L.g 0 n d' os).heap.size := by
    unfold sortWorldK Sort.grow putRowK putRow mapBlock Sort.ahead
    simp
  have G : Grows D w β D (sortWorldK encS 2 w L.g 0 n d' os) β := ⟨fun _ h => h, fun g hgD => hne g (hD g hgD) (fun e => hnD (e ▸ hgD)), fun _ _ h => h⟩
  have hgiven : ∀ g, Given β [(0, SBlk.row 129 (.recs 2 xs))] g ↔ g = L.g := by
    intro g
    constructor
    · rintro ⟨l, b, L2, h1, h2, h3, h4⟩
      simp only [List.mem_singleton, Prod.mk.injEq] at h1
      obtain ⟨rfl, rfl⟩ := h1
      rw [hL] at h2
      cases h2
      exact h4.symm
    · rintro rfl
      exact ⟨0, SBlk.row 129 (.recs 2 xs), L, by simp, hL, hni, rfl⟩
  have hsrtlen : (srt xs).length = xs.length := (srt_perm xs).length_eq
  exact {
    grows := G
    ret := by simp only [Rep, Reps]; exact ⟨[], rfl, rfl⟩
    hps := by
      refine ⟨fun l b hl => ?_, fun l l' b b' L1 L2 hl hl' _ _ _ _ _ => ?_⟩
      · simp only [List.mem_singleton, Prod.mk.injEq] at hl
        obtain ⟨rfl, rfl⟩ := hl
        refine ⟨L, hL, ⟨hw, by simp only [Dat.len]; omega, .inr ⟨hni, by simp only [Dat.len]; omega, hmax, (putCells id 0 (flatK encS 2 d') cs.toArray).toList, ty', fr, by simpa using hg, by simpa [putCells] using hfr, ?_, ?_⟩⟩, fun _ => ⟨hnD, by omega⟩⟩
        · simp only [putCells, Array.length_toList, Array.size_mapIdx, List.size_toArray]
          exact hcl
        · intro i j hi hj
          simp only [Dat.len, Dat.wd] at hi hj
          refine ⟨.int .i64 (((srt xs).getD i []).getD j 0), ?_, rfl⟩
          have hlt2 : i * 2 + j < cs.length := by omega
          simp only [Dat.wd, putCells, Array.getElem?_toList, Array.getElem?_mapIdx, List.getElem?_toArray, List.getElem?_eq_getElem hlt2, Option.map_some, size_flatK, Nat.zero_add, Nat.sub_zero, id]
          rw [if_pos ⟨Nat.zero_le _, by omega⟩, get_flatK _ _ _ _ (by omega)]
          have q1 : (i * 2 + j) / 2 = i := by omega
          have q2 : (i * 2 + j) % 2 = j := by omega
          rw [q1, q2, ← hsl]
          have hi3 : i < d'.toList.length := by simp; omega
          simp only [List.getD_eq_getElem?_getD, List.getElem?_map, List.getElem?_eq_getElem hi3, Option.map_some, Option.getD_some, Array.getElem_toList]
          rw [getElem!_pos d' i (by omega)]
          have : j = 0 ∨ j = 1 := by omega
          rcases this with rfl | rfl <;> rfl
      · simp only [List.mem_singleton, Prod.mk.injEq] at hl hl'
        rw [hl.1, hl'.1]
    d := fun g hgD => ⟨.inl hgD, by have := hD g hgD; omega⟩
    dom := fun l L hL => .inl hL
    own := fun l b L2 hl hL2 hn2 => by
      simp only [List.mem_singleton, Prod.mk.injEq] at hl
      obtain ⟨rfl, rfl⟩ := hl
      rw [hL] at hL2
      cases hL2
      exact .inr ((hgiven _).2 rfl)
    os := rfl, tape := rfl, output := rfl, size := hsz
    block := fun g hg1 hg2 => hne g hg1 fun e => hg2 ((hgiven g).2 e) }
theorem sort_sound : Sound Try.prog 98 sSort.ctr := sSort.sound (by kernel_rfl) sSort_enc fun xs hc => by
  have h0 := hc _ (.head _)
  have h1 := hc _ (.tail _ (.head _))
  have h2 := hc _ (.tail _ (.tail _ (.head _)))
  exact sort_sat xs h0 h1 h2
end Go.Proofs.Ytmdbliacaeokaaa
namespace Go.Proofs.Ytmdbliacaeokaaa
open Go Go.RowKit
set_option linter.unusedVariables false
set_option maxRecDepth 100000
def many6_t (l : List Int) : Prop :=
 (decide ((↑(List.length l) : Int) > (256 : Int)) = true →
 (12 : Nat) = (12 : Nat) ∧
 List.length (List.replicate (12 : Nat) (0 : Int)) = (12 : Nat) ∧
 List.length (List.replicate (12 : Nat) (0 : Int)) = List.length (List.replicate (12 : Nat) (0 : Int)) ∧
 (12 : Nat) = (12 : Nat) ∧ List.replicate (12 : Nat) (0 : Int) = (manyT l).fst ∧ (2 : Int) = (manyT l).snd) ∧
 (decide ((↑(List.length l) : Int) > (256 : Int)) = false →
 (∃ (x0 : Nat),
 (x0 ≤ List.length l ∧ List.all (List.take x0 l) okLen = true) ∧
 l = l ∧ (↑(List.length l) : Int) = (↑(List.length l) : Int) ∧ (0 : Int) = (↑x0 : Int) ∧ List.replicate (12 : Nat) (0 : Int) = bumps (List.take x0 l)) ∧
 ∀ (x1 : Nat),
 x1 ≤ List.length l ∧ List.all (List.take x1 l) okLen = true →
 (decide ((↑x1 : Int) < (↑(List.length l) : Int)) = true →
 (0 : Int) ≤ (↑x1 : Int) ∧
 (↑x1 : Int) < (↑(List.length l) : Int) ∧
 (decide (List.getD l (Int.toNat (↑x1 : Int)) (0 : Int) < (0 : Int)) = true →
 (12 : Nat) = List.length (bumps (List.take x1 l)) ∧
 List.length (bumps (List.take x1 l)) = (12 : Nat) ∧
 List.length (bumps (List.take x1 l)) = List.length (bumps (List.take x1 l)) ∧
 (12 : Nat) = List.length (bumps (List.take x1 l)) ∧ bumps (List.take x1 l) = (manyT l).fst ∧ (2 : Int) = (manyT l).snd) ∧
 (decide (List.getD l (Int.toNat (↑x1 : Int)) (0 : Int) < (0 : Int)) = false →
 (decide (List.getD l (Int.toNat (↑x1 : Int)) (0 : Int) > (11 : Int)) = true →
 (12 : Nat) = List.length (bumps (List.take x1 l)) ∧
 List.length (bumps (List.take x1 l)) = (12 : Nat) ∧
 List.length (bumps (List.take x1 l)) = List.length (bumps (List.take x1 l)) ∧
 (12 : Nat) = List.length (bumps (List.take x1 l)) ∧ bumps (List.take x1 l) = (manyT l).fst ∧ (2 : Int) = (manyT l).snd) ∧
 (decide (List.getD l (Int.toNat (↑x1 : Int)) (0 : Int) > (11 : Int)) = false →
 (0 : Int) ≤ List.getD l (Int.toNat (↑x1 : Int)) (0 : Int) ∧
 List.getD l (Int.toNat (↑x1 : Int)) (0 : Int) < (↑(12 : Nat) : Int) ∧
 Int.toNat (List.getD l (Int.toNat (↑x1 : Int)) (0 : Int)) < List.length (bumps (List.take x1 l)) ∧
 (0 : Int) ≤ List.getD l (Int.toNat (↑x1 : Int)) (0 : Int) ∧
 List.getD l (Int.toNat (↑x1 : Int)) (0 : Int) < (↑(12 : Nat) : Int) ∧
 Int.toNat (List.getD l (Int.toNat (↑x1 : Int)) (0 : Int)) < List.length (bumps (List.take x1 l)) ∧
 ∃ (y2 : Nat),
 (y2 ≤ List.length l ∧ List.all (List.take y2 l) okLen = true) ∧
 Nat.sub (List.length l) y2 < Nat.sub (List.length l) x1 ∧
 l = l ∧
 (↑(List.length l) : Int) = (↑(List.length l) : Int) ∧
 IntKind.wrap IntKind.i64 ((↑x1 : Int) + (1 : Int)) = (↑y2 : Int) ∧
 List.set (bumps (List.take x1 l)) (Int.toNat (List.getD l (Int.toNat (↑x1 : Int)) (0 : Int)))
 (IntKind.wrap IntKind.i64
 (List.getD (bumps (List.take x1 l)) (Int.toNat (List.getD l (Int.toNat (↑x1 : Int)) (0 : Int))) (0 : Int) + (1 : Int))) =
 bumps (List.take y2 l)))) ∧
 (decide ((↑x1 : Int) < (↑(List.length l) : Int)) = false →
 (12 : Nat) = List.length (bumps (List.take x1 l)) ∧
 List.length (bumps (List.take x1 l)) = (12 : Nat) ∧
 List.length (bumps (List.take x1 l)) = List.length (bumps (List.take x1 l)) ∧
 (12 : Nat) = List.length (bumps (List.take x1 l)) ∧ bumps (List.take x1 l) = (manyT l).fst ∧ (0 : Int) = (manyT l).snd))
theorem many6_e (l : List Int) : many6_t l = vcG Try.prog (Gof []) (one6 (oMany l)) Try.f96 [.dat (.ints .i64 l)] [] (.leaf ((.tu [.av (.ints .i64 (manyT l).1), .v (.int .i64 (manyT l).2)])) ([])) := by kernel_rfl
def max6_t (l : List Int) : Prop :=
 (decide ((↑(List.length l) : Int) < (1 : Int)) = true → False) ∧
 (decide ((↑(List.length l) : Int) < (1 : Int)) = false →
 (0 : Int) ≤ (0 : Int) ∧
 (0 : Int) < (↑(List.length l) : Int) ∧
 (∃ (x0 : Nat), ((1 : Nat) ≤ x0 ∧ x0 ≤ List.length l) ∧ l = l ∧ List.getD l (Int.toNat (0 : Int)) (0 : Int) = maxL (List.take x0 l) ∧ (1 : Int) = (↑x0 : Int)) ∧
 ∀ (x1 : Nat),
 (1 : Nat) ≤ x1 ∧ x1 ≤ List.length l →
 (decide ((↑x1 : Int) < (↑(List.length l) : Int)) = true →
 (0 : Int) ≤ (↑x1 : Int) ∧
 (↑x1 : Int) < (↑(List.length l) : Int) ∧
 ∃ (y2 : Nat),
 ((1 : Nat) ≤ y2 ∧ y2 ≤ List.length l) ∧
 Nat.sub (List.length l) y2 < Nat.sub (List.length l) x1 ∧
 l = l ∧
 max (maxL (List.take x1 l)) (List.getD l (Int.toNat (↑x1 : Int)) (0 : Int)) = maxL (List.take y2 l) ∧ IntKind.wrap IntKind.i64 ((↑x1 : Int) + (1 : Int)) = (↑y2 : Int)) ∧
 (decide ((↑x1 : Int) < (↑(List.length l) : Int)) = false → maxL (List.take x1 l) = maxL l))
theorem max6_e (l : List Int) : max6_t l = vcG Try.prog (Gof []) (one6 (oMaxL l)) Try.f97 [.dat (.ints .i64 l)] [] (.leaf ((.v (.int .i64 (maxL l)))) ([])) := by kernel_rfl
def check6_t (l : List Int) : Prop :=
 List.length l ≤ (4294967296 : Nat) ∧
 List.length (manyT l).fst = (12 : Nat) ∧
 List.length (manyT l).fst = List.length (List.replicate (12 : Nat) (0 : Int)) ∧
 (((manyT l).snd != (0 : Int)) = true → (manyT l).snd = chk l) ∧
 (((manyT l).snd != (0 : Int)) = false →
 (∃ (x0 : Nat),
 (x0 ≤ (11 : Nat) ∧ (manyT l).snd = (0 : Int)) ∧
 (0 : Int) = rmC (manyT l).fst x0 ∧ (0 : Int) = cdC (manyT l).fst x0 ∧ (1 : Int) = (↑x0 : Int) + (1 : Int) ∧ (manyT l).fst = (manyT l).fst) ∧
 ∀ (x1 : Nat),
 x1 ≤ (11 : Nat) ∧ (manyT l).snd = (0 : Int) →
 (decide ((↑x1 : Int) + (1 : Int) ≤ (11 : Int)) = true →
 (0 : Int) ≤ (↑x1 : Int) + (1 : Int) ∧
 (↑x1 : Int) + (1 : Int) < (↑(12 : Nat) : Int) ∧
 Int.toNat ((↑x1 : Int) + (1 : Int)) < List.length (manyT l).fst ∧
 (0 : Int) ≤ IntKind.wrap IntKind.i64 ((11 : Int) - ((↑x1 : Int) + (1 : Int))) ∧
 (0 : Int) ≤ (↑x1 : Int) + (1 : Int) ∧
 (↑x1 : Int) + (1 : Int) < (↑(12 : Nat) : Int) ∧
 Int.toNat ((↑x1 : Int) + (1 : Int)) < List.length (manyT l).fst ∧
 ∃ (y2 : Nat),
 (y2 ≤ (11 : Nat) ∧ (manyT l).snd = (0 : Int)) ∧
 Nat.sub (11 : Nat) y2 < Nat.sub (11 : Nat) x1 ∧
 IntKind.wrap IntKind.i64
 (rmC (manyT l).fst x1 +
 IntKind.wrap IntKind.i64
 (List.getD (manyT l).fst (Int.toNat ((↑x1 : Int) + (1 : Int))) (0 : Int) *
 (2 : Int) ^ min (Int.toNat (IntKind.wrap IntKind.i64 ((11 : Int) - ((↑x1 : Int) + (1 : Int))))) (IntKind.bits IntKind.i64))) =
 rmC (manyT l).fst y2 ∧
 IntKind.wrap IntKind.i64 (cdC (manyT l).fst x1 + List.getD (manyT l).fst (Int.toNat ((↑x1 : Int) + (1 : Int))) (0 : Int)) = cdC (manyT l).fst y2 ∧
 IntKind.wrap IntKind.i64 ((↑x1 : Int) + (1 : Int) + (1 : Int)) = (↑y2 : Int) + (1 : Int) ∧ (manyT l).fst = (manyT l).fst) ∧
 (decide ((↑x1 : Int) + (1 : Int) ≤ (11 : Int)) = false →
 (decide (cdC (manyT l).fst x1 < (2 : Int)) = true → (21 : Int) = chk l) ∧
 (decide (cdC (manyT l).fst x1 < (2 : Int)) = false →
 ((rmC (manyT l).fst x1 != (2048 : Int)) = true → (21 : Int) = chk l) ∧ ((rmC (manyT l).fst x1 != (2048 : Int)) = false → (0 : Int) = chk l))))
theorem check6_e (l : List Int) : check6_t l = vcG Try.prog (Gof G6a) (one6 (oChk6 l)) Try.f86 [.dat (.ints .i64 l)] [] (.leaf ((.v (.int .i64 (chk l)))) ([])) := by kernel_rfl
def great6_t (l : List Int) : Prop :=
 (0 : Nat) < List.length l ∧ List.length l ≤ (4294967296 : Nat) ∧ maxL l = gmx l
theorem great6_e (l : List Int) : great6_t l = vcG Try.prog (Gof G6a) (fun _ => none) Try.f87 [.dat (.ints .i64 l)] [] (.leaf ((.v (.int .i64 (gmx l)))) ([])) := by kernel_rfl
end Go.Proofs.Ytmdbliacaeokaaa
namespace Go.Proofs.Ytmdbliacaeokaaa
open Go Go.RowKit
set_option linter.unusedVariables false
set_option linter.unusedSimpArgs false
set_option maxRecDepth 100000
theorem mixed : Try.prog.follows .mixedOrders = true := by kernel_rfl
theorem all_snoc {f : Int → Bool} {l : List Int} {i : Nat} (h : i < l.length) : (l.take (i + 1)).all f = ((l.take i).all f && f (l.getD i 0)) := by
  rw [take_succ l 0 h, List.all_append]
  simp
theorem all_of_bad {f : Int → Bool} {l : List Int} {i : Nat} (h : i < l.length) (hf : f (l.getD i 0) = false) : l.all f = false := by
  rw [Bool.eq_false_iff]
  intro ha
  have := List.all_eq_true.1 ha _ (getD_mem' h)
  rw [hf] at this
  cases this
theorem snoc_ind' {P : List Int → Prop} (h0 : P []) (h1 : ∀ l z, P l → P (l ++ [z])) (l : List Int) : P l := by
  have : P l.reverse.reverse := by
    induction l.reverse with
    | nil => exact h0
    | cons x r ih => rw [List.reverse_cons]; exact h1 _ _ ih
  rwa [List.reverse_reverse] at this
theorem okLen_iff {x : Int} : okLen x = true ↔ 0 ≤ x ∧ x ≤ 11 := by simp [okLen]
theorem okLen_false {x : Int} : okLen x = false ↔ x < 0 ∨ 11 < x := by
  rw [← Bool.not_eq_true, okLen_iff]; omega
theorem okCnt_iff {x : Int} : okCnt x = true ↔ 0 ≤ x ∧ x ≤ 1099511627776 := by simp [okCnt]
theorem bumps_snoc (l : List Int) (x : Int) : bumps (l ++ [x]) = bump (bumps l) x := by simp [bumps, List.foldl_append]
theorem bumps_len (l : List Int) : (bumps l).length = 12 := by
  induction l using snoc_ind' with
  | h0 => rfl
  | h1 l z ih => rw [bumps_snoc, bump, List.length_set, ih]
theorem getD_set_i (l : List Int) (i j : Nat) (v : Int) : (l.set i v).getD j 0 = if i = j ∧ j < l.length then v else l.getD j 0 := by
  simp only [List.getD_eq_getElem?_getD, List.getElem?_set]
  by_cases h : i = j
  · subst h
    by_cases h2 : i < l.length
    · simp [h2]
    · simp [h2]
  · simp [h]
theorem bumps_bd (l : List Int) (j : Nat) : 0 ≤ (bumps l).getD j 0 ∧ (bumps l).getD j 0 ≤ l.length := by
  induction l using snoc_ind' generalizing j with
  | h0 =>
    have : (bumps []).getD j 0 = 0 := by
      rcases j with _ | _ | _ | _ | _ | _ | _ | _ | _ | _ | _ | _ | j <;> simp [bumps, zeros12]
    rw [this]; simp
  | h1 l z ih =>
    rw [bumps_snoc, bump, getD_set_i, List.length_append]
    have h1 := ih j
    have h2 := ih z.toNat
    split
    · rename_i h; have := h.1; subst this; simp only [List.length_singleton]; omega
    · simp only [List.length_singleton]; omega
theorem manyG_app (a r : List Int) : ∀ out, a.all okLen = true → manyG out (a ++ r) = manyG (a.foldl bump out) r := by
  induction a with
  | nil => intro out _; rfl
  | cons x a ih =>
    intro out h
    simp only [List.all_cons, Bool.and_eq_true] at h
    simp only [List.cons_append, manyG, h.1, cond_true, List.foldl_cons]
    exact ih _ h.2
theorem many_good {l : List Int} (h0 : l.length ≤ 256) (h : l.all okLen = true) : manyT l = (bumps l, 0) := by
  have := manyG_app l [] zeros12 h
  rw [List.append_nil] at this
  unfold manyT
  rw [decide_eq_false (by omega), cond_false, this]
  rfl
theorem many_bad {l : List Int} (h0 : l.length ≤ 256) {i : Nat} (hi : i < l.length) (h : (l.take i).all okLen = true) (hx : okLen (l.getD i 0) = false) : manyT l = (bumps (l.take i), 2) := by
  have := manyG_app (l.take i) (l.drop i) zeros12 h
  rw [List.take_append_drop] at this
  unfold manyT
  rw [decide_eq_false (by omega), cond_false, this, List.drop_eq_getElem_cons hi]
  have e : l[i] = l.getD i 0 := by rw [List.getD_eq_getElem?_getD, List.getElem?_eq_getElem hi]; rfl
  rw [e]
  simp only [manyG, hx, cond_false]
  rfl
theorem many_long {l : List Int} (h0 : 256 < l.length) : manyT l = (zeros12, 2) := by
  unfold manyT
  rw [decide_eq_true (by omega), cond_true]
theorem first_bad {f : Int → Bool} : ∀ (l : List Int), l.all f = false → ∃ i, i < l.length ∧ (l.take i).all f = true ∧ f (l.getD i 0) = false
  | [], h => by simp at h
  | x :: r, h => by
    cases hx : f x
    · exact ⟨0, by simp, by simp, by simpa using hx⟩
    · simp only [List.all_cons, hx, Bool.true_and] at h
      obtain ⟨i, h1, h2, h3⟩ := first_bad r h
      exact ⟨i + 1, by simpa using h1, by simp [hx, h2], by simpa using h3⟩
theorem many_snd (l : List Int) : (l.length ≤ 256 ∧ l.all okLen = true ∧ manyT l = (bumps l, 0)) ∨ ((manyT l).2 = 2 ∧ chk l = 2) := by
  by_cases h0 : l.length ≤ 256
  · cases h : l.all okLen
    · obtain ⟨i, h1, h2, h3⟩ := first_bad l h
      right
      rw [many_bad h0 h1 h2 h3]
      refine ⟨rfl, ?_⟩
      unfold chk
      rw [decide_eq_false (by omega), h]
      rfl
    · exact .inl ⟨h0, rfl, many_good h0 h⟩
  · right
    rw [many_long (by omega)]
    refine ⟨rfl, ?_⟩
    unfold chk
    rw [decide_eq_true (by omega)]
    rfl
theorem many_len (l : List Int) : (manyT l).1.length = 12 := by
  by_cases h0 : l.length ≤ 256
  · cases h : l.all okLen
    · obtain ⟨i, h1, h2, h3⟩ := first_bad l h
      rw [many_bad h0 h1 h2 h3]
      exact bumps_len _
    · rw [many_good h0 h]; exact bumps_len _
  · rw [many_long (by omega)]; rfl
theorem rmC_succ (c : List Int) (i : Nat) : rmC c (i + 1) = rmC c i + c.getD (i + 1) 0 * 2 ^ (10 - i) := by simp [rmC, List.range_succ, List.foldl_append]
theorem cdC_succ (c : List Int) (i : Nat) : cdC c (i + 1) = cdC c i + c.getD (i + 1) 0 := by simp [cdC, List.range_succ, List.foldl_append]
theorem cntP_snoc (l : List Int) (x : Int) : cntP (l ++ [x]) = cond (decide (0 < x)) (cntP l + 1) (cntP l) := by simp [cntP, List.foldl_append]
theorem sumM_snoc (m : Int) (l : List Int) (x : Int) : sumM m (l ++ [x]) = cond (decide (0 < x)) (sumM m l + 2 ^ (m - x).toNat) (sumM m l) := by simp [sumM, List.foldl_append]
theorem rmC_bd {c : List Int} {n : Int} (hn : 0 ≤ n) (h : ∀ j, 0 ≤ c.getD j 0 ∧ c.getD j 0 ≤ n) : ∀ i, 0 ≤ rmC c i ∧ rmC c i ≤ i * (n * 1024)
  | 0 => by simp [rmC]
  | i + 1 => by
    have ih := rmC_bd hn h i
    rw [rmC_succ]
    have h1 := h (i + 1)
    have h2 := pow_pos' (10 - i)
    have h3 := pow_mono (show 10 - i ≤ 10 by omega)
    have h4 : 0 ≤ c.getD (i + 1) 0 * 2 ^ (10 - i) := Int.mul_nonneg h1.1 (by omega)
    have h5 : c.getD (i + 1) 0 * 2 ^ (10 - i) ≤ n * 1024 := Int.mul_le_mul h1.2 (by simpa using h3) (by omega) hn
    constructor
    · omega
    · push_cast
      rw [Int.add_mul]
      omega
theorem cdC_bd {c : List Int} {n : Int} (hn : 0 ≤ n) (h : ∀ j, 0 ≤ c.getD j 0 ∧ c.getD j 0 ≤ n) : ∀ i, 0 ≤ cdC c i ∧ cdC c i ≤ i * n
  | 0 => by simp [cdC]
  | i + 1 => by
    have ih := cdC_bd hn h i
    rw [cdC_succ]
    have h1 := h (i + 1)
    constructor
    · omega
    · push_cast
      rw [Int.add_mul]
      omega
theorem rm_bump {c : List Int} (hc : c.length = 12) {x : Int} (hx : okLen x = true) : rmC (bump c x) 11 = rmC c 11 + cond (decide (0 < x)) (2 ^ (11 - x).toNat) 0 ∧ cdC (bump c x) 11 = cdC c 11 + cond (decide (0 < x)) 1 0 := by
  rw [okLen_iff] at hx
  obtain ⟨n, rfl⟩ := Int.eq_ofNat_of_zero_le hx.1
  have hn : n ≤ 11 := by omega
  match c, hc with
  | [a0, a1, a2, a3, a4, a5, a6, a7, a8, a9, a10, a11], _ =>
    rcases n with _ | _ | _ | _ | _ | _ | _ | _ | _ | _ | _ | _ | n
    all_goals first | (exfalso; omega) | skip
    all_goals
      simp [rmC, cdC, bump, List.range, List.range.loop, List.set]
      try omega
theorem rm_bumps (l : List Int) : l.all okLen = true → rmC (bumps l) 11 = roomL l ∧ cdC (bumps l) 11 = cntP l := by
  induction l using snoc_ind' with
  | h0 => intro _; decide
  | h1 l z ih =>
    intro h
    simp only [List.all_append, List.all_cons, List.all_nil, Bool.and_true, Bool.and_eq_true] at h
    obtain ⟨k1, k2⟩ := ih h.1
    obtain ⟨j1, j2⟩ := rm_bump (bumps_len l) h.2
    rw [bumps_snoc, j1, j2, k1, k2, cntP_snoc]
    unfold roomL
    rw [sumM_snoc]
    cases decide (0 < z)
    · simp
    · simp
theorem gmx_snoc (l : List Int) (x : Int) : gmx (l ++ [x]) = max (gmx l) x := by simp [gmx, List.foldl_append]
theorem gmx_ge (l : List Int) : 0 ≤ gmx l ∧ ∀ x ∈ l, x ≤ gmx l := by
  induction l using snoc_ind' with
  | h0 => simp [gmx]
  | h1 l z ih =>
    rw [gmx_snoc]
    refine ⟨by have := ih.1; omega, fun x hx => ?_⟩
    simp only [List.mem_append, List.mem_singleton] at hx
    rcases hx with hx | rfl
    · have := ih.2 x hx; omega
    · omega
theorem gmx_le {l : List Int} {m : Int} (hm : 0 ≤ m) (h : ∀ x ∈ l, x ≤ m) : gmx l ≤ m := by
  induction l using snoc_ind' with
  | h0 => simpa [gmx] using hm
  | h1 l z ih =>
    rw [gmx_snoc]
    have h1 := ih fun x hx => h x (by simp [hx])
    have h2 := h z (by simp)
    omega
theorem maxL_snoc' (l : List Int) (z : Int) (h : l ≠ []) : maxL (l ++ [z]) = max (maxL l) z := by
  cases l with
  | nil => exact absurd rfl h
  | cons x r => simp [maxL, List.foldl_append]
theorem maxL_gmx {l : List Int} (h0 : 0 < l.length) (h : ∀ x ∈ l, 0 ≤ x) : maxL l = gmx l := by
  cases l with
  | nil => simp at h0
  | cons x r =>
    have := h x (by simp)
    simp [maxL, gmx, Int.max_eq_right this]
theorem all_ok {l : List Int} (h : l.all okLen = true) : ∀ x ∈ l, 0 ≤ x ∧ x ≤ 11 := fun x hx => okLen_iff.1 (List.all_eq_true.1 h x hx)
theorem sumM_bd (m : Int) (h0 : 0 ≤ m) (hm : m ≤ 11) (l : List Int) : 0 ≤ sumM m l ∧ sumM m l ≤ l.length * 2048 := by
  induction l using snoc_ind' with
  | h0 => simp [sumM]
  | h1 l z ih =>
    rw [sumM_snoc, List.length_append]
    by_cases hz : 0 < z
    · rw [decide_eq_true hz, cond_true]
      have h1 := pow_pos' (m - z).toNat
      have h2 := pow_mono (show (m - z).toNat ≤ 11 by omega)
      have h3 : (2 : Int) ^ 11 = 2048 := by decide
      rw [h3] at h2
      push_cast
      simp only [List.length_singleton]
      omega
    · rw [decide_eq_false hz, cond_false]
      push_cast
      simp only [List.length_singleton]
      omega
theorem cntP_bd (l : List Int) : 0 ≤ cntP l ∧ cntP l ≤ l.length := by
  induction l using snoc_ind' with
  | h0 => simp [cntP]
  | h1 l z ih =>
    rw [cntP_snoc, List.length_append]
    cases decide (0 < z)
    · simp only [cond_false, List.length_singleton]; omega
    · simp only [cond_true, List.length_singleton]; omega
theorem sumM_scale {m : Int} (h0 : 0 ≤ m) (hm : m ≤ 11) (l : List Int) : (∀ x ∈ l, x ≤ m) → roomL l = sumM m l * 2 ^ (11 - m).toNat := by
  induction l using snoc_ind' with
  | h0 => intro _; simp [roomL, sumM]
  | h1 l z ih =>
    intro h
    have k := ih fun x hx => h x (by simp [hx])
    have hz := h z (by simp)
    unfold roomL at k ⊢
    rw [sumM_snoc, sumM_snoc]
    by_cases hp : 0 < z
    · rw [decide_eq_true hp, cond_true, cond_true, k, Int.add_mul, ← Int.pow_add]
      have : (m - z).toNat + (11 - m).toNat = (11 - z).toNat := by omega
      rw [this]
    · rw [decide_eq_false hp, cond_false, cond_false, k]
theorem room_iff {l : List Int} (h : l.all okLen = true) : (sumM (gmx l) l = 2 ^ (gmx l).toNat) ↔ roomL l = 2048 := by
  have hg := gmx_ge l
  have hl := gmx_le (m := 11) (by omega) fun x hx => (all_ok h x hx).2
  have hs := sumM_scale hg.1 hl l hg.2
  have hp := pow_pos' (11 - gmx l).toNat
  have e : (2048 : Int) = 2 ^ (gmx l).toNat * 2 ^ (11 - gmx l).toNat := by
    rw [← Int.pow_add]
    have : (gmx l).toNat + (11 - gmx l).toNat = 11 := by omega
    rw [this]; decide
  rw [hs, e]
  constructor
  · intro h; rw [h]
  · intro h; exact Int.eq_of_mul_eq_mul_right (by omega) h
theorem chk_zero {l : List Int} (h : chk l = 0) : l.length ≤ 256 ∧ l.all okLen = true ∧ 2 ≤ cntP l ∧ roomL l = 2048 := by
  unfold chk at h
  by_cases h0 : 256 < l.length
  · rw [decide_eq_true h0] at h; simp at h
  · rw [decide_eq_false h0, cond_false] at h
    cases ha : l.all okLen
    · rw [ha] at h; simp at h
    · rw [ha, cond_true] at h
      cases hc : (decide (cntP l < 2) || !(roomL l == 2048))
      · simp only [Bool.or_eq_false_iff, decide_eq_false_iff_not, Bool.not_eq_false', beq_iff_eq] at hc
        exact ⟨by omega, rfl, by omega, hc.2⟩
      · rw [hc] at h; simp at h
theorem chk_ok {l : List Int} (h0 : l.length ≤ 256) (h1 : l.all okLen = true) : chk l = cond (decide (cntP l < 2) || !(roomL l == 2048)) 21 0 := by
  unfold chk
  rw [decide_eq_false (by omega), cond_false, h1, cond_true]
theorem chk_zero_pos {l : List Int} (h : chk l = 0) : 0 < l.length ∧ (∀ x ∈ l, 0 ≤ x ∧ x ≤ 11) ∧ maxL l = gmx l := by
  obtain ⟨h1, h2, h3, h4⟩ := chk_zero h
  have hp : 0 < l.length := by have := cntP_bd l; omega
  exact ⟨hp, all_ok h2, maxL_gmx hp fun x hx => (all_ok h2 x hx).1⟩
end Go.Proofs.Ytmdbliacaeokaaa
namespace Go.Proofs.Ytmdbliacaeokaaa
open Go Go.RowKit
set_option linter.unusedVariables false
set_option linter.unusedSimpArgs false
set_option maxRecDepth 100000
theorem many6_v (l : List Int) (h0 : l.length ≤ 4294967296) : many6_t l := by
  unfold many6_t
  refine ⟨fun h => ?_, fun h => ⟨⟨0, ⟨by omega, rfl⟩, rfl, rfl, rfl, rfl⟩, fun i ⟨hi, hal⟩ => ⟨fun hlt => ?_, fun hge => ?_⟩⟩⟩
  · simp only [gt_iff_lt, decide_eq_true_eq] at h
    rw [many_long (by omega)]
    exact ⟨rfl, rfl, rfl, rfl, rfl, rfl⟩
  · simp only [gt_iff_lt, decide_eq_false_iff_not, decide_eq_true_eq] at h hlt
    have hi' : i < l.length := by omega
    have hL : l.length ≤ 256 := by omega
    have hb := bumps_len (l.take i)
    simp only [toNat_cast, gt_iff_lt, decide_eq_true_eq, decide_eq_false_iff_not]
    refine ⟨by omega, by omega, fun h1 => ?_, fun h1 => ⟨fun h2 => ?_, fun h2 => ?_⟩⟩
    · rw [many_bad hL hi' hal (okLen_false.2 (.inl h1))]
      exact ⟨hb.symm, hb, by trivial, hb.symm, by trivial, by trivial⟩
    · rw [many_bad hL hi' hal (okLen_false.2 (.inr h2))]
      exact ⟨hb.symm, hb, by trivial, hb.symm, by trivial, by trivial⟩
    · have hok : okLen (l.getD i 0) = true := okLen_iff.2 ⟨by omega, by omega⟩
      have hbd := bumps_bd (l.take i) (l.getD i 0).toNat
      rw [List.length_take] at hbd
      refine ⟨by omega, by omega, by omega, by omega, by omega, by omega, i + 1, ⟨by omega, by rw [all_snoc hi', hal, hok]; rfl⟩, by show l.length - (i + 1) < l.length - i; omega, by trivial, by trivial, by rw [wr (by omega) (by omega)]; simp, ?_⟩
      rw [take_succ l 0 hi', bumps_snoc, bump, wr (by omega) (by omega)]
  · simp only [gt_iff_lt, decide_eq_false_iff_not] at h hge
    have hb := bumps_len (l.take i)
    rw [List.take_of_length_le (by omega)] at hb hal ⊢
    rw [many_good (by omega) hal]
    exact ⟨hb.symm, hb, rfl, hb.symm, rfl, rfl⟩
theorem max6_v (l : List Int) (h0 : 0 < l.length) (h1 : l.length ≤ 4294967296) : max6_t l := by
  unfold max6_t
  refine ⟨fun h => by simp only [decide_eq_true_eq] at h; omega, fun h => ⟨by omega, by omega, ⟨1, ⟨by omega, by omega⟩, rfl, ?_, rfl⟩, fun i hi => ⟨fun hlt => ?_, fun hge => ?_⟩⟩⟩
  · cases l with
    | nil => simp at h0
    | cons x r => simp [maxL]
  · simp only [decide_eq_true_eq] at hlt
    have hlt' : i < l.length := by omega
    refine ⟨by omega, by omega, i + 1, ⟨by omega, by omega⟩, by show l.length - (i+1) < l.length - i; omega, by trivial, ?_, by rw [wr (by omega) (by omega)]; simp⟩
    rw [take_succ l 0 hlt', toNat_cast, maxL_snoc']
    intro hn
    have := congrArg List.length hn
    simp only [List.length_take, List.length_nil] at this
    omega
  · simp only [decide_eq_false_iff_not] at hge
    rw [List.take_of_length_le (by omega)]
theorem check6_v (l : List Int) (h0 : l.length ≤ 4294967296) : check6_t l := by
  unfold check6_t
  rcases many_snd l with ⟨hL, hal, hm⟩ | ⟨hm, hc⟩
  · refine ⟨h0, many_len l, by rw [many_len]; rfl, fun h => by rw [hm] at h; simp at h, fun _ => ⟨⟨0, ⟨by omega, by rw [hm]⟩, rfl, rfl, rfl, rfl⟩, fun i ⟨hi, _⟩ => ⟨fun hlt => ?_, fun hge => ?_⟩⟩⟩
    · rw [many_len, hm]
      simp only
      simp only [decide_eq_true_eq] at hlt
      have e1 : ((i : Int) + 1).toNat = i + 1 := by omega
      have e2 : (11 : Int) - ((i : Int) + 1) = ((10 - i : Nat) : Int) := by omega
      have hb := fun j => bumps_bd l j
      have r1 := rmC_bd (c := bumps l) (n := 256) (by omega) (fun j => by have := hb j; omega) i
      have r2 := rmC_bd (c := bumps l) (n := 256) (by omega) (fun j => by have := hb j; omega) (i + 1)
      have d1 := cdC_bd (c := bumps l) (n := 256) (by omega) (fun j => by have := hb j; omega) i
      have d2 := cdC_bd (c := bumps l) (n := 256) (by omega) (fun j => by have := hb j; omega) (i + 1)
      have r3 := rmC_succ (bumps l) i
      have d3 := cdC_succ (bumps l) i
      have e4 : (11 : Int) - (i : Int) - 1 = ((10 - i : Nat) : Int) := by omega
      rw [e1, e2, wr (n := ((10 - i : Nat) : Int)) (by omega) (by omega), toNat_cast, b64, Nat.min_eq_left (by omega)]
      push_cast at r2 d2
      have hterm : 0 ≤ (bumps l).getD (i + 1) 0 * 2 ^ (10 - i) ∧ (bumps l).getD (i + 1) 0 * 2 ^ (10 - i) ≤ 256 * 1024 := by
        have h1 := hb (i + 1)
        have h2 := pow_pos' (10 - i)
        have h3 := pow_mono (show 10 - i ≤ 10 by omega)
        exact ⟨Int.mul_nonneg h1.1 (by omega), Int.mul_le_mul (by omega) (by simpa using h3) (by omega) (by omega)⟩
      refine ⟨by omega, by omega, by omega, by omega, by omega, by omega, by omega, i + 1, ⟨by omega, by trivial⟩, by show 11 - (i + 1) < 11 - i; omega, ?_, ?_, by rw [wr (by omega) (by omega)]; push_cast; rfl, by trivial⟩
      · rw [wr (n := (bumps l).getD (i + 1) 0 * 2 ^ (10 - i)) (by omega) (by omega), ← r3, wr (by omega) (by omega)]
      · rw [← d3, wr (by omega) (by omega)]
    · simp only [decide_eq_false_iff_not] at hge
      have : i = 11 := by omega
      subst this
      rw [hm]
      simp only
      obtain ⟨k1, k2⟩ := rm_bumps l hal
      rw [k1, k2, chk_ok hL hal]
      refine ⟨fun h => by rw [h]; rfl, fun h => ⟨fun h2 => ?_, fun h2 => ?_⟩⟩
      · rw [h, Bool.false_or]
        have : (roomL l == 2048) = false := by simpa using h2
        rw [this]; rfl
      · rw [h, Bool.false_or]
        have : (roomL l == 2048) = true := by simpa using h2
        rw [this]; rfl
  · refine ⟨h0, many_len l, by rw [many_len]; rfl, fun h => by rw [hm, hc], fun h => by rw [hm] at h; simp at h⟩
theorem great6_v (l : List Int) (h : chk l = 0) : great6_t l := by
  obtain ⟨h1, h2, h3⟩ := chk_zero_pos h
  have := (chk_zero h).1
  exact ⟨h1, by omega, h3⟩
theorem G6z_ok : AllOk Try.prog [] := AllOk.nil
theorem many6_sound : Sound Try.prog 96 sMany.ctr := sMany.sound (by kernel_rfl) sMany_enc fun l hc => by
  have h0 := hc _ (.head _)
  exact satG G6z_ok mixed Try.func96 (many6_e l) (many6_v l h0)
theorem max6_sound : Sound Try.prog 97 sMaxL.ctr := sMaxL.sound (by kernel_rfl) sMaxL_enc fun l hc => by
  have h0 := hc _ (.head _)
  have h1 := hc _ (.tail _ (.head _))
  exact satG G6z_ok mixed Try.func97 (max6_e l) (max6_v l h0 h1)
theorem G6a_ok : AllOk Try.prog G6a := .cons many6_sound <| .cons max6_sound <| G6z_ok
theorem check6_sound : Sound Try.prog 86 sChk.ctr := sChk.sound (by kernel_rfl) sChk_enc fun l hc => by
  have h0 := hc _ (.head _)
  exact satG G6a_ok mixed Try.func86 (check6_e l) (check6_v l h0)
theorem great6_sound : Sound Try.prog 87 sGmx.ctr := sGmx.sound (by kernel_rfl) sGmx_enc fun l hc => by
  have h0 := hc _ (.head _)
  exact satG G6a_ok mixed Try.func87 (great6_e l) (great6_v l h0)
theorem G6b_ok : AllOk Try.prog G6b := .cons check6_sound <| .cons great6_sound <| G6a_ok
theorem G6c_ok : AllOk Try.prog G6c := G6b_ok
theorem G6d_ok : AllOk Try.prog G6d := G6c_ok
theorem G6e_ok : AllOk Try.prog G6e := G6d_ok
theorem G6f_ok : AllOk Try.prog G6f := G6e_ok
end Go.Proofs.Ytmdbliacaeokaaa
namespace Go.Proofs.Ytmdbliacaeokaaa
open Go Go.RowKit
set_option linter.unusedVariables false
set_option linter.unusedSimpArgs false
set_option maxRecDepth 100000
def sRanges : Spec where
  ι := List Int
  dec l H := match l with
    | [.dat (.ints .i64 l)] => some (l, [])
    | _ => none
  args := fun l => [.dat (.ints .i64 l)]
  pre := fun l => [⟨chk l = 0, inferInstance⟩]
  out := fun l => .leaf (.fn (.func 102) [] [.p 2000 0 0, .p 2001 0 0]) [(2000, .cells 22 [.dat (.ints .i64 l)]), (2001, .cells 143 [.o 2002]), (2002, .row 129 (.recs 2 (ordS l)))]
theorem sRanges_enc : ∀ l H n i ls, sRanges.dec l H = some (i, ls) → l = renL (rho ls n) (sRanges.args i) ∧ givenHp H ls = renH (rho ls n) (sRanges.hp i) := by
  intro l H n i ls h
  simp only [sRanges] at h
  repeat' split at h
  all_goals first
    | (cases h; done)
    | (cases h; exact ⟨rfl, rfl⟩)
def sCodes : Spec where
  ι := List Int
  dec l H := match l with
    | [.dat (.ints .i64 l)] => some (l, [])
    | _ => none
  args := fun l => [.dat (.ints .i64 l)]
  pre := fun l => [⟨l.length ≤ 4294967296, inferInstance⟩]
  out := fun l => .ite ⟨chk l = 0, inferInstance⟩ (.leaf (.tu [.o 2000, .v (.int .i64 0)]) [(2000, .row 76 (.recs 2 (codL l)))]) (.leaf (.tu [.v (.slice none 0 0), .v (.int .i64 (chk l))]) [])
theorem sCodes_enc : ∀ l H n i ls, sCodes.dec l H = some (i, ls) → l = renL (rho ls n) (sCodes.args i) ∧ givenHp H ls = renH (rho ls n) (sCodes.hp i) := by
  intro l H n i ls h
  simp only [sCodes] at h
  repeat' split at h
  all_goals first
    | (cases h; done)
    | (cases h; exact ⟨rfl, rfl⟩)
def oRanges (l : List Int) : LoopInv := { ι := Nat, p := fun i => i ≤ l.length, tm := fun i => [(1, .p 1000 0 0), (3, .p 1001 0 0), (6, .dat (.ints .i64 l)), (7, .v (.int .i64 l.length)), (8, .v (.int .i64 (i : Nat)))], hp := fun i => [(1000, .cells 22 [.dat (.ints .i64 l)]), (1001, .cells 143 [.o 1002]), (1002, .row 129 (.recs 2 (syms (l.take i))))], μ := fun i => l.length - i }
def oItems (l0 : Nat) (l : List Int) : LoopInvI := { ι := Nat, p := fun i => i ≤ (ordS l).length, tm := fun i => [(0, .v (.func (.yield l0) #[] #[])), (1, .p 0 0 0), (2, .p 1 0 0), (4, .v (.int .i64 (gmx l))), (5, .v (.int .i64 (atF (gmx l) (ordS l) i))), (10, .o 2), (11, .v (.int .i64 (ordS l).length)), (12, .v (.int .i64 (i : Nat)))], hp := fun i => [(0, .cells 22 [.dat (.ints .i64 l)]), (1, .cells 143 [.o 2]), (2, .row 129 (.recs 2 (ordS l)))], μ := fun i => (ordS l).length - i, y := fun i => i }
def oneI (x : LoopInvI) : Nat → Option LoopFamI := fun k => cond (Nat.beq k 0) (some ⟨Unit, fun _ => x⟩) none
def rCodes (l : List Int) : RngInv := { f := 102, cap := [.p 700008 0 0, .p 700009 0 0], hpI := [(700008, .cells 22 [.dat (.ints .i64 l)]), (700009, .cells 143 [.o 700010]), (700010, .row 129 (.recs 2 (ordS l)))], xs := items l, it := fun i => [.agg #[.int .i64 ((symI l i).getD 0 0), .int .i64 ((symI l i).getD 1 0)], .int .i64 (atF (gmx l) (ordS l) i)], tm := [(5, .p 1000 0 0), (6, .p 1001 0 0)], hp := fun i => [(1000, .cells 3 [.v (.int .i64 (gmx l))]), (1001, .cells 81 [.o 1002]), (1002, .row 76 (.recs 2 (codP l i)))] }
def oCodes (l : List Int) : Nat → Option LoopFam := fun k => cond (Nat.beq k 0) (some (.rng Nat fun _ => rCodes l)) none
def G6g : List (Nat × Ctr) := (98, sSort.ctr) :: G6f
def G6h : List (Nat × Ctr) := (88, sRanges.ctr) :: G6g
def G6i : List (Nat × Ctr) := (66, sCodes.ctr) :: G6h
end Go.Proofs.Ytmdbliacaeokaaa
namespace Go.Proofs.Ytmdbliacaeokaaa
open Go Go.RowKit
set_option linter.unusedVariables false
set_option maxRecDepth 100000
def ranges6_t (l : List Int) : Prop :=
 (∃ (x0 : Nat), Nat.le x0 (List.length l) ∧ l = l ∧ (↑(List.length l) : Int) = (↑(List.length l) : Int) ∧ (0 : Int) = (↑x0 : Int) ∧ l = l ∧ List.length (syms (List.take x0 l)) = (0 : Nat)) ∧
 ∀ (x1 : Nat),
 Nat.le x1 (List.length l) →
 (decide ((↑x1 : Int) < (↑(List.length l) : Int)) = true →
 (0 : Int) ≤ (↑x1 : Int) ∧
 (↑x1 : Int) < (↑(List.length l) : Int) ∧
 (decide (List.getD l (Int.toNat (↑x1 : Int)) (0 : Int) > (0 : Int)) = true →
 (List.length (syms (List.take x1 l)) +
 Nat.succ
 (Nat.add (List.length (List.map (fun (i : Nat) => List.take ((2 : Nat)) (List.drop (i * (2 : Nat)) [(↑x1 : Int), List.getD l (Int.toNat (↑x1 : Int)) (0 : Int)])) []))
 ((0 : Nat)))) *
 (16 : Nat) ≤
 (140737488355328 : Nat) ∧
 ∃ (y2 : Nat),
 Nat.le y2 (List.length l) ∧
 Nat.sub (List.length l) y2 < Nat.sub (List.length l) x1 ∧
 l = l ∧
 (↑(List.length l) : Int) = (↑(List.length l) : Int) ∧
 IntKind.wrap IntKind.i64 ((↑x1 : Int) + (1 : Int)) = (↑y2 : Int) ∧
 l = l ∧
 syms (List.take x1 l) ++
 List.map (fun (i : Nat) => List.take ((2 : Nat)) (List.drop (i * (2 : Nat)) [(↑x1 : Int), List.getD l (Int.toNat (↑x1 : Int)) (0 : Int)]))
 (List.range (1 : Nat)) =
 syms (List.take y2 l)) ∧
 (decide (List.getD l (Int.toNat (↑x1 : Int)) (0 : Int) > (0 : Int)) = false →
 ∃ (y3 : Nat),
 Nat.le y3 (List.length l) ∧
 Nat.sub (List.length l) y3 < Nat.sub (List.length l) x1 ∧
 l = l ∧
 (↑(List.length l) : Int) = (↑(List.length l) : Int) ∧
 IntKind.wrap IntKind.i64 ((↑x1 : Int) + (1 : Int)) = (↑y3 : Int) ∧ l = l ∧ syms (List.take x1 l) = syms (List.take y3 l))) ∧
 (decide ((↑x1 : Int) < (↑(List.length l) : Int)) = false →
 (1 : Nat) ≤ List.length (syms (List.take x1 l)) ∧
 List.length (syms (List.take x1 l)) ≤ (4294967296 : Nat) ∧
 (List.all (syms (List.take x1 l)) fun (r : List Int) => decide (List.length r = (2 : Nat))) = true ∧ l = l ∧ srt (syms (List.take x1 l)) = ordS l)
theorem ranges6_e (l : List Int) : ranges6_t l = vcG Try.prog (Gof G6g) (one6 (oRanges l)) Try.f88 [.dat (.ints .i64 l)] [] (.leaf ((.fn (.func 102) [] [.p 2000 0 0, .p 2001 0 0])) ([(2000, .cells 22 [.dat (.ints .i64 l)]), (2001, .cells 143 [.o 2002]), (2002, .row 129 (.recs 2 (ordS l)))])) := by kernel_rfl
def codes6_t (l : List Int) : Prop :=
 List.length l ≤ (4294967296 : Nat) ∧
 ((chk l != (0 : Int)) = true →
 (chk l = (0 : Int) → chk l = (0 : Int) ∧ List.length (codL l) = (0 : Nat)) ∧ (¬chk l = (0 : Int) → Value.slice none (0 : Nat) (0 : Nat) = Value.slice none (0 : Nat) (0 : Nat) ∧ chk l = chk l)) ∧
 ((chk l != (0 : Int)) = false →
 chk l = (0 : Int) ∧
 (0 : Int) ≤ (↑(List.length l) : Int) ∧
 (↑(List.length l) : Int) ≤ (↑(List.length l) : Int) ∧
 (↑((16 : Nat)) : Int) * (↑(List.length l) : Int) ≤ (281474976710656 : Int) ∧
 (↑(List.length l) : Int) ≤ (9223372036854775807 : Int) ∧
 chk l = (0 : Int) ∧
 ∃ (y0 : Nat),
 (ISatE Try.prog ((102 : Nat)) [SV.p (700008 : Nat) (0 : Nat) (0 : Nat), SV.p (700009 : Nat) (0 : Nat) (0 : Nat)]
 [((700008 : Nat), SBlk.cells (22 : TypeId) [SV.dat (Dat.ints IntKind.i64 l)]), ((700009 : Nat), SBlk.cells (143 : TypeId) [SV.o (700010 : Nat)]),
 ((700010 : Nat), SBlk.row (129 : TypeId) (Dat.recs (2 : Nat) (ordS l)))]
 (itemF (gmx l) (0 : Int) (ordS l)) fun (x : Nat) => []) ∧
 (l = l ∧ ordS l = ordS l) ∧
 True ∧
 (gmx l = gmx l ∧ List.replicate (Int.toNat (↑(List.length l) : Int)) (List.replicate ((2 : Nat)) (0 : Int)) = codP l (0 : Nat)) ∧
 (∀ (i1 : Nat),
 i1 < List.length (itemF (gmx l) (0 : Int) (ordS l)) →
 True →
 (itemF (gmx l) (0 : Int) (ordS l))[i1]? =
 some
 [Value.agg #[Value.int IntKind.i64 (List.getD (symI l i1) (0 : Nat) (0 : Int)), Value.int IntKind.i64 (List.getD (symI l i1) (1 : Nat) (0 : Int))],
 Value.int IntKind.i64 (atF (gmx l) (ordS l) i1)] ∧
 List.length
 [Value.agg #[Value.int IntKind.i64 (List.getD (symI l i1) (0 : Nat) (0 : Int)), Value.int IntKind.i64 (List.getD (symI l i1) (1 : Nat) (0 : Int))],
 Value.int IntKind.i64 (atF (gmx l) (ordS l) i1)] =
 List.length #[(21 : Nat), (22 : Nat)].toList ∧
 (0 : Int) ≤ IntKind.wrap IntKind.i64 (gmx l - List.getD (symI l i1) (1 : Nat) (0 : Int)) ∧
 (0 : Int) ≤ List.getD (symI l i1) (0 : Nat) (0 : Int) ∧
 List.getD (symI l i1) (0 : Nat) (0 : Int) < (↑(List.length (codP l i1)) : Int) ∧
 Int.toNat (List.getD (symI l i1) (0 : Nat) (0 : Int)) < List.length (codP l i1) ∧
 True ∧
 gmx l = gmx l ∧
 List.set (codP l i1) (Int.toNat (List.getD (symI l i1) (0 : Nat) (0 : Int)))
 [List.getD (symI l i1) (1 : Nat) (0 : Int),
 Int.fdiv (atF (gmx l) (ordS l) i1)
 ((2 : Int) ^ min (Int.toNat (IntKind.wrap IntKind.i64 (gmx l - List.getD (symI l i1) (1 : Nat) (0 : Int)))) (IntKind.bits IntKind.i64))] =
 codP l (i1 + (1 : Nat))) ∧
 (True →
 (chk l = (0 : Int) → (0 : Int) = (0 : Int) ∧ codP l (List.length (itemF (gmx l) (0 : Int) (ordS l))) = codL l) ∧ (¬chk l = (0 : Int) → False ∧ (0 : Int) = chk l)))
theorem codes6_e (l : List Int) : codes6_t l = vcG Try.prog (Gof G6h) (oCodes l) Try.f66 [.dat (.ints .i64 l)] [] (.ite ⟨chk l = 0, inferInstance⟩ (.leaf (.tu [.o 2000, .v (.int .i64 0)]) ([(2000, .row 76 (.recs 2 (codL l)))])) (.leaf (.tu [.v (.slice none 0 0), .v (.int .i64 (chk l))]) ([]))) := by kernel_rfl
def items6_t (l : List Int) (l0 : Nat) : Prop :=
 chk l = (0 : Int) ∧
 ∃ (g0 : Unit),
 ∃ (x1 : Nat),
 Nat.le x1 (List.length (ordS l)) ∧
 ((0 : Nat), true) = (x1, true) ∧
 (Value.func (Fn.yield l0) #[] #[] = Value.func (Fn.yield l0) #[] #[] ∧
 gmx l = gmx l ∧ (0 : Int) = atF (gmx l) (ordS l) x1 ∧ (↑(List.length (ordS l)) : Int) = (↑(List.length (ordS l)) : Int) ∧ (0 : Int) = (↑x1 : Int) ∧ l = l ∧ ordS l = ordS l) ∧
 ∀ (x2 : Nat),
 Nat.le x2 (List.length (ordS l)) →
 (decide ((↑x2 : Int) < (↑(List.length (ordS l)) : Int)) = true →
 (0 : Int) ≤ (↑x2 : Int) ∧
 (↑x2 : Int) < (↑(List.length (ordS l)) : Int) ∧
 Int.toNat (↑x2 : Int) < List.length (ordS l) ∧
 l0 = l0 ∧
 (items l)[x2]? =
 some
 [Value.agg
 #[Value.int IntKind.i64 (List.getD (List.getD (ordS l) (Int.toNat (↑x2 : Int)) []) ((0 : Nat)) (0 : Int)),
 Value.int IntKind.i64 (List.getD (List.getD (ordS l) (Int.toNat (↑x2 : Int)) []) ((1 : Nat)) (0 : Int))],
 Value.int IntKind.i64 (atF (gmx l) (ordS l) x2)] ∧
 ((0 : Int) ≤ IntKind.wrap IntKind.i64 (gmx l - List.getD (List.getD (ordS l) (Int.toNat (↑x2 : Int)) []) ((1 : Nat)) (0 : Int)) ∧
 ∃ (y3 : Nat),
 Nat.le y3 (List.length (ordS l)) ∧
 (x2 + (1 : Nat), true) = (y3, true) ∧
 Nat.sub (List.length (ordS l)) y3 < Nat.sub (List.length (ordS l)) x2 ∧
 Value.func (Fn.yield l0) #[] #[] = Value.func (Fn.yield l0) #[] #[] ∧
 gmx l = gmx l ∧
 IntKind.wrap IntKind.i64
 (atF (gmx l) (ordS l) x2 +
 IntKind.wrap IntKind.i64
 ((1 : Int) *
 (2 : Int) ^
 min (Int.toNat (IntKind.wrap IntKind.i64 (gmx l - List.getD (List.getD (ordS l) (Int.toNat (↑x2 : Int)) []) ((1 : Nat)) (0 : Int))))
 (IntKind.bits IntKind.i64))) =
 atF (gmx l) (ordS l) y3 ∧
 (↑(List.length (ordS l)) : Int) = (↑(List.length (ordS l)) : Int) ∧
 IntKind.wrap IntKind.i64 ((↑x2 : Int) + (1 : Int)) = (↑y3 : Int) ∧ l = l ∧ ordS l = ordS l) ∧
 True) ∧
 (decide ((↑x2 : Int) < (↑(List.length (ordS l)) : Int)) = false → x2 = List.length (items l))
theorem items6_e (l : List Int) (l0 : Nat) : items6_t l l0 = vcFI Try.prog (Gof G6g) l0 (items l) (oneI (oItems l0 l)) Try.f102 [.p 0 0 0, .p 1 0 0] [(0, .cells 22 [.dat (.ints .i64 l)]), (1, .cells 143 [.o 2]), (2, .row 129 (.recs 2 (ordS l)))]  := by kernel_rfl
end Go.Proofs.Ytmdbliacaeokaaa
namespace Go.Proofs.Ytmdbliacaeokaaa
open Go Go.RowKit
set_option linter.unusedVariables false
set_option linter.unusedSimpArgs false
set_option maxRecDepth 100000
theorem symsF_app (a b : List Int) : ∀ i, symsF i (a ++ b) = symsF i a ++ symsF (i + a.length) b := by
  induction a with
  | nil => intro i; simp [symsF]
  | cons x r ih =>
    intro i
    simp only [List.cons_append, symsF, ih (i + 1), List.length_cons]
    have : i + 1 + (r.length : Int) = i + ((r.length + 1 : Nat) : Int) := by push_cast; omega
    rw [this]
    cases decide (0 < x) <;> simp
theorem symsF_mem (l : List Int) : ∀ i r, r ∈ symsF i l → ∃ k : Nat, k < l.length ∧ r = [i + k, l.getD k 0] ∧ 0 < l.getD k 0 := by
  induction l with
  | nil => intro i r h; simp [symsF] at h
  | cons x t ih =>
    intro i r h
    have tail : r ∈ symsF (i + 1) t → ∃ k : Nat, k < (x :: t).length ∧ r = [i + k, (x :: t).getD k 0] ∧ 0 < (x :: t).getD k 0 := fun h => by
      obtain ⟨k, h1, h2, h3⟩ := ih (i + 1) r h
      refine ⟨k + 1, by simpa using h1, ?_, by simpa using h3⟩
      rw [h2]
      simp only [List.getD_cons_succ, List.cons.injEq, and_true]
      push_cast; omega
    unfold symsF at h
    by_cases hx : 0 < x
    · rw [decide_eq_true hx, cond_true, List.mem_cons] at h
      rcases h with rfl | h
      · exact ⟨0, by simp, by simp, by simpa using hx⟩
      · exact tail h
    · rw [decide_eq_false hx, cond_false] at h
      exact tail h
theorem syms_mem {l : List Int} {r : List Int} (h : r ∈ syms l) : ∃ k : Nat, k < l.length ∧ r = [(k : Int), l.getD k 0] ∧ 0 < l.getD k 0 := by
  obtain ⟨k, h1, h2, h3⟩ := symsF_mem l 0 r h
  exact ⟨k, h1, by rw [h2]; simp, h3⟩
theorem syms_two {l : List Int} : ∀ r ∈ syms l, r.length = 2 := fun r h => by
  obtain ⟨k, _, rfl, _⟩ := syms_mem h
  rfl
theorem symsF_sorted (l : List Int) : ∀ i, (symsF i l).Pairwise (fun a b => a.getD 0 0 < b.getD 0 0) := by
  induction l with
  | nil => intro i; simp [symsF]
  | cons x t ih =>
    intro i
    unfold symsF
    cases decide (0 < x)
    · exact ih (i + 1)
    · refine List.pairwise_cons.2 ⟨fun b hb => ?_, ih (i + 1)⟩
      obtain ⟨k, _, rfl, _⟩ := symsF_mem t (i + 1) b hb
      simp only [List.getD_cons_zero]
      omega
theorem syms_len_le (l : List Int) : (syms l).length ≤ l.length := by
  unfold syms
  have : ∀ (l : List Int) i, (symsF i l).length ≤ l.length := by
    intro l
    induction l with
    | nil => intro i; simp [symsF]
    | cons x t ih =>
      intro i
      unfold symsF
      have := ih (i + 1)
      cases decide (0 < x)
      · simp only [cond_false, List.length_cons]; omega
      · simp only [cond_true, List.length_cons]; omega
  exact this l 0
theorem syms_snoc (l : List Int) (x : Int) : syms (l ++ [x]) = syms l ++ cond (decide (0 < x)) [[(l.length : Int), x]] [] := by
  unfold syms
  rw [symsF_app]
  simp only [symsF, Int.zero_add]
theorem syms_take {l : List Int} {i : Nat} (h : i < l.length) : syms (l.take (i + 1)) = syms (l.take i) ++ cond (decide (0 < l.getD i 0)) [[(i : Int), l.getD i 0]] [] := by
  rw [take_succ l 0 h, syms_snoc, List.length_take, Nat.min_eq_left (by omega)]
theorem ordS_perm (l : List Int) : (ordS l).Perm (syms l) := srt_perm _
theorem ordS_mem {l : List Int} {r : List Int} (h : r ∈ ordS l) : ∃ k : Nat, k < l.length ∧ r = [(k : Int), l.getD k 0] ∧ 0 < l.getD k 0 := syms_mem ((ordS_perm l).mem_iff.1 h)
def tot (m : Int) (ss : List (List Int)) : Nat := (ss.map (wid m)).sum
theorem tot_app (m : Int) (a b : List (List Int)) : tot m (a ++ b) = tot m a + tot m b := by simp [tot]
theorem tot_perm {m : Int} {a b : List (List Int)} (h : a.Perm b) : tot m a = tot m b := (h.map (wid m)).sum_nat
theorem wid_pos (m : Int) (s : List Int) : 0 < wid m s := Nat.pow_pos (by omega)
theorem tot_syms (m : Int) (l : List Int) : (tot m (syms l) : Int) = sumM m l := by
  induction l using snoc_ind' with
  | h0 => rfl
  | h1 l z ih =>
    rw [syms_snoc, tot_app, sumM_snoc, ← ih]
    cases decide (0 < z)
    · simp [tot]
    · simp [tot, wid]
theorem tot_ord {l : List Int} (h : chk l = 0) : tot (gmx l) (ordS l) = 2 ^ (gmx l).toNat := by
  obtain ⟨h1, h2, h3, h4⟩ := chk_zero h
  have := (room_iff h2).2 h4
  rw [← tot_syms] at this
  rw [tot_perm (ordS_perm l)]
  exact_mod_cast this
theorem atF_tot (m : Int) (ss : List (List Int)) (i : Nat) : atF m ss i = (tot m (ss.take i) : Int) := by
  unfold atF tot
  have : ∀ (l : List (List Int)) (a : Int), l.foldl (fun a s => a + (wid m s : Int)) a = a + ((l.map (wid m)).sum : Nat) := by
    intro l
    induction l with
    | nil => intro a; simp
    | cons x r ih => intro a; rw [List.foldl_cons, ih]; simp only [List.map_cons, List.sum_cons]; push_cast; omega
  rw [this]; simp
theorem atF_succ (m : Int) (ss : List (List Int)) {i : Nat} (h : i < ss.length) : atF m ss (i + 1) = atF m ss i + (wid m (ss.getD i []) : Int) := by
  rw [atF_tot, atF_tot, take_succ ss [] h, tot_app]
  simp [tot]
theorem atF_le (m : Int) (ss : List (List Int)) (i : Nat) : atF m ss i ≤ tot m ss := by
  rw [atF_tot]
  have : tot m ss = tot m (ss.take i) + tot m (ss.drop i) := by rw [← tot_app, List.take_append_drop]
  omega
theorem atF_nonneg (m : Int) (ss : List (List Int)) (i : Nat) : 0 ≤ atF m ss i := by rw [atF_tot]; omega
structure Good (l : List Int) : Prop where
  len : l.length ≤ 256
  lens : ∀ x ∈ l, 0 ≤ x ∧ x ≤ 11
  m0 : 1 ≤ gmx l
  m1 : gmx l ≤ 11
  sum : tot (gmx l) (ordS l) = 2 ^ (gmx l).toNat
  big : 2 ^ (gmx l).toNat ≤ 2048
theorem good {l : List Int} (h : chk l = 0) : Good l := by
  obtain ⟨h1, h2, h3, h4⟩ := chk_zero h
  have hg := gmx_ge l
  have hl := gmx_le (m := 11) (by omega) fun x hx => (all_ok h2 x hx).2
  refine ⟨h1, all_ok h2, ?_, hl, tot_ord h, ?_⟩
  · by_cases h0 : gmx l = 0
    · have hz : ∀ x ∈ l, x = 0 := fun x hx => by have := hg.2 x hx; have := (all_ok h2 x hx).1; omega
      have : ∀ l : List Int, (∀ x ∈ l, x = 0) → cntP l = 0 := by
        intro l
        induction l using snoc_ind' with
        | h0 => intro _; rfl
        | h1 l z ih =>
          intro h
          rw [cntP_snoc, h z (by simp), ih fun x hx => h x (by simp [hx])]
          rfl
      rw [this l hz] at h3
      omega
    · omega
  · exact Nat.pow_le_pow_right (n := 2) (by omega) (show (gmx l).toNat ≤ 11 by omega)
theorem symI_mem {l : List Int} {i : Nat} (h : i < (ordS l).length) : ∃ k : Nat, k < l.length ∧ symI l i = [(k : Int), l.getD k 0] ∧ 0 < l.getD k 0 := by
  have hm : symI l i ∈ ordS l := by
    unfold symI
    rw [List.getD_eq_getElem?_getD, List.getElem?_eq_getElem h]
    exact List.getElem_mem h
  exact ordS_mem hm
theorem symI_bd {l : List Int} (hg : Good l) {i : Nat} (h : i < (ordS l).length) : 0 ≤ (symI l i).getD 0 0 ∧ (symI l i).getD 0 0 < l.length ∧ 1 ≤ (symI l i).getD 1 0 ∧ (symI l i).getD 1 0 ≤ gmx l := by
  obtain ⟨k, h1, h2, h3⟩ := symI_mem h
  rw [h2]
  simp only [List.getD_cons_zero, List.getD_cons_succ]
  have := (gmx_ge l).2 _ (getD_mem' h1)
  omega
theorem at_bd {l : List Int} (hg : Good l) {i : Nat} (h : i < (ordS l).length) : 0 ≤ atF (gmx l) (ordS l) i ∧ atF (gmx l) (ordS l) i + (wid (gmx l) (symI l i) : Int) ≤ ((2 ^ (gmx l).toNat : Nat) : Int) := by
  refine ⟨atF_nonneg _ _ _, ?_⟩
  have := atF_le (gmx l) (ordS l) (i + 1)
  rw [atF_succ _ _ h, hg.sum] at this
  exact this
theorem itemF_len (m : Int) : ∀ a ss, (itemF m a ss).length = ss.length
  | a, [] => rfl
  | a, s :: r => by simp [itemF, itemF_len m _ r]
theorem itemF_get (m : Int) : ∀ (ss : List (List Int)) (a : Int) (i : Nat), i < ss.length →
    (itemF m a ss)[i]? = some [.agg #[.int .i64 ((ss.getD i []).getD 0 0), .int .i64 ((ss.getD i []).getD 1 0)], .int .i64 (a + atF m ss i)]
  | [], a, i, h => by simp at h
  | s :: r, a, 0, _ => by simp [itemF, atF]
  | s :: r, a, i + 1, h => by
    simp only [itemF, List.getElem?_cons_succ]
    rw [itemF_get m r _ i (by simpa using h)]
    have : a + (wid m s : Int) + atF m r i = a + atF m (s :: r) (i + 1) := by
      rw [atF_tot, atF_tot]
      simp [tot]
      omega
    rw [this]
    rfl
theorem items_len (l : List Int) : (items l).length = (ordS l).length := itemF_len ..
theorem items_get {l : List Int} {i : Nat} (h : i < (ordS l).length) : (items l)[i]? = some (itemI l i) := by
  have := itemF_get (gmx l) (ordS l) 0 i h
  rw [Int.zero_add] at this
  exact this
theorem codF_len (m : Int) : ∀ ss a out, (codF m a ss out).length = out.length
  | [], a, out => rfl
  | s :: r, a, out => by rw [codF, codF_len m r, List.length_set]
theorem codF_snoc (m : Int) (s : List Int) : ∀ (ss : List (List Int)) (a : Int) (out : List (List Int)), codF m a (ss ++ [s]) out = (codF m a ss out).set (s.getD 0 0).toNat [s.getD 1 0, (a + tot m ss) / 2 ^ (m - s.getD 1 0).toNat]
  | [], a, out => by simp [codF, tot]
  | x :: r, a, out => by
    simp only [List.cons_append, codF, codF_snoc m s r]
    have : a + (wid m x : Int) + tot m r = a + tot m (x :: r) := by simp [tot]; omega
    rw [this]
theorem codP_succ {l : List Int} {i : Nat} (h : i < (ordS l).length) : codP l (i + 1) = (codP l i).set ((symI l i).getD 0 0).toNat [(symI l i).getD 1 0, atF (gmx l) (ordS l) i / 2 ^ (gmx l - (symI l i).getD 1 0).toNat] := by
  unfold codP
  rw [take_succ (ordS l) [] h, codF_snoc, atF_tot, Int.zero_add]
  rfl
theorem codP_len (l : List Int) (i : Nat) : (codP l i).length = l.length := by unfold codP; rw [codF_len, List.length_replicate]
theorem ordS_nodup (l : List Int) : (ordS l).Pairwise (fun x y => (x.getD 0 0).toNat ≠ (y.getD 0 0).toNat) := by
  refine ((ordS_perm l).pairwise_iff fun h => Ne.symm h).2 ?_
  refine List.Pairwise.imp_of_mem ?_ (symsF_sorted l 0)
  intro a b ha hb h
  obtain ⟨k, _, rfl, _⟩ := syms_mem ha
  obtain ⟨q, _, rfl, _⟩ := syms_mem hb
  simp only [List.getD_cons_zero] at h ⊢
  omega
end Go.Proofs.Ytmdbliacaeokaaa
namespace Go.Proofs.Ytmdbliacaeokaaa
open Go Go.RowKit
set_option linter.unusedVariables false
set_option linter.unusedSimpArgs false
set_option maxRecDepth 100000
theorem syms_end {l : List Int} (h : chk l = 0) : 1 ≤ (syms l).length := by
  have h3 := (chk_zero h).2.2.1
  have : ∀ l : List Int, cntP l = ((syms l).length : Int) := by
    intro l
    induction l using snoc_ind' with
    | h0 => rfl
    | h1 l z ih =>
      rw [cntP_snoc, syms_snoc, List.length_append, ih]
      cases decide (0 < z) <;> simp
  rw [this] at h3
  omega
theorem pair2 (a b : Int) : List.map (fun (i : Nat) => List.take 2 (List.drop (i * 2) [a, b])) (List.range 1) = [[a, b]] := rfl
theorem ranges6_v (l : List Int) (hc : chk l = 0) : ranges6_t l := by
  have hg := good hc
  have hlen := hg.len
  unfold ranges6_t
  refine ⟨⟨0, by rw [nle]; omega, rfl, rfl, rfl, rfl, rfl⟩, fun i hi => ⟨fun hlt => ?_, fun hge => ?_⟩⟩
  · simp only [decide_eq_true_eq] at hlt
    have hi' : i < l.length := by omega
    have hsl := syms_len_le (l.take i)
    rw [List.length_take] at hsl
    simp only [toNat_cast, gt_iff_lt, decide_eq_true_eq, decide_eq_false_iff_not]
    refine ⟨by omega, by omega, fun hp => ⟨?_, i + 1, by rw [nle]; omega, by show l.length - (i + 1) < l.length - i; omega, by trivial, by trivial, by rw [wr (by omega) (by omega)]; simp, by trivial, ?_⟩, fun hp => ⟨i + 1, by rw [nle]; omega, by show l.length - (i + 1) < l.length - i; omega, by trivial, by trivial, by rw [wr (by omega) (by omega)]; simp, by trivial, ?_⟩⟩
    · show ((syms (l.take i)).length + 1) * 16 ≤ _
      omega
    · rw [pair2, syms_take hi', decide_eq_true hp]; rfl
    · rw [syms_take hi', decide_eq_false hp, cond_false, List.append_nil]
  · simp only [decide_eq_false_iff_not] at hge
    rw [List.take_of_length_le (by omega)]
    have := syms_len_le l
    refine ⟨syms_end hc, by omega, ?_, by trivial, by trivial⟩
    rw [List.all_eq_true]
    intro r hr
    simp [syms_two r hr]
theorem items6_v (l : List Int) (hc : chk l = 0) (l0 : Nat) : items6_t l l0 := by
  have hg := good hc
  have hm := hg.m1
  unfold items6_t
  refine ⟨hc, (), 0, by rw [nle]; omega, rfl, ⟨rfl, rfl, rfl, rfl, rfl, rfl, rfl⟩, fun i hi => ⟨fun hlt => ?_, fun hge => ?_⟩⟩
  · simp only [decide_eq_true_eq] at hlt
    have hi' : i < (ordS l).length := by omega
    have hb := symI_bd hg hi'
    have ha := at_bd hg hi'
    have hbig := hg.big
    have hol : (ordS l).length ≤ 256 := by
      have := (ordS_perm l).length_eq
      have := syms_len_le l
      have := hg.len
      omega
    have hw : (wid (gmx l) (symI l i) : Int) = 2 ^ (gmx l - (symI l i).getD 1 0).toNat := by unfold wid; exact (pow_cast _).symm
    simp only [toNat_cast]
    have e : (ordS l).getD i [] = symI l i := rfl
    rw [e]
    have e1 : IntKind.wrap IntKind.i64 (gmx l - (symI l i).getD 1 0) = gmx l - (symI l i).getD 1 0 := wr (by omega) (by omega)
    refine ⟨by omega, by omega, hi', by trivial, items_get hi', ⟨by rw [e1]; omega, i + 1, by rw [nle]; omega, by trivial, by show (ordS l).length - (i + 1) < (ordS l).length - i; omega, by trivial, by trivial, ?_, by trivial, by rw [wr (by omega) (by omega)]; simp, by trivial, by trivial⟩, by trivial⟩
    rw [e1, shl1 (by omega) (by omega), ← hw, atF_succ _ _ hi', e, wr (by omega) (by omega)]
  · simp only [decide_eq_false_iff_not] at hge
    rw [nle] at hi
    rw [items_len]
    omega
theorem G6g_ok : AllOk Try.prog G6g := .cons sort_sound <| G6f_ok
theorem items6_isat (l : List Int) (hc : chk l = 0) : ISat Try.prog 102 [.p 0 0 0, .p 1 0 0] [(0, .cells 22 [.dat (.ints .i64 l)]), (1, .cells 143 [.o 2]), (2, .row 129 (.recs 2 (ordS l)))] (items l) :=
  isat_of_vcI (Ωi := fun l0 => oneI (oItems l0 l)) G6g_ok mixed Try.func102 (by kernel_rfl) fun l0 => by
    have := items6_v l hc l0
    rw [items6_e] at this
    exact this
theorem items6_at (k : Nat) (l : List Int) (hc : chk l = 0) : ISat Try.prog 102 [.p k 0 0, .p (k + 1) 0 0] [(k, .cells 22 [.dat (.ints .i64 l)]), (k + 1, .cells 143 [.o (k + 2)]), (k + 2, .row 129 (.recs 2 (ordS l)))] (items l) := by
  have := (items6_isat l hc).ren (fun i => k + i) (fun a b _ _ h => by omega) rfl rfl
  exact this
theorem ranges6_sound : Sound Try.prog 88 sRanges.ctr := sRanges.sound (by kernel_rfl) sRanges_enc fun l hc => by
  have h0 := hc _ (.head _)
  exact satG G6g_ok mixed Try.func88 (ranges6_e l) (ranges6_v l h0)
theorem G6h_ok : AllOk Try.prog G6h := .cons ranges6_sound <| G6g_ok
theorem codes6_v (l : List Int) (h0 : l.length ≤ 4294967296) : codes6_t l := by
  unfold codes6_t
  refine ⟨h0, fun h => ⟨fun hc => by rw [hc] at h; simp at h, fun hc => ⟨rfl, rfl⟩⟩, fun h => ?_⟩
  have hc : chk l = 0 := by simpa using h
  have hg := good hc
  have m0 := hg.m0
  have m1 := hg.m1
  have hL := hg.len
  have hit : (itemF (gmx l) 0 (ordS l)).length = (ordS l).length := itemF_len ..
  refine ⟨hc, by omega, by omega, by omega, by omega, hc, 0, items6_at 700008 l hc, ⟨rfl, rfl⟩, trivial, ⟨rfl, by rw [toNat_cast]; rfl⟩, fun i hi _ => ?_, fun _ => ⟨fun _ => ⟨rfl, ?_⟩, fun hn => absurd hc hn⟩⟩
  · rw [hit] at hi
    have hb := symI_bd hg hi
    have ha := at_bd hg hi
    rw [wr (n := gmx l - (symI l i).getD 1 0) (by omega) (by omega), codP_len]
    refine ⟨items_get hi, by trivial, by omega, by omega, by omega, by omega, trivial, by trivial, ?_⟩
    rw [codP_succ hi, b64, Nat.min_eq_left (by omega), fdivp (Int.le_of_lt (pow_pos' _))]
  · rw [hit]
    unfold codP codL
    rw [List.take_length]
theorem codes6_sound : Sound Try.prog 66 sCodes.ctr := sCodes.sound (by kernel_rfl) sCodes_enc fun l hc => by
  have h0 := hc _ (.head _)
  exact satG G6h_ok mixed Try.func66 (codes6_e l) (codes6_v l h0)
theorem G6i_ok : AllOk Try.prog G6i := .cons codes6_sound <| G6h_ok
end Go.Proofs.Ytmdbliacaeokaaa
namespace Go.Proofs.Ytmdbliacaeokaaa
open Go Go.RowKit
set_option linter.unusedVariables false
set_option maxRecDepth 100000
abbrev Nd : Type := List (List Int)
def nd (c f n : Int) (s : List Int) : Nd := [[c], [f], [n], s]
def ndC (x : Nd) : Int := (x.getD 0 []).getD 0 0
def ndF (x : Nd) : Bool := (x.getD 1 []).getD 0 0 == 1
def ndN (x : Nd) : Int := (x.getD 2 []).getD 0 0
def ndS (x : Nd) : List Int := x.getD 3 []
def befB (c1 : Int) (f1 : Bool) (n1 c2 : Int) (f2 : Bool) (n2 : Int) : Bool := cond (c1 != c2) (decide (c1 < c2)) (cond (f1 != f2) f1 (decide (n1 < n2)))
def befN (x y : Nd) : Bool := befB (ndC x) (ndF x) (ndN x) (ndC y) (ndF y) (ndN y)
def bestI (xs : List Nd) : Nat → Nat
  | 0 => 0
  | i + 1 => cond (befN (xs.getD i []) (xs.getD (bestI xs i) [])) i (bestI xs i)
def bestX (xs : List Nd) : Nat := bestI xs xs.length
def topX (xs : List Nd) : Nd := xs.getD (bestX xs) []
def restX (xs : List Nd) : List Nd := xs.take (bestX xs) ++ xs.drop (bestX xs + 1)
def incAll (out ss : List Int) : List Int := ss.foldl (fun o s => o.set s.toNat (o.getD s.toNat 0 + 1)) out
def leavesG : Int → List Int → List Nd
  | _, [] => []
  | i, x :: r => cond (decide (0 < x)) (nd x 1 i [i] :: leavesG (i + 1) r) (leavesG (i + 1) r)
def leaves (l : List Int) : List Nd := leavesG 0 l
def mrgX (xs : List Nd) (made : Nat) : Nd := nd (ndC (topX xs) + ndC (topX (restX xs))) 0 made (ndS (topX xs) ++ ndS (topX (restX xs)))
def stepD (st : List Int × List Nd) (made : Nat) : List Int × List Nd := (incAll st.1 (ndS (mrgX st.2 made)), restX (restX st.2) ++ [mrgX st.2 made])
def runD (l : List Int) : Nat → List Int × List Nd
  | 0 => (List.replicate l.length 0, leaves l)
  | j + 1 => stepD (runD l j) j
def depL (l : List Int) : List Int := (runD l ((leaves l).length - 1)).1
def halfC (c : Int) : Int := (c + 1).tdiv 2
def okD (out : List Int) : Bool := out.all fun d => decide (d ≤ 11)
def ofF : Nat → List Int → List Int
  | 0, l => depL l
  | f + 1, l => cond (okD (depL l)) (depL l) (ofF f (l.map halfC))
def sumL (l : List Int) : Int := l.sum
def ofL (l : List Int) : List Int := ofF ((sumL l).toNat + 1) l
def halfs (l : List Int) : Nat → List Int
  | 0 => l
  | j + 1 => (halfs l j).map halfC
def halfP (l : List Int) (i : Nat) : List Int := (l.take i).map halfC ++ l.drop i
def nzL (l : List Int) : Int := l.foldl (fun s x => cond (x != 0) (s + 1) s) 0
def cntsOk (l : List Int) : Bool := l.all (fun x => decide (0 ≤ x)) && decide (sumL l ≤ 1099511627776)
def md (x m : Int) : Int := cond (decide (m < 1)) 0 (x % m)
def atL (l : List Int) (i : Int) : Int := cond (decide (i < 0) || decide ((l.length : Int) ≤ i)) 0 (l.getD i.toNat 0)
end Go.Proofs.Ytmdbliacaeokaaa
namespace Go.Proofs.Ytmdbliacaeokaaa
open Go Go.RowKit
set_option linter.unusedVariables false
set_option linter.unusedSimpArgs false
set_option maxRecDepth 100000
def sBd : Spec where
  ι := Int
  dec l H := match l with
    | [.v (.int .i64 n)] => some (n, [])
    | _ => none
  args := fun n => [.v (.int .i64 n)]
  out := fun n => .leaf (.v (.bool (okCnt n))) []
theorem sBd_enc : ∀ l H n i ls, sBd.dec l H = some (i, ls) → l = renL (rho ls n) (sBd.args i) ∧ givenHp H ls = renH (rho ls n) (sBd.hp i) := by
  intro l H n i ls h
  simp only [sBd] at h
  repeat' split at h
  all_goals first
    | (cases h; done)
    | (cases h; exact ⟨rfl, rfl⟩)
def sPlus : Spec where
  ι := Int × Int
  dec l H := match l with
    | [.v (.int .i64 a), .v (.int .i64 b)] => some ((a, b), [])
    | _ => none
  args := fun (a, b) => [.v (.int .i64 a), .v (.int .i64 b)]
  pre := fun (a, b) => [⟨okCnt a = true, inferInstance⟩, ⟨okCnt b = true, inferInstance⟩, ⟨okCnt (a + b) = true, inferInstance⟩]
  out := fun (a, b) => .leaf (.tu [.v (.int .i64 (a + b)), .v (.int .i64 0)]) []
theorem sPlus_enc : ∀ l H n i ls, sPlus.dec l H = some (i, ls) → l = renL (rho ls n) (sPlus.args i) ∧ givenHp H ls = renH (rho ls n) (sPlus.hp i) := by
  intro l H n i ls h
  simp only [sPlus] at h
  repeat' split at h
  all_goals first
    | (cases h; done)
    | (cases h; exact ⟨rfl, rfl⟩)
def sSum : Spec where
  ι := List Int
  dec l H := match l with
    | [.dat (.ints .i64 l)] => some (l, [])
    | _ => none
  args := fun l => [.dat (.ints .i64 l)]
  pre := fun l => [⟨l.length ≤ 4294967296, inferInstance⟩, ⟨cntsOk l = true, inferInstance⟩]
  out := fun l => .leaf (.tu [.v (.int .i64 (sumL l)), .v (.int .i64 0)]) []
theorem sSum_enc : ∀ l H n i ls, sSum.dec l H = some (i, ls) → l = renL (rho ls n) (sSum.args i) ∧ givenHp H ls = renH (rho ls n) (sSum.hp i) := by
  intro l H n i ls h
  simp only [sSum] at h
  repeat' split at h
  all_goals first
    | (cases h; done)
    | (cases h; exact ⟨rfl, rfl⟩)
def sChkd : Spec where
  ι := List Int
  dec l H := match l with
    | [.dat (.ints .i64 l)] => some (l, [])
    | _ => none
  args := fun l => [.dat (.ints .i64 l)]
  pre := fun l => [⟨l.length ≤ 256, inferInstance⟩, ⟨cntsOk l = true, inferInstance⟩]
  out := fun l => .leaf (.v (.int .i64 0)) []
theorem sChkd_enc : ∀ l H n i ls, sChkd.dec l H = some (i, ls) → l = renL (rho ls n) (sChkd.args i) ∧ givenHp H ls = renH (rho ls n) (sChkd.hp i) := by
  intro l H n i ls h
  simp only [sChkd] at h
  repeat' split at h
  all_goals first
    | (cases h; done)
    | (cases h; exact ⟨rfl, rfl⟩)
def sNz : Spec where
  ι := List Int
  dec l H := match l with
    | [.dat (.ints .i64 l)] => some (l, [])
    | _ => none
  args := fun l => [.dat (.ints .i64 l)]
  pre := fun l => [⟨l.length ≤ 4294967296, inferInstance⟩]
  out := fun l => .leaf (.v (.int .i64 (nzL l))) []
theorem sNz_enc : ∀ l H n i ls, sNz.dec l H = some (i, ls) → l = renL (rho ls n) (sNz.args i) ∧ givenHp H ls = renH (rho ls n) (sNz.hp i) := by
  intro l H n i ls h
  simp only [sNz] at h
  repeat' split at h
  all_goals first
    | (cases h; done)
    | (cases h; exact ⟨rfl, rfl⟩)
def sAsked : Spec where
  ι := List Int
  dec l H := match l with
    | [.dat (.ints .i64 l)] => some (l, [])
    | _ => none
  args := fun l => [.dat (.ints .i64 l)]
  pre := fun l => [⟨l.length ≤ 256, inferInstance⟩, ⟨cntsOk l = true, inferInstance⟩, ⟨2 ≤ (leaves l).length, inferInstance⟩]
  out := fun l => .leaf (.v (.int .i64 0)) []
theorem sAsked_enc : ∀ l H n i ls, sAsked.dec l H = some (i, ls) → l = renL (rho ls n) (sAsked.args i) ∧ givenHp H ls = renH (rho ls n) (sAsked.hp i) := by
  intro l H n i ls h
  simp only [sAsked] at h
  repeat' split at h
  all_goals first
    | (cases h; done)
    | (cases h; exact ⟨rfl, rfl⟩)
def sBef : Spec where
  ι := Int × Bool × Int × List Int × Int × Bool × Int × List Int
  dec l H := match l with
    | [.ag [.v (.int .i64 c1), .v (.bool f1), .v (.int .i64 n1), .dat (.ints .i64 s1)], .ag [.v (.int .i64 c2), .v (.bool f2), .v (.int .i64 n2), .dat (.ints .i64 s2)]] => some ((c1, f1, n1, s1, c2, f2, n2, s2), [])
    | _ => none
  args := fun (c1, f1, n1, s1, c2, f2, n2, s2) => [.ag [.v (.int .i64 c1), .v (.bool f1), .v (.int .i64 n1), .dat (.ints .i64 s1)], .ag [.v (.int .i64 c2), .v (.bool f2), .v (.int .i64 n2), .dat (.ints .i64 s2)]]
  out := fun (c1, f1, n1, s1, c2, f2, n2, s2) => .leaf (.v (.bool (befB c1 f1 n1 c2 f2 n2))) []
theorem sBef_enc : ∀ l H n i ls, sBef.dec l H = some (i, ls) → l = renL (rho ls n) (sBef.args i) ∧ givenHp H ls = renH (rho ls n) (sBef.hp i) := by
  intro l H n i ls h
  simp only [sBef] at h
  repeat' split at h
  all_goals first
    | (cases h; done)
    | (cases h; exact ⟨rfl, rfl⟩)
def sFirst : Spec where
  ι := List Nd
  own := true
  dec l H := match l with
    | [.o l0] => match H l0 with
      | some (.row 121 (.mix [.i, .b, .i, .l] xs)) => some (xs, [l0])
      | _ => none
    | _ => none
  args := fun xs => [.o 0]
  hp := fun xs => [(0, .row 121 (.mix [.i, .b, .i, .l] xs))]
  pre := fun xs => [⟨1 ≤ xs.length, inferInstance⟩, ⟨xs.length ≤ 65536, inferInstance⟩]
  out := fun xs => .leaf (.tu [.ag [.v (.int .i64 (ndC (topX xs))), .v (.bool (ndF (topX xs))), .v (.int .i64 (ndN (topX xs))), .dat (.ints .i64 (ndS (topX xs)))], .o 2000]) [(0, .row 121 (.mix [.i, .b, .i, .l] xs)), (2000, .row 121 (.mix [.i, .b, .i, .l] (restX xs)))]
theorem sFirst_enc : ∀ l H n i ls, sFirst.dec l H = some (i, ls) → l = renL (rho ls n) (sFirst.args i) ∧ givenHp H ls = renH (rho ls n) (sFirst.hp i) := by
  intro l H n i ls h
  simp only [sFirst] at h
  repeat' split at h
  all_goals first
    | (cases h; done)
    | (cases h; exact ⟨rfl, rfl⟩)
    | (cases h; refine ⟨rfl, ?_⟩; simp only [givenHp, List.filterMap_cons, List.filterMap_nil, Option.map, *]; rfl)
def sDepths : Spec where
  ι := List Int
  dec l H := match l with
    | [.dat (.ints .i64 l)] => some (l, [])
    | _ => none
  args := fun l => [.dat (.ints .i64 l)]
  pre := fun l => [⟨l.length ≤ 256, inferInstance⟩, ⟨cntsOk l = true, inferInstance⟩, ⟨2 ≤ (leaves l).length, inferInstance⟩]
  out := fun l => .leaf (.o 2000) [(2000, .row 3 (.ints .i64 (depL l)))]
theorem sDepths_enc : ∀ l H n i ls, sDepths.dec l H = some (i, ls) → l = renL (rho ls n) (sDepths.args i) ∧ givenHp H ls = renH (rho ls n) (sDepths.hp i) := by
  intro l H n i ls h
  simp only [sDepths] at h
  repeat' split at h
  all_goals first
    | (cases h; done)
    | (cases h; exact ⟨rfl, rfl⟩)
def sOf : Spec where
  ι := List Int
  dec l H := match l with
    | [.dat (.ints .i64 l)] => some (l, [])
    | _ => none
  args := fun l => [.dat (.ints .i64 l)]
  pre := fun l => [⟨l.length ≤ 256, inferInstance⟩, ⟨(leaves l).length ≤ 40, inferInstance⟩, ⟨cntsOk l = true, inferInstance⟩, ⟨2 ≤ (leaves l).length, inferInstance⟩]
  out := fun l => .leaf (.tu [.o 2000, .v (.int .i64 0)]) [(2000, .row 3 (.ints .i64 (ofL l)))]
theorem sOf_enc : ∀ l H n i ls, sOf.dec l H = some (i, ls) → l = renL (rho ls n) (sOf.args i) ∧ givenHp H ls = renH (rho ls n) (sOf.hp i) := by
  intro l H n i ls h
  simp only [sOf] at h
  repeat' split at h
  all_goals first
    | (cases h; done)
    | (cases h; exact ⟨rfl, rfl⟩)
def sMd : Spec where
  ι := Int × Int
  dec l H := match l with
    | [.v (.int .i64 x), .v (.int .i64 m)] => some ((x, m), [])
    | _ => none
  args := fun (x, m) => [.v (.int .i64 x), .v (.int .i64 m)]
  pre := fun (x, m) => [⟨m ≤ 4611686018427387904, inferInstance⟩]
  out := fun (x, m) => .leaf (.v (.int .i64 (md x m))) []
theorem sMd_enc : ∀ l H n i ls, sMd.dec l H = some (i, ls) → l = renL (rho ls n) (sMd.args i) ∧ givenHp H ls = renH (rho ls n) (sMd.hp i) := by
  intro l H n i ls h
  simp only [sMd] at h
  repeat' split at h
  all_goals first
    | (cases h; done)
    | (cases h; exact ⟨rfl, rfl⟩)
def sAtL : Spec where
  ι := List Int × Int
  dec l H := match l with
    | [.dat (.ints .i64 l), .v (.int .i64 i)] => some ((l, i), [])
    | _ => none
  args := fun (l, i) => [.dat (.ints .i64 l), .v (.int .i64 i)]
  out := fun (l, i) => .leaf (.v (.int .i64 (atL l i))) []
theorem sAtL_enc : ∀ l H n i ls, sAtL.dec l H = some (i, ls) → l = renL (rho ls n) (sAtL.args i) ∧ givenHp H ls = renH (rho ls n) (sAtL.hp i) := by
  intro l H n i ls h
  simp only [sAtL] at h
  repeat' split at h
  all_goals first
    | (cases h; done)
    | (cases h; exact ⟨rfl, rfl⟩)
def oSum (l : List Int) : LoopInv := { ι := Nat, p := fun i => i ≤ l.length, tm := fun i => [(0, .dat (.ints .i64 l)), (4, .v (.int .i64 (sumL (l.take i)))), (5, .v (.int .i64 (i : Nat)))], hp := fun _ => [], μ := fun i => l.length - i }
def oNz (l : List Int) : LoopInv := { ι := Nat, p := fun i => i ≤ l.length, tm := fun i => [(0, .dat (.ints .i64 l)), (3, .v (.int .i64 (nzL (l.take i)))), (4, .v (.int .i64 (i : Nat)))], hp := fun _ => [], μ := fun i => l.length - i }
def oFirst (xs : List Nd) : LoopInv := { ι := Nat, p := fun i => 1 ≤ i ∧ i ≤ xs.length, tm := fun i => [(0, .o 0), (2, .p 5001 0 0), (4, .v (.int .i64 (bestI xs i : Nat))), (5, .v (.int .i64 (i : Nat)))], hp := fun i => [(0, .row 121 (.mix [.i, .b, .i, .l] xs)), (5001, .cells 121 [.v (.int .i64 0), .v (.bool false), .v (.int .i64 0), .v (.slice none 0 0)])], μ := fun i => xs.length - i }
def oDepA (l : List Int) : LoopInv := { ι := Nat, p := fun i => i ≤ l.length, tm := fun i => [(0, .dat (.ints .i64 l)), (3, .o 5000), (4, .o 5001), (5, .v (.int .i64 (i : Nat)))], hp := fun i => [(5000, .row 3 (.ints .i64 (List.replicate l.length 0))), (5001, .row 121 (.mix [.i, .b, .i, .l] (leaves (l.take i))))], μ := fun i => l.length - i }
def oDepB (l : List Int) : LoopInv := { ι := Nat, p := fun j => j + 1 ≤ (leaves l).length, tm := fun j => [(3, .o 5000), (4, .o 5001), (6, .v (.int .i64 (j : Nat)))], hp := fun j => [(5000, .row 3 (.ints .i64 (runD l j).1)), (5001, .row 121 (.mix [.i, .b, .i, .l] (runD l j).2))], μ := fun j => (leaves l).length - j }
def oDepC (l : List Int) (j : Nat) : LoopInv := { ι := Nat, p := fun k => j + 2 ≤ (leaves l).length ∧ k ≤ (ndS (mrgX (runD l j).2 j)).length, tm := fun k => [(3, .o 5000), (8, .o 5001), (6, .v (.int .i64 (j : Nat))), (10, .p 5002 0 0), (11, .v (.int .i64 (k : Nat)))], hp := fun k => [(5000, .row 3 (.ints .i64 (incAll (runD l j).1 ((ndS (mrgX (runD l j).2 j)).take k)))), (5001, .row 121 (.mix [.i, .b, .i, .l] (restX (restX (runD l j).2)))), (5002, .cells 121 [.v (.int .i64 (ndC (mrgX (runD l j).2 j))), .v (.bool false), .v (.int .i64 (j : Nat)), .o 5003]), (5003, .row 3 (.ints .i64 (ndS (mrgX (runD l j).2 j))))], μ := fun k => (ndS (mrgX (runD l j).2 j)).length - k }
def oDep (l : List Int) : Nat → Option LoopFam := fun k => cond (Nat.beq k 0) (some (.one (oDepA l))) (cond (Nat.beq k 1) (some (.one (oDepB l))) (cond (Nat.beq k 2) (some (.fam Nat fun j => oDepC l j)) none))
def ofP (l : List Int) (j : Nat) : Prop := (j : Int) + sumL (halfs l j) ≤ sumL l ∧ ofF ((sumL l).toNat + 1 - j) (halfs l j) = ofL l
def oOfA (l : List Int) : LoopInv := { ι := Nat, p := fun j => ofP l j, tm := fun j => [(5, .o 5000)], hp := fun j => [(5000, .row 3 (.ints .i64 (halfs l j)))], μ := fun j => (sumL l).toNat - j }
def oOfB (l : List Int) (j : Nat) : LoopInv := { ι := Nat, p := fun i => ofP l j ∧ i ≤ (depL (halfs l j)).length, tm := fun i => [(5, .o 5000), (6, .o 5001), (7, .v (.bool (!okD ((depL (halfs l j)).take i)))), (8, .v (.int .i64 (i : Nat)))], hp := fun i => [(5000, .row 3 (.ints .i64 (halfs l j))), (5001, .row 3 (.ints .i64 (depL (halfs l j))))], μ := fun i => (depL (halfs l j)).length - i }
def oOfC (l : List Int) (j : Nat) : LoopInv := { ι := Nat, p := fun i => ofP l j ∧ okD (depL (halfs l j)) = false ∧ i ≤ (halfs l j).length, tm := fun i => [(5, .o 5000), (9, .v (.int .i64 (i : Nat)))], hp := fun i => [(5000, .row 3 (.ints .i64 (halfP (halfs l j) i)))], μ := fun i => (halfs l j).length - i }
def oOf (l : List Int) : Nat → Option LoopFam := fun k => cond (Nat.beq k 0) (some (.one (oOfA l))) (cond (Nat.beq k 1) (some (.fam Nat fun j => oOfB l j)) (cond (Nat.beq k 2) (some (.fam Nat fun j => oOfC l j)) none))
def G7a : List (Nat × Ctr) := (109, sBd.ctr) :: (94, sBef.ctr) :: (71, sNz.ctr) :: []
def G7b : List (Nat × Ctr) := (105, sPlus.ctr) :: (83, sFirst.ctr) :: G7a
def G7c : List (Nat × Ctr) := (93, sSum.ctr) :: (62, sDepths.ctr) :: G7b
def G7d : List (Nat × Ctr) := (82, sChkd.ctr) :: G7c
def G7e : List (Nat × Ctr) := (61, sAsked.ctr) :: G7d
end Go.Proofs.Ytmdbliacaeokaaa
namespace Go.Proofs.Ytmdbliacaeokaaa
open Go Go.RowKit
set_option linter.unusedVariables false
set_option maxRecDepth 100000
def roomE (l : List Int) : Int := cond (decide (256 < l.length)) 6 (cond (l.all okLen) 0 2)
def roomV (l : List Int) : Int := cond (roomE l == 0) (roomL l) 0
def lchk (l : List Int) : Int := cond (roomE l == 0) (cond (decide (cntP l < 2)) 7 (cond (roomL l == 2048) 0 21)) (roomE l)
def noC (l : List Int) (x : Int) : Bool := decide ((l.length : Int) ≤ x) || l.getD x.toNat 0 == 0
def txE (l : List Int) (s : ByteArray) : Int := cond (lchk l == 0) (cond (decide (131072 < s.size)) 4 (cond ((bytesN s).any (noC l)) 7 0)) (lchk l)
def nuE (l : List Int) (n : Int) : Int := cond (lchk l == 0) (cond (decide (n < 0) || decide (131072 < n)) 2 0) (lchk l)
def hB (l : List Int) (i : Nat) : Int := ((codL l).getD i []).getD 0 0
def hV (l : List Int) (i : Nat) : Int := ((codL l).getD i []).getD 1 0
def mC (l : List Int) : Nat → List (List Int × List Int)
  | 0 => []
  | i + 1 => cond (decide (0 < hB l i)) (([(i : Int)], [hB l i, hV l i]) :: mC l i) (mC l i)
def mB (l : List Int) : Nat → List (List Int × List Int)
  | 0 => []
  | i + 1 => cond (decide (0 < hB l i)) (([hB l i, hV l i], [(i : Int)]) :: mB l i) (mB l i)
def fnd (l : List Int) (b v : Int) : Nat → Int
  | 0 => -1
  | i + 1 => cond (hB l i == b && hV l i == v) (i : Int) (fnd l b v i)
def fLc (l : List Int) (b v : Int) : Int := fnd l b v l.length
def byK (s : ByteArray) (k : Nat) : Int := nthS (bytesN s) k
def hwR (l : List Int) (s : ByteArray) : Nat → ByteArray × Int × Int
  | 0 => (ByteArray.empty, 0, 0)
  | k + 1 => putWr (hwR l s k) (hB l (byK s k).toNat) (hV l (byK s k).toNat)
def hwS (l : List Int) (s : ByteArray) (k : Nat) : ByteArray := (hwR l s k).1
def hwP (l : List Int) (s : ByteArray) (k : Nat) : Int := (hwR l s k).2.1
def hwN (l : List Int) (s : ByteArray) (k : Nat) : Int := (hwR l s k).2.2
def wrH (l : List Int) (s : ByteArray) : ByteArray := dS (hwS l s s.size) (hwP l s s.size) (hwN l s s.size)
def wrO (l : List Int) (s : ByteArray) : ByteArray := cond (txE l s == 0) (wrH l s) ByteArray.empty
def szO (l : List Int) (s : ByteArray) : Int := cond (txE l s == 0) (wrH l s).size 0
def itBkU (l : List Int) : List (List Value) := (List.range l.length).map fun k => [.int .i64 (nthI l k : Nat), .int .u8 (nthS l k)]
def hrd (l : List Int) (s : ByteArray) (n : Int) : Nat → Int → Int → List Int → Option (List Int)
  | 0, b, v, out => cond (decide (n ≤ out.length)) (some out) none
  | L + 1, b, v, out => cond (decide (n ≤ out.length)) none (cond (decide (11 ≤ b)) none
      (cond (decide (fLc l (b + 1) (2 * v + bkBit s (L : Nat)) < 0)) (hrd l s n L (b + 1) (2 * v + bkBit s (L : Nat)) out) (hrd l s n L 0 0 (out ++ [fLc l (b + 1) (2 * v + bkBit s (L : Nat))]))))
def rdX (l : List Int) (b : ByteArray) (n : Int) : Option (List Int) := cond (bkE b == 0) (hrd l b n (bkN b).toNat 0 0 []) none
def oS (o : Option (List Int)) : ByteArray := match o with
  | some x => strOfNums x
  | none => ByteArray.empty
def oE (o : Option (List Int)) : Int := match o with
  | some _ => 0
  | none => 22
def rdS (l : List Int) (b : ByteArray) (n : Int) : ByteArray := oS (rdX l b n)
def rdE (l : List Int) (b : ByteArray) (n : Int) : Int := oE (rdX l b n)
def rO (l : List Int) (b : ByteArray) (n : Int) : ByteArray := cond (nuE l n == 0) (rdS l b n) ByteArray.empty
def rE (l : List Int) (b : ByteArray) (n : Int) : Int := cond (nuE l n == 0) (rdE l b n) (nuE l n)
def ptE (n : Int) : Int := cond (decide (n < 0) || decide (131072 < n)) 2 (cond (decide (n < 6)) 20 0)
def ptK (n : Int) : Int := (n + 3) / 4
def ptL (n : Int) : List Int := [ptK n, ptK n, ptK n, n - 3 * ptK n]
def ptV (n : Int) : List Int := cond (ptE n == 0) (ptL n) [0, 0, 0, 0]
def rsS (s : ByteArray) (p : List Int) : Nat → ByteArray
  | 0 => s
  | i + 1 => (rsS s p i).extract (p.getD i 0).toNat (rsS s p i).size
def pcS (s : ByteArray) (p : List Int) (i : Nat) : ByteArray := (rsS s p i).extract 0 (p.getD i 0).toNat
def itDv (s : ByteArray) (p : List Int) : List (List Value) := (List.range 4).map fun i => [.int .i64 (i : Nat), .string (pcS s p i)]
def lit2 (n : Int) : ByteArray := strOfNums [n % 256, n / 256 % 256]
def jn (xs : List ByteArray) : ByteArray := xs.foldl (· ++ ·) ByteArray.empty
def stH (l : List Int) (s : ByteArray) (i : Nat) : ByteArray := wrH l (pcS s (ptL s.size) i)
def strs4 (l : List Int) (s : ByteArray) (i : Nat) : List ByteArray := (List.range i).map (stH l s)
def heads4 (l : List Int) (s : ByteArray) (i : Nat) : List ByteArray := (List.range (min i 3)).map fun j => lit2 (stH l s j).size
def w4E (l : List Int) (s : ByteArray) : Int := cond (txE l s == 0) (cond (decide (s.size < 6)) 20 0) (txE l s)
def w4H (l : List Int) (s : ByteArray) : ByteArray := jn (heads4 l s 4) ++ jn (strs4 l s 4)
def w4O (l : List Int) (s : ByteArray) : ByteArray := cond (w4E l s == 0) (w4H l s) ByteArray.empty
def le16 (b : ByteArray) (i : Nat) : Int := byI b i + 256 * byI b (i + 1)
def z4 (b : ByteArray) (i : Nat) : Int := le16 b (2 * i)
def q4 (b : ByteArray) : List Int := [z4 b 0, z4 b 1, z4 b 2, b.size - 6 - z4 b 0 - z4 b 1 - z4 b 2]
def at4 (b : ByteArray) (i : Nat) : Int := 6 + ((q4 b).take i).sum
def p4 (b : ByteArray) (i : Nat) : ByteArray := pcS (b.extract 6 b.size) (q4 b) i
def x4 (l : List Int) (b : ByteArray) (n : Int) (i : Nat) : Option (List Int) := rdX l (p4 b i) ((ptL n).getD i 0)
def ok4 (l : List Int) (b : ByteArray) (n : Int) (i : Nat) : Bool := (List.range i).all fun j => (x4 l b n j).isSome
def out4 (l : List Int) (b : ByteArray) (n : Int) : Nat → ByteArray
  | 0 => ByteArray.empty
  | i + 1 => out4 l b n i ++ oS (x4 l b n i)
def bad4 (l : List Int) (b : ByteArray) (n : Int) : Nat := (List.range 4).findIdx fun j => !(x4 l b n j).isSome
def e4 (l : List Int) (b : ByteArray) (n : Int) : Int := cond (nuE l n == 0) (cond (decide (n < 6)) 20 (cond (decide (b.size < 6) || decide ((q4 b).getD 3 0 < 0)) 22 0)) (nuE l n)
def r4E (l : List Int) (b : ByteArray) (n : Int) : Int := cond (e4 l b n == 0) (cond (ok4 l b n 4) 0 22) (e4 l b n)
def r4P (l : List Int) (b : ByteArray) (n : Int) : Int := cond (e4 l b n == 0) (cond (ok4 l b n 4) 0 (at4 b (bad4 l b n))) 0
def r4O (l : List Int) (b : ByteArray) (n : Int) : ByteArray := cond (e4 l b n == 0) (cond (ok4 l b n 4) (out4 l b n 4) ByteArray.empty) ByteArray.empty
structure RdS where
  L : Nat
  b : Int
  v : Int
  out : List Int
structure RdP (l : List Int) (s : ByteArray) (n : Int) (x : RdS) : Prop where
  e : bkE s = 0
  le : (x.L : Int) ≤ bkN s
  b0 : 0 ≤ x.b
  b1 : x.b + x.L ≤ bkN s
  v0 : x.b ≤ 11 → 0 ≤ x.v
  v1 : x.b ≤ 11 → x.v < 2 ^ x.b.toNat
  o1 : (x.out.length : Int) ≤ n
  is : hrd l s n x.L x.b x.v x.out = rdX l s n
end Go.Proofs.Ytmdbliacaeokaaa
namespace Go.Proofs.Ytmdbliacaeokaaa
open Go Go.RowKit
set_option linter.unusedVariables false
set_option linter.unusedSimpArgs false
set_option maxRecDepth 100000
def sRoomL : Spec where
  ι := List Int
  dec l H := match l with
    | [.dat (.ints .i64 l)] => some (l, [])
    | _ => none
  args := fun l => [.dat (.ints .i64 l)]
  pre := fun l => [⟨l.length ≤ 4294967296, inferInstance⟩]
  out := fun l => .leaf (.tu [.v (.int .i64 (roomV l)), .v (.int .i64 (roomE l))]) []
theorem sRoomL_enc : ∀ l H n i ls, sRoomL.dec l H = some (i, ls) → l = renL (rho ls n) (sRoomL.args i) ∧ givenHp H ls = renH (rho ls n) (sRoomL.hp i) := by
  intro l H n i ls h
  simp only [sRoomL] at h
  repeat' split at h
  all_goals first
    | (cases h; done)
    | (cases h; exact ⟨rfl, rfl⟩)
def sCoded : Spec where
  ι := List Int
  dec l H := match l with
    | [.dat (.ints .i64 l)] => some (l, [])
    | _ => none
  args := fun l => [.dat (.ints .i64 l)]
  pre := fun l => [⟨l.length ≤ 4294967296, inferInstance⟩]
  out := fun l => .leaf (.tu [.v (.int .i64 (cntP l)), .v (.int .i64 (gmx l))]) []
theorem sCoded_enc : ∀ l H n i ls, sCoded.dec l H = some (i, ls) → l = renL (rho ls n) (sCoded.args i) ∧ givenHp H ls = renH (rho ls n) (sCoded.hp i) := by
  intro l H n i ls h
  simp only [sCoded] at h
  repeat' split at h
  all_goals first
    | (cases h; done)
    | (cases h; exact ⟨rfl, rfl⟩)
def sLchk : Spec where
  ι := List Int
  dec l H := match l with
    | [.dat (.ints .i64 l)] => some (l, [])
    | _ => none
  args := fun l => [.dat (.ints .i64 l)]
  pre := fun l => [⟨l.length ≤ 4294967296, inferInstance⟩]
  out := fun l => .leaf (.v (.int .i64 (lchk l))) []
theorem sLchk_enc : ∀ l H n i ls, sLchk.dec l H = some (i, ls) → l = renL (rho ls n) (sLchk.args i) ∧ givenHp H ls = renH (rho ls n) (sLchk.hp i) := by
  intro l H n i ls h
  simp only [sLchk] at h
  repeat' split at h
  all_goals first
    | (cases h; done)
    | (cases h; exact ⟨rfl, rfl⟩)
def sTxE : Spec where
  ι := List Int × ByteArray
  dec l H := match l with
    | [.dat (.ints .i64 l), .v (.string s)] => some ((l, s), [])
    | _ => none
  args := fun (l, s) => [.dat (.ints .i64 l), .v (.string s)]
  pre := fun (l, s) => [⟨l.length ≤ 4294967296, inferInstance⟩, ⟨s.size ≤ 4294967296, inferInstance⟩]
  out := fun (l, s) => .leaf (.v (.int .i64 (txE l s))) []
theorem sTxE_enc : ∀ l H n i ls, sTxE.dec l H = some (i, ls) → l = renL (rho ls n) (sTxE.args i) ∧ givenHp H ls = renH (rho ls n) (sTxE.hp i) := by
  intro l H n i ls h
  simp only [sTxE] at h
  repeat' split at h
  all_goals first
    | (cases h; done)
    | (cases h; exact ⟨rfl, rfl⟩)
def sNuE : Spec where
  ι := List Int × Int
  dec l H := match l with
    | [.dat (.ints .i64 l), .v (.int .i64 n)] => some ((l, n), [])
    | _ => none
  args := fun (l, n) => [.dat (.ints .i64 l), .v (.int .i64 n)]
  pre := fun (l, n) => [⟨l.length ≤ 4294967296, inferInstance⟩]
  out := fun (l, n) => .leaf (.v (.int .i64 (nuE l n))) []
theorem sNuE_enc : ∀ l H n i ls, sNuE.dec l H = some (i, ls) → l = renL (rho ls n) (sNuE.args i) ∧ givenHp H ls = renH (rho ls n) (sNuE.hp i) := by
  intro l H n i ls h
  simp only [sNuE] at h
  repeat' split at h
  all_goals first
    | (cases h; done)
    | (cases h; exact ⟨rfl, rfl⟩)
def sTabs : Spec where
  ι := List Int
  dec l H := match l with
    | [.dat (.ints .i64 l)] => some (l, [])
    | _ => none
  args := fun l => [.dat (.ints .i64 l)]
  pre := fun l => [⟨chk l = 0, inferInstance⟩]
  out := fun l => .leaf (.tu [.m 2000, .m 2001]) [(2000, .mp (.one (.i .u8)) (.st [.i .i64, .i .i64]) (mC l l.length)), (2001, .mp (.st [.i .i64, .i .i64]) (.one (.i .u8)) (mB l l.length))]
theorem sTabs_enc : ∀ l H n i ls, sTabs.dec l H = some (i, ls) → l = renL (rho ls n) (sTabs.args i) ∧ givenHp H ls = renH (rho ls n) (sTabs.hp i) := by
  intro l H n i ls h
  simp only [sTabs] at h
  repeat' split at h
  all_goals first
    | (cases h; done)
    | (cases h; exact ⟨rfl, rfl⟩)
def sBackU : Spec where
  ι := List Int
  own := true
  dec l H := match l with
    | [.o l0] => match H l0 with
      | some (.row 5 (.ints .u8 xs)) => some (xs, [l0])
      | _ => none
    | _ => none
  args := fun xs => [.o 0]
  hp := fun xs => [(0, .row 5 (.ints .u8 xs))]
  pre := fun xs => [⟨xs.length ≤ 4294967296, inferInstance⟩]
  out := fun xs => .leaf (.fn (.func 77) [] [.p 2000 0 0]) [(2000, .cells 46 [.o 0]), (0, .row 5 (.ints .u8 xs))]
theorem sBackU_enc : ∀ l H n i ls, sBackU.dec l H = some (i, ls) → l = renL (rho ls n) (sBackU.args i) ∧ givenHp H ls = renH (rho ls n) (sBackU.hp i) := by
  intro l H n i ls h
  simp only [sBackU] at h
  repeat' split at h
  all_goals first
    | (cases h; done)
    | (cases h; exact ⟨rfl, rfl⟩)
    | (cases h; refine ⟨rfl, ?_⟩; simp only [givenHp, List.filterMap_cons, List.filterMap_nil, Option.map, *]; rfl)
def sWrH : Spec where
  ι := List Int × ByteArray
  dec l H := match l with
    | [.dat (.ints .i64 l), .v (.string s)] => some ((l, s), [])
    | _ => none
  args := fun (l, s) => [.dat (.ints .i64 l), .v (.string s)]
  pre := fun (l, s) => [⟨chk l = 0, inferInstance⟩, ⟨txE l s = 0, inferInstance⟩, ⟨s.size ≤ 100000, inferInstance⟩]
  out := fun (l, s) => .leaf (.v (.string (wrH l s))) []
theorem sWrH_enc : ∀ l H n i ls, sWrH.dec l H = some (i, ls) → l = renL (rho ls n) (sWrH.args i) ∧ givenHp H ls = renH (rho ls n) (sWrH.hp i) := by
  intro l H n i ls h
  simp only [sWrH] at h
  repeat' split at h
  all_goals first
    | (cases h; done)
    | (cases h; exact ⟨rfl, rfl⟩)
def sRdH : Spec where
  ι := List Int × ByteArray × Int
  dec l H := match l with
    | [.dat (.ints .i64 l), .v (.string b), .v (.int .i64 n)] => some ((l, b, n), [])
    | _ => none
  args := fun (l, b, n) => [.dat (.ints .i64 l), .v (.string b), .v (.int .i64 n)]
  pre := fun (l, b, n) => [⟨chk l = 0, inferInstance⟩, ⟨b.size ≤ 4294967296, inferInstance⟩, ⟨0 ≤ n, inferInstance⟩, ⟨n ≤ 131072, inferInstance⟩]
  out := fun (l, b, n) => .leaf (.tu [.v (.string (rdS l b n)), .v (.int .i64 (rdE l b n))]) []
theorem sRdH_enc : ∀ l H n i ls, sRdH.dec l H = some (i, ls) → l = renL (rho ls n) (sRdH.args i) ∧ givenHp H ls = renH (rho ls n) (sRdH.hp i) := by
  intro l H n i ls h
  simp only [sRdH] at h
  repeat' split at h
  all_goals first
    | (cases h; done)
    | (cases h; exact ⟨rfl, rfl⟩)
def oRoomP (l : List Int) : LoopInv := { ι := Nat, p := fun i => i ≤ l.length ∧ l.length ≤ 256 ∧ (l.take i).all okLen = true, tm := fun i => [(4, .v (.int .i64 (sumM 11 (l.take i)))), (10, .dat (.ints .i64 l)), (11, .v (.int .i64 l.length)), (12, .v (.int .i64 (i : Nat)))], hp := fun _ => [], μ := fun i => l.length - i }
def oCoded (l : List Int) : LoopInv := { ι := Nat, p := fun i => i ≤ l.length, tm := fun i => [(2, .v (.int .i64 (cntP (l.take i)))), (3, .v (.int .i64 (gmx (l.take i)))), (6, .dat (.ints .i64 l)), (7, .v (.int .i64 l.length)), (8, .v (.int .i64 (i : Nat)))], hp := fun _ => [], μ := fun i => l.length - i }
def oTx (l : List Int) (s : ByteArray) : LoopInv := { ι := Nat, p := fun i => i ≤ s.size ∧ lchk l = 0 ∧ s.size ≤ 131072 ∧ ((bytesN s).take i).any (noC l) = false, tm := fun i => [(0, .dat (.ints .i64 l)), (19, .o 5000), (20, .v (.int .i64 (bytesN s).length)), (21, .v (.int .i64 (i : Nat)))], hp := fun _ => [(5000, .row 5 (.ints .u8 (bytesN s)))], μ := fun i => s.size - i }
def hpT (l : List Int) (i : Nat) : List (Nat × SBlk) := [(5000, .mp (.one (.i .u8)) (.st [.i .i64, .i .i64]) (mC l i)), (5001, .mp (.st [.i .i64, .i .i64]) (.one (.i .u8)) (mB l i)), (5002, .row 76 (.recs 2 (codL l)))]
def oTabs (l : List Int) : LoopInv := { ι := Nat, p := fun i => i ≤ l.length, tm := fun i => [(6, .m 5000), (7, .m 5001), (17, .o 5002), (18, .v (.int .i64 (codL l).length)), (19, .v (.int .i64 (i : Nat)))], hp := fun i => hpT l i, μ := fun i => l.length - i }
def oBku (l0 : Nat) (xs : List Int) : LoopInvI := { ι := Nat, p := fun k => k ≤ xs.length, tm := fun k => [(0, .v (.func (.yield l0) #[] #[])), (1, .p 0 0 0), (3, .v (.int .i64 ((xs.length : Int) - 1 - (k : Nat))))], hp := fun k => [(0, .cells 46 [.o 1]), (1, .row 5 (.ints .u8 xs))], μ := fun k => xs.length - k, y := fun k => k }
def oBkuF (l0 : Nat) (xs : List Int) : Nat → Option LoopFamI := fun k => cond (Nat.beq k 0) (some ⟨Unit, fun _ => oBku l0 xs⟩) none
def hwC (k : Nat) (l : List Int) (s : ByteArray) (i : Nat) : Nat × SBlk := (k, .cells 86 [.v (.string (hwS l s i)), .v (.int .i64 (hwP l s i)), .v (.int .i64 (hwN l s i))])
def rWrH (l : List Int) (s : ByteArray) : RngInv := { f := 77, cap := [.p 400016 0 0], hpI := [(400016, .cells 46 [.o 400008]), (400008, .row 5 (.ints .u8 (bytesN s)))], xs := itBkU (bytesN s), it := fun k => [.int .i64 (nthI (bytesN s) k : Nat), .int .u8 (byK s k)], tm := [(5, .p 1000 0 0), (7, .p 1001 0 0)], hp := fun k => [(1000, .cells 71 [.m 1002]), hwC 1001 l s k, (1002, .mp (.one (.i .u8)) (.st [.i .i64, .i .i64]) (mC l l.length))] }
def oWrH (l : List Int) (s : ByteArray) : Nat → Option LoopFam := fun k => cond (Nat.beq k 0) (some (.rng Nat fun _ => rWrH l s)) none
def rdC (k : Nat) (s : ByteArray) (L : Nat) : Nat × SBlk := (k, .cells 68 [.v (.string s), .v (.int .i64 (L : Nat))])
def oRdH (l : List Int) (s : ByteArray) (n : Int) : LoopInv := { ι := RdS, p := fun x => RdP l s n x, tm := fun x => [(2, .v (.int .i64 n)), (8, .p 5000 0 0), (11, .m 5001), (12, .o 5002), (13, .p 5003 0 0)], hp := fun x => [rdC 5000 s x.L, (5001, .mp (.st [.i .i64, .i .i64]) (.one (.i .u8)) (mB l l.length)), (5002, .row 5 (.ints .u8 x.out)), (5003, .cells 76 [.v (.int .i64 x.b), .v (.int .i64 x.v)])], μ := fun x => x.L }
def GUa : List (Nat × Ctr) := (63, sRoomL.ctr) :: (64, sCoded.ctr) :: (55, sBackU.ctr) :: (GBe ++ G6i)
def GUb : List (Nat × Ctr) := (46, sLchk.ctr) :: (48, sTabs.ctr) :: GUa
def GUc : List (Nat × Ctr) := (37, sTxE.ctr) :: (29, sNuE.ctr) :: (38, sWrH.ctr) :: (30, sRdH.ctr) :: GUb
end Go.Proofs.Ytmdbliacaeokaaa
namespace Go.Proofs.Ytmdbliacaeokaaa
open Go Go.RowKit
set_option linter.unusedVariables false
set_option maxRecDepth 100000
def roomU_t (l : List Int) : Prop :=
 (decide ((↑(List.length l) : Int) > (256 : Int)) = true → (0 : Int) = roomV l ∧ (6 : Int) = roomE l) ∧
 (decide ((↑(List.length l) : Int) > (256 : Int)) = false →
 (∃ (x0 : Nat),
 (x0 ≤ List.length l ∧ List.length l ≤ (256 : Nat) ∧ List.all (List.take x0 l) okLen = true) ∧
 (0 : Int) = sumM (11 : Int) (List.take x0 l) ∧ l = l ∧ (↑(List.length l) : Int) = (↑(List.length l) : Int) ∧ (0 : Int) = (↑x0 : Int)) ∧
 ∀ (x1 : Nat),
 x1 ≤ List.length l ∧ List.length l ≤ (256 : Nat) ∧ List.all (List.take x1 l) okLen = true →
 (decide ((↑x1 : Int) < (↑(List.length l) : Int)) = true →
 (0 : Int) ≤ (↑x1 : Int) ∧
 (↑x1 : Int) < (↑(List.length l) : Int) ∧
 (decide (List.getD l (Int.toNat (↑x1 : Int)) (0 : Int) < (0 : Int)) = true → (0 : Int) = roomV l ∧ (2 : Int) = roomE l) ∧
 (decide (List.getD l (Int.toNat (↑x1 : Int)) (0 : Int) < (0 : Int)) = false →
 (decide (List.getD l (Int.toNat (↑x1 : Int)) (0 : Int) > (11 : Int)) = true → (0 : Int) = roomV l ∧ (2 : Int) = roomE l) ∧
 (decide (List.getD l (Int.toNat (↑x1 : Int)) (0 : Int) > (11 : Int)) = false →
 (decide (List.getD l (Int.toNat (↑x1 : Int)) (0 : Int) > (0 : Int)) = true →
 (0 : Int) ≤ IntKind.wrap IntKind.i64 ((11 : Int) - List.getD l (Int.toNat (↑x1 : Int)) (0 : Int)) ∧
 ∃ (y2 : Nat),
 (y2 ≤ List.length l ∧ List.length l ≤ (256 : Nat) ∧ List.all (List.take y2 l) okLen = true) ∧
 Nat.sub (List.length l) y2 < Nat.sub (List.length l) x1 ∧
 IntKind.wrap IntKind.i64
 (sumM (11 : Int) (List.take x1 l) +
 IntKind.wrap IntKind.i64
 ((1 : Int) *
 (2 : Int) ^ min (Int.toNat (IntKind.wrap IntKind.i64 ((11 : Int) - List.getD l (Int.toNat (↑x1 : Int)) (0 : Int)))) (IntKind.bits IntKind.i64))) =
 sumM (11 : Int) (List.take y2 l) ∧
 l = l ∧ (↑(List.length l) : Int) = (↑(List.length l) : Int) ∧ IntKind.wrap IntKind.i64 ((↑x1 : Int) + (1 : Int)) = (↑y2 : Int)) ∧
 (decide (List.getD l (Int.toNat (↑x1 : Int)) (0 : Int) > (0 : Int)) = false →
 ∃ (y3 : Nat),
 (y3 ≤ List.length l ∧ List.length l ≤ (256 : Nat) ∧ List.all (List.take y3 l) okLen = true) ∧
 Nat.sub (List.length l) y3 < Nat.sub (List.length l) x1 ∧
 sumM (11 : Int) (List.take x1 l) = sumM (11 : Int) (List.take y3 l) ∧
 l = l ∧ (↑(List.length l) : Int) = (↑(List.length l) : Int) ∧ IntKind.wrap IntKind.i64 ((↑x1 : Int) + (1 : Int)) = (↑y3 : Int))))) ∧
 (decide ((↑x1 : Int) < (↑(List.length l) : Int)) = false → sumM (11 : Int) (List.take x1 l) = roomV l ∧ (0 : Int) = roomE l))
theorem roomU_e (l : List Int) : roomU_t l = vcG Try.prog (Gof []) (one (oRoomP l)) Try.f63 [.dat (.ints .i64 l)] [] (.leaf ((.tu [.v (.int .i64 (roomV l)), .v (.int .i64 (roomE l))])) ([])) := by kernel_rfl
def codedU_t (l : List Int) : Prop :=
 (∃ (x0 : Nat),
 Nat.le x0 (List.length l) ∧ (0 : Int) = cntP (List.take x0 l) ∧ (0 : Int) = gmx (List.take x0 l) ∧ l = l ∧ (↑(List.length l) : Int) = (↑(List.length l) : Int) ∧ (0 : Int) = (↑x0 : Int)) ∧
 ∀ (x1 : Nat),
 Nat.le x1 (List.length l) →
 (decide ((↑x1 : Int) < (↑(List.length l) : Int)) = true →
 (0 : Int) ≤ (↑x1 : Int) ∧
 (↑x1 : Int) < (↑(List.length l) : Int) ∧
 (decide (List.getD l (Int.toNat (↑x1 : Int)) (0 : Int) > (0 : Int)) = true →
 ∃ (y2 : Nat),
 Nat.le y2 (List.length l) ∧
 Nat.sub (List.length l) y2 < Nat.sub (List.length l) x1 ∧
 IntKind.wrap IntKind.i64 (cntP (List.take x1 l) + (1 : Int)) = cntP (List.take y2 l) ∧
 max (gmx (List.take x1 l)) (List.getD l (Int.toNat (↑x1 : Int)) (0 : Int)) = gmx (List.take y2 l) ∧
 l = l ∧ (↑(List.length l) : Int) = (↑(List.length l) : Int) ∧ IntKind.wrap IntKind.i64 ((↑x1 : Int) + (1 : Int)) = (↑y2 : Int)) ∧
 (decide (List.getD l (Int.toNat (↑x1 : Int)) (0 : Int) > (0 : Int)) = false →
 ∃ (y3 : Nat),
 Nat.le y3 (List.length l) ∧
 Nat.sub (List.length l) y3 < Nat.sub (List.length l) x1 ∧
 cntP (List.take x1 l) = cntP (List.take y3 l) ∧
 gmx (List.take x1 l) = gmx (List.take y3 l) ∧
 l = l ∧ (↑(List.length l) : Int) = (↑(List.length l) : Int) ∧ IntKind.wrap IntKind.i64 ((↑x1 : Int) + (1 : Int)) = (↑y3 : Int))) ∧
 (decide ((↑x1 : Int) < (↑(List.length l) : Int)) = false → cntP (List.take x1 l) = cntP l ∧ gmx (List.take x1 l) = gmx l)
theorem codedU_e (l : List Int) : codedU_t l = vcG Try.prog (Gof []) (one (oCoded l)) Try.f64 [.dat (.ints .i64 l)] [] (.leaf ((.tu [.v (.int .i64 (cntP l)), .v (.int .i64 (gmx l))])) ([])) := by kernel_rfl
def bkuU_t (xs : List Int) : Prop :=
 xs = xs
theorem bkuU_e (xs : List Int) : bkuU_t xs = vcG Try.prog (Gof []) (fun _ => none) Try.f55 [.o 0] [(0, .row 5 (.ints .u8 xs))] (.leaf ((.fn (.func 77) [] [.p 2000 0 0])) ([(2000, .cells 46 [.o 0]), (0, .row 5 (.ints .u8 xs))])) := by kernel_rfl
def lchkU_t (l : List Int) : Prop :=
 List.length l ≤ (4294967296 : Nat) ∧
 List.length l ≤ (4294967296 : Nat) ∧
 ((roomE l != (0 : Int)) = true → roomE l = lchk l) ∧
 ((roomE l != (0 : Int)) = false →
 (decide (cntP l < (2 : Int)) = true → (7 : Int) = lchk l) ∧
 (decide (cntP l < (2 : Int)) = false → ((roomV l != (2048 : Int)) = true → (21 : Int) = lchk l) ∧ ((roomV l != (2048 : Int)) = false → (0 : Int) = lchk l)))
theorem lchkU_e (l : List Int) : lchkU_t l = vcG Try.prog (Gof GUa) (fun _ => none) Try.f46 [.dat (.ints .i64 l)] [] (.leaf ((.v (.int .i64 (lchk l)))) ([])) := by kernel_rfl
def tabsU_t (l : List Int) : Prop :=
 (chk l = (0 : Int) →
 List.length l ≤ (4294967296 : Nat) ∧
 (∃ (x0 : Nat),
 Nat.le x0 (List.length l) ∧
 (↑(List.length (codL l)) : Int) = (↑(List.length (codL l)) : Int) ∧
 (0 : Int) = (↑x0 : Int) ∧ (∀ (q1 : List Int), mget [] q1 = mget (mC l x0) q1) ∧ (∀ (q2 : List Int), mget [] q2 = mget (mB l x0) q2) ∧ codL l = codL l) ∧
 ∀ (x3 : Nat),
 Nat.le x3 (List.length l) →
 (decide ((↑x3 : Int) < (↑(List.length (codL l)) : Int)) = true →
 (0 : Int) ≤ (↑x3 : Int) ∧
 (↑x3 : Int) < (↑(List.length (codL l)) : Int) ∧
 Int.toNat (↑x3 : Int) < List.length (codL l) ∧
 (decide (List.getD (List.getD (codL l) (Int.toNat (↑x3 : Int)) []) ((0 : Nat)) (0 : Int) > (0 : Int)) = true →
 ∃ (y4 : Nat),
 Nat.le y4 (List.length l) ∧
 Nat.sub (List.length l) y4 < Nat.sub (List.length l) x3 ∧
 (↑(List.length (codL l)) : Int) = (↑(List.length (codL l)) : Int) ∧
 IntKind.wrap IntKind.i64 ((↑x3 : Int) + (1 : Int)) = (↑y4 : Int) ∧
 (∀ (q5 : List Int),
 mget
 (([IntKind.wrap IntKind.u8 (↑x3 : Int)],
 [List.getD (List.getD (codL l) (Int.toNat (↑x3 : Int)) []) ((0 : Nat)) (0 : Int),
 List.getD (List.getD (codL l) (Int.toNat (↑x3 : Int)) []) ((1 : Nat)) (0 : Int)]) ::
 mC l x3)
 q5 =
 mget (mC l y4) q5) ∧
 (∀ (q6 : List Int),
 mget
 (([List.getD (List.getD (codL l) (Int.toNat (↑x3 : Int)) []) ((0 : Nat)) (0 : Int),
 List.getD (List.getD (codL l) (Int.toNat (↑x3 : Int)) []) ((1 : Nat)) (0 : Int)],
 [IntKind.wrap IntKind.u8 (↑x3 : Int)]) ::
 mB l x3)
 q6 =
 mget (mB l y4) q6) ∧
 codL l = codL l) ∧
 (decide (List.getD (List.getD (codL l) (Int.toNat (↑x3 : Int)) []) ((0 : Nat)) (0 : Int) > (0 : Int)) = false →
 ∃ (y7 : Nat),
 Nat.le y7 (List.length l) ∧
 Nat.sub (List.length l) y7 < Nat.sub (List.length l) x3 ∧
 (↑(List.length (codL l)) : Int) = (↑(List.length (codL l)) : Int) ∧
 IntKind.wrap IntKind.i64 ((↑x3 : Int) + (1 : Int)) = (↑y7 : Int) ∧
 (∀ (q8 : List Int), mget (mC l x3) q8 = mget (mC l y7) q8) ∧ (∀ (q9 : List Int), mget (mB l x3) q9 = mget (mB l y7) q9) ∧ codL l = codL l)) ∧
 (decide ((↑x3 : Int) < (↑(List.length (codL l)) : Int)) = false →
 (∀ (q10 : List Int), mget (mC l x3) q10 = mget (mC l (List.length l)) q10) ∧ ∀ (q11 : List Int), mget (mB l x3) q11 = mget (mB l (List.length l)) q11)) ∧
 (¬chk l = (0 : Int) →
 List.length l ≤ (4294967296 : Nat) ∧
 (∃ (x12 : Nat),
 Nat.le x12 (List.length l) ∧
 (0 : Int) = (↑(List.length (codL l)) : Int) ∧
 (0 : Int) = (↑x12 : Int) ∧ (∀ (q13 : List Int), mget [] q13 = mget (mC l x12) q13) ∧ (∀ (q14 : List Int), mget [] q14 = mget (mB l x12) q14) ∧ List.length (codL l) = (0 : Nat)) ∧
 ∀ (x15 : Nat),
 Nat.le x15 (List.length l) →
 (decide ((↑x15 : Int) < (↑(List.length (codL l)) : Int)) = true →
 (0 : Int) ≤ (↑x15 : Int) ∧
 (↑x15 : Int) < (↑(List.length (codL l)) : Int) ∧
 Int.toNat (↑x15 : Int) < List.length (codL l) ∧
 (decide (List.getD (List.getD (codL l) (Int.toNat (↑x15 : Int)) []) ((0 : Nat)) (0 : Int) > (0 : Int)) = true →
 ∃ (y16 : Nat),
 Nat.le y16 (List.length l) ∧
 Nat.sub (List.length l) y16 < Nat.sub (List.length l) x15 ∧
 (↑(List.length (codL l)) : Int) = (↑(List.length (codL l)) : Int) ∧
 IntKind.wrap IntKind.i64 ((↑x15 : Int) + (1 : Int)) = (↑y16 : Int) ∧
 (∀ (q17 : List Int),
 mget
 (([IntKind.wrap IntKind.u8 (↑x15 : Int)],
 [List.getD (List.getD (codL l) (Int.toNat (↑x15 : Int)) []) ((0 : Nat)) (0 : Int),
 List.getD (List.getD (codL l) (Int.toNat (↑x15 : Int)) []) ((1 : Nat)) (0 : Int)]) ::
 mC l x15)
 q17 =
 mget (mC l y16) q17) ∧
 (∀ (q18 : List Int),
 mget
 (([List.getD (List.getD (codL l) (Int.toNat (↑x15 : Int)) []) ((0 : Nat)) (0 : Int),
 List.getD (List.getD (codL l) (Int.toNat (↑x15 : Int)) []) ((1 : Nat)) (0 : Int)],
 [IntKind.wrap IntKind.u8 (↑x15 : Int)]) ::
 mB l x15)
 q18 =
 mget (mB l y16) q18) ∧
 codL l = codL l) ∧
 (decide (List.getD (List.getD (codL l) (Int.toNat (↑x15 : Int)) []) ((0 : Nat)) (0 : Int) > (0 : Int)) = false →
 ∃ (y19 : Nat),
 Nat.le y19 (List.length l) ∧
 Nat.sub (List.length l) y19 < Nat.sub (List.length l) x15 ∧
 (↑(List.length (codL l)) : Int) = (↑(List.length (codL l)) : Int) ∧
 IntKind.wrap IntKind.i64 ((↑x15 : Int) + (1 : Int)) = (↑y19 : Int) ∧
 (∀ (q20 : List Int), mget (mC l x15) q20 = mget (mC l y19) q20) ∧ (∀ (q21 : List Int), mget (mB l x15) q21 = mget (mB l y19) q21) ∧ codL l = codL l)) ∧
 (decide ((↑x15 : Int) < (↑(List.length (codL l)) : Int)) = false →
 (∀ (q22 : List Int), mget (mC l x15) q22 = mget (mC l (List.length l)) q22) ∧ ∀ (q23 : List Int), mget (mB l x15) q23 = mget (mB l (List.length l)) q23))
theorem tabsU_e (l : List Int) : tabsU_t l = vcG Try.prog (Gof GUa) (one (oTabs l)) Try.f48 [.dat (.ints .i64 l)] [] (.leaf ((.tu [.m 2000, .m 2001])) ([(2000, .mp (.one (.i .u8)) (.st [.i .i64, .i .i64]) (mC l l.length)), (2001, .mp (.st [.i .i64, .i .i64]) (.one (.i .u8)) (mB l l.length))])) := by kernel_rfl
def txU_t (l : List Int) (s : ByteArray) : Prop :=
 List.length l ≤ (4294967296 : Nat) ∧
 ((lchk l != (0 : Int)) = true → lchk l = txE l s) ∧
 ((lchk l != (0 : Int)) = false →
 (decide ((↑(ByteArray.size s) : Int) > (131072 : Int)) = true → (4 : Int) = txE l s) ∧
 (decide ((↑(ByteArray.size s) : Int) > (131072 : Int)) = false →
 ByteArray.size s ≤ (9223372036854775807 : Nat) ∧
 (∃ (x0 : Nat),
 (x0 ≤ ByteArray.size s ∧
 lchk l = (0 : Int) ∧ ByteArray.size s ≤ (131072 : Nat) ∧ List.any (List.take x0 (List.map (fun (b : UInt8) => (↑(UInt8.toNat b) : Int)) s.data.toList)) (noC l) = false) ∧
 l = l ∧
 (↑(List.length (List.map (fun (b : UInt8) => (↑(UInt8.toNat b) : Int)) s.data.toList)) : Int) =
 (↑(List.length (List.map (fun (b : UInt8) => (↑(UInt8.toNat b) : Int)) s.data.toList)) : Int) ∧
 (0 : Int) = (↑x0 : Int) ∧ List.map (fun (b : UInt8) => (↑(UInt8.toNat b) : Int)) s.data.toList = List.map (fun (b : UInt8) => (↑(UInt8.toNat b) : Int)) s.data.toList) ∧
 ∀ (x1 : Nat),
 x1 ≤ ByteArray.size s ∧
 lchk l = (0 : Int) ∧ ByteArray.size s ≤ (131072 : Nat) ∧ List.any (List.take x1 (List.map (fun (b : UInt8) => (↑(UInt8.toNat b) : Int)) s.data.toList)) (noC l) = false →
 (decide ((↑x1 : Int) < (↑(List.length (List.map (fun (b : UInt8) => (↑(UInt8.toNat b) : Int)) s.data.toList)) : Int)) = true →
 (0 : Int) ≤ (↑x1 : Int) ∧
 (↑x1 : Int) < (↑(List.length (List.map (fun (b : UInt8) => (↑(UInt8.toNat b) : Int)) s.data.toList)) : Int) ∧
 Int.toNat (↑x1 : Int) < List.length (List.map (fun (b : UInt8) => (↑(UInt8.toNat b) : Int)) s.data.toList) ∧
 (decide
 (IntKind.wrap IntKind.i64 (List.getD (List.map (fun (b : UInt8) => (↑(UInt8.toNat b) : Int)) s.data.toList) (Int.toNat (↑x1 : Int)) (0 : Int)) ≥
 (↑(List.length l) : Int)) =
 true →
 (7 : Int) = txE l s) ∧
 (decide
 (IntKind.wrap IntKind.i64 (List.getD (List.map (fun (b : UInt8) => (↑(UInt8.toNat b) : Int)) s.data.toList) (Int.toNat (↑x1 : Int)) (0 : Int)) ≥
 (↑(List.length l) : Int)) =
 false →
 (0 : Int) ≤ List.getD (List.map (fun (b : UInt8) => (↑(UInt8.toNat b) : Int)) s.data.toList) (Int.toNat (↑x1 : Int)) (0 : Int) ∧
 List.getD (List.map (fun (b : UInt8) => (↑(UInt8.toNat b) : Int)) s.data.toList) (Int.toNat (↑x1 : Int)) (0 : Int) < (↑(List.length l) : Int) ∧
 ((List.getD l (Int.toNat (List.getD (List.map (fun (b : UInt8) => (↑(UInt8.toNat b) : Int)) s.data.toList) (Int.toNat (↑x1 : Int)) (0 : Int))) (0 : Int) ==
 (0 : Int)) =
 true →
 (7 : Int) = txE l s) ∧
 ((List.getD l (Int.toNat (List.getD (List.map (fun (b : UInt8) => (↑(UInt8.toNat b) : Int)) s.data.toList) (Int.toNat (↑x1 : Int)) (0 : Int))) (0 : Int) ==
 (0 : Int)) =
 false →
 ∃ (y2 : Nat),
 (y2 ≤ ByteArray.size s ∧
 lchk l = (0 : Int) ∧
 ByteArray.size s ≤ (131072 : Nat) ∧ List.any (List.take y2 (List.map (fun (b : UInt8) => (↑(UInt8.toNat b) : Int)) s.data.toList)) (noC l) = false) ∧
 Nat.sub (ByteArray.size s) y2 < Nat.sub (ByteArray.size s) x1 ∧
 l = l ∧
 (↑(List.length (List.map (fun (b : UInt8) => (↑(UInt8.toNat b) : Int)) s.data.toList)) : Int) =
 (↑(List.length (List.map (fun (b : UInt8) => (↑(UInt8.toNat b) : Int)) s.data.toList)) : Int) ∧
 IntKind.wrap IntKind.i64 ((↑x1 : Int) + (1 : Int)) = (↑y2 : Int) ∧
 List.map (fun (b : UInt8) => (↑(UInt8.toNat b) : Int)) s.data.toList = List.map (fun (b : UInt8) => (↑(UInt8.toNat b) : Int)) s.data.toList))) ∧
 (decide ((↑x1 : Int) < (↑(List.length (List.map (fun (b : UInt8) => (↑(UInt8.toNat b) : Int)) s.data.toList)) : Int)) = false → (0 : Int) = txE l s)))
theorem txU_e (l : List Int) (s : ByteArray) : txU_t l s = vcG Try.prog (Gof GUb) (one (oTx l s)) Try.f37 [.dat (.ints .i64 l), .v (.string s)] [] (.leaf ((.v (.int .i64 (txE l s)))) ([])) := by kernel_rfl
def nuU_t (l : List Int) (n : Int) : Prop :=
 List.length l ≤ (4294967296 : Nat) ∧
 ((lchk l == (0 : Int)) = true →
 (decide (n < (0 : Int)) = true → (2 : Int) = nuE l n) ∧
 (decide (n < (0 : Int)) = false → (decide (n > (131072 : Int)) = true → (2 : Int) = nuE l n) ∧ (decide (n > (131072 : Int)) = false → lchk l = nuE l n))) ∧
 ((lchk l == (0 : Int)) = false → lchk l = nuE l n)
theorem nuU_e (l : List Int) (n : Int) : nuU_t l n = vcG Try.prog (Gof GUb) (fun _ => none) Try.f29 [.dat (.ints .i64 l), .v (.int .i64 n)] [] (.leaf ((.v (.int .i64 (nuE l n)))) ([])) := by kernel_rfl
def wrU_t (l : List Int) (s : ByteArray) : Prop :=
 chk l = (0 : Int) ∧
 ByteArray.size s ≤ (9223372036854775807 : Nat) ∧
 List.length (List.map (fun (b : UInt8) => (↑(UInt8.toNat b) : Int)) s.data.toList) ≤ (4294967296 : Nat) ∧
 ∃ (y0 : Nat),
 (ISatE Try.prog ((77 : Nat)) [SV.p (400016 : Nat) (0 : Nat) (0 : Nat)]
 [((400016 : Nat), SBlk.cells (46 : TypeId) [SV.o (400008 : Nat)]),
 ((400008 : Nat), SBlk.row (5 : TypeId) (Dat.ints IntKind.u8 (List.map (fun (b : UInt8) => (↑(UInt8.toNat b) : Int)) s.data.toList)))]
 (List.map
 (fun (k : Nat) =>
 [Value.int IntKind.i64 (↑(nthI (List.map (fun (b : UInt8) => (↑(UInt8.toNat b) : Int)) s.data.toList) k) : Int),
 Value.int IntKind.u8 (nthS (List.map (fun (b : UInt8) => (↑(UInt8.toNat b) : Int)) s.data.toList) k)])
 (List.range (List.length (List.map (fun (b : UInt8) => (↑(UInt8.toNat b) : Int)) s.data.toList))))
 fun (x : Nat) => []) ∧
 List.map (fun (b : UInt8) => (↑(UInt8.toNat b) : Int)) s.data.toList = List.map (fun (b : UInt8) => (↑(UInt8.toNat b) : Int)) s.data.toList ∧
 True ∧
 (ByteArray.empty = hwS l s (0 : Nat) ∧
 (0 : Int) = hwP l s (0 : Nat) ∧ (0 : Int) = hwN l s (0 : Nat) ∧ ∀ (q1 : List Int), mget (mC l (List.length l)) q1 = mget (mC l (List.length l)) q1) ∧
 (∀ (i2 : Nat),
 i2 <
 List.length
 (List.map
 (fun (k : Nat) =>
 [Value.int IntKind.i64 (↑(nthI (List.map (fun (b : UInt8) => (↑(UInt8.toNat b) : Int)) s.data.toList) k) : Int),
 Value.int IntKind.u8 (nthS (List.map (fun (b : UInt8) => (↑(UInt8.toNat b) : Int)) s.data.toList) k)])
 (List.range (List.length (List.map (fun (b : UInt8) => (↑(UInt8.toNat b) : Int)) s.data.toList)))) →
 True →
 (List.map
 (fun (k : Nat) =>
 [Value.int IntKind.i64 (↑(nthI (List.map (fun (b : UInt8) => (↑(UInt8.toNat b) : Int)) s.data.toList) k) : Int),
 Value.int IntKind.u8 (nthS (List.map (fun (b : UInt8) => (↑(UInt8.toNat b) : Int)) s.data.toList) k)])
 (List.range (List.length (List.map (fun (b : UInt8) => (↑(UInt8.toNat b) : Int)) s.data.toList))))[i2]? =
 some [Value.int IntKind.i64 (↑(nthI (List.map (fun (b : UInt8) => (↑(UInt8.toNat b) : Int)) s.data.toList) i2) : Int), Value.int IntKind.u8 (byK s i2)] ∧
 List.length [Value.int IntKind.i64 (↑(nthI (List.map (fun (b : UInt8) => (↑(UInt8.toNat b) : Int)) s.data.toList) i2) : Int), Value.int IntKind.u8 (byK s i2)] =
 List.length #[(20 : Nat), (21 : Nat)].toList ∧
 (0 : Int) ≤ hwN l s i2 ∧
 hwN l s i2 ≤ (7 : Int) ∧
 (0 : Int) ≤ hwP l s i2 ∧
 hwP l s i2 < (2 : Int) ^ Int.toNat (hwN l s i2) ∧
 (0 : Int) ≤ List.headD (mval ((2 : Nat)) (mC l (List.length l)) [byK s i2]) (0 : Int) ∧
 List.headD (mval ((2 : Nat)) (mC l (List.length l)) [byK s i2]) (0 : Int) ≤ (32 : Int) ∧
 (0 : Int) ≤ IntKind.wrap IntKind.u64 (List.headD (List.tail (mval ((2 : Nat)) (mC l (List.length l)) [byK s i2])) (0 : Int)) ∧
 IntKind.wrap IntKind.u64 (List.headD (List.tail (mval ((2 : Nat)) (mC l (List.length l)) [byK s i2])) (0 : Int)) <
 (2 : Int) ^ Int.toNat (List.headD (mval ((2 : Nat)) (mC l (List.length l)) [byK s i2]) (0 : Int)) ∧
 ByteArray.size (hwS l s i2) ≤ (1000000 : Nat) ∧
 True ∧
 wS (hwS l s i2) (hwP l s i2) (hwN l s i2) (List.headD (mval ((2 : Nat)) (mC l (List.length l)) [byK s i2]) (0 : Int))
 (IntKind.wrap IntKind.u64 (List.headD (List.tail (mval ((2 : Nat)) (mC l (List.length l)) [byK s i2])) (0 : Int))) =
 hwS l s (i2 + (1 : Nat)) ∧
 wP (hwP l s i2) (hwN l s i2) (List.headD (mval ((2 : Nat)) (mC l (List.length l)) [byK s i2]) (0 : Int))
 (IntKind.wrap IntKind.u64 (List.headD (List.tail (mval ((2 : Nat)) (mC l (List.length l)) [byK s i2])) (0 : Int))) =
 hwP l s (i2 + (1 : Nat)) ∧
 wN (hwN l s i2) (List.headD (mval ((2 : Nat)) (mC l (List.length l)) [byK s i2]) (0 : Int)) = hwN l s (i2 + (1 : Nat)) ∧
 ∀ (q3 : List Int), mget (mC l (List.length l)) q3 = mget (mC l (List.length l)) q3) ∧
 (True →
 (0 : Int) ≤
 hwN l s
 (List.length
 (List.map
 (fun (k : Nat) =>
 [Value.int IntKind.i64 (↑(nthI (List.map (fun (b : UInt8) => (↑(UInt8.toNat b) : Int)) s.data.toList) k) : Int),
 Value.int IntKind.u8 (nthS (List.map (fun (b : UInt8) => (↑(UInt8.toNat b) : Int)) s.data.toList) k)])
 (List.range (List.length (List.map (fun (b : UInt8) => (↑(UInt8.toNat b) : Int)) s.data.toList))))) ∧
 hwN l s
 (List.length
 (List.map
 (fun (k : Nat) =>
 [Value.int IntKind.i64 (↑(nthI (List.map (fun (b : UInt8) => (↑(UInt8.toNat b) : Int)) s.data.toList) k) : Int),
 Value.int IntKind.u8 (nthS (List.map (fun (b : UInt8) => (↑(UInt8.toNat b) : Int)) s.data.toList) k)])
 (List.range (List.length (List.map (fun (b : UInt8) => (↑(UInt8.toNat b) : Int)) s.data.toList))))) ≤
 (7 : Int) ∧
 (0 : Int) ≤
 hwP l s
 (List.length
 (List.map
 (fun (k : Nat) =>
 [Value.int IntKind.i64 (↑(nthI (List.map (fun (b : UInt8) => (↑(UInt8.toNat b) : Int)) s.data.toList) k) : Int),
 Value.int IntKind.u8 (nthS (List.map (fun (b : UInt8) => (↑(UInt8.toNat b) : Int)) s.data.toList) k)])
 (List.range (List.length (List.map (fun (b : UInt8) => (↑(UInt8.toNat b) : Int)) s.data.toList))))) ∧
 hwP l s
 (List.length
 (List.map
 (fun (k : Nat) =>
 [Value.int IntKind.i64 (↑(nthI (List.map (fun (b : UInt8) => (↑(UInt8.toNat b) : Int)) s.data.toList) k) : Int),
 Value.int IntKind.u8 (nthS (List.map (fun (b : UInt8) => (↑(UInt8.toNat b) : Int)) s.data.toList) k)])
 (List.range (List.length (List.map (fun (b : UInt8) => (↑(UInt8.toNat b) : Int)) s.data.toList))))) <
 (2 : Int) ^
 Int.toNat
 (hwN l s
 (List.length
 (List.map
 (fun (k : Nat) =>
 [Value.int IntKind.i64 (↑(nthI (List.map (fun (b : UInt8) => (↑(UInt8.toNat b) : Int)) s.data.toList) k) : Int),
 Value.int IntKind.u8 (nthS (List.map (fun (b : UInt8) => (↑(UInt8.toNat b) : Int)) s.data.toList) k)])
 (List.range (List.length (List.map (fun (b : UInt8) => (↑(UInt8.toNat b) : Int)) s.data.toList)))))) ∧
 ByteArray.size
 (hwS l s
 (List.length
 (List.map
 (fun (k : Nat) =>
 [Value.int IntKind.i64 (↑(nthI (List.map (fun (b : UInt8) => (↑(UInt8.toNat b) : Int)) s.data.toList) k) : Int),
 Value.int IntKind.u8 (nthS (List.map (fun (b : UInt8) => (↑(UInt8.toNat b) : Int)) s.data.toList) k)])
 (List.range (List.length (List.map (fun (b : UInt8) => (↑(UInt8.toNat b) : Int)) s.data.toList)))))) ≤
 (1000000 : Nat) ∧
 dS
 (hwS l s
 (List.length
 (List.map
 (fun (k : Nat) =>
 [Value.int IntKind.i64 (↑(nthI (List.map (fun (b : UInt8) => (↑(UInt8.toNat b) : Int)) s.data.toList) k) : Int),
 Value.int IntKind.u8 (nthS (List.map (fun (b : UInt8) => (↑(UInt8.toNat b) : Int)) s.data.toList) k)])
 (List.range (List.length (List.map (fun (b : UInt8) => (↑(UInt8.toNat b) : Int)) s.data.toList))))))
 (hwP l s
 (List.length
 (List.map
 (fun (k : Nat) =>
 [Value.int IntKind.i64 (↑(nthI (List.map (fun (b : UInt8) => (↑(UInt8.toNat b) : Int)) s.data.toList) k) : Int),
 Value.int IntKind.u8 (nthS (List.map (fun (b : UInt8) => (↑(UInt8.toNat b) : Int)) s.data.toList) k)])
 (List.range (List.length (List.map (fun (b : UInt8) => (↑(UInt8.toNat b) : Int)) s.data.toList))))))
 (hwN l s
 (List.length
 (List.map
 (fun (k : Nat) =>
 [Value.int IntKind.i64 (↑(nthI (List.map (fun (b : UInt8) => (↑(UInt8.toNat b) : Int)) s.data.toList) k) : Int),
 Value.int IntKind.u8 (nthS (List.map (fun (b : UInt8) => (↑(UInt8.toNat b) : Int)) s.data.toList) k)])
 (List.range (List.length (List.map (fun (b : UInt8) => (↑(UInt8.toNat b) : Int)) s.data.toList)))))) =
 wrH l s)
theorem wrU_e (l : List Int) (s : ByteArray) : wrU_t l s = vcG Try.prog (Gof GUb) (oWrH l s) Try.f38 [.dat (.ints .i64 l), .v (.string s)] [] (.leaf ((.v (.string (wrH l s)))) ([])) := by kernel_rfl
def rdU_t (l : List Int) (s : ByteArray) (n : Int) : Prop :=
 ByteArray.size s ≤ (4294967296 : Nat) ∧
 ((bkE s != (0 : Int)) = true → ByteArray.empty = rdS l s n ∧ (22 : Int) = rdE l s n) ∧
 ((bkE s != (0 : Int)) = false →
 chk l = (0 : Int) ∧
 (0 : Int) ≤ (0 : Int) ∧
 (0 : Int) ≤ n ∧
 (↑((1 : Nat)) : Int) * n ≤ (281474976710656 : Int) ∧
 n ≤ (9223372036854775807 : Int) ∧
 (∃ (x0 : RdS),
 RdP l s n x0 ∧
 n = n ∧
 bkS s = s ∧
 bkR s = (↑x0.L : Int) ∧
 (∀ (q1 : List Int), mget (mB l (List.length l)) q1 = mget (mB l (List.length l)) q1) ∧
 List.replicate (Int.toNat (0 : Int)) (0 : Int) = x0.out ∧ (0 : Int) = x0.b ∧ (0 : Int) = x0.v) ∧
 ∀ (x2 : RdS),
 RdP l s n x2 →
 (decide ((↑(List.length x2.out) : Int) < n) = true →
 ByteArray.size s ≤ (4294967296 : Nat) ∧
 ((tkE s (↑x2.L : Int) (1 : Int) != (0 : Int)) = true → ByteArray.empty = rdS l s n ∧ (22 : Int) = rdE l s n) ∧
 ((tkE s (↑x2.L : Int) (1 : Int) != (0 : Int)) = false →
 (0 : Int) ≤ (1 : Int) ∧
 ((!mhas (mB l (List.length l))
 [IntKind.wrap IntKind.i64 (x2.b + (1 : Int)),
 bits BinOp.or IntKind.i64 (IntKind.wrap IntKind.i64 (x2.v * (2 : Int) ^ min (Int.toNat (1 : Int)) (IntKind.bits IntKind.i64)))
 (IntKind.wrap IntKind.i64 (tkV s (↑x2.L : Int) (1 : Int)))]) =
 true →
 ∃ (y3 : RdS),
 RdP l s n y3 ∧
 y3.1 < x2.1 ∧
 n = n ∧
 tkS s (↑x2.L : Int) (1 : Int) = s ∧
 tkL s (↑x2.L : Int) (1 : Int) = (↑y3.L : Int) ∧
 (∀ (q4 : List Int), mget (mB l (List.length l)) q4 = mget (mB l (List.length l)) q4) ∧
 x2.out = y3.out ∧
 IntKind.wrap IntKind.i64 (x2.b + (1 : Int)) = y3.b ∧
 bits BinOp.or IntKind.i64 (IntKind.wrap IntKind.i64 (x2.v * (2 : Int) ^ min (Int.toNat (1 : Int)) (IntKind.bits IntKind.i64)))
 (IntKind.wrap IntKind.i64 (tkV s (↑x2.L : Int) (1 : Int))) =
 y3.v) ∧
 ((!mhas (mB l (List.length l))
 [IntKind.wrap IntKind.i64 (x2.b + (1 : Int)),
 bits BinOp.or IntKind.i64 (IntKind.wrap IntKind.i64 (x2.v * (2 : Int) ^ min (Int.toNat (1 : Int)) (IntKind.bits IntKind.i64)))
 (IntKind.wrap IntKind.i64 (tkV s (↑x2.L : Int) (1 : Int)))]) =
 false →
 (List.length x2.out + (1 : Nat)) * (1 : Nat) ≤ (140737488355328 : Nat) ∧
 ∃ (y5 : RdS),
 RdP l s n y5 ∧
 y5.1 < x2.1 ∧
 n = n ∧
 tkS s (↑x2.L : Int) (1 : Int) = s ∧
 tkL s (↑x2.L : Int) (1 : Int) = (↑y5.L : Int) ∧
 (∀ (q6 : List Int), mget (mB l (List.length l)) q6 = mget (mB l (List.length l)) q6) ∧
 x2.out ++
 [List.headD
 (mval ((1 : Nat)) (mB l (List.length l))
 [IntKind.wrap IntKind.i64 (x2.b + (1 : Int)),
 bits BinOp.or IntKind.i64 (IntKind.wrap IntKind.i64 (x2.v * (2 : Int) ^ min (Int.toNat (1 : Int)) (IntKind.bits IntKind.i64)))
 (IntKind.wrap IntKind.i64 (tkV s (↑x2.L : Int) (1 : Int)))])
 (0 : Int)] =
 y5.out ∧
 (0 : Int) = y5.b ∧ (0 : Int) = y5.v))) ∧
 (decide ((↑(List.length x2.out) : Int) < n) = false →
 (decide ((↑x2.L : Int) > (0 : Int)) = true → ByteArray.empty = rdS l s n ∧ (22 : Int) = rdE l s n) ∧
 (decide ((↑x2.L : Int) > (0 : Int)) = false → strOfNums x2.out = rdS l s n ∧ (0 : Int) = rdE l s n)))
theorem rdU_e (l : List Int) (s : ByteArray) (n : Int) : rdU_t l s n = vcG Try.prog (Gof GUb) (one (oRdH l s n)) Try.f30 [.dat (.ints .i64 l), .v (.string s), .v (.int .i64 n)] [] (.leaf ((.tu [.v (.string (rdS l s n)), .v (.int .i64 (rdE l s n))])) ([])) := by kernel_rfl
def bkuI_t (xs : List Int) (l0 : Nat) : Prop :=
 ∃ (g0 : Unit),
 ∃ (x1 : Nat),
 Nat.le x1 (List.length xs) ∧
 ((0 : Nat), true) = (x1, true) ∧
 (Value.func (Fn.yield l0) #[] #[] = Value.func (Fn.yield l0) #[] #[] ∧
 IntKind.wrap IntKind.i64 ((↑(List.length xs) : Int) - (1 : Int)) = (↑(List.length xs) : Int) - (1 : Int) - (↑x1 : Int) ∧ xs = xs) ∧
 ∀ (x2 : Nat),
 Nat.le x2 (List.length xs) →
 (decide ((↑(List.length xs) : Int) - (1 : Int) - (↑x2 : Int) ≥ (0 : Int)) = true →
 (0 : Int) ≤ (↑(List.length xs) : Int) - (1 : Int) - (↑x2 : Int) ∧
 (↑(List.length xs) : Int) - (1 : Int) - (↑x2 : Int) < (↑(List.length xs) : Int) ∧
 Int.toNat ((↑(List.length xs) : Int) - (1 : Int) - (↑x2 : Int)) < List.length xs ∧
 l0 = l0 ∧
 (itBkU xs)[x2]? =
 some
 [Value.int IntKind.i64 ((↑(List.length xs) : Int) - (1 : Int) - (↑x2 : Int)),
 Value.int IntKind.u8 (List.getD xs (Int.toNat ((↑(List.length xs) : Int) - (1 : Int) - (↑x2 : Int))) (0 : Int))] ∧
 (∃ (y3 : Nat),
 Nat.le y3 (List.length xs) ∧
 (x2 + (1 : Nat), true) = (y3, true) ∧
 Nat.sub (List.length xs) y3 < Nat.sub (List.length xs) x2 ∧
 Value.func (Fn.yield l0) #[] #[] = Value.func (Fn.yield l0) #[] #[] ∧
 IntKind.wrap IntKind.i64 ((↑(List.length xs) : Int) - (1 : Int) - (↑x2 : Int) - (1 : Int)) = (↑(List.length xs) : Int) - (1 : Int) - (↑y3 : Int) ∧ xs = xs) ∧
 True) ∧
 (decide ((↑(List.length xs) : Int) - (1 : Int) - (↑x2 : Int) ≥ (0 : Int)) = false → x2 = List.length (itBkU xs))
theorem bkuI_e (xs : List Int) (l0 : Nat) : bkuI_t xs l0 = vcFI Try.prog (Gof []) l0 (itBkU xs) (oBkuF l0 xs) Try.f77 [.p 0 0 0] [(0, .cells 46 [.o 1]), (1, .row 5 (.ints .u8 xs))]  := by kernel_rfl
end Go.Proofs.Ytmdbliacaeokaaa
namespace Go.Proofs.Ytmdbliacaeokaaa
open Go Go.RowKit
set_option linter.unusedVariables false
def kI (l : List Int) (i : Nat) : Nat := ((symI l i).getD 0 0).toNat
def bI (l : List Int) (i : Nat) : Int := l.getD (kI l i) 0
def aI (l : List Int) (i : Nat) : Nat := (atF (gmx l) (ordS l) i).toNat
def wI (l : List Int) (i : Nat) : Nat := wid (gmx l) (symI l i)
end Go.Proofs.Ytmdbliacaeokaaa
namespace Go.Proofs.Ytmdbliacaeokaaa
open Go Go.RowKit
set_option linter.unusedVariables false
set_option linter.unusedSimpArgs false
set_option maxRecDepth 100000
theorem sum_perm {a b : List Int} (h : a.Perm b) : a.sum = b.sum := by
  induction h with
  | nil => rfl
  | cons x _ ih => simp [ih]
  | swap x y l => simp only [List.sum_cons]; omega
  | trans _ _ h1 h2 => rw [h1, h2]
theorem getD_e {α : Type} {l : List α} {i : Nat} (d : α) (h : i < l.length) : l.getD i d = l[i] := by rw [List.getD_eq_getElem?_getD, List.getElem?_eq_getElem h]; rfl
theorem bestI_lt {xs : List Nd} (h : 0 < xs.length) : ∀ i, i ≤ xs.length → bestI xs i < xs.length
  | 0, _ => h
  | i + 1, hi => by
    unfold bestI
    have := bestI_lt h i (by omega)
    cases befN (xs.getD i []) (xs.getD (bestI xs i) []) <;> simp only [cond_true, cond_false] <;> omega
theorem bef_le {x y : Nd} : (befN x y = true → ndC x ≤ ndC y) ∧ (befN x y = false → ndC y ≤ ndC x) := by
  unfold befN befB
  by_cases h : ndC x = ndC y
  · exact ⟨fun _ => by omega, fun _ => by omega⟩
  · have : (ndC x != ndC y) = true := by simpa using h
    rw [this]
    simp only [cond_true, decide_eq_true_eq, decide_eq_false_iff_not]
    exact ⟨fun _ => by omega, fun _ => by omega⟩
theorem best_min {xs : List Nd} : ∀ i, ∀ k, k < i → ndC (xs.getD (bestI xs i) []) ≤ ndC (xs.getD k [])
  | 0, k, h => by omega
  | i + 1, k, h => by
    unfold bestI
    cases hb : befN (xs.getD i []) (xs.getD (bestI xs i) [])
    · simp only [cond_false]
      by_cases hk : k < i
      · exact best_min i k hk
      · have : k = i := by omega
        subst this
        exact bef_le.2 hb
    · simp only [cond_true]
      by_cases hk : k < i
      · exact Int.le_trans (bef_le.1 hb) (best_min i k hk)
      · have : k = i := by omega
        subst this
        exact Int.le_refl _
theorem bestX_lt {xs : List Nd} (h : 0 < xs.length) : bestX xs < xs.length := bestI_lt h _ (Nat.le_refl _)
theorem top_min {xs : List Nd} : ∀ x ∈ xs, ndC (topX xs) ≤ ndC x := by
  intro x hx
  obtain ⟨k, hk, rfl⟩ := List.mem_iff_getElem.1 hx
  rw [← getD_e [] hk]
  exact best_min _ k hk
theorem rest_perm {xs : List Nd} (h : 0 < xs.length) : xs.Perm (topX xs :: restX xs) := by
  have hb := bestX_lt h
  have e : xs = xs.take (bestX xs) ++ (topX xs :: xs.drop (bestX xs + 1)) := by
    unfold topX
    rw [getD_e [] hb, ← List.drop_eq_getElem_cons hb, List.take_append_drop]
  unfold restX
  conv => lhs; rw [e]
  exact List.perm_middle
theorem rest_len {xs : List Nd} (h : 0 < xs.length) : (restX xs).length + 1 = xs.length := by
  have := (rest_perm h).length_eq
  simp only [List.length_cons] at this
  omega
theorem inc_len (ss : List Int) : ∀ out, (incAll out ss).length = out.length := by
  induction ss with
  | nil => intro out; rfl
  | cons s r ih => intro out; unfold incAll at ih ⊢; rw [List.foldl_cons, ih, List.length_set]
theorem inc_snoc (out ss : List Int) (s : Int) : incAll out (ss ++ [s]) = (incAll out ss).set s.toNat ((incAll out ss).getD s.toNat 0 + 1) := by
  simp [incAll, List.foldl_append]
theorem inc_get {n : Nat} (ss : List Int) : (∀ s ∈ ss, 0 ≤ s ∧ s < n) → ∀ out : List Int, out.length = n → ∀ k : Nat, k < n → (incAll out ss).getD k 0 = out.getD k 0 + (ss.count (k : Int) : Nat) := by
  induction ss with
  | nil => intro _ out _ k _; simp [incAll]
  | cons s r ih =>
    intro h out hl k hk
    have hs := h s (by simp)
    have : incAll out (s :: r) = incAll (out.set s.toNat (out.getD s.toNat 0 + 1)) r := rfl
    rw [this, ih (fun x hx => h x (by simp [hx])) _ (by rw [List.length_set]; exact hl) k hk, getD_set_i, List.count_cons]
    by_cases e : s.toNat = k
    · have e2 : s = (k : Int) := by omega
      subst e2
      rw [if_pos ⟨e, by omega⟩]
      simp only [toNat_cast, beq_self_eq_true, if_true]
      push_cast
      omega
    · have e2 : (s == (k : Int)) = false := by simp; omega
      rw [if_neg (fun h => e h.1), e2]
      simp
def mkLeaf (r : List Int) : Nd := nd (r.getD 1 0) 1 (r.getD 0 0) [r.getD 0 0]
theorem leavesG_eq (l : List Int) : ∀ i, leavesG i l = (symsF i l).map mkLeaf := by
  induction l with
  | nil => intro i; rfl
  | cons x r ih =>
    intro i
    unfold leavesG symsF
    cases decide (0 < x)
    · exact ih _
    · simp only [cond_true, List.map_cons, ih]; rfl
theorem leaves_eq (l : List Int) : leaves l = (syms l).map mkLeaf := leavesG_eq l 0
theorem leaves_len (l : List Int) : (leaves l).length = (syms l).length := by rw [leaves_eq, List.length_map]
theorem leaves_take {l : List Int} {i : Nat} (h : i < l.length) : leaves (l.take (i + 1)) = leaves (l.take i) ++ cond (decide (0 < l.getD i 0)) [[[l.getD i 0], [1], [(i : Int)], [(i : Int)]]] [] := by
  rw [leaves_eq, leaves_eq, syms_take h, List.map_append]
  cases decide (0 < l.getD i 0) <;> rfl
def posL (l : List Int) : List Int := (syms l).map fun r => r.getD 0 0
theorem posL_leaves (l : List Int) : (leaves l).flatMap ndS = posL l := by
  rw [leaves_eq]
  unfold posL
  induction syms l with
  | nil => rfl
  | cons r t ih => rw [List.map_cons, List.flatMap_cons, ih]; rfl
theorem posL_nodup (l : List Int) : (posL l).Nodup := by
  unfold posL
  have := symsF_sorted l 0
  rw [List.Nodup, List.pairwise_map]
  exact this.imp (fun h => by omega)
theorem posL_rng {l : List Int} {s : Int} (h : s ∈ posL l) : 0 ≤ s ∧ s < l.length ∧ 0 < l.getD s.toNat 0 := by
  unfold posL at h
  obtain ⟨r, hr, rfl⟩ := List.mem_map.1 h
  obtain ⟨k, h1, rfl, h3⟩ := syms_mem hr
  simp only [List.getD_cons_zero, toNat_cast]
  exact ⟨by omega, by omega, h3⟩
theorem posF_cong : ∀ (a b : List Int) (i : Int), a.length = b.length → (∀ k, k < a.length → (0 < a.getD k 0 ↔ 0 < b.getD k 0)) → (symsF i a).map (fun r => r.getD 0 0) = (symsF i b).map fun r => r.getD 0 0
  | [], [], i, _, _ => rfl
  | [], y :: b, i, h, _ => by simp at h
  | x :: a, [], i, h, _ => by simp at h
  | x :: a, y :: b, i, h, hp => by
    have h0 := hp 0 (by simp)
    simp only [List.getD_cons_zero] at h0
    have ih := posF_cong a b (i + 1) (by simpa using h) (fun k hk => by simpa using hp (k + 1) (by simpa using hk))
    unfold symsF
    by_cases hx : 0 < x
    · rw [decide_eq_true hx, decide_eq_true (h0.1 hx)]
      simp only [cond_true, List.map_cons, ih]
      rfl
    · rw [decide_eq_false hx, decide_eq_false (fun h => hx (h0.2 h))]
      exact ih
theorem posL_cong {a b : List Int} (h : a.length = b.length) (hp : ∀ k, k < a.length → (0 < a.getD k 0 ↔ 0 < b.getD k 0)) : posL a = posL b := posF_cong a b 0 h hp
theorem posL_len (l : List Int) : (posL l).length = (leaves l).length := by rw [leaves_len]; simp [posL]
def kraft (out ss : List Int) : Nat := (ss.map fun s => 2 ^ (256 - (out.getD s.toNat 0).toNat)).sum
theorem kraft_app (out a b : List Int) : kraft out (a ++ b) = kraft out a + kraft out b := by simp [kraft]
theorem kraft_cong {out out' : List Int} {ss : List Int} (h : ∀ s ∈ ss, out'.getD s.toNat 0 = out.getD s.toNat 0) : kraft out' ss = kraft out ss := by
  unfold kraft
  rw [List.map_congr_left fun s hs => by rw [h s hs]]
theorem kraft_inc {out out' : List Int} : ∀ {ss : List Int}, (∀ s ∈ ss, 0 ≤ out.getD s.toNat 0 ∧ out.getD s.toNat 0 ≤ 255 ∧ out'.getD s.toNat 0 = out.getD s.toNat 0 + 1) → 2 * kraft out' ss = kraft out ss
  | [], _ => rfl
  | s :: r, h => by
    have ih := kraft_inc (fun x hx => h x (List.mem_cons_of_mem _ hx) : ∀ x ∈ r, _)
    obtain ⟨h0, h1, h2⟩ := h s (by simp)
    unfold kraft at ih ⊢
    simp only [List.map_cons, List.sum_cons, Nat.mul_add, ih, h2]
    congr 1
    have e : 256 - (out.getD s.toNat 0).toNat = (256 - (out.getD s.toNat 0 + 1).toNat) + 1 := by omega
    rw [e, Nat.pow_succ, Nat.mul_comm]
structure HInv (l : List Int) (j : Nat) (out : List Int) (xs : List Nd) : Prop where
  len : out.length = l.length
  xl : xs.length + j = (leaves l).length
  perm : (xs.flatMap ndS).Perm (posL l)
  zero : ∀ k, k < l.length → (k : Int) ∉ posL l → out.getD k 0 = 0
  bd : ∀ k, k < l.length → 0 ≤ out.getD k 0 ∧ out.getD k 0 ≤ j
  kr : ∀ x ∈ xs, kraft out (ndS x) = 2 ^ 256
  cnt : ∀ x ∈ xs, 1 ≤ ndC x
  tot : (xs.map ndC).sum = sumL l
structure OInv (out : List Int) (xs : List Nd) : Prop where
  ord : ∀ x ∈ xs, ∀ y ∈ xs, ndC x ≤ 2 * ndC y
  hgt : ∀ x ∈ xs, ∀ s ∈ ndS x, 3 ^ (out.getD s.toNat 0).toNat ≤ 2 ^ (out.getD s.toNat 0).toNat * (ndC x).toNat
theorem leaf_mem {l : List Int} {x : Nd} (h : x ∈ leaves l) : ∃ k : Nat, k < l.length ∧ x = [[l.getD k 0], [1], [(k : Int)], [(k : Int)]] ∧ 0 < l.getD k 0 := by
  rw [leaves_eq] at h
  obtain ⟨r, hr, rfl⟩ := List.mem_map.1 h
  obtain ⟨k, h1, rfl, h3⟩ := syms_mem hr
  exact ⟨k, h1, rfl, h3⟩
theorem leaves_sum {l : List Int} (h : ∀ x ∈ l, 0 ≤ x) : ((leaves l).map ndC).sum = sumL l := by
  rw [leaves_eq, List.map_map]
  unfold sumL syms
  have : ∀ (l : List Int) (i : Int), (∀ x ∈ l, 0 ≤ x) → ((symsF i l).map (ndC ∘ mkLeaf)).sum = l.sum := by
    intro l
    induction l with
    | nil => intro i _; rfl
    | cons x r ih =>
      intro i h
      have hx := h x (by simp)
      have ih := ih (i + 1) (fun y hy => h y (by simp [hy]))
      unfold symsF
      by_cases h0 : 0 < x
      · rw [decide_eq_true h0]
        simp only [cond_true, List.map_cons, List.sum_cons, ih]
        rfl
      · rw [decide_eq_false h0]
        simp only [cond_false, List.sum_cons, ih]
        omega
  exact this l 0 h
theorem hinv0 {l : List Int} (h : ∀ x ∈ l, 0 ≤ x) : HInv l 0 (runD l 0).1 (runD l 0).2 where
  len := List.length_replicate
  xl := rfl
  perm := by rw [show (runD l 0).2 = leaves l from rfl, posL_leaves]
  zero := fun k hk _ => by simp [runD, List.getD, List.getElem?_replicate, hk]
  bd := fun k hk => by simp [runD, List.getD, List.getElem?_replicate, hk]
  kr := fun x hx => by
    obtain ⟨k, h1, rfl, h3⟩ := leaf_mem hx
    simp [kraft, ndS, runD, List.getD, List.getElem?_replicate, h1]
  cnt := fun x hx => by
    obtain ⟨k, h1, rfl, h3⟩ := leaf_mem hx
    show 1 ≤ l.getD k 0
    omega
  tot := leaves_sum h
theorem oinv0 {l : List Int} (h : ∀ x ∈ l, x ≤ 1) : OInv (runD l 0).1 (runD l 0).2 where
  ord := fun x hx y hy => by
    obtain ⟨k, h1, rfl, h3⟩ := leaf_mem hx
    obtain ⟨k', h1', rfl, h3'⟩ := leaf_mem hy
    have := h _ (getD_mem' h1)
    have := h _ (getD_mem' h1')
    simp only [ndC, List.getD_cons_zero]
    omega
  hgt := fun x hx s hs => by
    obtain ⟨k, h1, rfl, h3⟩ := leaf_mem hx
    have : s = k := by simpa [ndS] using hs
    subst this
    have e : (runD l 0).1.getD (k : Int).toNat 0 = 0 := by simp [runD, List.getD, List.getElem?_replicate, h1]
    rw [e]
    simp only [ndC, List.getD_cons_zero]
    show 1 ≤ 1 * _
    omega
theorem mrg_S (xs : List Nd) (j : Nat) : ndS (mrgX xs j) = ndS (topX xs) ++ ndS (topX (restX xs)) := rfl
theorem mrg_C (xs : List Nd) (j : Nat) : ndC (mrgX xs j) = ndC (topX xs) + ndC (topX (restX xs)) := rfl
structure Split (l : List Int) (xs : List Nd) : Prop where
  p : xs.Perm (topX xs :: topX (restX xs) :: restX (restX xs))
  nd1 : (ndS (topX xs) ++ ndS (topX (restX xs))).Nodup
  q : ∀ q ∈ restX (restX xs), ∀ s ∈ ndS q, s ∉ ndS (topX xs) ++ ndS (topX (restX xs))
  rng : ∀ x ∈ xs, ∀ s ∈ ndS x, s ∈ posL l
theorem HInv.split {l : List Int} {j : Nat} {out : List Int} {xs : List Nd} (h : HInv l j out xs) (h2 : 2 ≤ xs.length) : Split l xs := by
  have p1 := rest_perm (xs := xs) (by omega)
  have r1 := rest_len (xs := xs) (by omega)
  have p2 := rest_perm (xs := restX xs) (by omega)
  have p : xs.Perm (topX xs :: topX (restX xs) :: restX (restX xs)) := p1.trans (p2.cons _)
  have hn : ((topX xs :: topX (restX xs) :: restX (restX xs)).flatMap ndS).Nodup := ((p.flatMap_right ndS).symm.trans h.perm).symm.nodup (posL_nodup l)
  rw [List.flatMap_cons, List.flatMap_cons, ← List.append_assoc, List.nodup_append] at hn
  refine ⟨p, hn.1, fun q hq s hs hm => ?_, fun x hx s hs => ?_⟩
  · exact hn.2.2 s hm s (List.mem_flatMap.2 ⟨q, hq, hs⟩) rfl
  · exact h.perm.mem_iff.1 (List.mem_flatMap.2 ⟨x, hx, hs⟩)
theorem HInv.get {l : List Int} {j : Nat} {out : List Int} {xs : List Nd} (h : HInv l j out xs) (h2 : 2 ≤ xs.length) : ∀ k, k < l.length →
    (incAll out (ndS (mrgX xs j))).getD k 0 = out.getD k 0 + (if (k : Int) ∈ ndS (topX xs) ++ ndS (topX (restX xs)) then 1 else 0) := by
  intro k hk
  have sp := h.split h2
  have hx : topX xs ∈ xs := sp.p.mem_iff.2 (by simp)
  have hy : topX (restX xs) ∈ xs := sp.p.mem_iff.2 (by simp)
  rw [mrg_S, inc_get (n := l.length) _ (fun s hs => ?_) _ h.len k hk, List.Nodup.count sp.nd1]
  · split <;> rfl
  · rw [List.mem_append] at hs
    have := posL_rng (hs.elim (sp.rng _ hx s) (sp.rng _ hy s))
    exact ⟨this.1, this.2.1⟩
theorem hinvS {l : List Int} {j : Nat} {out : List Int} {xs : List Nd} (hm : (leaves l).length ≤ 256) (h : HInv l j out xs) (h2 : 2 ≤ xs.length) : HInv l (j + 1) (stepD (out, xs) j).1 (stepD (out, xs) j).2 := by
  have sp := h.split h2
  have hg := h.get h2
  have hx : topX xs ∈ xs := sp.p.mem_iff.2 (by simp)
  have hy : topX (restX xs) ∈ xs := sp.p.mem_iff.2 (by simp)
  have hxl := h.xl
  have r1 := rest_len (xs := xs) (by omega)
  have r2 := rest_len (xs := restX xs) (by omega)
  have cs : ∀ s ∈ ndS (topX xs) ++ ndS (topX (restX xs)), s ∈ posL l := by
    intro s hs
    rw [List.mem_append] at hs
    exact hs.elim (sp.rng _ hx s) (sp.rng _ hy s)
  have up : ∀ s ∈ ndS (topX xs) ++ ndS (topX (restX xs)), 0 ≤ out.getD s.toNat 0 ∧ out.getD s.toNat 0 ≤ 255 ∧ (incAll out (ndS (mrgX xs j))).getD s.toNat 0 = out.getD s.toNat 0 + 1 := by
    intro s hs
    have hr := posL_rng (cs s hs)
    have e : ((s.toNat : Nat) : Int) = s := by omega
    have hb := h.bd s.toNat (by omega)
    refine ⟨hb.1, by omega, ?_⟩
    rw [hg s.toNat (by omega), e, if_pos hs]
  refine ⟨?_, ?_, ?_, ?_, ?_, ?_, ?_, ?_⟩
  · simp only [stepD]; rw [inc_len]; exact h.len
  · simp only [stepD, List.length_append, List.length_singleton]; omega
  · simp only [stepD, List.flatMap_append, List.flatMap_cons, List.flatMap_nil, List.append_nil]
    refine List.Perm.trans ?_ ((sp.p.flatMap_right ndS).symm.trans h.perm)
    rw [mrg_S, List.flatMap_cons, List.flatMap_cons]
    exact List.perm_append_comm.trans (List.Perm.of_eq (List.append_assoc ..))
  · intro k hk hn
    simp only [stepD]
    rw [hg k hk, h.zero k hk hn, if_neg (fun hm => hn (cs _ hm))]
    rfl
  · intro k hk
    have := h.bd k hk
    simp only [stepD]
    rw [hg k hk]
    split <;> omega
  · intro z hz
    simp only [stepD, List.mem_append, List.mem_singleton] at hz
    rcases hz with hz | rfl
    · have hzx : z ∈ xs := sp.p.mem_iff.2 (by simp [hz])
      rw [← h.kr z hzx]
      refine kraft_cong fun s hs => ?_
      have hr := posL_rng (sp.rng z hzx s hs)
      have e : ((s.toNat : Nat) : Int) = s := by omega
      simp only [stepD]
      rw [hg s.toNat (by omega), e, if_neg (sp.q z hz s hs)]
      omega
    · have k1 := kraft_inc up
      rw [kraft_app out, h.kr _ hx, h.kr _ hy] at k1
      show kraft (incAll out (ndS (mrgX xs j))) (ndS (topX xs) ++ ndS (topX (restX xs))) = 2 ^ 256
      omega
  · intro z hz
    simp only [stepD, List.mem_append, List.mem_singleton] at hz
    rcases hz with hz | rfl
    · exact h.cnt z (sp.p.mem_iff.2 (by simp [hz]))
    · have := h.cnt _ hx
      have := h.cnt _ hy
      rw [mrg_C]; omega
  · have := sum_perm (sp.p.map ndC)
    simp only [List.map_cons, List.sum_cons] at this
    simp only [stepD, List.map_append, List.map_cons, List.map_nil, List.sum_append_int, List.sum_cons, List.sum_nil]
    rw [mrg_C, ← h.tot]
    omega
theorem oinvS {l : List Int} {j : Nat} {out : List Int} {xs : List Nd} (h : HInv l j out xs) (h2 : 2 ≤ xs.length) (o : OInv out xs) : OInv (stepD (out, xs) j).1 (stepD (out, xs) j).2 := by
  have sp := h.split h2
  have hg := h.get h2
  have hx : topX xs ∈ xs := sp.p.mem_iff.2 (by simp)
  have hy : topX (restX xs) ∈ xs := sp.p.mem_iff.2 (by simp)
  have cx := h.cnt _ hx
  have cy := h.cnt _ hy
  have xy := top_min (xs := xs) _ hy
  have yx := o.ord _ hy _ hx
  have r1 := rest_len (xs := xs) (by omega)
  have ymin : ∀ q ∈ restX (restX xs), ndC (topX (restX xs)) ≤ ndC q := fun q hq => top_min _ ((rest_perm (xs := restX xs) (by omega)).mem_iff.2 (by simp [hq]))
  refine ⟨?_, ?_⟩
  · intro a ha b hb
    simp only [stepD, List.mem_append, List.mem_singleton] at ha hb
    rcases ha with ha | rfl <;> rcases hb with hb | rfl
    · exact o.ord _ (sp.p.mem_iff.2 (by simp [ha])) _ (sp.p.mem_iff.2 (by simp [hb]))
    · have := o.ord a (sp.p.mem_iff.2 (by simp [ha])) _ hx
      rw [mrg_C]; omega
    · have := ymin b hb
      rw [mrg_C]; omega
    · rw [mrg_C]; omega
  · have step : ∀ (c : Int) (w : Int) (d : Nat), 1 ≤ c → 2 * w ≥ 3 * c → 3 ^ d ≤ 2 ^ d * c.toNat → 3 ^ (d + 1) ≤ 2 ^ (d + 1) * w.toNat := by
      intro c w d h1 h2 h3
      rw [Nat.pow_succ, Nat.pow_succ, Nat.mul_assoc]
      calc 3 ^ d * 3 ≤ (2 ^ d * c.toNat) * 3 := Nat.mul_le_mul_right _ h3
        _ = 2 ^ d * (c.toNat * 3) := by rw [Nat.mul_assoc]
        _ ≤ 2 ^ d * (2 * w.toNat) := Nat.mul_le_mul_left _ (by omega)
    intro z hz s hs
    simp only [stepD, List.mem_append, List.mem_singleton] at hz
    rcases hz with hz | rfl
    · have hzx : z ∈ xs := sp.p.mem_iff.2 (by simp [hz])
      have hr := posL_rng (sp.rng z hzx s hs)
      have e : ((s.toNat : Nat) : Int) = s := by omega
      simp only [stepD]
      rw [hg s.toNat (by omega), e, if_neg (sp.q z hz s hs), Int.add_zero]
      exact o.hgt z hzx s hs
    · have hsm := hs
      rw [mrg_S] at hs
      have hin : s ∈ posL l := by
        rw [List.mem_append] at hs
        exact hs.elim (sp.rng _ hx s) (sp.rng _ hy s)
      have hr := posL_rng hin
      have e : ((s.toNat : Nat) : Int) = s := by omega
      have hb := h.bd s.toNat (by omega)
      simp only [stepD]
      rw [hg s.toNat (by omega), e, if_pos hs, show (out.getD s.toNat 0 + 1).toNat = (out.getD s.toNat 0).toNat + 1 by omega, mrg_C]
      rw [List.mem_append] at hs
      rcases hs with hs | hs
      · exact step _ _ _ cx (by omega) (o.hgt _ hx s hs)
      · exact step _ _ _ cy (by omega) (o.hgt _ hy s hs)
theorem hinv {l : List Int} (h0 : ∀ x ∈ l, 0 ≤ x) (hm : (leaves l).length ≤ 256) : ∀ j, j + 1 ≤ (leaves l).length → HInv l j (runD l j).1 (runD l j).2
  | 0, _ => hinv0 h0
  | j + 1, hj => by
    have ih := hinv h0 hm j (by omega)
    have := ih.xl
    exact hinvS hm ih (by omega)
theorem oinv {l : List Int} (h0 : ∀ x ∈ l, 0 ≤ x) (h1 : ∀ x ∈ l, x ≤ 1) (hm : (leaves l).length ≤ 256) : ∀ j, j + 1 ≤ (leaves l).length → OInv (runD l j).1 (runD l j).2
  | 0, _ => oinv0 h1
  | j + 1, hj => by
    have ih := hinv h0 hm j (by omega)
    have := ih.xl
    exact oinvS ih (by omega) (oinv h0 h1 hm j (by omega))
end Go.Proofs.Ytmdbliacaeokaaa
namespace Go.Proofs.Ytmdbliacaeokaaa
open Go Go.RowKit
set_option linter.unusedVariables false
set_option linter.unusedSimpArgs false
set_option maxRecDepth 100000
structure DepOk (l out : List Int) : Prop where
  len : out.length = l.length
  zero : ∀ k, k < l.length → (k : Int) ∉ posL l → out.getD k 0 = 0
  bd : ∀ k, k < l.length → 0 ≤ out.getD k 0 ∧ out.getD k 0 ≤ 255
  kr : kraft out (posL l) = 2 ^ 256
theorem cntP_syms (l : List Int) : cntP l = ((syms l).length : Int) := by
  induction l using snoc_ind' with
  | h0 => rfl
  | h1 l z ih =>
    rw [cntP_snoc, syms_snoc, List.length_append, ih]
    cases decide (0 < z) <;> simp
theorem sum_cntP (l : List Int) : (∀ x ∈ l, 0 ≤ x) → (∀ x ∈ l, x ≤ 1) → l.sum ≤ cntP l := by
  induction l using snoc_ind' with
  | h0 => intro _ _; decide
  | h1 l z ih =>
    intro h0 h1
    have i := ih (fun x hx => h0 x (by simp [hx])) (fun x hx => h1 x (by simp [hx]))
    have a := h0 z (by simp)
    have b := h1 z (by simp)
    rw [cntP_snoc, List.sum_append]
    simp only [List.sum_cons, List.sum_nil, Int.add_zero]
    by_cases hz : 0 < z
    · rw [decide_eq_true hz, cond_true]; omega
    · rw [decide_eq_false hz, cond_false]; omega
theorem depL_ok {l : List Int} (h0 : ∀ x ∈ l, 0 ≤ x) (hm : (leaves l).length ≤ 256) (h2 : 2 ≤ (leaves l).length) : DepOk l (depL l) ∧
    ((∀ x ∈ l, x ≤ 1) → (leaves l).length ≤ 40 → ∀ k, k < l.length → (depL l).getD k 0 ≤ 9) := by
  have h := hinv h0 hm ((leaves l).length - 1) (by omega)
  have hxl := h.xl
  obtain ⟨r, hr⟩ : ∃ r, (runD l ((leaves l).length - 1)).2 = [r] := by
    have : (runD l ((leaves l).length - 1)).2.length = 1 := by omega
    match hq : (runD l ((leaves l).length - 1)).2, this with
    | [r], _ => exact ⟨r, rfl⟩
  have hp := h.perm
  rw [hr] at hp
  simp only [List.flatMap_cons, List.flatMap_nil, List.append_nil] at hp
  have hk := h.kr r (by rw [hr]; simp)
  refine ⟨⟨h.len, h.zero, fun k hk => ?_, ?_⟩, fun h1 hL k hkl => ?_⟩
  · have := h.bd k hk
    exact ⟨this.1, by show (runD l ((leaves l).length - 1)).1.getD k 0 ≤ 255; omega⟩
  · rw [← hk]
    unfold kraft depL
    exact ((hp.map _).sum_nat).symm
  · have o := oinv h0 h1 hm ((leaves l).length - 1) (by omega)
    by_cases hkp : (k : Int) ∈ posL l
    · have hh := o.hgt r (by rw [hr]; simp) (k : Int) (hp.mem_iff.2 hkp)
      have ht := h.tot
      rw [hr] at ht
      simp only [List.map_cons, List.map_nil, List.sum_cons, List.sum_nil, Int.add_zero] at ht
      have hs : sumL l ≤ ((leaves l).length : Int) := by
        rw [leaves_len, ← cntP_syms]
        exact sum_cntP l h0 h1
      have hb := h.bd k hkl
      rw [toNat_cast] at hh
      show (runD l ((leaves l).length - 1)).1.getD k 0 ≤ 9
      generalize (runD l ((leaves l).length - 1)).1.getD k 0 = d at hh hb
      have hc : (ndC r).toNat ≤ 40 := by omega
      by_cases hd : d ≤ 9
      · exact hd
      · exfalso
        obtain ⟨e, he⟩ : ∃ e, d.toNat = 10 + e := ⟨d.toNat - 10, by omega⟩
        rw [he, Nat.pow_add, Nat.pow_add] at hh
        have h23 : 2 ^ e ≤ 3 ^ e := Nat.pow_le_pow_left (by omega) e
        have hpos : 0 < 3 ^ e := Nat.pow_pos (by omega)
        have : 2 ^ 10 * 2 ^ e * (ndC r).toNat ≤ 2 ^ 10 * 3 ^ e * 40 := Nat.mul_le_mul (Nat.mul_le_mul_left _ h23) hc
        have : 3 ^ 10 * 3 ^ e ≤ 2 ^ 10 * 3 ^ e * 40 := Nat.le_trans hh this
        have e1 : (3 : Nat) ^ 10 = 59049 := by decide
        have e2 : (2 : Nat) ^ 10 = 1024 := by decide
        rw [e1, e2] at this
        omega
    · have := h.zero k hkl hkp
      show (runD l ((leaves l).length - 1)).1.getD k 0 ≤ 9
      omega
theorem kraft_one {out ss : List Int} : ∀ s ∈ ss, (∃ t ∈ ss, t ≠ s) → kraft out ss = 2 ^ 256 → out.getD s.toNat 0 ≠ 0 := by
  intro s hs ⟨t, ht, hne⟩ hk h0
  obtain ⟨a, b, rfl⟩ := List.append_of_mem hs
  have e : kraft out (a ++ s :: b) = kraft out (a ++ b) + 2 ^ 256 := by
    simp only [kraft, List.map_append, List.map_cons, List.sum_append_nat, List.sum_cons, h0]
    simp only [Int.toNat_zero, Nat.sub_zero]
    omega
  have h2 : t ∈ a ++ b := by
    simp only [List.mem_append, List.mem_cons] at ht ⊢
    rcases ht with h | h | h
    · exact .inl h
    · exact absurd h hne
    · exact .inr h
  have h3 : 0 < kraft out (a ++ b) := by
    obtain ⟨c, d, e2⟩ := List.append_of_mem h2
    rw [e2]
    simp only [kraft, List.map_append, List.map_cons, List.sum_append_nat, List.sum_cons]
    have : 0 < 2 ^ (256 - (out.getD t.toNat 0).toNat) := Nat.pow_pos (by omega)
    omega
  omega
theorem kraft_11 {out : List Int} : ∀ (ss : List Int), (∀ s ∈ ss, 0 ≤ out.getD s.toNat 0 ∧ out.getD s.toNat 0 ≤ 11) → kraft out ss = 2 ^ 245 * (ss.map fun s => 2 ^ (11 - out.getD s.toNat 0).toNat).sum
  | [], _ => rfl
  | s :: r, h => by
    have ih := kraft_11 r (fun x hx => h x (by simp [hx]))
    have hs := h s (by simp)
    unfold kraft at ih ⊢
    simp only [List.map_cons, List.sum_cons, ih, Nat.mul_add, ← Nat.pow_add]
    congr 2
    omega
theorem posL_two {l : List Int} (h2 : 2 ≤ (leaves l).length) : ∀ s ∈ posL l, ∃ t ∈ posL l, t ≠ s := by
  intro s hs
  have hl := posL_len l
  have hn := posL_nodup l
  match hq : posL l, hl, hn with
  | a :: b :: r, _, hn =>
    rw [hq] at hs
    have hab : a ≠ b := by
      simp only [List.nodup_cons, List.mem_cons, not_or] at hn
      exact hn.1.1
    by_cases e : s = a
    · exact ⟨b, by simp, fun h => hab (by rw [h, e])⟩
    · exact ⟨a, by simp, fun h => e h.symm⟩
  | [a], hl, _ => simp at hl; omega
  | [], hl, _ => simp at hl; omega
theorem dep_chk {l out : List Int} (h : DepOk l out) (hl : l.length ≤ 256) (h2 : 2 ≤ (leaves l).length) (hd : okD out = true) : chk out = 0 ∧ posL out = posL l := by
  have hd' : ∀ x ∈ out, x ≤ 11 := fun x hx => by simpa using List.all_eq_true.1 hd x hx
  have hlen := h.len
  have b11 : ∀ k, k < l.length → 0 ≤ out.getD k 0 ∧ out.getD k 0 ≤ 11 := fun k hk => ⟨(h.bd k hk).1, hd' _ (getD_mem' (by omega))⟩
  have hok : out.all okLen = true := by
    rw [List.all_eq_true]
    intro x hx
    obtain ⟨k, hk, rfl⟩ := List.mem_iff_getElem.1 hx
    have := b11 k (by omega)
    rw [getD_e 0 hk] at this
    exact okLen_iff.2 this
  have hpos : ∀ k, k < out.length → (0 < out.getD k 0 ↔ 0 < l.getD k 0) := by
    intro k hk
    have hb := b11 k (by omega)
    have key : (k : Int) ∈ posL l ↔ 0 < l.getD k 0 := by
      refine ⟨fun h => by simpa using (posL_rng h).2.2, fun hp => ?_⟩
      have hs := syms_snoc (l.take k) (l.getD k 0)
      rw [← take_succ l 0 (by omega), decide_eq_true hp, cond_true, List.length_take, Nat.min_eq_left (by omega)] at hs
      have e : l = l.take (k + 1) ++ l.drop (k + 1) := (List.take_append_drop _ _).symm
      unfold posL
      rw [List.mem_map]
      refine ⟨[(k : Int), l.getD k 0], ?_, rfl⟩
      have e2 : syms l = syms (l.take (k + 1)) ++ symsF ((l.take (k + 1)).length : Int) (l.drop (k + 1)) := by
        conv => lhs; rw [e]
        unfold syms
        rw [symsF_app]
        simp
      rw [e2, hs]
      simp
    by_cases hm : (k : Int) ∈ posL l
    · have h1 := kraft_one (k : Int) hm (posL_two h2 _ hm) h.kr
      rw [toNat_cast] at h1
      exact ⟨fun _ => key.1 hm, fun _ => by omega⟩
    · have h1 := h.zero k (by omega) hm
      rw [← key]
      exact ⟨fun h => by omega, fun h => absurd h hm⟩
  have hP : posL out = posL l := posL_cong hlen hpos
  refine ⟨?_, hP⟩
  have hc : cntP out = ((posL l).length : Int) := by rw [cntP_syms, ← hP]; simp [posL]
  have hr : roomL out = 2048 := by
    have hk := h.kr
    rw [kraft_11 _ (fun s hs => by
      have := posL_rng hs
      exact b11 s.toNat (by omega))] at hk
    have e : (roomL out) = (((posL l).map fun s => 2 ^ (11 - out.getD s.toNat 0).toNat).sum : Nat) := by
      unfold roomL
      rw [← tot_syms, ← hP]
      unfold tot posL
      rw [List.map_map]
      congr 2
      refine List.map_congr_left fun r hr => ?_
      obtain ⟨k, h1, rfl, h3⟩ := syms_mem hr
      simp [wid]
    rw [e]
    have e3 : (2 : Nat) ^ 256 = 2 ^ 245 * 2048 := by rw [show (256 : Nat) = 245 + 11 from rfl, Nat.pow_add]
    rw [e3] at hk
    have := Nat.eq_of_mul_eq_mul_left (Nat.pow_pos (by omega)) hk
    rw [this]
    rfl
  rw [chk_ok (by omega) hok, hc, hr]
  have := posL_len l
  rw [decide_eq_false (by omega)]
  rfl
theorem half_eq {c : Int} (h : 0 ≤ c) : halfC c = (c + 1) / 2 := by unfold halfC; rw [Int.tdiv_eq_ediv_of_nonneg (by omega)]
theorem half_bd {c : Int} (h : 0 ≤ c) : 0 ≤ halfC c ∧ halfC c ≤ c ∧ (0 < halfC c ↔ 0 < c) ∧ (2 ≤ c → halfC c < c) := by
  rw [half_eq h]
  omega
structure Cn (l : List Int) : Prop where
  nn : ∀ x ∈ l, 0 ≤ x
  tot : sumL l ≤ 1099511627776
theorem cn_iff {l : List Int} : cntsOk l = true ↔ Cn l := by
  unfold cntsOk
  simp only [Bool.and_eq_true, List.all_eq_true, decide_eq_true_eq]
  exact ⟨fun h => ⟨h.1, h.2⟩, fun h => ⟨h.nn, h.tot⟩⟩
theorem sum_nn : ∀ {l : List Int}, (∀ x ∈ l, 0 ≤ x) → 0 ≤ l.sum
  | [], _ => by simp
  | x :: r, h => by
    have := h x (by simp)
    have := sum_nn (fun y hy => h y (by simp [hy]) : ∀ y ∈ r, 0 ≤ y)
    simp only [List.sum_cons]; omega
theorem half_sum : ∀ {l : List Int}, (∀ x ∈ l, 0 ≤ x) → (l.map halfC).sum ≤ l.sum ∧ ((∃ x ∈ l, 2 ≤ x) → (l.map halfC).sum < l.sum)
  | [], _ => ⟨by simp, fun ⟨x, hx, _⟩ => by simp at hx⟩
  | x :: r, h => by
    have hx := half_bd (h x (by simp))
    have ih := half_sum (fun y hy => h y (by simp [hy]) : ∀ y ∈ r, 0 ≤ y)
    simp only [List.map_cons, List.sum_cons]
    refine ⟨by omega, fun ⟨y, hy, h2⟩ => ?_⟩
    simp only [List.mem_cons] at hy
    rcases hy with rfl | hy
    · have := hx.2.2.2 h2; omega
    · have := ih.2 ⟨y, hy, h2⟩; omega
theorem half_cn {l : List Int} (h : Cn l) : Cn (l.map halfC) where
  nn := fun x hx => by
    obtain ⟨y, hy, rfl⟩ := List.mem_map.1 hx
    exact (half_bd (h.nn y hy)).1
  tot := by
    have := (half_sum h.nn).1
    have := h.tot
    unfold sumL at *
    omega
theorem half_pos {l : List Int} (h : Cn l) : (leaves (l.map halfC)).length = (leaves l).length := by
  rw [← posL_len, ← posL_len]
  congr 1
  refine posL_cong (by simp) fun k hk => ?_
  have hk' : k < l.length := by simpa using hk
  have := (half_bd (h.nn _ (getD_mem' hk'))).2.2.1
  rw [show (l.map halfC).getD k 0 = halfC (l.getD k 0) by simp [List.getD, List.getElem?_eq_getElem hk']]
  exact this
theorem halfs_ok {l : List Int} (h : Cn l) : ∀ j, Cn (halfs l j) ∧ (leaves (halfs l j)).length = (leaves l).length ∧ (halfs l j).length = l.length
  | 0 => ⟨h, rfl, rfl⟩
  | j + 1 => by
    obtain ⟨h1, h2, h3⟩ := halfs_ok h j
    exact ⟨half_cn h1, by rw [← h2]; exact half_pos h1, by rw [← h3]; simp [halfs]⟩
theorem not_ok {l : List Int} (h : Cn l) (hl : l.length ≤ 256) (hv : (leaves l).length ≤ 40) (h2 : 2 ≤ (leaves l).length) (hd : okD (depL l) = false) : sumL (l.map halfC) < sumL l := by
  have hm : (leaves l).length ≤ 256 := by rw [leaves_len]; have := syms_len_le l; omega
  obtain ⟨ho, h9⟩ := depL_ok h.nn hm h2
  refine (half_sum h.nn).2 ?_
  apply Classical.byContradiction
  intro hno
  have h1 : ∀ x ∈ l, x ≤ 1 := fun x hx => by
    apply Classical.byContradiction
    intro hx2
    exact hno ⟨x, hx, by omega⟩
  have h9 := h9 h1 hv
  have : okD (depL l) = true := by
    unfold okD
    rw [List.all_eq_true]
    intro x hx
    obtain ⟨k, hk, rfl⟩ := List.mem_iff_getElem.1 hx
    have := h9 k (by rw [← ho.len]; exact hk)
    rw [getD_e 0 hk] at this
    simp only [decide_eq_true_eq]; omega
  rw [hd] at this
  cases this
theorem ofF_ok : ∀ (f : Nat) (l : List Int), Cn l → l.length ≤ 256 → (leaves l).length ≤ 40 → 2 ≤ (leaves l).length → (sumL l).toNat < f → chk (ofF f l) = 0 ∧ (ofF f l).length = l.length ∧ posL (ofF f l) = posL l
  | 0, l, _, _, _, _, h => by omega
  | f + 1, l, hc, hl, hv, h2, hf => by
    have hm : (leaves l).length ≤ 256 := by rw [leaves_len]; have := syms_len_le l; omega
    have ho := (depL_ok hc.nn hm h2).1
    unfold ofF
    cases hd : okD (depL l)
    · have hlt := not_ok hc hl hv h2 hd
      have hn := sum_nn (half_cn hc).nn
      have hp := half_pos hc
      obtain ⟨k1, k2, k3⟩ := ofF_ok f (l.map halfC) (half_cn hc) (by simpa using hl) (by omega) (by omega) (by unfold sumL at *; omega)
      refine ⟨k1, by rw [cond_false, k2]; simp, ?_⟩
      rw [cond_false, k3]
      refine posL_cong (by simp) fun k hk => ?_
      have hk' : k < l.length := by simpa using hk
      rw [show (l.map halfC).getD k 0 = halfC (l.getD k 0) by simp [List.getD, List.getElem?_eq_getElem hk']]
      exact (half_bd (hc.nn _ (getD_mem' hk'))).2.2.1
    · have := dep_chk ho (by omega) h2 hd
      exact ⟨this.1, ho.len, this.2⟩
theorem ofL_ok {l : List Int} (hc : Cn l) (hl : l.length ≤ 256) (hv : (leaves l).length ≤ 40) (h2 : 2 ≤ (leaves l).length) : chk (ofL l) = 0 ∧ (ofL l).length = l.length ∧ posL (ofL l) = posL l := ofF_ok _ l hc hl hv h2 (by omega)
theorem md_bd {x m : Int} (h : 1 ≤ m) : 0 ≤ md x m ∧ md x m < m := by
  unfold md
  rw [decide_eq_false (by omega)]
  exact ⟨Int.emod_nonneg _ (by omega), Int.emod_lt_of_pos _ (by omega)⟩
end Go.Proofs.Ytmdbliacaeokaaa
namespace Go.Proofs.Ytmdbliacaeokaaa
open Go Go.RowKit
set_option linter.unusedVariables false
set_option linter.unusedSimpArgs false
set_option maxRecDepth 100000
theorem sym_eq {l : List Int} {i : Nat} (h : i < (ordS l).length) : symI l i = [(kI l i : Int), bI l i] ∧ kI l i < l.length ∧ 0 < bI l i := by
  obtain ⟨k, h1, h2, h3⟩ := symI_mem h
  have e : kI l i = k := by unfold kI; rw [h2]; simp
  unfold bI
  rw [e]
  exact ⟨h2, h1, h3⟩
theorem aI_cast {l : List Int} (i : Nat) : atF (gmx l) (ordS l) i = (aI l i : Int) := by
  have := atF_nonneg (gmx l) (ordS l) i
  unfold aI
  omega
theorem aI_succ {l : List Int} {i : Nat} (h : i < (ordS l).length) : aI l (i + 1) = aI l i + wI l i := by
  have := atF_succ (gmx l) (ordS l) h
  rw [aI_cast, aI_cast] at this
  unfold wI symI
  omega
theorem aI_mono {l : List Int} {i j : Nat} (hij : i < j) (hj : j ≤ (ordS l).length) : aI l i + wI l i ≤ aI l j := by
  induction j with
  | zero => omega
  | succ j ih =>
    have e := aI_succ (l := l) (i := j) (by omega)
    by_cases h : i = j
    · subst h; omega
    · have := ih (by omega) (by omega)
      omega
theorem wI_eq {l : List Int} {i : Nat} (h : i < (ordS l).length) : wI l i = 2 ^ (gmx l - bI l i).toNat := by
  unfold wI wid
  rw [(sym_eq h).1]
  simp
theorem aI_end {l : List Int} (hg : Good l) : aI l (ordS l).length = 2 ^ (gmx l).toNat := by
  have := atF_tot (gmx l) (ordS l) (ordS l).length
  rw [List.take_length, hg.sum, aI_cast] at this
  omega
theorem bI_bd {l : List Int} (hg : Good l) {i : Nat} (h : i < (ordS l).length) : 1 ≤ bI l i ∧ bI l i ≤ gmx l := by
  obtain ⟨h1, h2, h3⟩ := sym_eq h
  exact ⟨by omega, (gmx_ge l).2 _ (getD_mem' h2)⟩
theorem ord_le {l : List Int} {i j : Nat} (hij : i < j) (hj : j < (ordS l).length) : sLe (symI l i) (symI l j) = true := by
  have hs : (ordS l).Pairwise (fun x y => sLe x y = true) := srt_sorted _
  have := List.pairwise_iff_getElem.1 hs i j (by omega) hj hij
  unfold symI
  rw [getD_e [] (by omega), getD_e [] hj]
  exact this
theorem ord_cmp {l : List Int} {i j : Nat} (hij : i < j) (hj : j < (ordS l).length) : bI l j < bI l i ∨ (bI l j = bI l i ∧ kI l i < kI l j) := by
  have h := ord_le hij hj
  have hn := List.pairwise_iff_getElem.1 (ordS_nodup l) i j (by omega) hj hij
  rw [← getD_e [] (by omega), ← getD_e [] hj] at hn
  have hn' : kI l i ≠ kI l j := hn
  rw [(sym_eq (show i < (ordS l).length by omega)).1, (sym_eq hj).1] at h
  unfold sLe at h
  simp only [List.getD_cons_succ, List.getD_cons_zero, Bool.or_eq_true, Bool.and_eq_true, decide_eq_true_eq] at h
  rcases h with h | ⟨h1, h2⟩
  · exact .inl h
  · exact .inr ⟨h1, by omega⟩
theorem ord_ne {l : List Int} {i j : Nat} (hi : i < (ordS l).length) (hj : j < (ordS l).length) (h : kI l i = kI l j) : i = j := by
  rcases Nat.lt_trichotomy i j with h1 | h1 | h1
  · have := List.pairwise_iff_getElem.1 (ordS_nodup l) i j hi hj h1
    rw [← getD_e [] hi, ← getD_e [] hj] at this
    exact absurd h this
  · exact h1
  · have := List.pairwise_iff_getElem.1 (ordS_nodup l) j i hj hi h1
    rw [← getD_e [] hi, ← getD_e [] hj] at this
    exact absurd h.symm this
theorem ord_has {l : List Int} {k : Nat} (hk : k < l.length) (h : 0 < l.getD k 0) : ∃ i, i < (ordS l).length ∧ kI l i = k := by
  have hm : [(k : Int), l.getD k 0] ∈ ordS l := by
    refine (ordS_perm l).mem_iff.2 ?_
    have hs := syms_snoc (l.take k) (l.getD k 0)
    rw [← take_succ l 0 hk, decide_eq_true h, cond_true, List.length_take, Nat.min_eq_left (by omega)] at hs
    have e2 : syms l = syms (l.take (k + 1)) ++ symsF ((l.take (k + 1)).length : Int) (l.drop (k + 1)) := by
      conv => lhs; rw [← List.take_append_drop (k + 1) l]
      unfold syms
      rw [symsF_app]
      simp
    rw [e2, hs]
    simp
  obtain ⟨i, hi, he⟩ := List.mem_iff_getElem.1 hm
  refine ⟨i, hi, ?_⟩
  unfold kI symI
  rw [getD_e [] hi, he]
  simp
theorem wI_dvd {l : List Int} (hg : Good l) {i j : Nat} (hij : i ≤ j) (hj : j < (ordS l).length) : wI l i ∣ wI l j := by
  have hi : i < (ordS l).length := by omega
  rw [wI_eq hi, wI_eq hj]
  refine Nat.pow_dvd_pow 2 ?_
  rcases Nat.lt_or_eq_of_le hij with h | h
  · have := ord_cmp h hj
    omega
  · subst h; exact Nat.le_refl _
theorem aI_dvd {l : List Int} (hg : Good l) {i : Nat} (hi : i < (ordS l).length) : wI l i ∣ aI l i := by
  have key : ∀ d j, j + d = (ordS l).length → i ≤ j → wI l i ∣ aI l j := by
    intro d
    induction d with
    | zero =>
      intro j hj _
      have : j = (ordS l).length := by omega
      subst this
      rw [aI_end hg, wI_eq hi]
      have hb := bI_bd hg hi
      exact Nat.pow_dvd_pow 2 (by omega)
    | succ d ih =>
      intro j hj hij
      have h1 := ih (j + 1) (by omega) (by omega)
      rw [aI_succ (by omega)] at h1
      exact (Nat.dvd_add_left (wI_dvd hg hij (by omega))).1 h1
  exact key ((ordS l).length - i) i (by omega) (Nat.le_refl _)
theorem codP_at {l : List Int} : ∀ j, j ≤ (ordS l).length → ∀ i, i < j → (codP l j).getD (kI l i) [] = [bI l i, ((aI l i / wI l i : Nat) : Int)]
  | 0, _, i, h => by omega
  | j + 1, hj, i, hi => by
    have hlt : j < (ordS l).length := by omega
    obtain ⟨s1, s2, s3⟩ := sym_eq hlt
    rw [codP_succ hlt]
    have e1 : ((symI l j).getD 0 0).toNat = kI l j := rfl
    have e2 : (symI l j).getD 1 0 = bI l j := by rw [s1]; simp
    rw [e1, e2, aI_cast]
    by_cases h : i = j
    · subst h
      rw [List.getD_eq_getElem?_getD, List.getElem?_set_self (by rw [codP_len]; exact s2)]
      simp only [Option.getD_some]
      rw [wI_eq hlt, Int.natCast_ediv, ← pow_cast]
    · have hne : kI l j ≠ kI l i := fun e => h (ord_ne hlt (by omega) e).symm
      rw [List.getD_eq_getElem?_getD, List.getElem?_set_ne hne, ← List.getD_eq_getElem?_getD]
      exact codP_at j (by omega) i (by omega)
theorem codP_none {l : List Int} {k : Nat} (hk : k < l.length) (h0 : ¬ 0 < l.getD k 0) : ∀ j, j ≤ (ordS l).length → (codP l j).getD k [] = [0, 0]
  | 0, _ => by simp [codP, codF, List.getD, List.getElem?_replicate, hk]
  | j + 1, hj => by
    have hlt : j < (ordS l).length := by omega
    obtain ⟨s1, s2, s3⟩ := sym_eq hlt
    rw [codP_succ hlt]
    have e1 : ((symI l j).getD 0 0).toNat = kI l j := rfl
    have hne : kI l j ≠ k := fun e => by
      unfold bI at s3
      rw [e] at s3
      exact h0 s3
    rw [e1, List.getD_eq_getElem?_getD, List.getElem?_set_ne hne, ← List.getD_eq_getElem?_getD]
    exact codP_none hk h0 j (by omega)
theorem codL_codP (l : List Int) : codL l = codP l (ordS l).length := by unfold codL codP; rw [List.take_length]
theorem codL_at {l : List Int} {i : Nat} (h : i < (ordS l).length) : (codL l).getD (kI l i) [] = [bI l i, ((aI l i / wI l i : Nat) : Int)] := by rw [codL_codP]; exact codP_at _ (Nat.le_refl _) i h
theorem codL_none {l : List Int} {k : Nat} (hk : k < l.length) (h0 : ¬ 0 < l.getD k 0) : (codL l).getD k [] = [0, 0] := by rw [codL_codP]; exact codP_none hk h0 _ (Nat.le_refl _)
end Go.Proofs.Ytmdbliacaeokaaa
namespace Go.Proofs.Ytmdbliacaeokaaa
open Go Go.RowKit
set_option linter.unusedVariables false
set_option linter.unusedSimpArgs false
set_option maxRecDepth 100000
structure Cod (l : List Int) (k i : Nat) : Prop where
  lt : i < (ordS l).length
  at_ : kI l i = k
  len : hB l k = l.getD k 0
  bits : hB l k = bI l i
  val : hV l k = ((aI l i / wI l i : Nat) : Int)
theorem cod_at {l : List Int} {i : Nat} (hi : i < (ordS l).length) : Cod l (kI l i) i := by
  have hc := codL_at hi
  refine ⟨hi, rfl, ?_, ?_, ?_⟩
  · unfold hB; rw [hc]; rfl
  · unfold hB; rw [hc]; rfl
  · unfold hV; rw [hc]; rfl
theorem cod_has {l : List Int} {k : Nat} (hk : k < l.length) (h : 0 < l.getD k 0) : ∃ i, Cod l k i := by
  obtain ⟨i, hi, rfl⟩ := ord_has hk h
  exact ⟨i, cod_at hi⟩
theorem cod_no {l : List Int} {k : Nat} (hk : k < l.length) (h : ¬ 0 < l.getD k 0) : hB l k = 0 ∧ hV l k = 0 := by
  unfold hB hV
  rw [codL_none hk h]
  exact ⟨rfl, rfl⟩
structure CodB (l : List Int) (k : Nat) : Prop where
  b0 : 1 ≤ hB l k
  b1 : hB l k ≤ 11
  v0 : 0 ≤ hV l k
  v1 : hV l k < 2 ^ (hB l k).toNat
theorem cod_bd {l : List Int} (hg : Good l) {k i : Nat} (h : Cod l k i) : CodB l k := by
  have hb := bI_bd hg h.lt
  have hm := hg.m1
  obtain ⟨q, hq⟩ := aI_dvd hg h.lt
  have hw : 0 < wI l i := wid_pos _ _
  have hd : aI l i / wI l i = q := by rw [hq]; exact Nat.mul_div_cancel_left _ hw
  have hend : aI l i + wI l i ≤ 2 ^ (gmx l).toNat := by
    rw [← aI_end hg]
    exact aI_mono h.lt (Nat.le_refl _)
  have hww := wI_eq h.lt
  have he : 2 ^ (gmx l).toNat = wI l i * 2 ^ (bI l i).toNat := by
    rw [hww, ← Nat.pow_add]
    congr 1
    omega
  have hlt : q < 2 ^ (bI l i).toNat := by
    rw [he, hq, show wI l i * q + wI l i = wI l i * (q + 1) by rw [Nat.mul_add, Nat.mul_one]] at hend
    have := Nat.le_of_mul_le_mul_left hend hw
    omega
  refine ⟨by rw [h.bits]; omega, by rw [h.bits]; omega, by rw [h.val]; omega, ?_⟩
  rw [h.val, h.bits, hd]
  exact_mod_cast hlt
theorem hB_0 {l : List Int} (hg : Good l) {k : Nat} (hk : k < l.length) : 0 ≤ hB l k ∧ hB l k ≤ 11 ∧ (0 < hB l k ↔ 0 < l.getD k 0) := by
  by_cases h : 0 < l.getD k 0
  · obtain ⟨i, hc⟩ := cod_has hk h
    have hb := cod_bd hg hc
    have b0 := hb.b0
    have b1 := hb.b1
    exact ⟨by omega, by omega, by omega⟩
  · have := cod_no hk h
    exact ⟨by omega, by omega, by omega⟩
theorem fnd_rng (l : List Int) (b v : Int) : ∀ n, -1 ≤ fnd l b v n ∧ fnd l b v n < (n : Nat)
  | 0 => by show (-1 : Int) ≤ -1 ∧ (-1 : Int) < _; omega
  | n + 1 => by
    have ih := fnd_rng l b v n
    simp only [fnd]
    cases hB l n == b && hV l n == v
    · rw [cond_false]; omega
    · rw [cond_true]; omega
theorem fnd_is (l : List Int) (b v : Int) : ∀ n, 0 ≤ fnd l b v n → hB l (fnd l b v n).toNat = b ∧ hV l (fnd l b v n).toNat = v
  | 0, h => by exact absurd h (by show ¬ (0 : Int) ≤ -1; omega)
  | n + 1, h => by
    simp only [fnd] at h ⊢
    cases hq : hB l n == b && hV l n == v
    · rw [hq, cond_false] at h
      rw [cond_false]
      exact fnd_is l b v n h
    · rw [cond_true]
      simp only [Bool.and_eq_true, beq_iff_eq] at hq
      rw [toNat_cast]
      exact hq
theorem fnd_no (l : List Int) (b v : Int) : ∀ n, (∀ k, k < n → ¬ (hB l k = b ∧ hV l k = v)) → fnd l b v n = -1
  | 0, _ => rfl
  | n + 1, h => by
    have h1 := h n (by omega)
    have hq : (hB l n == b && hV l n == v) = false := by
      rw [Bool.eq_false_iff]
      intro e
      simp only [Bool.and_eq_true, beq_iff_eq] at e
      exact h1 e
    simp only [fnd, hq, cond_false]
    exact fnd_no l b v n fun k hk => h k (by omega)
theorem fLc_11 {l : List Int} (hg : Good l) {b v : Int} (h : 11 < b) : fLc l b v = -1 := fnd_no l b v _ fun k hk ⟨e, _⟩ => by
  have := hB_0 hg hk
  omega
theorem mC_get (l : List Int) (x : Int) : ∀ n, mget (mC l n) [x] = cond (decide (0 ≤ x) && decide (x < n) && decide (0 < hB l x.toNat)) (some [hB l x.toNat, hV l x.toNat]) none
  | 0 => by
    have : (decide (0 ≤ x) && decide (x < ((0 : Nat) : Int)) && decide (0 < hB l x.toNat)) = false := by
      rw [Bool.eq_false_iff]
      intro h
      simp only [Bool.and_eq_true, decide_eq_true_eq] at h
      omega
    rw [this]
    rfl
  | n + 1 => by
    have ih := mC_get l x n
    by_cases hx : x = (n : Int)
    · subst hx
      have e1 : (decide ((0 : Int) ≤ (n : Nat)) && decide (((n : Nat) : Int) < ((n + 1 : Nat) : Int))) = true := by
        simp only [Bool.and_eq_true, decide_eq_true_eq]; omega
      have e2 : (decide ((0 : Int) ≤ (n : Nat)) && decide (((n : Nat) : Int) < ((n : Nat) : Int))) = false := by
        simp
      rw [e2, Bool.false_and, cond_false] at ih
      rw [e1, Bool.true_and, toNat_cast]
      simp only [mC]
      cases decide (0 < hB l n)
      · rw [cond_false, cond_false]; exact ih
      · rw [cond_true, cond_true, mget_cons, if_pos rfl]
    · have e1 : decide (x < ((n + 1 : Nat) : Int)) = decide (x < (n : Nat)) := decide_eq_decide.2 (by omega)
      rw [e1, ← ih]
      simp only [mC]
      cases decide (0 < hB l n)
      · rw [cond_false]
      · rw [cond_true, mget_cons, if_neg (by simp; omega)]
theorem mB_get (l : List Int) (b v : Int) (hb : 0 < b) : ∀ n, mget (mB l n) [b, v] = cond (decide (fnd l b v n < 0)) none (some [fnd l b v n])
  | 0 => rfl
  | n + 1 => by
    have ih := mB_get l b v hb n
    have hm : mB l (n + 1) = cond (decide (0 < hB l n)) (([hB l n, hV l n], [(n : Int)]) :: mB l n) (mB l n) := rfl
    have hf : fnd l b v (n + 1) = cond (hB l n == b && hV l n == v) (n : Int) (fnd l b v n) := rfl
    by_cases hq : hB l n = b ∧ hV l n = v
    · have e1 : (hB l n == b && hV l n == v) = true := by simp [hq.1, hq.2]
      have e2 : decide (0 < hB l n) = true := by rw [hq.1]; exact decide_eq_true hb
      rw [e1, cond_true] at hf
      rw [hm, e2, cond_true, mget_cons, hq.1, hq.2, if_pos rfl, hf, decide_eq_false (show ¬ ((n : Int) < 0) by omega), cond_false]
    · have e1 : (hB l n == b && hV l n == v) = false := by
        rw [Bool.eq_false_iff]
        intro e
        simp only [Bool.and_eq_true, beq_iff_eq] at e
        exact hq e
      rw [e1, cond_false] at hf
      rw [hf, ← ih, hm]
      cases decide (0 < hB l n)
      · rw [cond_false]
      · rw [cond_true, mget_cons, if_neg]
        intro e
        simp only [List.cons.injEq, and_true] at e
        exact hq e
theorem lchk_0 {l : List Int} (h : lchk l = 0) : chk l = 0 := by
  unfold lchk at h
  cases h1 : roomE l == 0
  · rw [h1, cond_false] at h
    rw [h] at h1
    cases h1
  · rw [h1, cond_true] at h
    unfold roomE at h1
    unfold chk
    cases h2 : decide (256 < l.length)
    · rw [h2, cond_false] at h1
      cases h3 : l.all okLen
      · rw [h3, cond_false] at h1; cases h1
      · simp only [cond_true, cond_false]
        cases h4 : decide (cntP l < 2)
        · rw [h4, cond_false] at h
          cases h5 : roomL l == 2048
          · rw [h5, cond_false] at h; cases h
          · rfl
        · rw [h4, cond_true] at h; cases h
    · rw [h2, cond_true] at h1; cases h1
end Go.Proofs.Ytmdbliacaeokaaa
namespace Go.Proofs.Ytmdbliacaeokaaa
open Go Go.RowKit
set_option linter.unusedVariables false
set_option maxRecDepth 100000
def whenF_t (b : Bool) (e : Int) : Prop :=
 (b = true → e = bif b then e else (0 : Int)) ∧ (b = false → (0 : Int) = bif b then e else (0 : Int))
theorem whenF_e (b : Bool) (e : Int) : whenF_t b e = vcG Try.prog (Gof []) (fun _ => none) Try.f69 [.v (.bool b), .v (.int .i64 e)] [] (.leaf ((.v (.int .i64 (cond b e 0)))) ([])) := by kernel_rfl
def fstF_t (l : List Int) : Prop :=
 (∃ (x0 : Nat), (x0 ≤ List.length l ∧ fstE l = fstE (List.drop x0 l)) ∧ (0 : Int) = (0 : Int) ∧ l = l ∧ (↑(List.length l) : Int) = (↑(List.length l) : Int) ∧ (0 : Int) = (↑x0 : Int)) ∧
 ∀ (x1 : Nat),
 x1 ≤ List.length l ∧ fstE l = fstE (List.drop x1 l) →
 (decide ((↑x1 : Int) < (↑(List.length l) : Int)) = true →
 (0 : Int) ≤ (↑x1 : Int) ∧
 (↑x1 : Int) < (↑(List.length l) : Int) ∧
 ((List.getD l (Int.toNat (↑x1 : Int)) (0 : Int) != (0 : Int)) = true → List.getD l (Int.toNat (↑x1 : Int)) (0 : Int) = fstE l) ∧
 ((List.getD l (Int.toNat (↑x1 : Int)) (0 : Int) != (0 : Int)) = false →
 ∃ (y2 : Nat),
 (y2 ≤ List.length l ∧ fstE l = fstE (List.drop y2 l)) ∧
 Nat.sub (List.length l) y2 < Nat.sub (List.length l) x1 ∧
 (0 : Int) = (0 : Int) ∧ l = l ∧ (↑(List.length l) : Int) = (↑(List.length l) : Int) ∧ IntKind.wrap IntKind.i64 ((↑x1 : Int) + (1 : Int)) = (↑y2 : Int))) ∧
 (decide ((↑x1 : Int) < (↑(List.length l) : Int)) = false → (0 : Int) = fstE l)
theorem fstF_e (l : List Int) : fstF_t l = vcG Try.prog (Gof []) (one (oFst l)) Try.f68 [.dat (.ints .i64 l)] [] (.leaf ((.v (.int .i64 (fstE l)))) ([])) := by kernel_rfl
def opnF_t (s : ByteArray) (p n : Int) : Prop :=
 s = s ∧ IntKind.wrap IntKind.u64 p = p ∧ n = n
theorem opnF_e (s : ByteArray) (p n : Int) : opnF_t s p n = vcG Try.prog (Gof []) (fun _ => none) Try.f79 [.ag [.v (.string s), .v (.int .i64 p), .v (.int .i64 n)]] [] (.leaf ((.p 2000 0 0)) ([(2000, .cells 118 [.v (.string s), .v (.int .u64 p), .v (.int .i64 n)])])) := by kernel_rfl
def wputF_t (s : ByteArray) (p n k v : Int) : Prop :=
 (decide ((0 : Int) < (↑(1 : Nat) : Int)) = true →
 (0 : Int) ≤ (0 : Int) ∧
 (0 : Int) < (↑(1 : Nat) : Int) ∧
 (0 : Int) ≤ (1 : Int) ∧
 (1 : Int) < (↑(2 : Nat) : Int) ∧
 (0 : Int) ≤ IntKind.wrap IntKind.u64 n ∧
 (0 : Int) ≤ (0 : Int) ∧
 (0 : Int) < (↑(2 : Nat) : Int) ∧
 (decide (IntKind.wrap IntKind.i64 ((0 : Int) + (1 : Int)) < (↑(1 : Nat) : Int)) = true →
 (0 : Int) ≤ IntKind.wrap IntKind.i64 ((0 : Int) + (1 : Int)) ∧ IntKind.wrap IntKind.i64 ((0 : Int) + (1 : Int)) < (↑(1 : Nat) : Int) ∧ False ∧ False) ∧
 (decide (IntKind.wrap IntKind.i64 ((0 : Int) + (1 : Int)) < (↑(1 : Nat) : Int)) = false →
 ByteArray.size s ≤ (9223372036854775807 : Nat) ∧
 (∃ (x0 : Nat),
 Nat.le x0 (wM n k) ∧
 (0 : Nat) = (0 : Nat) ∧
 (1 : Nat) = (1 : Nat) ∧
 ((none : Option Nat) = none ∨ some (1 : Nat) = none) ∧
 s = s ∧
 bits BinOp.or IntKind.u64 p (IntKind.wrap IntKind.u64 (v * (2 : Int) ^ min (Int.toNat (IntKind.wrap IntKind.u64 n)) (IntKind.bits IntKind.u64))) =
 wX p n v / (256 : Int) ^ x0 ∧
 IntKind.wrap IntKind.i64 (n + IntKind.wrap IntKind.i64 k) = n + k - (8 : Int) * (↑x0 : Int) ∧
 k = k ∧ v = v ∧ List.map (fun (b : UInt8) => (↑(UInt8.toNat b) : Int)) s.data.toList = wBytes s (wX p n v) x0) ∧
 ∀ (x1 : Nat),
 Nat.le x1 (wM n k) →
 (decide (n + k - (8 : Int) * (↑x1 : Int) ≥ (8 : Int)) = true →
 (List.length (wBytes s (wX p n v) x1) + (1 : Nat)) * (1 : Nat) ≤ (140737488355328 : Nat) ∧
 (0 : Int) ≤ (8 : Int) ∧
 ∃ (y2 : Nat),
 Nat.le y2 (wM n k) ∧
 Nat.sub (wM n k) y2 < Nat.sub (wM n k) x1 ∧
 (0 : Nat) = (0 : Nat) ∧
 (1 : Nat) = (1 : Nat) ∧
 ((none : Option Nat) = none ∨ (none : Option Nat) = none) ∧
 s = s ∧
 Int.fdiv (wX p n v / (256 : Int) ^ x1) ((2 : Int) ^ min (Int.toNat (8 : Int)) (IntKind.bits IntKind.u64)) = wX p n v / (256 : Int) ^ y2 ∧
 IntKind.wrap IntKind.i64 (n + k - (8 : Int) * (↑x1 : Int) - (8 : Int)) = n + k - (8 : Int) * (↑y2 : Int) ∧
 k = k ∧ v = v ∧ wBytes s (wX p n v) x1 ++ [IntKind.wrap IntKind.u8 (wX p n v / (256 : Int) ^ x1)] = wBytes s (wX p n v) y2) ∧
 (decide (n + k - (8 : Int) * (↑x1 : Int) ≥ (8 : Int)) = false →
 strOfNums (wBytes s (wX p n v) x1) = wS s p n k v ∧ wX p n v / (256 : Int) ^ x1 = wP p n k v ∧ n + k - (8 : Int) * (↑x1 : Int) = wN n k ∧ k = k ∧ v = v))) ∧
 (decide ((0 : Int) < (↑(1 : Nat) : Int)) = false →
 ByteArray.size s ≤ (9223372036854775807 : Nat) ∧
 (∃ (x3 : Nat),
 Nat.le x3 (wM n k) ∧
 (0 : Nat) = (0 : Nat) ∧
 (1 : Nat) = (1 : Nat) ∧
 ((none : Option Nat) = none ∨ some (1 : Nat) = none) ∧
 s = s ∧
 p = wX p n v / (256 : Int) ^ x3 ∧
 n = n + k - (8 : Int) * (↑x3 : Int) ∧ k = k ∧ v = v ∧ List.map (fun (b : UInt8) => (↑(UInt8.toNat b) : Int)) s.data.toList = wBytes s (wX p n v) x3) ∧
 ∀ (x4 : Nat),
 Nat.le x4 (wM n k) →
 (decide (n + k - (8 : Int) * (↑x4 : Int) ≥ (8 : Int)) = true →
 (List.length (wBytes s (wX p n v) x4) + (1 : Nat)) * (1 : Nat) ≤ (140737488355328 : Nat) ∧
 (0 : Int) ≤ (8 : Int) ∧
 ∃ (y5 : Nat),
 Nat.le y5 (wM n k) ∧
 Nat.sub (wM n k) y5 < Nat.sub (wM n k) x4 ∧
 (0 : Nat) = (0 : Nat) ∧
 (1 : Nat) = (1 : Nat) ∧
 ((none : Option Nat) = none ∨ (none : Option Nat) = none) ∧
 s = s ∧
 Int.fdiv (wX p n v / (256 : Int) ^ x4) ((2 : Int) ^ min (Int.toNat (8 : Int)) (IntKind.bits IntKind.u64)) = wX p n v / (256 : Int) ^ y5 ∧
 IntKind.wrap IntKind.i64 (n + k - (8 : Int) * (↑x4 : Int) - (8 : Int)) = n + k - (8 : Int) * (↑y5 : Int) ∧
 k = k ∧ v = v ∧ wBytes s (wX p n v) x4 ++ [IntKind.wrap IntKind.u8 (wX p n v / (256 : Int) ^ x4)] = wBytes s (wX p n v) y5) ∧
 (decide (n + k - (8 : Int) * (↑x4 : Int) ≥ (8 : Int)) = false →
 strOfNums (wBytes s (wX p n v) x4) = wS s p n k v ∧ wX p n v / (256 : Int) ^ x4 = wP p n k v ∧ n + k - (8 : Int) * (↑x4 : Int) = wN n k ∧ k = k ∧ v = v))
theorem wputF_e (s : ByteArray) (p n k v : Int) : wputF_t s p n k v = vcG Try.prog (Gof []) (oWput s p n k v) Try.f80 [.p 0 0 0, .s 1 0 1 (some 1)] [(0, .cells 118 [.v (.string s), .v (.int .u64 p), .v (.int .i64 n)]), (1, .cells 114 [.v (.int .u64 k), .v (.int .u64 v)])] (.leaf ((.tu [])) ([(0, .cells 118 [.v (.string (wS s p n k v)), .v (.int .u64 (wP p n k v)), .v (.int .i64 (wN n k))]), (1, .cells 114 [.v (.int .u64 k), .v (.int .u64 v)])])) := by kernel_rfl
def chkF_t (s : ByteArray) (p n : Int) : Prop :=
 (decide (n < (0 : Int)) = true → (10 : Int) = (0 : Int)) ∧
 (decide (n < (0 : Int)) = false →
 (decide (n > (7 : Int)) = true → (10 : Int) = (0 : Int)) ∧
 (decide (n > (7 : Int)) = false →
 (decide (p < (0 : Int)) = true → (10 : Int) = (0 : Int)) ∧
 (decide (p < (0 : Int)) = false →
 (0 : Int) ≤ IntKind.wrap IntKind.u64 (bits BinOp.and IntKind.i64 n (7 : Int)) ∧
 (decide (p ≥ IntKind.wrap IntKind.i64 ((1 : Int) * (2 : Int) ^ min (Int.toNat (IntKind.wrap IntKind.u64 (bits BinOp.and IntKind.i64 n (7 : Int)))) (IntKind.bits IntKind.i64))) = true →
 (10 : Int) = (0 : Int)) ∧
 (decide (p ≥ IntKind.wrap IntKind.i64 ((1 : Int) * (2 : Int) ^ min (Int.toNat (IntKind.wrap IntKind.u64 (bits BinOp.and IntKind.i64 n (7 : Int)))) (IntKind.bits IntKind.i64))) =
 false →
 (bif decide ((↑(ByteArray.size s) : Int) > (1048576 : Int)) then (10 : Int) else (0 : Int)) = (0 : Int)))))
theorem chkF_e (s : ByteArray) (p n : Int) : chkF_t s p n = vcG Try.prog (Gof GBa) (fun _ => none) Try.f78 [.ag [.v (.string s), .v (.int .i64 p), .v (.int .i64 n)]] [] (.leaf ((.v (.int .i64 0))) ([])) := by kernel_rfl
def pwF_t (s : ByteArray) (p n k v : Int) : Prop :=
 (0 : Int) ≤ n ∧
 n ≤ (7 : Int) ∧
 (0 : Int) ≤ p ∧
 p < (2 : Int) ^ Int.toNat n ∧
 ByteArray.size s ≤ (1048576 : Nat) ∧
 (decide (k < (0 : Int)) = true →
 (8 : Int) ≠ (0 : Int) ∧
 List.length
 [(0 : Int), (2 : Int),
 bif decide (IntKind.wrap IntKind.i64 ((↑(ByteArray.size s) : Int) + IntKind.wrap IntKind.i64 (Int.tdiv (IntKind.wrap IntKind.i64 (n + k)) (8 : Int))) > (1048576 : Int)) then
 (4 : Int)
 else (0 : Int)] ≤
 (1000 : Nat) ∧
 ((fstE
 [(0 : Int), (2 : Int),
 bif
 decide
 (IntKind.wrap IntKind.i64 ((↑(ByteArray.size s) : Int) + IntKind.wrap IntKind.i64 (Int.tdiv (IntKind.wrap IntKind.i64 (n + k)) (8 : Int))) > (1048576 : Int)) then
 (4 : Int)
 else (0 : Int)] !=
 (0 : Int)) =
 true →
 ByteArray.empty = wS s p n k v ∧
 (0 : Int) = wP p n k v ∧
 (0 : Int) = wN n k ∧
 fstE
 [(0 : Int), (2 : Int),
 bif
 decide
 (IntKind.wrap IntKind.i64 ((↑(ByteArray.size s) : Int) + IntKind.wrap IntKind.i64 (Int.tdiv (IntKind.wrap IntKind.i64 (n + k)) (8 : Int))) >
 (1048576 : Int)) then
 (4 : Int)
 else (0 : Int)] =
 (0 : Int)) ∧
 ((fstE
 [(0 : Int), (2 : Int),
 bif
 decide
 (IntKind.wrap IntKind.i64 ((↑(ByteArray.size s) : Int) + IntKind.wrap IntKind.i64 (Int.tdiv (IntKind.wrap IntKind.i64 (n + k)) (8 : Int))) > (1048576 : Int)) then
 (4 : Int)
 else (0 : Int)] !=
 (0 : Int)) =
 false →
 (0 : Int) ≤ p ∧
 p ≤ (255 : Int) ∧
 (0 : Int) ≤ n ∧
 n ≤ (7 : Int) ∧
 (0 : Int) ≤ p ∧
 p < (2 : Int) ^ Int.toNat n ∧
 (0 : Int) ≤ IntKind.wrap IntKind.u64 k ∧
 IntKind.wrap IntKind.u64 k ≤ (32 : Int) ∧
 (0 : Int) ≤ v ∧
 v < (2 : Int) ^ Int.toNat (IntKind.wrap IntKind.u64 k) ∧
 ByteArray.size s ≤ (1048576 : Nat) ∧
 wS s p n (IntKind.wrap IntKind.u64 k) v = wS s p n k v ∧
 IntKind.wrap IntKind.i64 (wP p n (IntKind.wrap IntKind.u64 k) v) = wP p n k v ∧ wN n (IntKind.wrap IntKind.u64 k) = wN n k ∧ (0 : Int) = (0 : Int))) ∧
 (decide (k < (0 : Int)) = false →
 (decide (k > (32 : Int)) = true →
 (8 : Int) ≠ (0 : Int) ∧
 List.length
 [(0 : Int), (2 : Int),
 bif
 decide
 (IntKind.wrap IntKind.i64 ((↑(ByteArray.size s) : Int) + IntKind.wrap IntKind.i64 (Int.tdiv (IntKind.wrap IntKind.i64 (n + k)) (8 : Int))) > (1048576 : Int)) then
 (4 : Int)
 else (0 : Int)] ≤
 (1000 : Nat) ∧
 ((fstE
 [(0 : Int), (2 : Int),
 bif
 decide
 (IntKind.wrap IntKind.i64 ((↑(ByteArray.size s) : Int) + IntKind.wrap IntKind.i64 (Int.tdiv (IntKind.wrap IntKind.i64 (n + k)) (8 : Int))) >
 (1048576 : Int)) then
 (4 : Int)
 else (0 : Int)] !=
 (0 : Int)) =
 true →
 ByteArray.empty = wS s p n k v ∧
 (0 : Int) = wP p n k v ∧
 (0 : Int) = wN n k ∧
 fstE
 [(0 : Int), (2 : Int),
 bif
 decide
 (IntKind.wrap IntKind.i64 ((↑(ByteArray.size s) : Int) + IntKind.wrap IntKind.i64 (Int.tdiv (IntKind.wrap IntKind.i64 (n + k)) (8 : Int))) >
 (1048576 : Int)) then
 (4 : Int)
 else (0 : Int)] =
 (0 : Int)) ∧
 ((fstE
 [(0 : Int), (2 : Int),
 bif
 decide
 (IntKind.wrap IntKind.i64 ((↑(ByteArray.size s) : Int) + IntKind.wrap IntKind.i64 (Int.tdiv (IntKind.wrap IntKind.i64 (n + k)) (8 : Int))) >
 (1048576 : Int)) then
 (4 : Int)
 else (0 : Int)] !=
 (0 : Int)) =
 false →
 (0 : Int) ≤ p ∧
 p ≤ (255 : Int) ∧
 (0 : Int) ≤ n ∧
 n ≤ (7 : Int) ∧
 (0 : Int) ≤ p ∧
 p < (2 : Int) ^ Int.toNat n ∧
 (0 : Int) ≤ IntKind.wrap IntKind.u64 k ∧
 IntKind.wrap IntKind.u64 k ≤ (32 : Int) ∧
 (0 : Int) ≤ v ∧
 v < (2 : Int) ^ Int.toNat (IntKind.wrap IntKind.u64 k) ∧
 ByteArray.size s ≤ (1048576 : Nat) ∧
 wS s p n (IntKind.wrap IntKind.u64 k) v = wS s p n k v ∧
 IntKind.wrap IntKind.i64 (wP p n (IntKind.wrap IntKind.u64 k) v) = wP p n k v ∧ wN n (IntKind.wrap IntKind.u64 k) = wN n k ∧ (0 : Int) = (0 : Int))) ∧
 (decide (k > (32 : Int)) = false →
 (0 : Int) ≤ IntKind.wrap IntKind.u64 (bits BinOp.and IntKind.i64 k (63 : Int)) ∧
 (8 : Int) ≠ (0 : Int) ∧
 List.length
 [(0 : Int),
 bif Int.fdiv v ((2 : Int) ^ min (Int.toNat (IntKind.wrap IntKind.u64 (bits BinOp.and IntKind.i64 k (63 : Int)))) (IntKind.bits IntKind.u64)) != (0 : Int) then (2 : Int)
 else (0 : Int),
 bif
 decide
 (IntKind.wrap IntKind.i64 ((↑(ByteArray.size s) : Int) + IntKind.wrap IntKind.i64 (Int.tdiv (IntKind.wrap IntKind.i64 (n + k)) (8 : Int))) > (1048576 : Int)) then
 (4 : Int)
 else (0 : Int)] ≤
 (1000 : Nat) ∧
 ((fstE
 [(0 : Int),
 bif Int.fdiv v ((2 : Int) ^ min (Int.toNat (IntKind.wrap IntKind.u64 (bits BinOp.and IntKind.i64 k (63 : Int)))) (IntKind.bits IntKind.u64)) != (0 : Int) then
 (2 : Int)
 else (0 : Int),
 bif
 decide
 (IntKind.wrap IntKind.i64 ((↑(ByteArray.size s) : Int) + IntKind.wrap IntKind.i64 (Int.tdiv (IntKind.wrap IntKind.i64 (n + k)) (8 : Int))) >
 (1048576 : Int)) then
 (4 : Int)
 else (0 : Int)] !=
 (0 : Int)) =
 true →
 ByteArray.empty = wS s p n k v ∧
 (0 : Int) = wP p n k v ∧
 (0 : Int) = wN n k ∧
 fstE
 [(0 : Int),
 bif Int.fdiv v ((2 : Int) ^ min (Int.toNat (IntKind.wrap IntKind.u64 (bits BinOp.and IntKind.i64 k (63 : Int)))) (IntKind.bits IntKind.u64)) != (0 : Int) then
 (2 : Int)
 else (0 : Int),
 bif
 decide
 (IntKind.wrap IntKind.i64 ((↑(ByteArray.size s) : Int) + IntKind.wrap IntKind.i64 (Int.tdiv (IntKind.wrap IntKind.i64 (n + k)) (8 : Int))) >
 (1048576 : Int)) then
 (4 : Int)
 else (0 : Int)] =
 (0 : Int)) ∧
 ((fstE
 [(0 : Int),
 bif Int.fdiv v ((2 : Int) ^ min (Int.toNat (IntKind.wrap IntKind.u64 (bits BinOp.and IntKind.i64 k (63 : Int)))) (IntKind.bits IntKind.u64)) != (0 : Int) then
 (2 : Int)
 else (0 : Int),
 bif
 decide
 (IntKind.wrap IntKind.i64 ((↑(ByteArray.size s) : Int) + IntKind.wrap IntKind.i64 (Int.tdiv (IntKind.wrap IntKind.i64 (n + k)) (8 : Int))) >
 (1048576 : Int)) then
 (4 : Int)
 else (0 : Int)] !=
 (0 : Int)) =
 false →
 (0 : Int) ≤ p ∧
 p ≤ (255 : Int) ∧
 (0 : Int) ≤ n ∧
 n ≤ (7 : Int) ∧
 (0 : Int) ≤ p ∧
 p < (2 : Int) ^ Int.toNat n ∧
 (0 : Int) ≤ IntKind.wrap IntKind.u64 k ∧
 IntKind.wrap IntKind.u64 k ≤ (32 : Int) ∧
 (0 : Int) ≤ v ∧
 v < (2 : Int) ^ Int.toNat (IntKind.wrap IntKind.u64 k) ∧
 ByteArray.size s ≤ (1048576 : Nat) ∧
 wS s p n (IntKind.wrap IntKind.u64 k) v = wS s p n k v ∧
 IntKind.wrap IntKind.i64 (wP p n (IntKind.wrap IntKind.u64 k) v) = wP p n k v ∧
 wN n (IntKind.wrap IntKind.u64 k) = wN n k ∧ (0 : Int) = (0 : Int))))
theorem pwF_e (s : ByteArray) (p n k v : Int) : pwF_t s p n k v = vcG Try.prog (Gof GBb) (fun _ => none) Try.f56 [.ag [.v (.string s), .v (.int .i64 p), .v (.int .i64 n)], .v (.int .i64 k), .v (.int .u64 v)] [] (.leaf ((.tu [.ag [.v (.string (wS s p n k v)), .v (.int .i64 (wP p n k v)), .v (.int .i64 (wN n k))], .v (.int .i64 0)])) ([])) := by kernel_rfl
def dnF_t (s : ByteArray) (p n : Int) : Prop :=
 (0 : Int) ≤ n ∧
 n ≤ (7 : Int) ∧
 (0 : Int) ≤ p ∧
 p < (2 : Int) ^ Int.toNat n ∧
 ByteArray.size s ≤ (1048576 : Nat) ∧
 List.length [(0 : Int), bif decide (IntKind.wrap IntKind.i64 ((↑(ByteArray.size s) : Int) + (1 : Int)) > (1048576 : Int)) then (4 : Int) else (0 : Int)] ≤ (1000 : Nat) ∧
 ((fstE [(0 : Int), bif decide (IntKind.wrap IntKind.i64 ((↑(ByteArray.size s) : Int) + (1 : Int)) > (1048576 : Int)) then (4 : Int) else (0 : Int)] != (0 : Int)) = true →
 ByteArray.empty = dS s p n ∧
 fstE [(0 : Int), bif decide (IntKind.wrap IntKind.i64 ((↑(ByteArray.size s) : Int) + (1 : Int)) > (1048576 : Int)) then (4 : Int) else (0 : Int)] = (0 : Int)) ∧
 ((fstE [(0 : Int), bif decide (IntKind.wrap IntKind.i64 ((↑(ByteArray.size s) : Int) + (1 : Int)) > (1048576 : Int)) then (4 : Int) else (0 : Int)] != (0 : Int)) = false →
 (0 : Int) ≤ p ∧
 p ≤ (255 : Int) ∧
 (0 : Int) ≤ n ∧
 n ≤ (7 : Int) ∧
 (0 : Int) ≤ p ∧
 p < (2 : Int) ^ Int.toNat n ∧
 (0 : Int) ≤ IntKind.wrap IntKind.u64 (IntKind.wrap IntKind.i64 ((8 : Int) - n)) ∧
 IntKind.wrap IntKind.u64 (IntKind.wrap IntKind.i64 ((8 : Int) - n)) ≤ (32 : Int) ∧
 (0 : Int) ≤ (1 : Int) ∧
 (1 : Int) < (2 : Int) ^ Int.toNat (IntKind.wrap IntKind.u64 (IntKind.wrap IntKind.i64 ((8 : Int) - n))) ∧
 ByteArray.size s ≤ (1048576 : Nat) ∧ wS s p n (IntKind.wrap IntKind.u64 (IntKind.wrap IntKind.i64 ((8 : Int) - n))) (1 : Int) = dS s p n ∧ (0 : Int) = (0 : Int))
theorem dnF_e (s : ByteArray) (p n : Int) : dnF_t s p n = vcG Try.prog (Gof GBb) (fun _ => none) Try.f57 [.ag [.v (.string s), .v (.int .i64 p), .v (.int .i64 n)]] [] (.leaf ((.tu [.v (.string (dS s p n)), .v (.int .i64 0)])) ([])) := by kernel_rfl
def longH_t (s : ByteArray) : Prop :=
 decide ((↑(ByteArray.size s) : Int) > (1048576 : Int)) = decide ((1048576 : Nat) < ByteArray.size s)
theorem longH_e (s : ByteArray) : longH_t s = vcG Try.prog (Gof []) (fun _ => none) Try.f84 [.ag [.v (.string s)]] [] (.leaf ((.v (.bool (decide (1048576 < s.size))))) ([])) := by kernel_rfl
def bitH_t (s : ByteArray) (i : Int) : Prop :=
 (8 : Int) ≠ (0 : Int) ∧
 (0 : Int) ≤ IntKind.wrap IntKind.i64 (Int.tdiv i (8 : Int)) ∧
 IntKind.wrap IntKind.i64 (Int.tdiv i (8 : Int)) < (↑(ByteArray.size s) : Int) ∧
 (8 : Int) ≠ (0 : Int) ∧
 (0 : Int) ≤ IntKind.wrap IntKind.u64 (Int.tmod i (8 : Int)) ∧
 bits BinOp.and IntKind.u64
 (Int.fdiv (IntKind.wrap IntKind.u64 (↑(UInt8.toNat (List.getD s.data.toList (Int.toNat (IntKind.wrap IntKind.i64 (Int.tdiv i (8 : Int)))) (0 : UInt8))) : Int))
 ((2 : Int) ^ min (Int.toNat (IntKind.wrap IntKind.u64 (Int.tmod i (8 : Int)))) (IntKind.bits IntKind.u64)))
 (1 : Int) =
 bkBit s i
theorem bitH_e (s : ByteArray) (i : Int) : bitH_t s i = vcG Try.prog (Gof []) (fun _ => none) Try.f103 [.ag [.v (.string s)], .v (.int .i64 i)] [] (.leaf ((.v (.int .u64 (bkBit s i)))) ([])) := by kernel_rfl
def sizeH_t (s : ByteArray) : Prop :=
 ((ByteArray.toList s == ByteArray.toList ByteArray.empty) = true → (-1 : Int) = bkN s) ∧
 ((ByteArray.toList s == ByteArray.toList ByteArray.empty) = false →
 (0 : Int) ≤ IntKind.wrap IntKind.i64 ((↑(ByteArray.size s) : Int) - (1 : Int)) ∧
 IntKind.wrap IntKind.i64 ((↑(ByteArray.size s) : Int) - (1 : Int)) < (↑(ByteArray.size s) : Int) ∧
 (((↑(UInt8.toNat (List.getD s.data.toList (Int.toNat (IntKind.wrap IntKind.i64 ((↑(ByteArray.size s) : Int) - (1 : Int)))) (0 : UInt8))) : Int) == (0 : Int)) = true → (-1 : Int) = bkN s) ∧
 (((↑(UInt8.toNat (List.getD s.data.toList (Int.toNat (IntKind.wrap IntKind.i64 ((↑(ByteArray.size s) : Int) - (1 : Int)))) (0 : UInt8))) : Int) == (0 : Int)) = false →
 (0 : Int) ≤ IntKind.wrap IntKind.i64 ((↑(ByteArray.size s) : Int) - (1 : Int)) ∧
 IntKind.wrap IntKind.i64 ((↑(ByteArray.size s) : Int) - (1 : Int)) < (↑(ByteArray.size s) : Int) ∧
 (0 : Int) ≤ (↑(UInt8.toNat (List.getD s.data.toList (Int.toNat (IntKind.wrap IntKind.i64 ((↑(ByteArray.size s) : Int) - (1 : Int)))) (0 : UInt8))) : Int) ∧
 (↑(UInt8.toNat (List.getD s.data.toList (Int.toNat (IntKind.wrap IntKind.i64 ((↑(ByteArray.size s) : Int) - (1 : Int)))) (0 : UInt8))) : Int) ≤ (255 : Int) ∧
 IntKind.wrap IntKind.i64
 (IntKind.wrap IntKind.i64
 (IntKind.wrap IntKind.i64 ((8 : Int) * IntKind.wrap IntKind.i64 ((↑(ByteArray.size s) : Int) - (1 : Int))) +
 (hiI (↑(UInt8.toNat (List.getD s.data.toList (Int.toNat (IntKind.wrap IntKind.i64 ((↑(ByteArray.size s) : Int) - (1 : Int)))) (0 : UInt8))) : Int) + (1 : Int))) -
 (1 : Int)) =
 bkN s))
theorem sizeH_e (s : ByteArray) : sizeH_t s = vcG Try.prog (Gof GBa) (fun _ => none) Try.f85 [.ag [.v (.string s)]] [] (.leaf ((.v (.int .i64 (bkN s)))) ([])) := by kernel_rfl
def numH_t (s : ByteArray) (l n : Int) : Prop :=
 (∃ (x0 : Nat), Int.NonNeg (n - (↑x0 : Int)) ∧ (0 : Int) = pkF s l x0 ∧ n = n ∧ (0 : Int) = (↑x0 : Int) ∧ s = s ∧ l = l) ∧
 ∀ (x1 : Nat),
 Int.NonNeg (n - (↑x1 : Int)) →
 (decide ((↑x1 : Int) < n) = true →
 (0 : Int) ≤ (1 : Int) ∧
 (decide (IntKind.wrap IntKind.i64 (IntKind.wrap IntKind.i64 (l - (1 : Int)) - (↑x1 : Int)) ≥ (0 : Int)) = true →
 (0 : Int) ≤ IntKind.wrap IntKind.i64 (IntKind.wrap IntKind.i64 (l - (1 : Int)) - (↑x1 : Int)) ∧
 IntKind.wrap IntKind.i64 (IntKind.wrap IntKind.i64 (l - (1 : Int)) - (↑x1 : Int)) < (8 : Int) * (↑(ByteArray.size s) : Int) ∧
 ByteArray.size s ≤ (4294967296 : Nat) ∧
 ∃ (y2 : Nat),
 Int.NonNeg (n - (↑y2 : Int)) ∧
 Nat.sub (Int.toNat n) y2 < Nat.sub (Int.toNat n) x1 ∧
 bits BinOp.or IntKind.u64 (IntKind.wrap IntKind.u64 (pkF s l x1 * (2 : Int) ^ min (Int.toNat (1 : Int)) (IntKind.bits IntKind.u64)))
 (bkBit s (IntKind.wrap IntKind.i64 (IntKind.wrap IntKind.i64 (l - (1 : Int)) - (↑x1 : Int)))) =
 pkF s l y2 ∧
 n = n ∧ IntKind.wrap IntKind.i64 ((↑x1 : Int) + (1 : Int)) = (↑y2 : Int) ∧ s = s ∧ l = l) ∧
 (decide (IntKind.wrap IntKind.i64 (IntKind.wrap IntKind.i64 (l - (1 : Int)) - (↑x1 : Int)) ≥ (0 : Int)) = false →
 ∃ (y3 : Nat),
 Int.NonNeg (n - (↑y3 : Int)) ∧
 Nat.sub (Int.toNat n) y3 < Nat.sub (Int.toNat n) x1 ∧
 IntKind.wrap IntKind.u64 (pkF s l x1 * (2 : Int) ^ min (Int.toNat (1 : Int)) (IntKind.bits IntKind.u64)) = pkF s l y3 ∧
 n = n ∧ IntKind.wrap IntKind.i64 ((↑x1 : Int) + (1 : Int)) = (↑y3 : Int) ∧ s = s ∧ l = l)) ∧
 (decide ((↑x1 : Int) < n) = false → pkF s l x1 = pkF s l (Int.toNat n) ∧ s = s ∧ l = l)
theorem numH_e (s : ByteArray) (l n : Int) : numH_t s l n = vcG Try.prog (Gof GBa) (one (oNumT s l n)) Try.f90 [.p 0 0 0, .v (.int .i64 n)] [(0, .cells 133 [.v (.string s), .v (.int .i64 l)])] (.leaf ((.v (.int .u64 (pkF s l n.toNat)))) ([(0, .cells 133 [.v (.string s), .v (.int .i64 l)])])) := by kernel_rfl
def rreadH_t (s : ByteArray) : Prop :=
 ByteArray.size s ≤ (4294967296 : Nat) ∧
 ((bkE s != (0 : Int)) = true → ByteArray.empty = bkS s ∧ (0 : Int) = bkR s ∧ bkE s = bkE s) ∧ ((bkE s != (0 : Int)) = false → s = bkS s ∧ bkR s = bkR s ∧ (0 : Int) = bkE s)
def bitsH_t (s : ByteArray) : Prop :=
 ByteArray.size s ≤ (4294967296 : Nat) ∧
 List.length [bif decide ((1048576 : Nat) < ByteArray.size s) then (4 : Int) else (0 : Int), bif decide (bkN s < (0 : Int)) then (22 : Int) else (0 : Int)] ≤ (1000 : Nat) ∧
 ((fstE [bif decide ((1048576 : Nat) < ByteArray.size s) then (4 : Int) else (0 : Int), bif decide (bkN s < (0 : Int)) then (22 : Int) else (0 : Int)] != (0 : Int)) = true →
 (0 : Int) = bkR s ∧ fstE [bif decide ((1048576 : Nat) < ByteArray.size s) then (4 : Int) else (0 : Int), bif decide (bkN s < (0 : Int)) then (22 : Int) else (0 : Int)] = bkE s) ∧
 ((fstE [bif decide ((1048576 : Nat) < ByteArray.size s) then (4 : Int) else (0 : Int), bif decide (bkN s < (0 : Int)) then (22 : Int) else (0 : Int)] != (0 : Int)) = false →
 ByteArray.size s ≤ (4294967296 : Nat) ∧ bkN s = bkR s ∧ (0 : Int) = bkE s)
theorem bitsH_e (s : ByteArray) : bitsH_t s = vcG Try.prog (Gof GBb) (fun _ => none) Try.f65 [.v (.string s)] [] (.leaf ((.tu [.v (.int .i64 (bkR s)), .v (.int .i64 (bkE s))])) ([])) := by kernel_rfl
def rightH_t (s : ByteArray) (l : Int) : Prop :=
 (decide ((1048576 : Nat) < ByteArray.size s) = true → (10 : Int) = rgE s l) ∧
 (decide ((1048576 : Nat) < ByteArray.size s) = false →
 ByteArray.size s ≤ (4294967296 : Nat) ∧
 (decide (bkN s < (0 : Int)) = true → (10 : Int) = rgE s l) ∧
 (decide (bkN s < (0 : Int)) = false →
 (decide (l < (0 : Int)) = true → (10 : Int) = rgE s l) ∧
 (decide (l < (0 : Int)) = false → ByteArray.size s ≤ (4294967296 : Nat) ∧ (bif decide (l > bkN s) then (10 : Int) else (0 : Int)) = rgE s l)))
theorem rightH_e (s : ByteArray) (l : Int) : rightH_t s l = vcG Try.prog (Gof GBb) (fun _ => none) Try.f89 [.ag [.v (.string s), .v (.int .i64 l)]] [] (.leaf ((.v (.int .i64 (rgE s l)))) ([])) := by kernel_rfl
def readH_t (s : ByteArray) : Prop :=
 ByteArray.size s ≤ (4294967296 : Nat) ∧
 ((bkE s != (0 : Int)) = true → ByteArray.empty = bkS s ∧ (0 : Int) = bkR s ∧ bkE s = bkE s) ∧ ((bkE s != (0 : Int)) = false → s = bkS s ∧ bkR s = bkR s ∧ (0 : Int) = bkE s)
theorem readH_e (s : ByteArray) : readH_t s = vcG Try.prog (Gof GBc) (fun _ => none) Try.f47 [.v (.string s)] [] (.leaf ((.tu [.ag [.v (.string (bkS s)), .v (.int .i64 (bkR s))], .v (.int .i64 (bkE s))])) ([])) := by kernel_rfl
def peekH_t (s : ByteArray) (l n : Int) : Prop :=
 ByteArray.size s ≤ (4294967296 : Nat) ∧
 (decide (n < (0 : Int)) = true →
 List.length [rgE s l, (2 : Int)] ≤ (1000 : Nat) ∧
 ((fstE [rgE s l, (2 : Int)] != (0 : Int)) = true → (0 : Int) = pkV s l n ∧ fstE [rgE s l, (2 : Int)] = pkE s l n) ∧
 ((fstE [rgE s l, (2 : Int)] != (0 : Int)) = false →
 (0 : Int) ≤ n ∧
 n ≤ (32 : Int) ∧ (0 : Int) ≤ l ∧ l ≤ (8 : Int) * (↑(ByteArray.size s) : Int) ∧ ByteArray.size s ≤ (4294967296 : Nat) ∧ pkF s l (Int.toNat n) = pkV s l n ∧ (0 : Int) = pkE s l n)) ∧
 (decide (n < (0 : Int)) = false →
 List.length [rgE s l, bif decide (n > (32 : Int)) then (2 : Int) else (0 : Int)] ≤ (1000 : Nat) ∧
 ((fstE [rgE s l, bif decide (n > (32 : Int)) then (2 : Int) else (0 : Int)] != (0 : Int)) = true →
 (0 : Int) = pkV s l n ∧ fstE [rgE s l, bif decide (n > (32 : Int)) then (2 : Int) else (0 : Int)] = pkE s l n) ∧
 ((fstE [rgE s l, bif decide (n > (32 : Int)) then (2 : Int) else (0 : Int)] != (0 : Int)) = false →
 (0 : Int) ≤ n ∧
 n ≤ (32 : Int) ∧ (0 : Int) ≤ l ∧ l ≤ (8 : Int) * (↑(ByteArray.size s) : Int) ∧ ByteArray.size s ≤ (4294967296 : Nat) ∧ pkF s l (Int.toNat n) = pkV s l n ∧ (0 : Int) = pkE s l n))
theorem peekH_e (s : ByteArray) (l n : Int) : peekH_t s l n = vcG Try.prog (Gof GBc) (fun _ => none) Try.f67 [.ag [.v (.string s), .v (.int .i64 l)], .v (.int .i64 n)] [] (.leaf ((.tu [.v (.int .u64 (pkV s l n)), .v (.int .i64 (pkE s l n))])) ([])) := by kernel_rfl
def takeH_t (s : ByteArray) (l n : Int) : Prop :=
 ByteArray.size s ≤ (4294967296 : Nat) ∧
 List.length [pkE s l n, bif decide (n > l) then (5 : Int) else (0 : Int)] ≤ (1000 : Nat) ∧
 ((fstE [pkE s l n, bif decide (n > l) then (5 : Int) else (0 : Int)] != (0 : Int)) = true →
 ByteArray.empty = tkS s l n ∧ (0 : Int) = tkL s l n ∧ (0 : Int) = tkV s l n ∧ fstE [pkE s l n, bif decide (n > l) then (5 : Int) else (0 : Int)] = tkE s l n) ∧
 ((fstE [pkE s l n, bif decide (n > l) then (5 : Int) else (0 : Int)] != (0 : Int)) = false →
 s = tkS s l n ∧ IntKind.wrap IntKind.i64 (l - n) = tkL s l n ∧ pkV s l n = tkV s l n ∧ (0 : Int) = tkE s l n)
theorem takeH_e (s : ByteArray) (l n : Int) : takeH_t s l n = vcG Try.prog (Gof GBd) (fun _ => none) Try.f49 [.ag [.v (.string s), .v (.int .i64 l)], .v (.int .i64 n)] [] (.leaf ((.tu [.ag [.v (.string (tkS s l n)), .v (.int .i64 (tkL s l n))], .v (.int .u64 (tkV s l n)), .v (.int .i64 (tkE s l n))])) ([])) := by kernel_rfl
end Go.Proofs.Ytmdbliacaeokaaa

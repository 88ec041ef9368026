/-
  Texts joined: D8F, BF, BA, C6C, C6L, C6F, C6A, C6S, C6At, C6G, C6B, C6D, C6Dt, C6H, C6E, C7F, C7A, UF, UA, UAt, C7J, C7G, C7M, UG. Conditions: each theorem's own.
-/
import Derived.WalkKit
import Derived.IntWalk
import Derived.Test.YtmdbliacaeokaaaK1
import Derived.Test.YtmdbliacaeokaaaK3
import Derived.Shelf.SlSortCmp.WholeK
namespace Go.Proofs.Ytmdbliacaeokaaa
set_option linter.unusedVariables false
def hiI (n : Int) : Int := cond (decide (n ≤ 0)) (-1) (Nat.log2 n.toNat : Nat)
def pt (p : Int) : Int := cond (decide (p < 0)) 1 p
end Go.Proofs.Ytmdbliacaeokaaa
namespace Go.Proofs.Ytmdbliacaeokaaa
open Go
set_option linter.unusedVariables false
set_option linter.unusedSimpArgs false
set_option maxRecDepth 100000
def lowB : Nat → Int → List Int
  | 0, _ => []
  | m + 1, x => x % 256 :: lowB m (x / 256)
def wX (p n v : Int) : Int := p + v * 2 ^ n.toNat
def wM (n k : Int) : Nat := ((n + k) / 8).toNat
def wS (s : ByteArray) (p n k v : Int) : ByteArray := s ++ strOfNums (lowB (wM n k) (wX p n v))
def wP (p n k v : Int) : Int := wX p n v / 256 ^ wM n k
def wN (n k : Int) : Int := (n + k) % 8
def wBytes (s : ByteArray) (x : Int) (j : Nat) : List Int := bytesN s ++ lowB j x
def dS (s : ByteArray) (p n : Int) : ByteArray := s ++ strOfNums [p + 2 ^ n.toNat]
def lowV (v : Int) (i : Nat) : Int := v % 2 ^ i
def fstE : List Int → Int
  | [] => 0
  | x :: r => cond (x == 0) (fstE r) x
def putWr (w : ByteArray × Int × Int) (k v : Int) : ByteArray × Int × Int := (wS w.1 w.2.1 w.2.2 k v, wP w.2.1 w.2.2 k v, wN w.2.2 k)
def nthI (l : List Int) (k : Nat) : Nat := l.length - 1 - k
def nthS (l : List Int) (k : Nat) : Int := l.getD (nthI l k) 0
def lastB (s : ByteArray) : Int := ((s.data.toList.getD (s.size - 1) 0).toNat : Int)
def noB (s : ByteArray) : Bool := Nat.beq s.size 0 || lastB s == 0
def bkN (s : ByteArray) : Int := cond (noB s) (-1) (8 * ((s.size : Int) - 1) + hiI (lastB s))
def bkE (s : ByteArray) : Int := cond (decide (1048576 < s.size)) 4 (cond (noB s) 22 0)
def bkR (s : ByteArray) : Int := cond (bkE s == 0) (bkN s) 0
def bkS (s : ByteArray) : ByteArray := cond (bkE s == 0) s ByteArray.empty
def rgE (s : ByteArray) (left : Int) : Int := cond (bkE s == 0) (cond (decide (left < 0) || decide (bkN s < left)) 10 0) 10
def pkE (s : ByteArray) (left n : Int) : Int := cond (rgE s left == 0) (cond (decide (n < 0) || decide (32 < n)) 2 0) (rgE s left)
def byI (s : ByteArray) (i : Nat) : Int := ((s.data.toList.getD i 0).toNat : Int)
def bkBit (s : ByteArray) (k : Int) : Int := cond (decide (k < 0)) 0 (byI s (k / 8).toNat / 2 ^ (k % 8).toNat % 2)
def pkF (s : ByteArray) (left : Int) : Nat → Int
  | 0 => 0
  | i + 1 => 2 * pkF s left i + bkBit s (left - 1 - (i : Nat))
def pkV (s : ByteArray) (left n : Int) : Int := cond (pkE s left n == 0) (pkF s left n.toNat) 0
def tkE (s : ByteArray) (left n : Int) : Int := cond (pkE s left n == 0) (cond (decide (left < n)) 5 0) (pkE s left n)
def tkS (s : ByteArray) (left n : Int) : ByteArray := cond (tkE s left n == 0) s ByteArray.empty
def tkL (s : ByteArray) (left n : Int) : Int := cond (tkE s left n == 0) (left - n) 0
def tkV (s : ByteArray) (left n : Int) : Int := cond (tkE s left n == 0) (pkF s left n.toNat) 0
def tkO (s : ByteArray) (left n : Int) : Bool := tkE s left n == 0
def nxL (s : ByteArray) (left n : Int) : Int := cond (tkE s left n == 0) (left - n) left
end Go.Proofs.Ytmdbliacaeokaaa
namespace Go.Proofs.Ytmdbliacaeokaaa
open Go Go.RowKit
set_option linter.unusedVariables false
set_option linter.unusedSimpArgs false
set_option maxRecDepth 100000
def one (x : LoopInv) : Nat → Option LoopFam := fun k => cond (Nat.beq k 0) (some (.one x)) none
def sWhen : Spec where
  ι := Bool × Int
  dec l H := match l with
    | [.v (.bool b), .v (.int .i64 e)] => some ((b, e), [])
    | _ => none
  args := fun (b, e) => [.v (.bool b), .v (.int .i64 e)]
  out := fun (b, e) => .leaf (.v (.int .i64 (cond b e 0))) []
theorem sWhen_enc : ∀ l H n i ls, sWhen.dec l H = some (i, ls) → l = renL (rho ls n) (sWhen.args i) ∧ givenHp H ls = renH (rho ls n) (sWhen.hp i) := by
  intro l H n i ls h
  simp only [sWhen] at h
  repeat' split at h
  all_goals first
    | (cases h; done)
    | (cases h; exact ⟨rfl, rfl⟩)
def sFst : Spec where
  ι := List Int
  dec l H := match l with
    | [.dat (.ints .i64 l)] => some (l, [])
    | _ => none
  args := fun l => [.dat (.ints .i64 l)]
  pre := fun l => [⟨l.length ≤ 1000, inferInstance⟩]
  out := fun l => .leaf (.v (.int .i64 (fstE l))) []
theorem sFst_enc : ∀ l H n i ls, sFst.dec l H = some (i, ls) → l = renL (rho ls n) (sFst.args i) ∧ givenHp H ls = renH (rho ls n) (sFst.hp i) := by
  intro l H n i ls h
  simp only [sFst] at h
  repeat' split at h
  all_goals first
    | (cases h; done)
    | (cases h; exact ⟨rfl, rfl⟩)
def sChkW : Spec where
  ι := ByteArray × Int × Int
  dec l H := match l with
    | [.ag [.v (.string s), .v (.int .i64 p), .v (.int .i64 n)]] => some ((s, p, n), [])
    | _ => none
  args := fun (s, p, n) => [.ag [.v (.string s), .v (.int .i64 p), .v (.int .i64 n)]]
  pre := fun (s, p, n) => [⟨0 ≤ n, inferInstance⟩, ⟨n ≤ 7, inferInstance⟩, ⟨0 ≤ p, inferInstance⟩, ⟨p < 2 ^ n.toNat, inferInstance⟩, ⟨s.size ≤ 1048576, inferInstance⟩]
  out := fun (s, p, n) => .leaf (.v (.int .i64 0)) []
theorem sChkW_enc : ∀ l H n i ls, sChkW.dec l H = some (i, ls) → l = renL (rho ls n) (sChkW.args i) ∧ givenHp H ls = renH (rho ls n) (sChkW.hp i) := by
  intro l H n i ls h
  simp only [sChkW] at h
  repeat' split at h
  all_goals first
    | (cases h; done)
    | (cases h; exact ⟨rfl, rfl⟩)
def sOpenW : Spec where
  ι := ByteArray × Int × Int
  dec l H := match l with
    | [.ag [.v (.string s), .v (.int .i64 p), .v (.int .i64 n)]] => some ((s, p, n), [])
    | _ => none
  args := fun (s, p, n) => [.ag [.v (.string s), .v (.int .i64 p), .v (.int .i64 n)]]
  pre := fun (s, p, n) => [⟨0 ≤ p, inferInstance⟩, ⟨p ≤ 255, inferInstance⟩]
  out := fun (s, p, n) => .leaf (.p 2000 0 0) [(2000, .cells 118 [.v (.string s), .v (.int .u64 p), .v (.int .i64 n)])]
theorem sOpenW_enc : ∀ l H n i ls, sOpenW.dec l H = some (i, ls) → l = renL (rho ls n) (sOpenW.args i) ∧ givenHp H ls = renH (rho ls n) (sOpenW.hp i) := by
  intro l H n i ls h
  simp only [sOpenW] at h
  repeat' split at h
  all_goals first
    | (cases h; done)
    | (cases h; exact ⟨rfl, rfl⟩)
def sWput : Spec where
  ι := ByteArray × Int × Int × Int × Int
  own := true
  dec l H := match l with
    | [.p l0 0 0, .s l1 0 1 (some 1)] => match H l0 with
      | some (.cells 118 [.v (.string s), .v (.int .u64 p), .v (.int .i64 n)]) => match H l1 with
        | some (.cells 114 [.v (.int .u64 k), .v (.int .u64 v)]) => some ((s, p, n, k, v), [l0, l1])
        | _ => none
      | _ => none
    | _ => none
  args := fun (s, p, n, k, v) => [.p 0 0 0, .s 1 0 1 (some 1)]
  hp := fun (s, p, n, k, v) => [(0, .cells 118 [.v (.string s), .v (.int .u64 p), .v (.int .i64 n)]), (1, .cells 114 [.v (.int .u64 k), .v (.int .u64 v)])]
  pre := fun (s, p, n, k, v) => [⟨0 ≤ n, inferInstance⟩, ⟨n ≤ 7, inferInstance⟩, ⟨0 ≤ p, inferInstance⟩, ⟨p < 2 ^ n.toNat, inferInstance⟩, ⟨0 ≤ k, inferInstance⟩, ⟨k ≤ 32, inferInstance⟩, ⟨0 ≤ v, inferInstance⟩, ⟨v < 2 ^ k.toNat, inferInstance⟩, ⟨s.size ≤ 1048576, inferInstance⟩]
  out := fun (s, p, n, k, v) => .leaf (.tu []) [(0, .cells 118 [.v (.string (wS s p n k v)), .v (.int .u64 (wP p n k v)), .v (.int .i64 (wN n k))]), (1, .cells 114 [.v (.int .u64 k), .v (.int .u64 v)])]
theorem sWput_enc : ∀ l H n i ls, sWput.dec l H = some (i, ls) → l = renL (rho ls n) (sWput.args i) ∧ givenHp H ls = renH (rho ls n) (sWput.hp i) := by
  intro l H n i ls h
  simp only [sWput] at h
  repeat' split at h
  all_goals first
    | (cases h; done)
    | (cases h; exact ⟨rfl, rfl⟩)
    | (cases h; refine ⟨rfl, ?_⟩; simp only [givenHp, List.filterMap_cons, List.filterMap_nil, Option.map, *]; rfl)
def sPutW : Spec where
  ι := ByteArray × Int × Int × Int × Int
  dec l H := match l with
    | [.ag [.v (.string s), .v (.int .i64 p), .v (.int .i64 n)], .v (.int .i64 k), .v (.int .u64 v)] => some ((s, p, n, k, v), [])
    | _ => none
  args := fun (s, p, n, k, v) => [.ag [.v (.string s), .v (.int .i64 p), .v (.int .i64 n)], .v (.int .i64 k), .v (.int .u64 v)]
  pre := fun (s, p, n, k, v) => [⟨0 ≤ n, inferInstance⟩, ⟨n ≤ 7, inferInstance⟩, ⟨0 ≤ p, inferInstance⟩, ⟨p < 2 ^ n.toNat, inferInstance⟩, ⟨0 ≤ k, inferInstance⟩, ⟨k ≤ 32, inferInstance⟩, ⟨0 ≤ v, inferInstance⟩, ⟨v < 2 ^ k.toNat, inferInstance⟩, ⟨s.size ≤ 1000000, inferInstance⟩]
  out := fun (s, p, n, k, v) => .leaf (.tu [.ag [.v (.string (wS s p n k v)), .v (.int .i64 (wP p n k v)), .v (.int .i64 (wN n k))], .v (.int .i64 0)]) []
theorem sPutW_enc : ∀ l H n i ls, sPutW.dec l H = some (i, ls) → l = renL (rho ls n) (sPutW.args i) ∧ givenHp H ls = renH (rho ls n) (sPutW.hp i) := by
  intro l H n i ls h
  simp only [sPutW] at h
  repeat' split at h
  all_goals first
    | (cases h; done)
    | (cases h; exact ⟨rfl, rfl⟩)
def sDoneW : Spec where
  ι := ByteArray × Int × Int
  dec l H := match l with
    | [.ag [.v (.string s), .v (.int .i64 p), .v (.int .i64 n)]] => some ((s, p, n), [])
    | _ => none
  args := fun (s, p, n) => [.ag [.v (.string s), .v (.int .i64 p), .v (.int .i64 n)]]
  pre := fun (s, p, n) => [⟨0 ≤ n, inferInstance⟩, ⟨n ≤ 7, inferInstance⟩, ⟨0 ≤ p, inferInstance⟩, ⟨p < 2 ^ n.toNat, inferInstance⟩, ⟨s.size ≤ 1000000, inferInstance⟩]
  out := fun (s, p, n) => .leaf (.tu [.v (.string (dS s p n)), .v (.int .i64 0)]) []
theorem sDoneW_enc : ∀ l H n i ls, sDoneW.dec l H = some (i, ls) → l = renL (rho ls n) (sDoneW.args i) ∧ givenHp H ls = renH (rho ls n) (sDoneW.hp i) := by
  intro l H n i ls h
  simp only [sDoneW] at h
  repeat' split at h
  all_goals first
    | (cases h; done)
    | (cases h; exact ⟨rfl, rfl⟩)
def oWpB (s : ByteArray) (p n k v : Int) : LoopInv := { ι := Nat, p := fun j => j ≤ wM n k, tm := fun j => [(0, .p 0 0 0), (1, .s 1 0 1 none), (6, .o 5000)], hp := fun j => [(0, .cells 118 [.v (.string s), .v (.int .u64 (wX p n v / 256 ^ j)), .v (.int .i64 (n + k - 8 * (j : Nat)))]), (1, .cells 114 [.v (.int .u64 k), .v (.int .u64 v)]), (5000, .row 5 (.ints .u8 (wBytes s (wX p n v) j)))], μ := fun j => wM n k - j }
def oWput (s : ByteArray) (p n k v : Int) : Nat → Option LoopFam := fun i => cond (Nat.beq i 0) (some (.unr 2)) (cond (Nat.beq i 1) (some (.one (oWpB s p n k v))) none)
def oFst (l : List Int) : LoopInv := { ι := Nat, p := fun i => i ≤ l.length ∧ fstE l = fstE (l.drop i), tm := fun i => [(3, .v (.int .i64 0)), (6, .dat (.ints .i64 l)), (7, .v (.int .i64 l.length)), (8, .v (.int .i64 (i : Nat)))], hp := fun i => [], μ := fun i => l.length - i }
def sLong : Spec where
  ι := ByteArray
  dec l H := match l with
    | [.ag [.v (.string s)]] => some (s, [])
    | _ => none
  args := fun s => [.ag [.v (.string s)]]
  out := fun s => .leaf (.v (.bool (decide (1048576 < s.size)))) []
theorem sLong_enc : ∀ l H n i ls, sLong.dec l H = some (i, ls) → l = renL (rho ls n) (sLong.args i) ∧ givenHp H ls = renH (rho ls n) (sLong.hp i) := by
  intro l H n i ls h
  simp only [sLong] at h
  repeat' split at h
  all_goals first
    | (cases h; done)
    | (cases h; exact ⟨rfl, rfl⟩)
def sLen8 : Spec where
  ι := Int
  dec l H := match l with
    | [.v (.int .u8 x)] => some (x, [])
    | _ => none
  args := fun x => [.v (.int .u8 x)]
  pre := fun x => [⟨0 ≤ x, inferInstance⟩, ⟨x ≤ 255, inferInstance⟩]
  out := fun x => .leaf (.v (.int .i64 (hiI x + 1))) []
theorem sLen8_enc : ∀ l H n i ls, sLen8.dec l H = some (i, ls) → l = renL (rho ls n) (sLen8.args i) ∧ givenHp H ls = renH (rho ls n) (sLen8.hp i) := by
  intro l H n i ls h
  simp only [sLen8] at h
  repeat' split at h
  all_goals first
    | (cases h; done)
    | (cases h; exact ⟨rfl, rfl⟩)
def sBitT : Spec where
  ι := ByteArray × Int
  dec l H := match l with
    | [.ag [.v (.string s)], .v (.int .i64 i)] => some ((s, i), [])
    | _ => none
  args := fun (s, i) => [.ag [.v (.string s)], .v (.int .i64 i)]
  pre := fun (s, i) => [⟨0 ≤ i, inferInstance⟩, ⟨i < 8 * s.size, inferInstance⟩, ⟨s.size ≤ 4294967296, inferInstance⟩]
  out := fun (s, i) => .leaf (.v (.int .u64 (bkBit s i))) []
theorem sBitT_enc : ∀ l H n i ls, sBitT.dec l H = some (i, ls) → l = renL (rho ls n) (sBitT.args i) ∧ givenHp H ls = renH (rho ls n) (sBitT.hp i) := by
  intro l H n i ls h
  simp only [sBitT] at h
  repeat' split at h
  all_goals first
    | (cases h; done)
    | (cases h; exact ⟨rfl, rfl⟩)
def sSizeT : Spec where
  ι := ByteArray
  dec l H := match l with
    | [.ag [.v (.string s)]] => some (s, [])
    | _ => none
  args := fun s => [.ag [.v (.string s)]]
  pre := fun s => [⟨s.size ≤ 4294967296, inferInstance⟩]
  out := fun s => .leaf (.v (.int .i64 (bkN s))) []
theorem sSizeT_enc : ∀ l H n i ls, sSizeT.dec l H = some (i, ls) → l = renL (rho ls n) (sSizeT.args i) ∧ givenHp H ls = renH (rho ls n) (sSizeT.hp i) := by
  intro l H n i ls h
  simp only [sSizeT] at h
  repeat' split at h
  all_goals first
    | (cases h; done)
    | (cases h; exact ⟨rfl, rfl⟩)
def sNumT : Spec where
  ι := ByteArray × Int × Int
  dec l H := match l with
    | [.p l0 0 0, .v (.int .i64 n)] => match H l0 with
      | some (.cells 133 [.v (.string s), .v (.int .i64 l)]) => some ((s, l, n), [l0])
      | _ => none
    | _ => none
  args := fun (s, l, n) => [.p 0 0 0, .v (.int .i64 n)]
  hp := fun (s, l, n) => [(0, .cells 133 [.v (.string s), .v (.int .i64 l)])]
  pre := fun (s, l, n) => [⟨0 ≤ n, inferInstance⟩, ⟨n ≤ 32, inferInstance⟩, ⟨0 ≤ l, inferInstance⟩, ⟨l ≤ 8 * s.size, inferInstance⟩, ⟨s.size ≤ 4294967296, inferInstance⟩]
  out := fun (s, l, n) => .leaf (.v (.int .u64 (pkF s l n.toNat))) [(0, .cells 133 [.v (.string s), .v (.int .i64 l)])]
theorem sNumT_enc : ∀ l H n i ls, sNumT.dec l H = some (i, ls) → l = renL (rho ls n) (sNumT.args i) ∧ givenHp H ls = renH (rho ls n) (sNumT.hp i) := by
  intro l H n i ls h
  simp only [sNumT] at h
  repeat' split at h
  all_goals first
    | (cases h; done)
    | (cases h; exact ⟨rfl, rfl⟩)
    | (cases h; refine ⟨rfl, ?_⟩; simp only [givenHp, List.filterMap_cons, List.filterMap_nil, Option.map, *]; rfl)
def sBits : Spec where
  ι := ByteArray
  dec l H := match l with
    | [.v (.string s)] => some (s, [])
    | _ => none
  args := fun s => [.v (.string s)]
  pre := fun s => [⟨s.size ≤ 4294967296, inferInstance⟩]
  out := fun s => .leaf (.tu [.v (.int .i64 (bkR s)), .v (.int .i64 (bkE s))]) []
theorem sBits_enc : ∀ l H n i ls, sBits.dec l H = some (i, ls) → l = renL (rho ls n) (sBits.args i) ∧ givenHp H ls = renH (rho ls n) (sBits.hp i) := by
  intro l H n i ls h
  simp only [sBits] at h
  repeat' split at h
  all_goals first
    | (cases h; done)
    | (cases h; exact ⟨rfl, rfl⟩)
def sReadB : Spec where
  ι := ByteArray
  dec l H := match l with
    | [.v (.string s)] => some (s, [])
    | _ => none
  args := fun s => [.v (.string s)]
  pre := fun s => [⟨s.size ≤ 4294967296, inferInstance⟩]
  out := fun s => .leaf (.tu [.ag [.v (.string (bkS s)), .v (.int .i64 (bkR s))], .v (.int .i64 (bkE s))]) []
theorem sReadB_enc : ∀ l H n i ls, sReadB.dec l H = some (i, ls) → l = renL (rho ls n) (sReadB.args i) ∧ givenHp H ls = renH (rho ls n) (sReadB.hp i) := by
  intro l H n i ls h
  simp only [sReadB] at h
  repeat' split at h
  all_goals first
    | (cases h; done)
    | (cases h; exact ⟨rfl, rfl⟩)
def sRight : Spec where
  ι := ByteArray × Int
  dec l H := match l with
    | [.ag [.v (.string s), .v (.int .i64 l)]] => some ((s, l), [])
    | _ => none
  args := fun (s, l) => [.ag [.v (.string s), .v (.int .i64 l)]]
  pre := fun (s, l) => [⟨s.size ≤ 4294967296, inferInstance⟩]
  out := fun (s, l) => .leaf (.v (.int .i64 (rgE s l))) []
theorem sRight_enc : ∀ l H n i ls, sRight.dec l H = some (i, ls) → l = renL (rho ls n) (sRight.args i) ∧ givenHp H ls = renH (rho ls n) (sRight.hp i) := by
  intro l H n i ls h
  simp only [sRight] at h
  repeat' split at h
  all_goals first
    | (cases h; done)
    | (cases h; exact ⟨rfl, rfl⟩)
def sAskB : Spec where
  ι := ByteArray × Int × Int
  dec l H := match l with
    | [.ag [.v (.string s), .v (.int .i64 l)], .v (.int .i64 n)] => some ((s, l, n), [])
    | _ => none
  args := fun (s, l, n) => [.ag [.v (.string s), .v (.int .i64 l)], .v (.int .i64 n)]
  pre := fun (s, l, n) => [⟨s.size ≤ 4294967296, inferInstance⟩]
  out := fun (s, l, n) => .leaf (.v (.int .i64 (pkE s l n))) []
theorem sAskB_enc : ∀ l H n i ls, sAskB.dec l H = some (i, ls) → l = renL (rho ls n) (sAskB.args i) ∧ givenHp H ls = renH (rho ls n) (sAskB.hp i) := by
  intro l H n i ls h
  simp only [sAskB] at h
  repeat' split at h
  all_goals first
    | (cases h; done)
    | (cases h; exact ⟨rfl, rfl⟩)
def sPeek : Spec where
  ι := ByteArray × Int × Int
  dec l H := match l with
    | [.ag [.v (.string s), .v (.int .i64 l)], .v (.int .i64 n)] => some ((s, l, n), [])
    | _ => none
  args := fun (s, l, n) => [.ag [.v (.string s), .v (.int .i64 l)], .v (.int .i64 n)]
  pre := fun (s, l, n) => [⟨s.size ≤ 4294967296, inferInstance⟩]
  out := fun (s, l, n) => .leaf (.tu [.v (.int .u64 (pkV s l n)), .v (.int .i64 (pkE s l n))]) []
theorem sPeek_enc : ∀ l H n i ls, sPeek.dec l H = some (i, ls) → l = renL (rho ls n) (sPeek.args i) ∧ givenHp H ls = renH (rho ls n) (sPeek.hp i) := by
  intro l H n i ls h
  simp only [sPeek] at h
  repeat' split at h
  all_goals first
    | (cases h; done)
    | (cases h; exact ⟨rfl, rfl⟩)
def sSkip : Spec where
  ι := ByteArray × Int × Int
  dec l H := match l with
    | [.ag [.v (.string s), .v (.int .i64 l)], .v (.int .i64 n)] => some ((s, l, n), [])
    | _ => none
  args := fun (s, l, n) => [.ag [.v (.string s), .v (.int .i64 l)], .v (.int .i64 n)]
  pre := fun (s, l, n) => [⟨s.size ≤ 4294967296, inferInstance⟩]
  out := fun (s, l, n) => .leaf (.tu [.ag [.v (.string (tkS s l n)), .v (.int .i64 (tkL s l n))], .v (.int .i64 (tkE s l n))]) []
theorem sSkip_enc : ∀ l H n i ls, sSkip.dec l H = some (i, ls) → l = renL (rho ls n) (sSkip.args i) ∧ givenHp H ls = renH (rho ls n) (sSkip.hp i) := by
  intro l H n i ls h
  simp only [sSkip] at h
  repeat' split at h
  all_goals first
    | (cases h; done)
    | (cases h; exact ⟨rfl, rfl⟩)
def sTake : Spec where
  ι := ByteArray × Int × Int
  dec l H := match l with
    | [.ag [.v (.string s), .v (.int .i64 l)], .v (.int .i64 n)] => some ((s, l, n), [])
    | _ => none
  args := fun (s, l, n) => [.ag [.v (.string s), .v (.int .i64 l)], .v (.int .i64 n)]
  pre := fun (s, l, n) => [⟨s.size ≤ 4294967296, inferInstance⟩]
  out := fun (s, l, n) => .leaf (.tu [.ag [.v (.string (tkS s l n)), .v (.int .i64 (tkL s l n))], .v (.int .u64 (tkV s l n)), .v (.int .i64 (tkE s l n))]) []
theorem sTake_enc : ∀ l H n i ls, sTake.dec l H = some (i, ls) → l = renL (rho ls n) (sTake.args i) ∧ givenHp H ls = renH (rho ls n) (sTake.hp i) := by
  intro l H n i ls h
  simp only [sTake] at h
  repeat' split at h
  all_goals first
    | (cases h; done)
    | (cases h; exact ⟨rfl, rfl⟩)
def oNumT (s : ByteArray) (l n : Int) : LoopInv := { ι := Nat, p := fun i => (i : Int) ≤ n, tm := fun i => [(0, .p 0 0 0), (5, .v (.int .u64 (pkF s l i))), (8, .v (.int .i64 n)), (9, .v (.int .i64 (i : Nat)))], hp := fun i => [(0, .cells 133 [.v (.string s), .v (.int .i64 l)])], μ := fun i => n.toNat - i }
def oRpkB (s : ByteArray) (l n : Int) : LoopInv := { ι := Nat, p := fun i => (i : Int) ≤ n, tm := fun i => [(1, .v (.int .i64 n)), (2, .p 1000 0 0), (7, .v (.int .u64 (pkF s l i))), (8, .v (.int .i64 (i : Nat)))], hp := fun i => [(1000, .cells 68 [.v (.string s), .v (.int .i64 l)])], μ := fun i => n.toNat - i }
def oRbitB (s : ByteArray) : LoopInv := { ι := Nat, p := fun i => noB s = false ∧ bkN s ≤ 8 * s.size - 1 - (i : Nat), tm := fun i => [(0, .v (.string s)), (4, .v (.int .i64 (8 * s.size - 1 - (i : Nat))))], hp := fun i => [], μ := fun i => 8 * s.size - i }
def GBa : List (Nat × Ctr) := (69, sWhen.ctr) :: (68, sFst.ctr) :: (79, sOpenW.ctr) :: (80, sWput.ctr) :: (84, sLong.ctr) :: (95, sLen8.ctr) :: (103, sBitT.ctr) :: (72, sBits.ctr) :: []
def GBb : List (Nat × Ctr) := (78, sChkW.ctr) :: (85, sSizeT.ctr) :: (90, sNumT.ctr) :: (104, sRight.ctr) :: (51, sReadB.ctr) :: GBa
def GBc : List (Nat × Ctr) := (56, sPutW.ctr) :: (57, sDoneW.ctr) :: (65, sBits.ctr) :: (89, sRight.ctr) :: (92, sAskB.ctr) :: GBb
def GBd : List (Nat × Ctr) := (47, sReadB.ctr) :: (67, sPeek.ctr) :: (75, sSkip.ctr) :: (76, sPeek.ctr) :: GBc
def GBe : List (Nat × Ctr) := (49, sTake.ctr) :: (53, sTake.ctr) :: GBd
end Go.Proofs.Ytmdbliacaeokaaa
namespace Go.Proofs.Ytmdbliacaeokaaa
open Go Go.Shelf Go.RowKit Go.Lib Go.Sort
set_option linter.unusedVariables false
set_option linter.unusedSimpArgs false
set_option maxRecDepth 100000
def cmpI (a b : Int) : Int := if a < b then -1 else if b < a then 1 else 0
theorem nan_w (a : Int) (w : World) : Calls Try.prog 108 #[.int .i64 a] w fun e w' => e = .returned (.bool false) ∧ w' = w := by
  go_enter Try.func108, Try.ntmps108
  go_wp2
  go_ret
  simp
theorem cmp_w (a b : Int) (w : World) : Calls Try.prog 101 #[.int .i64 a, .int .i64 b] w fun e w' => e = .returned (.int .i64 (cmpI a b)) ∧ w' = w := by
  have h := nan_w
  unfold cmpI
  go_enter Try.func101, Try.ntmps101
  go_wp2_with (go_at_call 108; refine (h _ _).mono ?_; rintro e w' ⟨rfl, rfl⟩)
  all_goals (go_ret; exact ⟨rfl, rfl⟩)
theorem or_w (a b : Int) (w : World) (g : Nat) (h0 : w.cell? ⟨g, 0, none⟩ = some (.int .i64 a)) (h1 : w.cell? ⟨g, 1, none⟩ = some (.int .i64 b)) :
    Calls Try.prog 100 #[.slice (some ⟨g, 0, none⟩) 2 2] w fun e w' => e = .returned (.int .i64 (if a = 0 then b else a)) ∧ w' = w := by
  by_cases ha : a = 0
  · subst ha
    rw [if_pos rfl]
    by_cases hb : b = 0
    · subst hb
      go_enter Try.func100, Try.ntmps100
      go_wp2
      refine wp_loop_rounds 3 ?_
      rw [rounds_succ]
      go_wp2
      rw [rounds_succ]
      go_wp2
      rw [rounds_succ]
      go_wp2
      go_ret
      exact ⟨rfl, rfl⟩
    · have hb2 : (b != 0) = true := by simpa using hb
      go_enter Try.func100, Try.ntmps100
      go_wp2
      refine wp_loop_rounds 3 ?_
      rw [rounds_succ]
      go_wp2
      rw [rounds_succ]
      go_wp2
      go_ret
      exact ⟨rfl, rfl⟩
  · have ha2 : (a != 0) = true := by simpa using ha
    rw [if_neg ha]
    go_enter Try.func100, Try.ntmps100
    go_wp2
    refine wp_loop_rounds 3 ?_
    rw [rounds_succ]
    go_wp2
    go_ret
    exact ⟨rfl, rfl⟩
theorem closure_w (x y : Int × Int) (w : World) : Calls Try.prog 99 #[.agg #[.int .i64 x.1, .int .i64 x.2], .agg #[.int .i64 y.1, .int .i64 y.2]] w fun e w' =>
    e = .returned (.int .i64 (if cmpI y.2 x.2 = 0 then cmpI x.1 y.1 else cmpI y.2 x.2)) ∧ ∃ q os', w' = Sort.grow (w.drewN q) os' := by
  have hc := cmp_w
  generalize e1 : cmpI y.2 x.2 = c1
  generalize e2 : cmpI x.1 y.1 = c2
  obtain ⟨c3, h3⟩ : ∃ c3, (if c1 = 0 then c2 else c1) = c3 := ⟨_, rfl⟩
  have ho := or_w c1 c2
  simp only [h3] at ho ⊢
  go_enter Try.func99, Try.ntmps99
  go_wp2
  obtain ⟨W1, hW1⟩ : ∃ W1, W1 = ((w.alloc (.cells #[.int .i64 x.1, .int .i64 x.2] 129)).alloc (.cells #[.int .i64 y.1, .int .i64 y.2] 129)).drew := ⟨_, rfl⟩
  obtain ⟨W2, hW2⟩ : ∃ W2, W2 = (((w.alloc (.cells #[.int .i64 x.1, .int .i64 x.2] 129)).alloc (.cells #[.int .i64 y.1, .int .i64 y.2] 129)).alloc (.cells #[.int .i64 c1, .int .i64 c2] 3)).drew := ⟨_, rfl⟩
  go_region_held3 (fun w' => w'.cell? ⟨w.heap.size, 0, none⟩ = some (.int .i64 x.1) ∧ w'.cell? ⟨w.heap.size, 1, none⟩ = some (.int .i64 x.2) ∧ w'.cell? ⟨w.heap.size + 1, 0, none⟩ = some (.int .i64 y.1) ∧ w'.cell? ⟨w.heap.size + 1, 1, none⟩ = some (.int .i64 y.2) ∧ (w' = W1 ∨ w' = W2))
    (first | assumption | (refine ⟨?_, ?_, ?_, ?_, ?_⟩ <;> first | exact Or.inl rfl | exact Or.inl hW1.symm | (simp [go_sem]; done) | (rw [hW1]; simp [go_sem]; done) | exact Or.inr hW2.symm | (rw [hW2]; exact Or.inr (by simp [go_sem, *])) | skip))
    (first | (go_at_call 101; refine (hc _ _ _).mono ?_; rintro e w' ⟨rfl, rfl⟩) | (go_at_call 100; refine (ho _ _ (by simp [go_sem]) (by simp [go_sem])).mono ?_; rintro e w' ⟨rfl, rfl⟩))
  go_wp2
  go_ret
  exact ⟨rfl, 1, _, by rw [Sort.alloc_eq_grow, Sort.alloc_eq_grow, Sort.alloc_eq_grow, Sort.grow_grow, Sort.grow_grow]; rfl⟩
end Go.Proofs.Ytmdbliacaeokaaa
namespace Go.Proofs.Ytmdbliacaeokaaa
open Go Go.Shelf
def sortSym_ren : Go.Shelf.Ren := ⟨fun | 6 => 98 | 15 => 107 | 14 => 106 | 28 => 118 | 29 => 119 | 20 => 110 | 21 => 111 | 22 => 112 | 23 => 113 | 24 => 114 | 25 => 115 | 26 => 116 | 27 => 117 | 46 => 120 | 47 => 121 | 48 => 122 | 49 => 123 | 50 => 124 | 57 => 125 | n => n, fun | 22 => 143 | 24 => 129 | 25 => 146 | 3 => 3 | 39 => 79 | 0 => 0 | 53 => 161 | 55 => 49 | 4 => 4 | 46 => 154 | 45 => 153 | 50 => 158 | 5 => 5 | 9 => 9 | 66 => 163 | 70 => 167 | 76 => 169 | 77 => 95 | n => n, fun | n => n⟩
theorem sortSym : Go.Proofs.SlLaysF0.n6 Try.prog sortSym_ren := {
  mixed := by kernel_rfl
  f6 := ⟨Try.f98.name, by decide, Try.func98.trans (congrArg some (by kernel_rfl))⟩
  f14 := ⟨Try.f106.name, by decide, Try.func106.trans (congrArg some (by kernel_rfl))⟩
  f15 := Try.func107.trans (congrArg some (by kernel_rfl))
  f20 := ⟨Try.f110.name, by decide, Try.func110.trans (congrArg some (by kernel_rfl))⟩
  f21 := ⟨Try.f111.name, by decide, Try.func111.trans (congrArg some (by kernel_rfl))⟩
  f22 := ⟨Try.f112.name, by decide, Try.func112.trans (congrArg some (by kernel_rfl))⟩
  f23 := ⟨Try.f113.name, by decide, Try.func113.trans (congrArg some (by kernel_rfl))⟩
  f24 := ⟨Try.f114.name, by decide, Try.func114.trans (congrArg some (by kernel_rfl))⟩
  f25 := ⟨Try.f115.name, by decide, Try.func115.trans (congrArg some (by kernel_rfl))⟩
  f26 := ⟨Try.f116.name, by decide, Try.func116.trans (congrArg some (by kernel_rfl))⟩
  f27 := ⟨Try.f117.name, by decide, Try.func117.trans (congrArg some (by kernel_rfl))⟩
  f28 := Try.func118.trans (congrArg some (by kernel_rfl))
  f29 := Try.func119.trans (congrArg some (by kernel_rfl))
  f46 := ⟨Try.f120.name, by decide, Try.func120.trans (congrArg some (by kernel_rfl))⟩
  f47 := Try.func121.trans (congrArg some (by kernel_rfl))
  f48 := Try.func122.trans (congrArg some (by kernel_rfl))
  f49 := ⟨Try.f123.name, by decide, Try.func123.trans (congrArg some (by kernel_rfl))⟩
  f50 := ⟨Try.f124.name, by decide, Try.func124.trans (congrArg some (by kernel_rfl))⟩
  f57 := ⟨Try.f125.name, by decide, Try.func125.trans (congrArg some (by kernel_rfl))⟩
  t0 := Try.underlying0
  a0 := Try.isAgg0
  z0 := Try.sizeOf0
  v0 := Try.zeroValue0
  t3 := Try.underlying3
  a3 := Try.isAgg3
  z3 := Try.sizeOf3
  v3 := Try.zeroValue3
  t4 := Try.underlying4
  a4 := Try.isAgg4
  z4 := Try.sizeOf4
  v4 := Try.zeroValue4
  t5 := Try.underlying5
  a5 := Try.isAgg5
  z5 := Try.sizeOf5
  v5 := Try.zeroValue5
  t9 := Try.underlying9
  a9 := Try.isAgg9
  z9 := Try.sizeOf9
  v9 := Try.zeroValue9
  t22 := Try.underlying143
  a22 := Try.isAgg143
  z22 := Try.sizeOf143
  v22 := Try.zeroValue143
  t25 := Try.underlying146
  a25 := Try.isAgg146
  z25 := Try.sizeOf146
  v25 := Try.zeroValue146
  t39 := Try.underlying79
  a39 := Try.isAgg79
  z39 := Try.sizeOf79
  v39 := Try.zeroValue79
  t45 := Try.underlying153
  a45 := Try.isAgg153
  z45 := Try.sizeOf153
  v45 := Try.zeroValue153
  t46 := Try.underlying154
  a46 := Try.isAgg154
  z46 := Try.sizeOf154
  v46 := Try.zeroValue154
  t50 := Try.underlying158
  a50 := Try.isAgg158
  z50 := Try.sizeOf158
  v50 := Try.zeroValue158
  t53 := Try.underlying161
  a53 := Try.isAgg161
  z53 := Try.sizeOf161
  v53 := Try.zeroValue161
  t55 := Try.underlying49
  a55 := Try.isAgg49
  z55 := Try.sizeOf49
  v55 := Try.zeroValue49
  t66 := Try.underlying163
  a66 := Try.isAgg163
  z66 := Try.sizeOf163
  v66 := Try.zeroValue163
  t70 := Try.underlying167
  a70 := Try.isAgg167
  z70 := Try.sizeOf167
  v70 := Try.zeroValue167
  t76 := Try.underlying169
  a76 := Try.isAgg169
  z76 := Try.sizeOf169
  v76 := Try.zeroValue169
  t77 := Try.underlying95
  a77 := Try.isAgg95
  z77 := Try.sizeOf95
  v77 := Try.zeroValue95 }
end Go.Proofs.Ytmdbliacaeokaaa
namespace Go.Proofs.Ytmdbliacaeokaaa
open Go Go.RowKit
set_option linter.unusedVariables false
set_option maxRecDepth 100000
def eqL (a b : List Int) : Bool := a == b
def okLen (x : Int) : Bool := decide (0 ≤ x) && decide (x ≤ 11)
def zeros12 : List Int := [0, 0, 0, 0, 0, 0, 0, 0, 0, 0, 0, 0]
def bump (out : List Int) (x : Int) : List Int := out.set x.toNat (out.getD x.toNat 0 + 1)
def bumps (l : List Int) : List Int := l.foldl bump zeros12
def manyG (out : List Int) : List Int → List Int × Int
  | [] => (out, 0)
  | x :: r => cond (okLen x) (manyG (bump out x) r) (out, 2)
def manyT (l : List Int) : List Int × Int := cond (decide (256 < l.length)) (zeros12, 2) (manyG zeros12 l)
def rmC (c : List Int) (i : Nat) : Int := (List.range i).foldl (fun s k => s + c.getD (k + 1) 0 * 2 ^ (10 - k)) 0
def cdC (c : List Int) (i : Nat) : Int := (List.range i).foldl (fun s k => s + c.getD (k + 1) 0) 0
def cntP (l : List Int) : Int := l.foldl (fun s x => cond (decide (0 < x)) (s + 1) s) 0
def sumM (m : Int) (l : List Int) : Int := l.foldl (fun s x => cond (decide (0 < x)) (s + 2 ^ (m - x).toNat) s) 0
def roomL (l : List Int) : Int := sumM 11 l
def chk (l : List Int) : Int := cond (decide (256 < l.length)) 2 (cond (l.all okLen) (cond (decide (cntP l < 2) || !(roomL l == 2048)) 21 0) 2)
def maxL (l : List Int) : Int := l.tail.foldl max (l.headD 0)
def gmx (l : List Int) : Int := l.foldl max 0
def lenOk (l : List Int) (s n : Int) : Bool := (decide (s < l.length) && decide (0 < l.getD s.toNat 0)) || n == 0
def lenN (l : List Int) (s n : Int) : Int := cond (decide (s < l.length) && decide (0 < l.getD s.toNat 0)) (l.getD s.toNat 0) 0
def symsF (i : Int) : List Int → List (List Int)
  | [] => []
  | x :: r => cond (decide (0 < x)) ([i, x] :: symsF (i + 1) r) (symsF (i + 1) r)
def syms (l : List Int) : List (List Int) := symsF 0 l
def sLe (a b : List Int) : Bool := decide (b.getD 1 0 < a.getD 1 0) || (decide (b.getD 1 0 = a.getD 1 0) && decide (a.getD 0 0 ≤ b.getD 0 0))
def insS (a : List Int) : List (List Int) → List (List Int)
  | [] => [a]
  | b :: r => cond (sLe a b) (a :: b :: r) (b :: insS a r)
def srt : List (List Int) → List (List Int)
  | [] => []
  | a :: r => insS a (srt r)
def wid (m : Int) (s : List Int) : Nat := 2 ^ (m - s.getD 1 0).toNat
def atF (m : Int) (ss : List (List Int)) (i : Nat) : Int := (ss.take i).foldl (fun a s => a + (wid m s : Int)) 0
def itemF (m : Int) : Int → List (List Int) → List (List Value)
  | _, [] => []
  | a, s :: r => [.agg #[.int .i64 (s.getD 0 0), .int .i64 (s.getD 1 0)], .int .i64 a] :: itemF m (a + (wid m s : Int)) r
def ordS (l : List Int) : List (List Int) := srt (syms l)
def items (l : List Int) : List (List Value) := itemF (gmx l) 0 (ordS l)
def blkS (m : Int) (s : List Int) : List (List Int) := List.replicate (wid m s) [s.getD 0 0, s.getD 1 0, 0]
def tblF (m : Int) : List (List Int) → List (List Int)
  | [] => []
  | s :: r => blkS m s ++ tblF m r
def tblL (l : List Int) : List (List Int) := tblF (gmx l) (ordS l)
def codF (m : Int) : Int → List (List Int) → List (List Int) → List (List Int)
  | _, [], out => out
  | a, s :: r, out => codF m (a + (wid m s : Int)) r (out.set (s.getD 0 0).toNat [s.getD 1 0, a / 2 ^ (m - s.getD 1 0).toNat])
def codL (l : List Int) : List (List Int) := codF (gmx l) 0 (ordS l) (List.replicate l.length [0, 0])
def refC (m : Int) : Int → List (List Int) → List (List Int) → List (List Int)
  | _, [], out => out
  | a, c :: r, out => (refC m (a + 1) r out).set (c.getD 0 0).toNat [c.getD 1 0, a / 2 ^ (m - c.getD 1 0).toNat]
def codP (l : List Int) (i : Nat) : List (List Int) := codF (gmx l) 0 ((ordS l).take i) (List.replicate l.length [0, 0])
def symI (l : List Int) (i : Nat) : List Int := (ordS l).getD i []
def isLen (n : Int) (r : List Int) : Bool := r.getD 1 0 == n
def refT (l : List Int) : Nat → List (List Int)
  | 0 => []
  | j + 1 => refT l j ++ tblF (gmx l) ((syms l).filter (isLen (gmx l - j)))
def refS (l : List Int) (j s : Nat) : List (List Int) := refT l j ++ tblF (gmx l) ((syms (l.take s)).filter (isLen (gmx l - j)))
def refK (l : List Int) (j s k : Nat) : List (List Int) := refS l j s ++ List.replicate k [(s : Int), gmx l - j, 0]
def itemI (l : List Int) (i : Nat) : List Value := [.agg #[.int .i64 ((symI l i).getD 0 0), .int .i64 ((symI l i).getD 1 0)], .int .i64 (atF (gmx l) (ordS l) i)]
def refCL (l : List Int) (c : Nat) : List (List Int) := refC (gmx l) ((tblL l).length - c) ((tblL l).drop ((tblL l).length - c)) (List.replicate l.length [0, 0])
end Go.Proofs.Ytmdbliacaeokaaa
namespace Go.Proofs.Ytmdbliacaeokaaa
open Go Go.RowKit
set_option linter.unusedVariables false
set_option linter.unusedSimpArgs false
set_option maxRecDepth 100000
def sMany : Spec where
  ι := List Int
  dec l H := match l with
    | [.dat (.ints .i64 l)] => some (l, [])
    | _ => none
  args := fun l => [.dat (.ints .i64 l)]
  pre := fun l => [⟨l.length ≤ 4294967296, inferInstance⟩]
  out := fun l => .leaf (.tu [.av (.ints .i64 (manyT l).1), .v (.int .i64 (manyT l).2)]) []
theorem sMany_enc : ∀ l H n i ls, sMany.dec l H = some (i, ls) → l = renL (rho ls n) (sMany.args i) ∧ givenHp H ls = renH (rho ls n) (sMany.hp i) := by
  intro l H n i ls h
  simp only [sMany] at h
  repeat' split at h
  all_goals first
    | (cases h; done)
    | (cases h; exact ⟨rfl, rfl⟩)
def sChk : Spec where
  ι := List Int
  dec l H := match l with
    | [.dat (.ints .i64 l)] => some (l, [])
    | _ => none
  args := fun l => [.dat (.ints .i64 l)]
  pre := fun l => [⟨l.length ≤ 4294967296, inferInstance⟩]
  out := fun l => .leaf (.v (.int .i64 (chk l))) []
theorem sChk_enc : ∀ l H n i ls, sChk.dec l H = some (i, ls) → l = renL (rho ls n) (sChk.args i) ∧ givenHp H ls = renH (rho ls n) (sChk.hp i) := by
  intro l H n i ls h
  simp only [sChk] at h
  repeat' split at h
  all_goals first
    | (cases h; done)
    | (cases h; exact ⟨rfl, rfl⟩)
def sMaxL : Spec where
  ι := List Int
  dec l H := match l with
    | [.dat (.ints .i64 l)] => some (l, [])
    | _ => none
  args := fun l => [.dat (.ints .i64 l)]
  pre := fun l => [⟨0 < l.length, inferInstance⟩, ⟨l.length ≤ 4294967296, inferInstance⟩]
  out := fun l => .leaf (.v (.int .i64 (maxL l))) []
theorem sMaxL_enc : ∀ l H n i ls, sMaxL.dec l H = some (i, ls) → l = renL (rho ls n) (sMaxL.args i) ∧ givenHp H ls = renH (rho ls n) (sMaxL.hp i) := by
  intro l H n i ls h
  simp only [sMaxL] at h
  repeat' split at h
  all_goals first
    | (cases h; done)
    | (cases h; exact ⟨rfl, rfl⟩)
def sGmx : Spec where
  ι := List Int
  dec l H := match l with
    | [.dat (.ints .i64 l)] => some (l, [])
    | _ => none
  args := fun l => [.dat (.ints .i64 l)]
  pre := fun l => [⟨chk l = 0, inferInstance⟩]
  out := fun l => .leaf (.v (.int .i64 (gmx l))) []
theorem sGmx_enc : ∀ l H n i ls, sGmx.dec l H = some (i, ls) → l = renL (rho ls n) (sGmx.args i) ∧ givenHp H ls = renH (rho ls n) (sGmx.hp i) := by
  intro l H n i ls h
  simp only [sGmx] at h
  repeat' split at h
  all_goals first
    | (cases h; done)
    | (cases h; exact ⟨rfl, rfl⟩)
def sRgmx : Spec where
  ι := List Int
  dec l H := match l with
    | [.dat (.ints .i64 l)] => some (l, [])
    | _ => none
  args := fun l => [.dat (.ints .i64 l)]
  pre := fun l => [⟨l.length ≤ 4294967296, inferInstance⟩]
  out := fun l => .leaf (.v (.int .i64 (gmx l))) []
theorem sRgmx_enc : ∀ l H n i ls, sRgmx.dec l H = some (i, ls) → l = renL (rho ls n) (sRgmx.args i) ∧ givenHp H ls = renH (rho ls n) (sRgmx.hp i) := by
  intro l H n i ls h
  simp only [sRgmx] at h
  repeat' split at h
  all_goals first
    | (cases h; done)
    | (cases h; exact ⟨rfl, rfl⟩)
def sLen : Spec where
  ι := List Int × Int × Int
  dec l H := match l with
    | [.dat (.ints .i64 l), .v (.int .i64 s), .v (.int .i64 n)] => some ((l, s, n), [])
    | _ => none
  args := fun (l, s, n) => [.dat (.ints .i64 l), .v (.int .i64 s), .v (.int .i64 n)]
  pre := fun (l, s, n) => [⟨0 ≤ s, inferInstance⟩]
  out := fun (l, s, n) => .leaf (.tu [.v (.int .i64 (lenN l s n)), .v (.bool (lenOk l s n))]) []
def sOwnL : Spec where
  ι := List Int
  dec l H := match l with
    | [.dat (.ints .i64 l)] => some (l, [])
    | _ => none
  args := fun l => [.dat (.ints .i64 l)]
  pre := fun l => [⟨l.length ≤ 4294967296, inferInstance⟩]
  out := fun l => .leaf (.o 2000) [(2000, .row 3 (.ints .i64 l))]
theorem sOwnL_enc : ∀ l H n i ls, sOwnL.dec l H = some (i, ls) → l = renL (rho ls n) (sOwnL.args i) ∧ givenHp H ls = renH (rho ls n) (sOwnL.hp i) := by
  intro l H n i ls h
  simp only [sOwnL] at h
  repeat' split at h
  all_goals first
    | (cases h; done)
    | (cases h; exact ⟨rfl, rfl⟩)
def sEqL : Spec where
  ι := List Int × List Int
  dec l H := match l with
    | [.dat (.ints .i64 a), .dat (.ints .i64 b)] => some ((a, b), [])
    | _ => none
  args := fun (a, b) => [.dat (.ints .i64 a), .dat (.ints .i64 b)]
  pre := fun (a, b) => [⟨a.length ≤ 4294967296, inferInstance⟩]
  out := fun (a, b) => .leaf (.v (.bool (eqL a b))) []
theorem sEqL_enc : ∀ l H n i ls, sEqL.dec l H = some (i, ls) → l = renL (rho ls n) (sEqL.args i) ∧ givenHp H ls = renH (rho ls n) (sEqL.hp i) := by
  intro l H n i ls h
  simp only [sEqL] at h
  repeat' split at h
  all_goals first
    | (cases h; done)
    | (cases h; exact ⟨rfl, rfl⟩)
def one6 (x : LoopInv) : Nat → Option LoopFam := fun k => cond (Nat.beq k 0) (some (.one x)) none
def two6 (x y : LoopInv) : Nat → Option LoopFam := fun k => cond (Nat.beq k 0) (some (.one x)) (cond (Nat.beq k 1) (some (.one y)) none)
def oMany (l : List Int) : LoopInv := { ι := Nat, p := fun i => i ≤ l.length ∧ (l.take i).all okLen = true, tm := fun i => [(2, .p 1000 0 0), (10, .dat (.ints .i64 l)), (11, .v (.int .i64 l.length)), (12, .v (.int .i64 (i : Nat)))], hp := fun i => [(1000, .arr 140 (.ints .i64 (bumps (l.take i))))], μ := fun i => l.length - i }
def oChk6 (l : List Int) : LoopInv := { ι := Nat, p := fun i => i ≤ 11 ∧ (manyT l).2 = 0, tm := fun i => [(3, .p 1000 0 0), (5, .v (.int .i64 (rmC (manyT l).1 i))), (6, .v (.int .i64 (cdC (manyT l).1 i))), (7, .v (.int .i64 ((i : Int) + 1)))], hp := fun i => [(1000, .arr 140 (.ints .i64 (manyT l).1))], μ := fun i => 11 - i }
def oMaxL (l : List Int) : LoopInv := { ι := Nat, p := fun i => 1 ≤ i ∧ i ≤ l.length, tm := fun i => [(0, .dat (.ints .i64 l)), (3, .v (.int .i64 (maxL (l.take i)))), (4, .v (.int .i64 (i : Nat)))], hp := fun _ => [], μ := fun i => l.length - i }
def oRgmx (l : List Int) : LoopInv := { ι := Nat, p := fun i => i ≤ l.length, tm := fun i => [(0, .dat (.ints .i64 l)), (3, .v (.int .i64 (gmx (l.take i)))), (4, .v (.int .i64 (i : Nat)))], hp := fun _ => [], μ := fun i => l.length - i }
def oRchkA (l : List Int) : LoopInv := { ι := Nat, p := fun i => i ≤ l.length ∧ (l.take i).all okLen = true, tm := fun i => [(0, .dat (.ints .i64 l)), (3, .v (.int .i64 (i : Nat)))], hp := fun _ => [], μ := fun i => l.length - i }
def oRchkB (l : List Int) : LoopInv := { ι := Nat, p := fun i => i ≤ l.length ∧ l.all okLen = true, tm := fun i => [(0, .dat (.ints .i64 l)), (4, .v (.int .i64 (gmx l))), (5, .v (.int .i64 (cntP (l.take i)))), (6, .v (.int .i64 (sumM (gmx l) (l.take i)))), (7, .v (.int .i64 (i : Nat)))], hp := fun _ => [], μ := fun i => l.length - i }
def oEqL (a b : List Int) : LoopInv := { ι := Nat, p := fun i => i ≤ a.length ∧ a.take i = b.take i, tm := fun i => [(0, .dat (.ints .i64 a)), (1, .dat (.ints .i64 b)), (5, .v (.int .i64 (i : Nat)))], hp := fun _ => [], μ := fun i => a.length - i }
def G6a : List (Nat × Ctr) := (96, sMany.ctr) :: (97, sMaxL.ctr) :: (74, sRgmx.ctr) :: []
def G6b : List (Nat × Ctr) := (86, sChk.ctr) :: (91, sChk.ctr) :: (87, sGmx.ctr) :: G6a
def G6c : List (Nat × Ctr) := G6b
def G6d : List (Nat × Ctr) := G6c
def G6e : List (Nat × Ctr) := G6d
def G6f : List (Nat × Ctr) := G6e
end Go.Proofs.Ytmdbliacaeokaaa
namespace Go.Proofs.Ytmdbliacaeokaaa
open Go Go.Shelf Go.RowKit Go.Lib Go.Sort
set_option linter.unusedVariables false
set_option linter.unusedSimpArgs false
set_option maxRecDepth 100000
theorem insS_perm (a : List Int) : ∀ l, (insS a l).Perm (a :: l)
  | [] => List.Perm.refl _
  | b :: r => by
    unfold insS
    cases sLe a b
    · exact ((insS_perm a r).cons b).trans (List.Perm.swap a b r)
    · exact List.Perm.refl _
theorem srt_perm : ∀ l, (srt l).Perm l
  | [] => List.Perm.refl _
  | a :: r => (insS_perm a (srt r)).trans ((srt_perm r).cons a)
theorem sLe_iff {a b : List Int} : sLe a b = true ↔ b.getD 1 0 < a.getD 1 0 ∨ (b.getD 1 0 = a.getD 1 0 ∧ a.getD 0 0 ≤ b.getD 0 0) := by
  simp [sLe]
theorem sLe_total {a b : List Int} (h : sLe a b = false) : sLe b a = true := by
  have h' : ¬ sLe a b = true := by rw [h]; simp
  rw [sLe_iff] at h' ⊢
  omega
theorem sLe_trans {a b c : List Int} (h : sLe a b = true) (k : sLe b c = true) : sLe a c = true := by
  rw [sLe_iff] at *
  omega
theorem insS_sorted (a : List Int) : ∀ l, l.Pairwise (fun x y => sLe x y = true) → (insS a l).Pairwise (fun x y => sLe x y = true)
  | [], _ => by simp [insS]
  | b :: r, h => by
    unfold insS
    obtain ⟨h1, h2⟩ := List.pairwise_cons.1 h
    cases hab : sLe a b
    · refine List.pairwise_cons.2 ⟨fun y hy => ?_, insS_sorted a r h2⟩
      have := (insS_perm a r).mem_iff.1 hy
      simp only [List.mem_cons] at this
      rcases this with rfl | hy
      · exact sLe_total hab
      · exact h1 y hy
    · refine List.pairwise_cons.2 ⟨fun y hy => ?_, h⟩
      simp only [List.mem_cons] at hy
      rcases hy with rfl | hy
      · exact hab
      · exact sLe_trans hab (h1 y hy)
theorem srt_sorted : ∀ l, (srt l).Pairwise (fun x y => sLe x y = true)
  | [] => List.Pairwise.nil
  | a :: r => insS_sorted a _ (srt_sorted r)
theorem srt_unique {l d : List (List Int)} (h2 : ∀ r ∈ l, r.length = 2) (hp : d.Perm l) (hs : d.Pairwise (fun x y => sLe x y = true)) : d = srt l := by
  refine List.Perm.eq_of_pairwise ?_ hs (srt_sorted l) (hp.trans (srt_perm l).symm)
  intro a b ha hb h k
  have la := h2 a (hp.mem_iff.1 ha)
  have lb := h2 b ((srt_perm l).mem_iff.1 hb)
  rw [sLe_iff] at h k
  match a, la, b, lb with
  | [a0, a1], _, [b0, b1], _ =>
    simp only [List.getD_cons_zero, List.getD_cons_succ] at h k
    have e1 : a1 = b1 := by omega
    have e0 : a0 = b0 := by omega
    rw [e1, e0]
def prL (p : Int × Int) : List Int := [p.1, p.2]
def unP (r : List Int) : Int × Int := (r.getD 0 0, r.getD 1 0)
theorem prL_unP {r : List Int} (h : r.length = 2) : prL (unP r) = r := by
  match r, h with
  | [a, b], _ => rfl
def encS (x : Int × Int) : List Value := [.int .i64 x.1, .int .i64 x.2]
def cfS (x y : Int × Int) : Int := if cmpI y.2 x.2 = 0 then cmpI x.1 y.1 else cmpI y.2 x.2
theorem ltS (x y : Int × Int) : ltOf cfS x y = decide (y.2 < x.2 ∨ (y.2 = x.2 ∧ x.1 < y.1)) := by
  unfold ltOf cfS cmpI
  by_cases h1 : y.2 < x.2
  · simp [h1]
  · by_cases h2 : x.2 < y.2
    · have : ¬ y.2 = x.2 := by omega
      simp [h1, h2, this]
    · have : y.2 = x.2 := by omega
      by_cases h3 : x.1 < y.1
      · simp [this, h3]
      · by_cases h4 : y.1 < x.1 <;> simp [this, h3, h4]
theorem swoS : SWO (ltOf cfS) where
  irrefl x := by rw [ltS]; simp
  trans x y z h1 h2 := by rw [ltS, decide_eq_true_eq] at *; omega
  ntrans x y z h1 h2 := by rw [ltS, decide_eq_false_iff_not] at *; omega
theorem sortCmp (blk off size : Nat) (w : World) : CmpLays Try.prog 99 #[] encS 2 cfS blk off size w := fun _ _ _ _ x y => closure_w x y _
theorem sorted_list {xs : List (List Int)} (h2 : ∀ r ∈ xs, r.length = 2) {d' : Array (Int × Int)} (hp : PermIn 0 (xs.map unP).toArray.size (xs.map unP).toArray d') (hs : SortedIn (ltOf cfS) 0 (xs.map unP).toArray.size d') :
    d'.toList.map prL = srt xs := by
  obtain ⟨p1, _, p3⟩ := hp
  have e1 : (xs.map unP).toArray.size = d'.size := p1.symm
  rw [e1] at p3 hs
  have p4 : d'.toList.Perm (xs.map unP) := by
    have k1 : d'.extract 0 d'.size = d' := by simp
    have k2 : ((xs.map unP).toArray.extract 0 d'.size).toList = xs.map unP := by
      rw [← e1]
      simp [List.take_of_length_le]
    rw [k1, k2] at p3
    exact p3
  refine srt_unique h2 ?_ ?_
  · have := p4.map prL
    rw [List.map_map] at this
    have e : xs.map (prL ∘ unP) = xs := by
      conv => rhs; rw [← List.map_id xs]
      exact List.map_congr_left fun r hr => prL_unP (h2 r hr)
    rw [e] at this
    exact this
  · rw [List.pairwise_map, List.pairwise_iff_getElem]
    intro i j hi hj hij
    have hi' : i < d'.size := by simpa using hi
    have hj' : j < d'.size := by simpa using hj
    have := hs i j (Nat.zero_le _) hij hj'
    rw [ltS, decide_eq_false_iff_not, getElem!_pos d' i hi', getElem!_pos d' j hj'] at this
    rw [sLe_iff]
    simp only [Array.getElem_toList, prL, List.getD_cons_zero, List.getD_cons_succ]
    omega
def sSort : Spec where
  ι := List (List Int)
  own := true
  dec l H := match l with
    | [.o l0, .fn (.func 99) [] []] => match H l0 with
      | some (.row 129 (.recs 2 xs)) => some (xs, [l0])
      | _ => none
    | _ => none
  args := fun xs => [.o 0, .fn (.func 99) [] []]
  hp := fun xs => [(0, .row 129 (.recs 2 xs))]
  pre := fun xs => [⟨1 ≤ xs.length, inferInstance⟩, ⟨xs.length ≤ 4294967296, inferInstance⟩, ⟨xs.all (fun r => decide (r.length = 2)) = true, inferInstance⟩]
  out := fun xs => .leaf (.tu []) [(0, .row 129 (.recs 2 (srt xs)))]
theorem sSort_enc : ∀ l H n i ls, sSort.dec l H = some (i, ls) → l = renL (rho ls n) (sSort.args i) ∧ givenHp H ls = renH (rho ls n) (sSort.hp i) := by
  intro l H n i ls h
  simp only [sSort] at h
  repeat' split at h
  all_goals first
    | (cases h; done)
    | (cases h; exact ⟨rfl, rfl⟩)
    | (cases h; refine ⟨rfl, ?_⟩; simp only [givenHp, List.filterMap_cons, List.filterMap_nil, Option.map, *]; rfl)
theorem putBlk {w : World} {g : Nat} {m : Nat} {F : Array Value} {os : Array Obj} {us : Array Value} {ty : TypeId} {fr : Nat × Nat} (h : w.heap[g]? = some (Obj.cells us ty fr)) :
    (Sort.grow (putRow id (Sort.ahead w m) g 0 F) os).heap[g]? = some (Obj.cells (putCells id 0 F us) ty fr) := by
  have hlt : g < w.heap.size := (Array.getElem?_eq_some_iff.1 h).1
  unfold Sort.grow putRow mapBlock Sort.ahead
  simp only
  rw [Array.getElem?_append_left (by simpa using hlt), Array.getElem?_modify, if_pos rfl, h]
  rfl
theorem putBlk_ne {w : World} {g k : Nat} {m : Nat} {F : Array Value} {os : Array Obj} (hk : k < w.heap.size) (hne : k ≠ g) : (Sort.grow (putRow id (Sort.ahead w m) g 0 F) os).heap[k]? = w.heap[k]? := by
  unfold Sort.grow putRow mapBlock Sort.ahead
  simp only
  rw [Array.getElem?_append_left (by simpa using hk), Array.getElem?_modify, if_neg (Ne.symm hne)]
theorem sort_sat (xs : List (List Int)) (h0 : 1 ≤ xs.length) (h1 : xs.length ≤ 4294967296) (h2 : xs.all (fun r => decide (r.length = 2)) = true) :
    Sat Try.prog 98 [.o 0, .fn (.func 99) [] []] [(0, .row 129 (.recs 2 xs))] (.tu []) [(0, .row 129 (.recs 2 (srt xs)))] := by
  have h2 : ∀ r ∈ xs, r.length = 2 := fun r hr => by simpa using List.all_eq_true.1 h2 r hr
  intro D β w us hargs hhp hD hβ
  simp only [Reps, Rep] at hargs
  obtain ⟨u0, r0, rfl, ⟨L, hL, rfl⟩, u1, r1, rfl, ⟨a1, a2, rfl, rfl, rfl⟩, rfl⟩ := hargs
  obtain ⟨L', hL', hB, hdis⟩ := hhp.1 0 (SBlk.row 129 (.recs 2 xs)) (by simp)
  rw [hL] at hL'
  cases hL'
  obtain ⟨hw, hlen, hB⟩ := hB
  simp only [Dat.wd, Dat.len] at hw hlen hB
  rcases hB with ⟨_, hz⟩ | ⟨hni, hcap, hmax, cs, ty', fr, hcs, hfr, hcl, hval⟩
  · omega
  obtain ⟨hnD, hlt⟩ := hdis hni
  obtain ⟨d, hd⟩ : ∃ d : Array (Int × Int), d = (xs.map unP).toArray := ⟨_, rfl⟩
  have hds : d.size = xs.length := by rw [hd]; simp
  have hget : ∀ i, i < xs.length → d[i]! = unP (xs.getD i []) := fun i hi => by
    rw [getElem!_pos d i (by omega)]
    subst hd
    simp [List.getD_eq_getElem?_getD, List.getElem?_eq_getElem hi]
  have cellv : ∀ i j, i < xs.length → j < 2 → cs[i * 2 + j]? = some (.int .i64 ((xs.getD i []).getD j 0)) := fun i j hi hj => by
    obtain ⟨x, hx, hok⟩ := hval i j hi hj
    rw [hx]
    simp only [Dat.ok] at hok
    rw [hok]
  have hH : HoldsK encS 2 w L.g 0 d := by
    intro t ht
    rw [size_flatK, hds] at ht
    have hi : t / 2 < xs.length := by omega
    have hv : (flatK encS 2 d)[t]! = .int .i64 ((xs.getD (t / 2) []).getD (t % 2) 0) := by
      rw [get_flatK _ _ _ _ (by rw [hds]; exact ht), hget _ hi]
      have : t % 2 = 0 ∨ t % 2 = 1 := by omega
      rcases this with e | e <;> rw [e] <;> rfl
    have hc := cellv (t / 2) (t % 2) hi (by omega)
    rw [show t / 2 * 2 + t % 2 = t by omega] at hc
    rw [hv]
    refine ⟨?_, ?_⟩
    · simp [World.cell?, hcs, hc]
    · simp only [World.frozen?, hcs]
      exact hfr _ (by have := (List.getElem?_eq_some_iff.1 hc).1; omega)
  have hval2 : L.val = .slice (some ⟨L.g, 0, none⟩) d.size L.cap := by
    unfold Loc.val
    rw [hni, hlen, hds]
    rfl
  have eg : ∀ args w, (callFunc 99 args).run Try.prog w = .ok (.enter 99 args) w := enters_of Try.func99 (by kernel_rfl) rfl
  have key := AnyQ.slices_SortFunc sortSym 2 Try.isAgg129 Try.sizeOf129 encS (fun _ => rfl) (fun x v hv => by simp [encS] at hv; rcases hv with rfl | rfl <;> rfl) cfS swoS 99 #[] L.g 0 L.cap d w eg (sortCmp _ _ _ _) hH hlt (by omega)
  have e : (L.val :: Value.func (.func 99) [].toArray [].toArray :: []).toArray = #[.slice (some ⟨L.g, 0, none⟩) d.size L.cap, .func (.func 99) #[] #[]] := by rw [hval2]
  rw [e]
  refine Calls.mono (show Calls Try.prog 98 _ _ _ from key) ?_
  rintro e w' ⟨rfl, d', n, os, hperm, hsort, rfl⟩
  have hds' : d'.size = xs.length := by rw [hperm.1, hds]
  have hsl : d'.toList.map prL = srt xs := by
    rw [hd] at hperm hsort
    exact sorted_list h2 hperm hsort
  refine ⟨_, D, β, rfl, ?_⟩
  have hg : (sortWorldK encS 2 w L.g 0 n d' os).heap[L.g]? = some (Obj.cells (putCells id 0 (flatK encS 2 d') cs.toArray) ty' fr) := putBlk hcs
  have hne : ∀ k, k < w.heap.size → k ≠ L.g → (sortWorldK encS 2 w L.g 0 n d' os).heap[k]? = w.heap[k]? := fun k hk hne => putBlk_ne hk hne
  have hsz : w.heap.size ≤ (sortWorldK encS 2 w L.g 0 n d' os).heap.size := by
    unfold sortWorldK Sort.grow putRowK putRow mapBlock Sort.ahead
    simp
  have G : Grows D w β D (sortWorldK encS 2 w L.g 0 n d' os) β := ⟨fun _ h => h, fun g hgD => hne g (hD g hgD) (fun e => hnD (e ▸ hgD)), fun _ _ h => h⟩
  have hgiven : ∀ g, Given β [(0, SBlk.row 129 (.recs 2 xs))] g ↔ g = L.g := by
    intro g
    constructor
    · rintro ⟨l, b, L2, h1, h2, h3, h4⟩
      simp only [List.mem_singleton, Prod.mk.injEq] at h1
      obtain ⟨rfl, rfl⟩ := h1
      rw [hL] at h2
      cases h2
      exact h4.symm
    · rintro rfl
      exact ⟨0, SBlk.row 129 (.recs 2 xs), L, by simp, hL, hni, rfl⟩
  have hsrtlen : (srt xs).length = xs.length := (srt_perm xs).length_eq
  exact {
    grows := G
    ret := by simp only [Rep, Reps]; exact ⟨[], rfl, rfl⟩
    hps := by
      refine ⟨fun l b hl => ?_, fun l l' b b' L1 L2 hl hl' _ _ _ _ _ => ?_⟩
      · simp only [List.mem_singleton, Prod.mk.injEq] at hl
        obtain ⟨rfl, rfl⟩ := hl
        refine ⟨L, hL, ⟨hw, by simp only [Dat.len]; omega, .inr ⟨hni, by simp only [Dat.len]; omega, hmax, (putCells id 0 (flatK encS 2 d') cs.toArray).toList, ty', fr, by simpa using hg, by simpa [putCells] using hfr, ?_, ?_⟩⟩, fun _ => ⟨hnD, by omega⟩⟩
        · simp only [putCells, Array.length_toList, Array.size_mapIdx, List.size_toArray]
          exact hcl
        · intro i j hi hj
          simp only [Dat.len, Dat.wd] at hi hj
          refine ⟨.int .i64 (((srt xs).getD i []).getD j 0), ?_, rfl⟩
          have hlt2 : i * 2 + j < cs.length := by omega
          simp only [Dat.wd, putCells, Array.getElem?_toList, Array.getElem?_mapIdx, List.getElem?_toArray, List.getElem?_eq_getElem hlt2, Option.map_some, size_flatK, Nat.zero_add, Nat.sub_zero, id]
          rw [if_pos ⟨Nat.zero_le _, by omega⟩, get_flatK _ _ _ _ (by omega)]
          have q1 : (i * 2 + j) / 2 = i := by omega
          have q2 : (i * 2 + j) % 2 = j := by omega
          rw [q1, q2, ← hsl]
          have hi3 : i < d'.toList.length := by simp; omega
          simp only [List.getD_eq_getElem?_getD, List.getElem?_map, List.getElem?_eq_getElem hi3, Option.map_some, Option.getD_some, Array.getElem_toList]
          rw [getElem!_pos d' i (by omega)]
          have : j = 0 ∨ j = 1 := by omega
          rcases this with rfl | rfl <;> rfl
      · simp only [List.mem_singleton, Prod.mk.injEq] at hl hl'
        rw [hl.1, hl'.1]
    d := fun g hgD => ⟨.inl hgD, by have := hD g hgD; omega⟩
    dom := fun l L hL => .inl hL
    own := fun l b L2 hl hL2 hn2 => by
      simp only [List.mem_singleton, Prod.mk.injEq] at hl
      obtain ⟨rfl, rfl⟩ := hl
      rw [hL] at hL2
      cases hL2
      exact .inr ((hgiven _).2 rfl)
    os := rfl, tape := rfl, output := rfl, size := hsz
    block := fun g hg1 hg2 => hne g hg1 fun e => hg2 ((hgiven g).2 e) }
theorem sort_sound : Sound Try.prog 98 sSort.ctr := sSort.sound (by kernel_rfl) sSort_enc fun xs hc => by
  have h0 := hc _ (.head _)
  have h1 := hc _ (.tail _ (.head _))
  have h2 := hc _ (.tail _ (.tail _ (.head _)))
  exact sort_sat xs h0 h1 h2
end Go.Proofs.Ytmdbliacaeokaaa
namespace Go.Proofs.Ytmdbliacaeokaaa
open Go Go.RowKit
set_option linter.unusedVariables false
set_option maxRecDepth 100000
def many6_t (l : List Int) : Prop :=
 (decide ((↑(List.length l) : Int) > (256 : Int)) = true →
 (12 : Nat) = (12 : Nat) ∧
 List.length (List.replicate (12 : Nat) (0 : Int)) = (12 : Nat) ∧
 List.length (List.replicate (12 : Nat) (0 : Int)) = List.length (List.replicate (12 : Nat) (0 : Int)) ∧
 (12 : Nat) = (12 : Nat) ∧ List.replicate (12 : Nat) (0 : Int) = (manyT l).fst ∧ (2 : Int) = (manyT l).snd) ∧
 (decide ((↑(List.length l) : Int) > (256 : Int)) = false →
 (∃ (x0 : Nat),
 (x0 ≤ List.length l ∧ List.all (List.take x0 l) okLen = true) ∧
 l = l ∧ (↑(List.length l) : Int) = (↑(List.length l) : Int) ∧ (0 : Int) = (↑x0 : Int) ∧ List.replicate (12 : Nat) (0 : Int) = bumps (List.take x0 l)) ∧
 ∀ (x1 : Nat),
 x1 ≤ List.length l ∧ List.all (List.take x1 l) okLen = true →
 (decide ((↑x1 : Int) < (↑(List.length l) : Int)) = true →
 (0 : Int) ≤ (↑x1 : Int) ∧
 (↑x1 : Int) < (↑(List.length l) : Int) ∧
 (decide (List.getD l (Int.toNat (↑x1 : Int)) (0 : Int) < (0 : Int)) = true →
 (12 : Nat) = List.length (bumps (List.take x1 l)) ∧
 List.length (bumps (List.take x1 l)) = (12 : Nat) ∧
 List.length (bumps (List.take x1 l)) = List.length (bumps (List.take x1 l)) ∧
 (12 : Nat) = List.length (bumps (List.take x1 l)) ∧ bumps (List.take x1 l) = (manyT l).fst ∧ (2 : Int) = (manyT l).snd) ∧
 (decide (List.getD l (Int.toNat (↑x1 : Int)) (0 : Int) < (0 : Int)) = false →
 (decide (List.getD l (Int.toNat (↑x1 : Int)) (0 : Int) > (11 : Int)) = true →
 (12 : Nat) = List.length (bumps (List.take x1 l)) ∧
 List.length (bumps (List.take x1 l)) = (12 : Nat) ∧
 List.length (bumps (List.take x1 l)) = List.length (bumps (List.take x1 l)) ∧
 (12 : Nat) = List.length (bumps (List.take x1 l)) ∧ bumps (List.take x1 l) = (manyT l).fst ∧ (2 : Int) = (manyT l).snd) ∧
 (decide (List.getD l (Int.toNat (↑x1 : Int)) (0 : Int) > (11 : Int)) = false →
 (0 : Int) ≤ List.getD l (Int.toNat (↑x1 : Int)) (0 : Int) ∧
 List.getD l (Int.toNat (↑x1 : Int)) (0 : Int) < (↑(12 : Nat) : Int) ∧
 Int.toNat (List.getD l (Int.toNat (↑x1 : Int)) (0 : Int)) < List.length (bumps (List.take x1 l)) ∧
 (0 : Int) ≤ List.getD l (Int.toNat (↑x1 : Int)) (0 : Int) ∧
 List.getD l (Int.toNat (↑x1 : Int)) (0 : Int) < (↑(12 : Nat) : Int) ∧
 Int.toNat (List.getD l (Int.toNat (↑x1 : Int)) (0 : Int)) < List.length (bumps (List.take x1 l)) ∧
 ∃ (y2 : Nat),
 (y2 ≤ List.length l ∧ List.all (List.take y2 l) okLen = true) ∧
 Nat.sub (List.length l) y2 < Nat.sub (List.length l) x1 ∧
 l = l ∧
 (↑(List.length l) : Int) = (↑(List.length l) : Int) ∧
 IntKind.wrap IntKind.i64 ((↑x1 : Int) + (1 : Int)) = (↑y2 : Int) ∧
 List.set (bumps (List.take x1 l)) (Int.toNat (List.getD l (Int.toNat (↑x1 : Int)) (0 : Int)))
 (IntKind.wrap IntKind.i64
 (List.getD (bumps (List.take x1 l)) (Int.toNat (List.getD l (Int.toNat (↑x1 : Int)) (0 : Int))) (0 : Int) + (1 : Int))) =
 bumps (List.take y2 l)))) ∧
 (decide ((↑x1 : Int) < (↑(List.length l) : Int)) = false →
 (12 : Nat) = List.length (bumps (List.take x1 l)) ∧
 List.length (bumps (List.take x1 l)) = (12 : Nat) ∧
 List.length (bumps (List.take x1 l)) = List.length (bumps (List.take x1 l)) ∧
 (12 : Nat) = List.length (bumps (List.take x1 l)) ∧ bumps (List.take x1 l) = (manyT l).fst ∧ (0 : Int) = (manyT l).snd))
theorem many6_e (l : List Int) : many6_t l = vcG Try.prog (Gof []) (one6 (oMany l)) Try.f96 [.dat (.ints .i64 l)] [] (.leaf ((.tu [.av (.ints .i64 (manyT l).1), .v (.int .i64 (manyT l).2)])) ([])) := by kernel_rfl
def max6_t (l : List Int) : Prop :=
 (decide ((↑(List.length l) : Int) < (1 : Int)) = true → False) ∧
 (decide ((↑(List.length l) : Int) < (1 : Int)) = false →
 (0 : Int) ≤ (0 : Int) ∧
 (0 : Int) < (↑(List.length l) : Int) ∧
 (∃ (x0 : Nat), ((1 : Nat) ≤ x0 ∧ x0 ≤ List.length l) ∧ l = l ∧ List.getD l (Int.toNat (0 : Int)) (0 : Int) = maxL (List.take x0 l) ∧ (1 : Int) = (↑x0 : Int)) ∧
 ∀ (x1 : Nat),
 (1 : Nat) ≤ x1 ∧ x1 ≤ List.length l →
 (decide ((↑x1 : Int) < (↑(List.length l) : Int)) = true →
 (0 : Int) ≤ (↑x1 : Int) ∧
 (↑x1 : Int) < (↑(List.length l) : Int) ∧
 ∃ (y2 : Nat),
 ((1 : Nat) ≤ y2 ∧ y2 ≤ List.length l) ∧
 Nat.sub (List.length l) y2 < Nat.sub (List.length l) x1 ∧
 l = l ∧
 max (maxL (List.take x1 l)) (List.getD l (Int.toNat (↑x1 : Int)) (0 : Int)) = maxL (List.take y2 l) ∧ IntKind.wrap IntKind.i64 ((↑x1 : Int) + (1 : Int)) = (↑y2 : Int)) ∧
 (decide ((↑x1 : Int) < (↑(List.length l) : Int)) = false → maxL (List.take x1 l) = maxL l))
theorem max6_e (l : List Int) : max6_t l = vcG Try.prog (Gof []) (one6 (oMaxL l)) Try.f97 [.dat (.ints .i64 l)] [] (.leaf ((.v (.int .i64 (maxL l)))) ([])) := by kernel_rfl
def rgmx6_t (l : List Int) : Prop :=
 (∃ (x0 : Nat), Nat.le x0 (List.length l) ∧ l = l ∧ (0 : Int) = gmx (List.take x0 l) ∧ (0 : Int) = (↑x0 : Int)) ∧
 ∀ (x1 : Nat),
 Nat.le x1 (List.length l) →
 (decide ((↑x1 : Int) < (↑(List.length l) : Int)) = true →
 (0 : Int) ≤ (↑x1 : Int) ∧
 (↑x1 : Int) < (↑(List.length l) : Int) ∧
 ∃ (y2 : Nat),
 Nat.le y2 (List.length l) ∧
 Nat.sub (List.length l) y2 < Nat.sub (List.length l) x1 ∧
 l = l ∧ max (gmx (List.take x1 l)) (List.getD l (Int.toNat (↑x1 : Int)) (0 : Int)) = gmx (List.take y2 l) ∧ IntKind.wrap IntKind.i64 ((↑x1 : Int) + (1 : Int)) = (↑y2 : Int)) ∧
 (decide ((↑x1 : Int) < (↑(List.length l) : Int)) = false → gmx (List.take x1 l) = gmx l)
theorem rgmx6_e (l : List Int) : rgmx6_t l = vcG Try.prog (Gof []) (one6 (oRgmx l)) Try.f74 [.dat (.ints .i64 l)] [] (.leaf ((.v (.int .i64 (gmx l)))) ([])) := by kernel_rfl
def own6_t (l : List Int) : Prop :=
 ((0 : Nat) + List.length l) * (8 : Nat) ≤ (140737488355328 : Nat) ∧ [] ++ l = l
theorem own6_e (l : List Int) : own6_t l = vcG Try.prog (Gof []) (fun _ => none) Try.f10 [.dat (.ints .i64 l)] [] (.leaf ((.o 2000)) ([(2000, .row 3 (.ints .i64 l))])) := by kernel_rfl
def eq6_t (a b : List Int) : Prop :=
 (((↑(List.length a) : Int) != (↑(List.length b) : Int)) = true → false = eqL a b) ∧
 (((↑(List.length a) : Int) != (↑(List.length b) : Int)) = false →
 (∃ (x0 : Nat), (x0 ≤ List.length a ∧ List.take x0 a = List.take x0 b) ∧ a = a ∧ b = b ∧ (0 : Int) = (↑x0 : Int)) ∧
 ∀ (x1 : Nat),
 x1 ≤ List.length a ∧ List.take x1 a = List.take x1 b →
 (decide ((↑x1 : Int) < (↑(List.length a) : Int)) = true →
 (0 : Int) ≤ (↑x1 : Int) ∧
 (↑x1 : Int) < (↑(List.length a) : Int) ∧
 (0 : Int) ≤ (↑x1 : Int) ∧
 (↑x1 : Int) < (↑(List.length b) : Int) ∧
 ((List.getD a (Int.toNat (↑x1 : Int)) (0 : Int) != List.getD b (Int.toNat (↑x1 : Int)) (0 : Int)) = true → false = eqL a b) ∧
 ((List.getD a (Int.toNat (↑x1 : Int)) (0 : Int) != List.getD b (Int.toNat (↑x1 : Int)) (0 : Int)) = false →
 ∃ (y2 : Nat),
 (y2 ≤ List.length a ∧ List.take y2 a = List.take y2 b) ∧
 Nat.sub (List.length a) y2 < Nat.sub (List.length a) x1 ∧ a = a ∧ b = b ∧ IntKind.wrap IntKind.i64 ((↑x1 : Int) + (1 : Int)) = (↑y2 : Int))) ∧
 (decide ((↑x1 : Int) < (↑(List.length a) : Int)) = false → true = eqL a b))
theorem eq6_e (a b : List Int) : eq6_t a b = vcG Try.prog (Gof []) (one6 (oEqL a b)) Try.f15 [.dat (.ints .i64 a), .dat (.ints .i64 b)] [] (.leaf ((.v (.bool (eqL a b)))) ([])) := by kernel_rfl
def check6_t (l : List Int) : Prop :=
 List.length l ≤ (4294967296 : Nat) ∧
 List.length (manyT l).fst = (12 : Nat) ∧
 List.length (manyT l).fst = List.length (List.replicate (12 : Nat) (0 : Int)) ∧
 (((manyT l).snd != (0 : Int)) = true → (manyT l).snd = chk l) ∧
 (((manyT l).snd != (0 : Int)) = false →
 (∃ (x0 : Nat),
 (x0 ≤ (11 : Nat) ∧ (manyT l).snd = (0 : Int)) ∧
 (0 : Int) = rmC (manyT l).fst x0 ∧ (0 : Int) = cdC (manyT l).fst x0 ∧ (1 : Int) = (↑x0 : Int) + (1 : Int) ∧ (manyT l).fst = (manyT l).fst) ∧
 ∀ (x1 : Nat),
 x1 ≤ (11 : Nat) ∧ (manyT l).snd = (0 : Int) →
 (decide ((↑x1 : Int) + (1 : Int) ≤ (11 : Int)) = true →
 (0 : Int) ≤ (↑x1 : Int) + (1 : Int) ∧
 (↑x1 : Int) + (1 : Int) < (↑(12 : Nat) : Int) ∧
 Int.toNat ((↑x1 : Int) + (1 : Int)) < List.length (manyT l).fst ∧
 (0 : Int) ≤ IntKind.wrap IntKind.i64 ((11 : Int) - ((↑x1 : Int) + (1 : Int))) ∧
 (0 : Int) ≤ (↑x1 : Int) + (1 : Int) ∧
 (↑x1 : Int) + (1 : Int) < (↑(12 : Nat) : Int) ∧
 Int.toNat ((↑x1 : Int) + (1 : Int)) < List.length (manyT l).fst ∧
 ∃ (y2 : Nat),
 (y2 ≤ (11 : Nat) ∧ (manyT l).snd = (0 : Int)) ∧
 Nat.sub (11 : Nat) y2 < Nat.sub (11 : Nat) x1 ∧
 IntKind.wrap IntKind.i64
 (rmC (manyT l).fst x1 +
 IntKind.wrap IntKind.i64
 (List.getD (manyT l).fst (Int.toNat ((↑x1 : Int) + (1 : Int))) (0 : Int) *
 (2 : Int) ^ min (Int.toNat (IntKind.wrap IntKind.i64 ((11 : Int) - ((↑x1 : Int) + (1 : Int))))) (IntKind.bits IntKind.i64))) =
 rmC (manyT l).fst y2 ∧
 IntKind.wrap IntKind.i64 (cdC (manyT l).fst x1 + List.getD (manyT l).fst (Int.toNat ((↑x1 : Int) + (1 : Int))) (0 : Int)) = cdC (manyT l).fst y2 ∧
 IntKind.wrap IntKind.i64 ((↑x1 : Int) + (1 : Int) + (1 : Int)) = (↑y2 : Int) + (1 : Int) ∧ (manyT l).fst = (manyT l).fst) ∧
 (decide ((↑x1 : Int) + (1 : Int) ≤ (11 : Int)) = false →
 (decide (cdC (manyT l).fst x1 < (2 : Int)) = true → (21 : Int) = chk l) ∧
 (decide (cdC (manyT l).fst x1 < (2 : Int)) = false →
 ((rmC (manyT l).fst x1 != (2048 : Int)) = true → (21 : Int) = chk l) ∧ ((rmC (manyT l).fst x1 != (2048 : Int)) = false → (0 : Int) = chk l))))
theorem check6_e (l : List Int) : check6_t l = vcG Try.prog (Gof G6a) (one6 (oChk6 l)) Try.f86 [.dat (.ints .i64 l)] [] (.leaf ((.v (.int .i64 (chk l)))) ([])) := by kernel_rfl
def rcheck6_t (l : List Int) : Prop :=
 (decide ((↑(List.length l) : Int) > (256 : Int)) = true → (2 : Int) = chk l) ∧
 (decide ((↑(List.length l) : Int) > (256 : Int)) = false →
 (∃ (x0 : Nat), (x0 ≤ List.length l ∧ List.all (List.take x0 l) okLen = true) ∧ l = l ∧ (0 : Int) = (↑x0 : Int)) ∧
 ∀ (x1 : Nat),
 x1 ≤ List.length l ∧ List.all (List.take x1 l) okLen = true →
 (decide ((↑x1 : Int) < (↑(List.length l) : Int)) = true →
 (0 : Int) ≤ (↑x1 : Int) ∧
 (↑x1 : Int) < (↑(List.length l) : Int) ∧
 (decide (List.getD l (Int.toNat (↑x1 : Int)) (0 : Int) < (0 : Int)) = true → (2 : Int) = chk l) ∧
 (decide (List.getD l (Int.toNat (↑x1 : Int)) (0 : Int) < (0 : Int)) = false →
 (0 : Int) ≤ (↑x1 : Int) ∧
 (↑x1 : Int) < (↑(List.length l) : Int) ∧
 (decide (List.getD l (Int.toNat (↑x1 : Int)) (0 : Int) > (11 : Int)) = true → (2 : Int) = chk l) ∧
 (decide (List.getD l (Int.toNat (↑x1 : Int)) (0 : Int) > (11 : Int)) = false →
 ∃ (y2 : Nat),
 (y2 ≤ List.length l ∧ List.all (List.take y2 l) okLen = true) ∧
 Nat.sub (List.length l) y2 < Nat.sub (List.length l) x1 ∧ l = l ∧ IntKind.wrap IntKind.i64 ((↑x1 : Int) + (1 : Int)) = (↑y2 : Int)))) ∧
 (decide ((↑x1 : Int) < (↑(List.length l) : Int)) = false →
 List.length l ≤ (4294967296 : Nat) ∧
 (∃ (x3 : Nat),
 (x3 ≤ List.length l ∧ List.all l okLen = true) ∧ l = l ∧ gmx l = gmx l ∧ (0 : Int) = cntP (List.take x3 l) ∧ (0 : Int) = sumM (gmx l) (List.take x3 l) ∧ (0 : Int) = (↑x3 : Int)) ∧
 ∀ (x4 : Nat),
 x4 ≤ List.length l ∧ List.all l okLen = true →
 (decide ((↑x4 : Int) < (↑(List.length l) : Int)) = true →
 (0 : Int) ≤ (↑x4 : Int) ∧
 (↑x4 : Int) < (↑(List.length l) : Int) ∧
 (decide (List.getD l (Int.toNat (↑x4 : Int)) (0 : Int) > (0 : Int)) = true →
 (0 : Int) ≤ (↑x4 : Int) ∧
 (↑x4 : Int) < (↑(List.length l) : Int) ∧
 (0 : Int) ≤ IntKind.wrap IntKind.u64 (IntKind.wrap IntKind.i64 (gmx l - List.getD l (Int.toNat (↑x4 : Int)) (0 : Int))) ∧
 ∃ (y5 : Nat),
 (y5 ≤ List.length l ∧ List.all l okLen = true) ∧
 Nat.sub (List.length l) y5 < Nat.sub (List.length l) x4 ∧
 l = l ∧
 gmx l = gmx l ∧
 IntKind.wrap IntKind.i64 (cntP (List.take x4 l) + (1 : Int)) = cntP (List.take y5 l) ∧
 IntKind.wrap IntKind.i64
 (sumM (gmx l) (List.take x4 l) +
 IntKind.wrap IntKind.i64
 ((1 : Int) *
 (2 : Int) ^
 min (Int.toNat (IntKind.wrap IntKind.u64 (IntKind.wrap IntKind.i64 (gmx l - List.getD l (Int.toNat (↑x4 : Int)) (0 : Int)))))
 (IntKind.bits IntKind.i64))) =
 sumM (gmx l) (List.take y5 l) ∧
 IntKind.wrap IntKind.i64 ((↑x4 : Int) + (1 : Int)) = (↑y5 : Int)) ∧
 (decide (List.getD l (Int.toNat (↑x4 : Int)) (0 : Int) > (0 : Int)) = false →
 ∃ (y6 : Nat),
 (y6 ≤ List.length l ∧ List.all l okLen = true) ∧
 Nat.sub (List.length l) y6 < Nat.sub (List.length l) x4 ∧
 l = l ∧
 gmx l = gmx l ∧
 cntP (List.take x4 l) = cntP (List.take y6 l) ∧
 sumM (gmx l) (List.take x4 l) = sumM (gmx l) (List.take y6 l) ∧ IntKind.wrap IntKind.i64 ((↑x4 : Int) + (1 : Int)) = (↑y6 : Int))) ∧
 (decide ((↑x4 : Int) < (↑(List.length l) : Int)) = false →
 (decide (cntP (List.take x4 l) < (2 : Int)) = true → (21 : Int) = chk l) ∧
 (decide (cntP (List.take x4 l) < (2 : Int)) = false →
 (0 : Int) ≤ IntKind.wrap IntKind.u64 (gmx l) ∧
 ((sumM (gmx l) (List.take x4 l) != IntKind.wrap IntKind.i64 ((1 : Int) * (2 : Int) ^ min (Int.toNat (IntKind.wrap IntKind.u64 (gmx l))) (IntKind.bits IntKind.i64))) =
 true →
 (21 : Int) = chk l) ∧
 ((sumM (gmx l) (List.take x4 l) != IntKind.wrap IntKind.i64 ((1 : Int) * (2 : Int) ^ min (Int.toNat (IntKind.wrap IntKind.u64 (gmx l))) (IntKind.bits IntKind.i64))) =
 false →
 (0 : Int) = chk l)))))
theorem rcheck6_e (l : List Int) : rcheck6_t l = vcG Try.prog (Gof G6a) (two6 (oRchkA l) (oRchkB l)) Try.f91 [.dat (.ints .i64 l)] [] (.leaf ((.v (.int .i64 (chk l)))) ([])) := by kernel_rfl
def great6_t (l : List Int) : Prop :=
 (0 : Nat) < List.length l ∧ List.length l ≤ (4294967296 : Nat) ∧ maxL l = gmx l
theorem great6_e (l : List Int) : great6_t l = vcG Try.prog (Gof G6a) (fun _ => none) Try.f87 [.dat (.ints .i64 l)] [] (.leaf ((.v (.int .i64 (gmx l)))) ([])) := by kernel_rfl
end Go.Proofs.Ytmdbliacaeokaaa
namespace Go.Proofs.Ytmdbliacaeokaaa
open Go Go.RowKit
set_option linter.unusedVariables false
set_option linter.unusedSimpArgs false
set_option maxRecDepth 100000
theorem mixed : Try.prog.follows .mixedOrders = true := by kernel_rfl
theorem all_snoc {f : Int → Bool} {l : List Int} {i : Nat} (h : i < l.length) : (l.take (i + 1)).all f = ((l.take i).all f && f (l.getD i 0)) := by
  rw [take_succ l 0 h, List.all_append]
  simp
theorem all_of_bad {f : Int → Bool} {l : List Int} {i : Nat} (h : i < l.length) (hf : f (l.getD i 0) = false) : l.all f = false := by
  rw [Bool.eq_false_iff]
  intro ha
  have := List.all_eq_true.1 ha _ (getD_mem' h)
  rw [hf] at this
  cases this
theorem snoc_ind' {P : List Int → Prop} (h0 : P []) (h1 : ∀ l z, P l → P (l ++ [z])) (l : List Int) : P l := by
  have : P l.reverse.reverse := by
    induction l.reverse with
    | nil => exact h0
    | cons x r ih => rw [List.reverse_cons]; exact h1 _ _ ih
  rwa [List.reverse_reverse] at this
theorem okLen_iff {x : Int} : okLen x = true ↔ 0 ≤ x ∧ x ≤ 11 := by simp [okLen]
theorem okLen_false {x : Int} : okLen x = false ↔ x < 0 ∨ 11 < x := by
  rw [← Bool.not_eq_true, okLen_iff]; omega
theorem bumps_snoc (l : List Int) (x : Int) : bumps (l ++ [x]) = bump (bumps l) x := by simp [bumps, List.foldl_append]
theorem bumps_len (l : List Int) : (bumps l).length = 12 := by
  induction l using snoc_ind' with
  | h0 => rfl
  | h1 l z ih => rw [bumps_snoc, bump, List.length_set, ih]
theorem getD_set_i (l : List Int) (i j : Nat) (v : Int) : (l.set i v).getD j 0 = if i = j ∧ j < l.length then v else l.getD j 0 := by
  simp only [List.getD_eq_getElem?_getD, List.getElem?_set]
  by_cases h : i = j
  · subst h
    by_cases h2 : i < l.length
    · simp [h2]
    · simp [h2]
  · simp [h]
theorem bumps_bd (l : List Int) (j : Nat) : 0 ≤ (bumps l).getD j 0 ∧ (bumps l).getD j 0 ≤ l.length := by
  induction l using snoc_ind' generalizing j with
  | h0 =>
    have : (bumps []).getD j 0 = 0 := by
      rcases j with _ | _ | _ | _ | _ | _ | _ | _ | _ | _ | _ | _ | j <;> simp [bumps, zeros12]
    rw [this]; simp
  | h1 l z ih =>
    rw [bumps_snoc, bump, getD_set_i, List.length_append]
    have h1 := ih j
    have h2 := ih z.toNat
    split
    · rename_i h; have := h.1; subst this; simp only [List.length_singleton]; omega
    · simp only [List.length_singleton]; omega
theorem manyG_app (a r : List Int) : ∀ out, a.all okLen = true → manyG out (a ++ r) = manyG (a.foldl bump out) r := by
  induction a with
  | nil => intro out _; rfl
  | cons x a ih =>
    intro out h
    simp only [List.all_cons, Bool.and_eq_true] at h
    simp only [List.cons_append, manyG, h.1, cond_true, List.foldl_cons]
    exact ih _ h.2
theorem many_good {l : List Int} (h0 : l.length ≤ 256) (h : l.all okLen = true) : manyT l = (bumps l, 0) := by
  have := manyG_app l [] zeros12 h
  rw [List.append_nil] at this
  unfold manyT
  rw [decide_eq_false (by omega), cond_false, this]
  rfl
theorem many_bad {l : List Int} (h0 : l.length ≤ 256) {i : Nat} (hi : i < l.length) (h : (l.take i).all okLen = true) (hx : okLen (l.getD i 0) = false) : manyT l = (bumps (l.take i), 2) := by
  have := manyG_app (l.take i) (l.drop i) zeros12 h
  rw [List.take_append_drop] at this
  unfold manyT
  rw [decide_eq_false (by omega), cond_false, this, List.drop_eq_getElem_cons hi]
  have e : l[i] = l.getD i 0 := by rw [List.getD_eq_getElem?_getD, List.getElem?_eq_getElem hi]; rfl
  rw [e]
  simp only [manyG, hx, cond_false]
  rfl
theorem many_long {l : List Int} (h0 : 256 < l.length) : manyT l = (zeros12, 2) := by
  unfold manyT
  rw [decide_eq_true (by omega), cond_true]
theorem first_bad {f : Int → Bool} : ∀ (l : List Int), l.all f = false → ∃ i, i < l.length ∧ (l.take i).all f = true ∧ f (l.getD i 0) = false
  | [], h => by simp at h
  | x :: r, h => by
    cases hx : f x
    · exact ⟨0, by simp, by simp, by simpa using hx⟩
    · simp only [List.all_cons, hx, Bool.true_and] at h
      obtain ⟨i, h1, h2, h3⟩ := first_bad r h
      exact ⟨i + 1, by simpa using h1, by simp [hx, h2], by simpa using h3⟩
theorem many_snd (l : List Int) : (l.length ≤ 256 ∧ l.all okLen = true ∧ manyT l = (bumps l, 0)) ∨ ((manyT l).2 = 2 ∧ chk l = 2) := by
  by_cases h0 : l.length ≤ 256
  · cases h : l.all okLen
    · obtain ⟨i, h1, h2, h3⟩ := first_bad l h
      right
      rw [many_bad h0 h1 h2 h3]
      refine ⟨rfl, ?_⟩
      unfold chk
      rw [decide_eq_false (by omega), h]
      rfl
    · exact .inl ⟨h0, rfl, many_good h0 h⟩
  · right
    rw [many_long (by omega)]
    refine ⟨rfl, ?_⟩
    unfold chk
    rw [decide_eq_true (by omega)]
    rfl
theorem many_len (l : List Int) : (manyT l).1.length = 12 := by
  by_cases h0 : l.length ≤ 256
  · cases h : l.all okLen
    · obtain ⟨i, h1, h2, h3⟩ := first_bad l h
      rw [many_bad h0 h1 h2 h3]
      exact bumps_len _
    · rw [many_good h0 h]; exact bumps_len _
  · rw [many_long (by omega)]; rfl
theorem rmC_succ (c : List Int) (i : Nat) : rmC c (i + 1) = rmC c i + c.getD (i + 1) 0 * 2 ^ (10 - i) := by simp [rmC, List.range_succ, List.foldl_append]
theorem cdC_succ (c : List Int) (i : Nat) : cdC c (i + 1) = cdC c i + c.getD (i + 1) 0 := by simp [cdC, List.range_succ, List.foldl_append]
theorem cntP_snoc (l : List Int) (x : Int) : cntP (l ++ [x]) = cond (decide (0 < x)) (cntP l + 1) (cntP l) := by simp [cntP, List.foldl_append]
theorem sumM_snoc (m : Int) (l : List Int) (x : Int) : sumM m (l ++ [x]) = cond (decide (0 < x)) (sumM m l + 2 ^ (m - x).toNat) (sumM m l) := by simp [sumM, List.foldl_append]
theorem rmC_bd {c : List Int} {n : Int} (hn : 0 ≤ n) (h : ∀ j, 0 ≤ c.getD j 0 ∧ c.getD j 0 ≤ n) : ∀ i, 0 ≤ rmC c i ∧ rmC c i ≤ i * (n * 1024)
  | 0 => by simp [rmC]
  | i + 1 => by
    have ih := rmC_bd hn h i
    rw [rmC_succ]
    have h1 := h (i + 1)
    have h2 := pow_pos' (10 - i)
    have h3 := pow_mono (show 10 - i ≤ 10 by omega)
    have h4 : 0 ≤ c.getD (i + 1) 0 * 2 ^ (10 - i) := Int.mul_nonneg h1.1 (by omega)
    have h5 : c.getD (i + 1) 0 * 2 ^ (10 - i) ≤ n * 1024 := Int.mul_le_mul h1.2 (by simpa using h3) (by omega) hn
    constructor
    · omega
    · push_cast
      rw [Int.add_mul]
      omega
theorem cdC_bd {c : List Int} {n : Int} (hn : 0 ≤ n) (h : ∀ j, 0 ≤ c.getD j 0 ∧ c.getD j 0 ≤ n) : ∀ i, 0 ≤ cdC c i ∧ cdC c i ≤ i * n
  | 0 => by simp [cdC]
  | i + 1 => by
    have ih := cdC_bd hn h i
    rw [cdC_succ]
    have h1 := h (i + 1)
    constructor
    · omega
    · push_cast
      rw [Int.add_mul]
      omega
theorem rm_bump {c : List Int} (hc : c.length = 12) {x : Int} (hx : okLen x = true) : rmC (bump c x) 11 = rmC c 11 + cond (decide (0 < x)) (2 ^ (11 - x).toNat) 0 ∧ cdC (bump c x) 11 = cdC c 11 + cond (decide (0 < x)) 1 0 := by
  rw [okLen_iff] at hx
  obtain ⟨n, rfl⟩ := Int.eq_ofNat_of_zero_le hx.1
  have hn : n ≤ 11 := by omega
  match c, hc with
  | [a0, a1, a2, a3, a4, a5, a6, a7, a8, a9, a10, a11], _ =>
    rcases n with _ | _ | _ | _ | _ | _ | _ | _ | _ | _ | _ | _ | n
    all_goals first | (exfalso; omega) | skip
    all_goals
      simp [rmC, cdC, bump, List.range, List.range.loop, List.set]
      try omega
theorem rm_bumps (l : List Int) : l.all okLen = true → rmC (bumps l) 11 = roomL l ∧ cdC (bumps l) 11 = cntP l := by
  induction l using snoc_ind' with
  | h0 => intro _; decide
  | h1 l z ih =>
    intro h
    simp only [List.all_append, List.all_cons, List.all_nil, Bool.and_true, Bool.and_eq_true] at h
    obtain ⟨k1, k2⟩ := ih h.1
    obtain ⟨j1, j2⟩ := rm_bump (bumps_len l) h.2
    rw [bumps_snoc, j1, j2, k1, k2, cntP_snoc]
    unfold roomL
    rw [sumM_snoc]
    cases decide (0 < z)
    · simp
    · simp
theorem gmx_snoc (l : List Int) (x : Int) : gmx (l ++ [x]) = max (gmx l) x := by simp [gmx, List.foldl_append]
theorem gmx_ge (l : List Int) : 0 ≤ gmx l ∧ ∀ x ∈ l, x ≤ gmx l := by
  induction l using snoc_ind' with
  | h0 => simp [gmx]
  | h1 l z ih =>
    rw [gmx_snoc]
    refine ⟨by have := ih.1; omega, fun x hx => ?_⟩
    simp only [List.mem_append, List.mem_singleton] at hx
    rcases hx with hx | rfl
    · have := ih.2 x hx; omega
    · omega
theorem gmx_le {l : List Int} {m : Int} (hm : 0 ≤ m) (h : ∀ x ∈ l, x ≤ m) : gmx l ≤ m := by
  induction l using snoc_ind' with
  | h0 => simpa [gmx] using hm
  | h1 l z ih =>
    rw [gmx_snoc]
    have h1 := ih fun x hx => h x (by simp [hx])
    have h2 := h z (by simp)
    omega
theorem maxL_snoc' (l : List Int) (z : Int) (h : l ≠ []) : maxL (l ++ [z]) = max (maxL l) z := by
  cases l with
  | nil => exact absurd rfl h
  | cons x r => simp [maxL, List.foldl_append]
theorem maxL_gmx {l : List Int} (h0 : 0 < l.length) (h : ∀ x ∈ l, 0 ≤ x) : maxL l = gmx l := by
  cases l with
  | nil => simp at h0
  | cons x r =>
    have := h x (by simp)
    simp [maxL, gmx, Int.max_eq_right this]
theorem all_ok {l : List Int} (h : l.all okLen = true) : ∀ x ∈ l, 0 ≤ x ∧ x ≤ 11 := fun x hx => okLen_iff.1 (List.all_eq_true.1 h x hx)
theorem sumM_bd (m : Int) (h0 : 0 ≤ m) (hm : m ≤ 11) (l : List Int) : 0 ≤ sumM m l ∧ sumM m l ≤ l.length * 2048 := by
  induction l using snoc_ind' with
  | h0 => simp [sumM]
  | h1 l z ih =>
    rw [sumM_snoc, List.length_append]
    by_cases hz : 0 < z
    · rw [decide_eq_true hz, cond_true]
      have h1 := pow_pos' (m - z).toNat
      have h2 := pow_mono (show (m - z).toNat ≤ 11 by omega)
      have h3 : (2 : Int) ^ 11 = 2048 := by decide
      rw [h3] at h2
      push_cast
      simp only [List.length_singleton]
      omega
    · rw [decide_eq_false hz, cond_false]
      push_cast
      simp only [List.length_singleton]
      omega
theorem cntP_bd (l : List Int) : 0 ≤ cntP l ∧ cntP l ≤ l.length := by
  induction l using snoc_ind' with
  | h0 => simp [cntP]
  | h1 l z ih =>
    rw [cntP_snoc, List.length_append]
    cases decide (0 < z)
    · simp only [cond_false, List.length_singleton]; omega
    · simp only [cond_true, List.length_singleton]; omega
theorem sumM_scale {m : Int} (h0 : 0 ≤ m) (hm : m ≤ 11) (l : List Int) : (∀ x ∈ l, x ≤ m) → roomL l = sumM m l * 2 ^ (11 - m).toNat := by
  induction l using snoc_ind' with
  | h0 => intro _; simp [roomL, sumM]
  | h1 l z ih =>
    intro h
    have k := ih fun x hx => h x (by simp [hx])
    have hz := h z (by simp)
    unfold roomL at k ⊢
    rw [sumM_snoc, sumM_snoc]
    by_cases hp : 0 < z
    · rw [decide_eq_true hp, cond_true, cond_true, k, Int.add_mul, ← Int.pow_add]
      have : (m - z).toNat + (11 - m).toNat = (11 - z).toNat := by omega
      rw [this]
    · rw [decide_eq_false hp, cond_false, cond_false, k]
theorem room_iff {l : List Int} (h : l.all okLen = true) : (sumM (gmx l) l = 2 ^ (gmx l).toNat) ↔ roomL l = 2048 := by
  have hg := gmx_ge l
  have hl := gmx_le (m := 11) (by omega) fun x hx => (all_ok h x hx).2
  have hs := sumM_scale hg.1 hl l hg.2
  have hp := pow_pos' (11 - gmx l).toNat
  have e : (2048 : Int) = 2 ^ (gmx l).toNat * 2 ^ (11 - gmx l).toNat := by
    rw [← Int.pow_add]
    have : (gmx l).toNat + (11 - gmx l).toNat = 11 := by omega
    rw [this]; decide
  rw [hs, e]
  constructor
  · intro h; rw [h]
  · intro h; exact Int.eq_of_mul_eq_mul_right (by omega) h
theorem chk_zero {l : List Int} (h : chk l = 0) : l.length ≤ 256 ∧ l.all okLen = true ∧ 2 ≤ cntP l ∧ roomL l = 2048 := by
  unfold chk at h
  by_cases h0 : 256 < l.length
  · rw [decide_eq_true h0] at h; simp at h
  · rw [decide_eq_false h0, cond_false] at h
    cases ha : l.all okLen
    · rw [ha] at h; simp at h
    · rw [ha, cond_true] at h
      cases hc : (decide (cntP l < 2) || !(roomL l == 2048))
      · simp only [Bool.or_eq_false_iff, decide_eq_false_iff_not, Bool.not_eq_false', beq_iff_eq] at hc
        exact ⟨by omega, rfl, by omega, hc.2⟩
      · rw [hc] at h; simp at h
theorem chk_ok {l : List Int} (h0 : l.length ≤ 256) (h1 : l.all okLen = true) : chk l = cond (decide (cntP l < 2) || !(roomL l == 2048)) 21 0 := by
  unfold chk
  rw [decide_eq_false (by omega), cond_false, h1, cond_true]
theorem chk_zero_pos {l : List Int} (h : chk l = 0) : 0 < l.length ∧ (∀ x ∈ l, 0 ≤ x ∧ x ≤ 11) ∧ maxL l = gmx l := by
  obtain ⟨h1, h2, h3, h4⟩ := chk_zero h
  have hp : 0 < l.length := by have := cntP_bd l; omega
  exact ⟨hp, all_ok h2, maxL_gmx hp fun x hx => (all_ok h2 x hx).1⟩
end Go.Proofs.Ytmdbliacaeokaaa
namespace Go.Proofs.Ytmdbliacaeokaaa
open Go Go.RowKit
set_option linter.unusedVariables false
set_option linter.unusedSimpArgs false
set_option maxRecDepth 100000
theorem many6_v (l : List Int) (h0 : l.length ≤ 4294967296) : many6_t l := by
  unfold many6_t
  refine ⟨fun h => ?_, fun h => ⟨⟨0, ⟨by omega, rfl⟩, rfl, rfl, rfl, rfl⟩, fun i ⟨hi, hal⟩ => ⟨fun hlt => ?_, fun hge => ?_⟩⟩⟩
  · simp only [gt_iff_lt, decide_eq_true_eq] at h
    rw [many_long (by omega)]
    exact ⟨rfl, rfl, rfl, rfl, rfl, rfl⟩
  · simp only [gt_iff_lt, decide_eq_false_iff_not, decide_eq_true_eq] at h hlt
    have hi' : i < l.length := by omega
    have hL : l.length ≤ 256 := by omega
    have hb := bumps_len (l.take i)
    simp only [toNat_cast, gt_iff_lt, decide_eq_true_eq, decide_eq_false_iff_not]
    refine ⟨by omega, by omega, fun h1 => ?_, fun h1 => ⟨fun h2 => ?_, fun h2 => ?_⟩⟩
    · rw [many_bad hL hi' hal (okLen_false.2 (.inl h1))]
      exact ⟨hb.symm, hb, by trivial, hb.symm, by trivial, by trivial⟩
    · rw [many_bad hL hi' hal (okLen_false.2 (.inr h2))]
      exact ⟨hb.symm, hb, by trivial, hb.symm, by trivial, by trivial⟩
    · have hok : okLen (l.getD i 0) = true := okLen_iff.2 ⟨by omega, by omega⟩
      have hbd := bumps_bd (l.take i) (l.getD i 0).toNat
      rw [List.length_take] at hbd
      refine ⟨by omega, by omega, by omega, by omega, by omega, by omega, i + 1, ⟨by omega, by rw [all_snoc hi', hal, hok]; rfl⟩, by show l.length - (i + 1) < l.length - i; omega, by trivial, by trivial, by rw [wr (by omega) (by omega)]; simp, ?_⟩
      rw [take_succ l 0 hi', bumps_snoc, bump, wr (by omega) (by omega)]
  · simp only [gt_iff_lt, decide_eq_false_iff_not] at h hge
    have hb := bumps_len (l.take i)
    rw [List.take_of_length_le (by omega)] at hb hal ⊢
    rw [many_good (by omega) hal]
    exact ⟨hb.symm, hb, rfl, hb.symm, rfl, rfl⟩
theorem max6_v (l : List Int) (h0 : 0 < l.length) (h1 : l.length ≤ 4294967296) : max6_t l := by
  unfold max6_t
  refine ⟨fun h => by simp only [decide_eq_true_eq] at h; omega, fun h => ⟨by omega, by omega, ⟨1, ⟨by omega, by omega⟩, rfl, ?_, rfl⟩, fun i hi => ⟨fun hlt => ?_, fun hge => ?_⟩⟩⟩
  · cases l with
    | nil => simp at h0
    | cons x r => simp [maxL]
  · simp only [decide_eq_true_eq] at hlt
    have hlt' : i < l.length := by omega
    refine ⟨by omega, by omega, i + 1, ⟨by omega, by omega⟩, by show l.length - (i+1) < l.length - i; omega, by trivial, ?_, by rw [wr (by omega) (by omega)]; simp⟩
    rw [take_succ l 0 hlt', toNat_cast, maxL_snoc']
    intro hn
    have := congrArg List.length hn
    simp only [List.length_take, List.length_nil] at this
    omega
  · simp only [decide_eq_false_iff_not] at hge
    rw [List.take_of_length_le (by omega)]
theorem rgmx6_v (l : List Int) (h1 : l.length ≤ 4294967296) : rgmx6_t l := by
  unfold rgmx6_t
  refine ⟨⟨0, by rw [nle]; omega, rfl, rfl, rfl⟩, fun i hi => ⟨fun hlt => ?_, fun hge => ?_⟩⟩
  · simp only [decide_eq_true_eq] at hlt
    have hlt' : i < l.length := by omega
    refine ⟨by omega, by omega, i + 1, by rw [nle]; omega, by show l.length - (i+1) < l.length - i; omega, by trivial, ?_, by rw [wr (by omega) (by omega)]; simp⟩
    rw [take_succ l 0 hlt', toNat_cast, gmx_snoc]
  · simp only [decide_eq_false_iff_not] at hge
    rw [List.take_of_length_le (by omega)]
theorem own6_v (l : List Int) (h : l.length ≤ 4294967296) : own6_t l := ⟨by omega, rfl⟩
theorem eqL_false {a b : List Int} {i : Nat} (hne : a.getD i 0 ≠ b.getD i 0) : eqL a b = false := by
  unfold eqL
  rw [beq_eq_false_iff_ne]
  rintro rfl
  exact hne rfl
theorem eqL_len {a b : List Int} (h : ((a.length : Int) != (b.length : Int)) = true) : eqL a b = false := by
  unfold eqL
  rw [beq_eq_false_iff_ne]
  rintro rfl
  simp at h
theorem eq6_v (a b : List Int) (h0 : a.length ≤ 4294967296) : eq6_t a b := by
  unfold eq6_t
  refine ⟨fun h => (eqL_len h).symm, fun h => ?_⟩
  have hl : a.length = b.length := by have h' := h; simp at h'; omega
  refine ⟨⟨0, ⟨by omega, rfl⟩, rfl, rfl, rfl⟩, fun i hi => ⟨fun hlt => ?_, fun hge => ?_⟩⟩
  · simp only [decide_eq_true_eq] at hlt
    simp only [toNat_cast]
    refine ⟨by omega, by omega, by omega, by omega, fun hne => ?_, fun he => ?_⟩
    · exact (eqL_false (i := i) (by simpa using hne)).symm
    · refine ⟨i + 1, ⟨by omega, ?_⟩, by show a.length - (i+1) < a.length - i; omega, by trivial, by trivial, by rw [wr (by omega) (by omega)]; simp⟩
      rw [take_succ a 0 (by omega), take_succ b 0 (by omega), hi.2, show a.getD i 0 = b.getD i 0 by simpa using he]
  · simp only [decide_eq_false_iff_not] at hge
    have ht := hi.2
    rw [List.take_of_length_le (by omega), List.take_of_length_le (by omega)] at ht
    unfold eqL
    rw [ht]
    simp
theorem check6_v (l : List Int) (h0 : l.length ≤ 4294967296) : check6_t l := by
  unfold check6_t
  rcases many_snd l with ⟨hL, hal, hm⟩ | ⟨hm, hc⟩
  · refine ⟨h0, many_len l, by rw [many_len]; rfl, fun h => by rw [hm] at h; simp at h, fun _ => ⟨⟨0, ⟨by omega, by rw [hm]⟩, rfl, rfl, rfl, rfl⟩, fun i ⟨hi, _⟩ => ⟨fun hlt => ?_, fun hge => ?_⟩⟩⟩
    · rw [many_len, hm]
      simp only
      simp only [decide_eq_true_eq] at hlt
      have e1 : ((i : Int) + 1).toNat = i + 1 := by omega
      have e2 : (11 : Int) - ((i : Int) + 1) = ((10 - i : Nat) : Int) := by omega
      have hb := fun j => bumps_bd l j
      have r1 := rmC_bd (c := bumps l) (n := 256) (by omega) (fun j => by have := hb j; omega) i
      have r2 := rmC_bd (c := bumps l) (n := 256) (by omega) (fun j => by have := hb j; omega) (i + 1)
      have d1 := cdC_bd (c := bumps l) (n := 256) (by omega) (fun j => by have := hb j; omega) i
      have d2 := cdC_bd (c := bumps l) (n := 256) (by omega) (fun j => by have := hb j; omega) (i + 1)
      have r3 := rmC_succ (bumps l) i
      have d3 := cdC_succ (bumps l) i
      have e4 : (11 : Int) - (i : Int) - 1 = ((10 - i : Nat) : Int) := by omega
      rw [e1, e2, wr (n := ((10 - i : Nat) : Int)) (by omega) (by omega), toNat_cast, b64, Nat.min_eq_left (by omega)]
      push_cast at r2 d2
      have hterm : 0 ≤ (bumps l).getD (i + 1) 0 * 2 ^ (10 - i) ∧ (bumps l).getD (i + 1) 0 * 2 ^ (10 - i) ≤ 256 * 1024 := by
        have h1 := hb (i + 1)
        have h2 := pow_pos' (10 - i)
        have h3 := pow_mono (show 10 - i ≤ 10 by omega)
        exact ⟨Int.mul_nonneg h1.1 (by omega), Int.mul_le_mul (by omega) (by simpa using h3) (by omega) (by omega)⟩
      refine ⟨by omega, by omega, by omega, by omega, by omega, by omega, by omega, i + 1, ⟨by omega, by trivial⟩, by show 11 - (i + 1) < 11 - i; omega, ?_, ?_, by rw [wr (by omega) (by omega)]; push_cast; rfl, by trivial⟩
      · rw [wr (n := (bumps l).getD (i + 1) 0 * 2 ^ (10 - i)) (by omega) (by omega), ← r3, wr (by omega) (by omega)]
      · rw [← d3, wr (by omega) (by omega)]
    · simp only [decide_eq_false_iff_not] at hge
      have : i = 11 := by omega
      subst this
      rw [hm]
      simp only
      obtain ⟨k1, k2⟩ := rm_bumps l hal
      rw [k1, k2, chk_ok hL hal]
      refine ⟨fun h => by rw [h]; rfl, fun h => ⟨fun h2 => ?_, fun h2 => ?_⟩⟩
      · rw [h, Bool.false_or]
        have : (roomL l == 2048) = false := by simpa using h2
        rw [this]; rfl
      · rw [h, Bool.false_or]
        have : (roomL l == 2048) = true := by simpa using h2
        rw [this]; rfl
  · refine ⟨h0, many_len l, by rw [many_len]; rfl, fun h => by rw [hm, hc], fun h => by rw [hm] at h; simp at h⟩
theorem rcheck6_v (l : List Int) (h0 : l.length ≤ 4294967296) : rcheck6_t l := by
  unfold rcheck6_t
  refine ⟨fun h => ?_, fun h => ⟨⟨0, ⟨by omega, rfl⟩, rfl, rfl⟩, fun i ⟨hi, hal⟩ => ⟨fun hlt => ?_, fun hge => ?_⟩⟩⟩
  · simp only [gt_iff_lt, decide_eq_true_eq] at h
    unfold chk
    rw [decide_eq_true (by omega)]; rfl
  · simp only [gt_iff_lt, decide_eq_false_iff_not, decide_eq_true_eq] at h hlt
    have hi' : i < l.length := by omega
    have bad : okLen (l.getD i 0) = false → chk l = 2 := fun hb => by
      unfold chk
      rw [decide_eq_false (by omega), all_of_bad hi' hb]; rfl
    simp only [toNat_cast, gt_iff_lt, decide_eq_true_eq, decide_eq_false_iff_not]
    refine ⟨by omega, by omega, fun h1 => (bad (okLen_false.2 (.inl h1))).symm, fun h1 => ⟨by omega, by omega, fun h2 => (bad (okLen_false.2 (.inr h2))).symm, fun h2 => ⟨i + 1, ⟨by omega, ?_⟩, by show l.length - (i + 1) < l.length - i; omega, by trivial, by rw [wr (by omega) (by omega)]; simp⟩⟩⟩
    rw [all_snoc hi', hal, okLen_iff.2 ⟨by omega, by omega⟩]; rfl
  · simp only [gt_iff_lt, decide_eq_false_iff_not] at h hge
    rw [List.take_of_length_le (by omega)] at hal
    have hg := gmx_ge l
    have hgl := gmx_le (m := 11) (by omega) fun x hx => (all_ok hal x hx).2
    refine ⟨h0, ⟨0, ⟨by omega, hal⟩, rfl, rfl, rfl, rfl, rfl⟩, fun j ⟨hj, _⟩ => ⟨fun hlt => ?_, fun hge2 => ?_⟩⟩
    · simp only [decide_eq_true_eq] at hlt
      have hj' : j < l.length := by omega
      have hx := getD_mem' hj'
      have hx1 := all_ok hal _ hx
      have hx2 := hg.2 _ hx
      simp only [toNat_cast, gt_iff_lt, decide_eq_true_eq, decide_eq_false_iff_not]
      have s1 := sumM_bd (gmx l) hg.1 hgl (l.take j)
      have s2 := sumM_bd (gmx l) hg.1 hgl (l.take (j + 1))
      have c1 := cntP_bd (l.take j)
      rw [List.length_take] at s1 s2 c1
      refine ⟨by omega, by omega, fun hp => ?_, fun hp => ⟨j + 1, ⟨by omega, hal⟩, by show l.length - (j + 1) < l.length - j; omega, by trivial, by trivial, ?_, ?_, by rw [wr (by omega) (by omega)]; simp⟩⟩
      · rw [wr (n := gmx l - l.getD j 0) (by omega) (by omega), wru (by omega) (by omega), shl1 (by omega) (by omega)]
        refine ⟨by omega, by omega, by omega, j + 1, ⟨by omega, hal⟩, by show l.length - (j + 1) < l.length - j; omega, by trivial, by trivial, ?_, ?_, by rw [wr (by omega) (by omega)]; simp⟩
        · rw [take_succ l 0 hj', cntP_snoc, decide_eq_true hp, cond_true, wr (by omega) (by omega)]
        · rw [take_succ l 0 hj', sumM_snoc, decide_eq_true hp, cond_true] at s2 ⊢
          rw [wr (by omega) (by omega)]
      · rw [take_succ l 0 hj', cntP_snoc, decide_eq_false hp, cond_false]
      · rw [take_succ l 0 hj', sumM_snoc, decide_eq_false hp, cond_false]
    · simp only [decide_eq_false_iff_not] at hge2
      rw [List.take_of_length_le (by omega), chk_ok (by omega) hal, wru (by omega) (by omega), shl1 (by omega) (by omega)]
      refine ⟨fun h => by rw [h]; rfl, fun h => ⟨by omega, fun h2 => ?_, fun h2 => ?_⟩⟩
      · rw [h, Bool.false_or]
        have : (roomL l == 2048) = false := by
          rw [beq_eq_false_iff_ne, Ne, ← room_iff hal]
          simpa using h2
        rw [this]; rfl
      · rw [h, Bool.false_or]
        have : (roomL l == 2048) = true := by
          rw [beq_iff_eq, ← room_iff hal]
          simpa using h2
        rw [this]; rfl
theorem great6_v (l : List Int) (h : chk l = 0) : great6_t l := by
  obtain ⟨h1, h2, h3⟩ := chk_zero_pos h
  have := (chk_zero h).1
  exact ⟨h1, by omega, h3⟩
theorem G6z_ok : AllOk Try.prog [] := AllOk.nil
theorem many6_sound : Sound Try.prog 96 sMany.ctr := sMany.sound (by kernel_rfl) sMany_enc fun l hc => by
  have h0 := hc _ (.head _)
  exact satG G6z_ok mixed Try.func96 (many6_e l) (many6_v l h0)
theorem max6_sound : Sound Try.prog 97 sMaxL.ctr := sMaxL.sound (by kernel_rfl) sMaxL_enc fun l hc => by
  have h0 := hc _ (.head _)
  have h1 := hc _ (.tail _ (.head _))
  exact satG G6z_ok mixed Try.func97 (max6_e l) (max6_v l h0 h1)
theorem rgmx6_sound : Sound Try.prog 74 sRgmx.ctr := sRgmx.sound (by kernel_rfl) sRgmx_enc fun l hc => by
  have h0 := hc _ (.head _)
  exact satG G6z_ok mixed Try.func74 (rgmx6_e l) (rgmx6_v l h0)
theorem own6_sound : Sound Try.prog 10 sOwnL.ctr := sOwnL.sound (by kernel_rfl) sOwnL_enc fun l hc => by
  have h0 := hc _ (.head _)
  exact satG G6z_ok mixed Try.func10 (own6_e l) (own6_v l h0)
theorem eq6_sound : Sound Try.prog 15 sEqL.ctr := sEqL.sound (by kernel_rfl) sEqL_enc fun ⟨a, b⟩ hc => by
  have h0 := hc _ (.head _)
  exact satG G6z_ok mixed Try.func15 (eq6_e a b) (eq6_v a b h0)
theorem G6a_ok : AllOk Try.prog G6a := .cons many6_sound <| .cons max6_sound <| .cons rgmx6_sound <| G6z_ok
theorem check6_sound : Sound Try.prog 86 sChk.ctr := sChk.sound (by kernel_rfl) sChk_enc fun l hc => by
  have h0 := hc _ (.head _)
  exact satG G6a_ok mixed Try.func86 (check6_e l) (check6_v l h0)
theorem rcheck6_sound : Sound Try.prog 91 sChk.ctr := sChk.sound (by kernel_rfl) sChk_enc fun l hc => by
  have h0 := hc _ (.head _)
  exact satG G6a_ok mixed Try.func91 (rcheck6_e l) (rcheck6_v l h0)
theorem great6_sound : Sound Try.prog 87 sGmx.ctr := sGmx.sound (by kernel_rfl) sGmx_enc fun l hc => by
  have h0 := hc _ (.head _)
  exact satG G6a_ok mixed Try.func87 (great6_e l) (great6_v l h0)
theorem G6b_ok : AllOk Try.prog G6b := .cons check6_sound <| .cons rcheck6_sound <| .cons great6_sound <| G6a_ok
theorem G6c_ok : AllOk Try.prog G6c := G6b_ok
theorem G6d_ok : AllOk Try.prog G6d := G6c_ok
theorem G6e_ok : AllOk Try.prog G6e := G6d_ok
theorem G6f_ok : AllOk Try.prog G6f := G6e_ok
end Go.Proofs.Ytmdbliacaeokaaa
namespace Go.Proofs.Ytmdbliacaeokaaa
open Go Go.RowKit
set_option linter.unusedVariables false
set_option linter.unusedSimpArgs false
set_option maxRecDepth 100000
def sRanges : Spec where
  ι := List Int
  dec l H := match l with
    | [.dat (.ints .i64 l)] => some (l, [])
    | _ => none
  args := fun l => [.dat (.ints .i64 l)]
  pre := fun l => [⟨chk l = 0, inferInstance⟩]
  out := fun l => .leaf (.fn (.func 102) [] [.p 2000 0 0, .p 2001 0 0]) [(2000, .cells 22 [.dat (.ints .i64 l)]), (2001, .cells 143 [.o 2002]), (2002, .row 129 (.recs 2 (ordS l)))]
theorem sRanges_enc : ∀ l H n i ls, sRanges.dec l H = some (i, ls) → l = renL (rho ls n) (sRanges.args i) ∧ givenHp H ls = renH (rho ls n) (sRanges.hp i) := by
  intro l H n i ls h
  simp only [sRanges] at h
  repeat' split at h
  all_goals first
    | (cases h; done)
    | (cases h; exact ⟨rfl, rfl⟩)
def sCodes : Spec where
  ι := List Int
  dec l H := match l with
    | [.dat (.ints .i64 l)] => some (l, [])
    | _ => none
  args := fun l => [.dat (.ints .i64 l)]
  pre := fun l => [⟨l.length ≤ 4294967296, inferInstance⟩]
  out := fun l => .ite ⟨chk l = 0, inferInstance⟩ (.leaf (.tu [.o 2000, .v (.int .i64 0)]) [(2000, .row 76 (.recs 2 (codL l)))]) (.leaf (.tu [.v (.slice none 0 0), .v (.int .i64 (chk l))]) [])
theorem sCodes_enc : ∀ l H n i ls, sCodes.dec l H = some (i, ls) → l = renL (rho ls n) (sCodes.args i) ∧ givenHp H ls = renH (rho ls n) (sCodes.hp i) := by
  intro l H n i ls h
  simp only [sCodes] at h
  repeat' split at h
  all_goals first
    | (cases h; done)
    | (cases h; exact ⟨rfl, rfl⟩)
def sTable : Spec where
  ι := List Int
  dec l H := match l with
    | [.dat (.ints .i64 l)] => some (l, [])
    | _ => none
  args := fun l => [.dat (.ints .i64 l)]
  pre := fun l => [⟨l.length ≤ 4294967296, inferInstance⟩]
  out := fun l => .ite ⟨chk l = 0, inferInstance⟩ (.leaf (.tu [.o 2000, .v (.int .i64 0)]) [(2000, .row 107 (.recs 3 (tblL l)))]) (.leaf (.tu [.v (.slice none 0 0), .v (.int .i64 (chk l))]) [])
theorem sTable_enc : ∀ l H n i ls, sTable.dec l H = some (i, ls) → l = renL (rho ls n) (sTable.args i) ∧ givenHp H ls = renH (rho ls n) (sTable.hp i) := by
  intro l H n i ls h
  simp only [sTable] at h
  repeat' split at h
  all_goals first
    | (cases h; done)
    | (cases h; exact ⟨rfl, rfl⟩)
def oRanges (l : List Int) : LoopInv := { ι := Nat, p := fun i => i ≤ l.length, tm := fun i => [(1, .p 1000 0 0), (3, .p 1001 0 0), (6, .dat (.ints .i64 l)), (7, .v (.int .i64 l.length)), (8, .v (.int .i64 (i : Nat)))], hp := fun i => [(1000, .cells 22 [.dat (.ints .i64 l)]), (1001, .cells 143 [.o 1002]), (1002, .row 129 (.recs 2 (syms (l.take i))))], μ := fun i => l.length - i }
def oItems (l0 : Nat) (l : List Int) : LoopInvI := { ι := Nat, p := fun i => i ≤ (ordS l).length, tm := fun i => [(0, .v (.func (.yield l0) #[] #[])), (1, .p 0 0 0), (2, .p 1 0 0), (4, .v (.int .i64 (gmx l))), (5, .v (.int .i64 (atF (gmx l) (ordS l) i))), (10, .o 2), (11, .v (.int .i64 (ordS l).length)), (12, .v (.int .i64 (i : Nat)))], hp := fun i => [(0, .cells 22 [.dat (.ints .i64 l)]), (1, .cells 143 [.o 2]), (2, .row 129 (.recs 2 (ordS l)))], μ := fun i => (ordS l).length - i, y := fun i => i }
def oneI (x : LoopInvI) : Nat → Option LoopFamI := fun k => cond (Nat.beq k 0) (some ⟨Unit, fun _ => x⟩) none
def rCodes (l : List Int) : RngInv := { f := 102, cap := [.p 700008 0 0, .p 700009 0 0], hpI := [(700008, .cells 22 [.dat (.ints .i64 l)]), (700009, .cells 143 [.o 700010]), (700010, .row 129 (.recs 2 (ordS l)))], xs := items l, it := fun i => [.agg #[.int .i64 ((symI l i).getD 0 0), .int .i64 ((symI l i).getD 1 0)], .int .i64 (atF (gmx l) (ordS l) i)], tm := [(5, .p 1000 0 0), (6, .p 1001 0 0)], hp := fun i => [(1000, .cells 3 [.v (.int .i64 (gmx l))]), (1001, .cells 81 [.o 1002]), (1002, .row 76 (.recs 2 (codP l i)))] }
def oCodes (l : List Int) : Nat → Option LoopFam := fun k => cond (Nat.beq k 0) (some (.rng Nat fun _ => rCodes l)) none
def oRtA (l : List Int) : LoopInv := { ι := Nat, p := fun j => (j : Int) ≤ gmx l ∧ chk l = 0, tm := fun j => [(0, .dat (.ints .i64 l)), (5, .v (.int .i64 (gmx l))), (6, .o 5000), (7, .v (.int .i64 (gmx l - j)))], hp := fun j => [(5000, .row 107 (.recs 3 (refT l j)))], μ := fun j => (gmx l).toNat - j }
def oRtB (l : List Int) (j : Nat) : LoopInv := { ι := Nat, p := fun s => (j : Int) < gmx l ∧ s ≤ l.length ∧ chk l = 0, tm := fun s => [(0, .dat (.ints .i64 l)), (5, .v (.int .i64 (gmx l))), (6, .o 5000), (7, .v (.int .i64 (gmx l - j))), (8, .v (.int .i64 (s : Nat)))], hp := fun s => [(5000, .row 107 (.recs 3 (refS l j s)))], μ := fun s => l.length - s }
def oRtC (l : List Int) (j s : Nat) : LoopInv := { ι := Nat, p := fun k => (j : Int) < gmx l ∧ s < l.length ∧ l.getD s 0 = gmx l - j ∧ k ≤ 2 ^ j ∧ chk l = 0, tm := fun k => [(0, .dat (.ints .i64 l)), (5, .v (.int .i64 (gmx l))), (6, .o 5000), (7, .v (.int .i64 (gmx l - j))), (8, .v (.int .i64 (s : Nat))), (9, .v (.int .i64 (k : Nat)))], hp := fun k => [(5000, .row 107 (.recs 3 (refK l j s k)))], μ := fun k => 2 ^ j - k }
def oRt (l : List Int) : Nat → Option LoopFam := fun k => cond (Nat.beq k 0) (some (.one (oRtA l))) (cond (Nat.beq k 1) (some (.fam Nat fun j => oRtB l j)) (cond (Nat.beq k 2) (some (.fam (Nat × Nat) fun x => oRtC l x.1 x.2)) none))
def oRc (l : List Int) : LoopInv := { ι := Nat, p := fun c => c ≤ (tblL l).length ∧ chk l = 0, tm := fun c => [(4, .o 5000), (6, .v (.int .i64 (gmx l))), (7, .o 5001), (8, .v (.int .i64 ((tblL l).length - 1 - c)))], hp := fun c => [(5000, .row 107 (.recs 3 (tblL l))), (5001, .row 76 (.recs 2 (refCL l c)))], μ := fun c => (tblL l).length - c }
def G6g : List (Nat × Ctr) := (98, sSort.ctr) :: G6f
def G6h : List (Nat × Ctr) := (88, sRanges.ctr) :: (73, sTable.ctr) :: G6g
def G6i : List (Nat × Ctr) := (66, sCodes.ctr) :: (52, sCodes.ctr) :: G6h
end Go.Proofs.Ytmdbliacaeokaaa
namespace Go.Proofs.Ytmdbliacaeokaaa
open Go Go.RowKit
set_option linter.unusedVariables false
set_option maxRecDepth 100000
def ranges6_t (l : List Int) : Prop :=
 (∃ (x0 : Nat), Nat.le x0 (List.length l) ∧ l = l ∧ (↑(List.length l) : Int) = (↑(List.length l) : Int) ∧ (0 : Int) = (↑x0 : Int) ∧ l = l ∧ List.length (syms (List.take x0 l)) = (0 : Nat)) ∧
 ∀ (x1 : Nat),
 Nat.le x1 (List.length l) →
 (decide ((↑x1 : Int) < (↑(List.length l) : Int)) = true →
 (0 : Int) ≤ (↑x1 : Int) ∧
 (↑x1 : Int) < (↑(List.length l) : Int) ∧
 (decide (List.getD l (Int.toNat (↑x1 : Int)) (0 : Int) > (0 : Int)) = true →
 (List.length (syms (List.take x1 l)) +
 Nat.succ
 (Nat.add (List.length (List.map (fun (i : Nat) => List.take ((2 : Nat)) (List.drop (i * (2 : Nat)) [(↑x1 : Int), List.getD l (Int.toNat (↑x1 : Int)) (0 : Int)])) []))
 ((0 : Nat)))) *
 (16 : Nat) ≤
 (140737488355328 : Nat) ∧
 ∃ (y2 : Nat),
 Nat.le y2 (List.length l) ∧
 Nat.sub (List.length l) y2 < Nat.sub (List.length l) x1 ∧
 l = l ∧
 (↑(List.length l) : Int) = (↑(List.length l) : Int) ∧
 IntKind.wrap IntKind.i64 ((↑x1 : Int) + (1 : Int)) = (↑y2 : Int) ∧
 l = l ∧
 syms (List.take x1 l) ++
 List.map (fun (i : Nat) => List.take ((2 : Nat)) (List.drop (i * (2 : Nat)) [(↑x1 : Int), List.getD l (Int.toNat (↑x1 : Int)) (0 : Int)]))
 (List.range (1 : Nat)) =
 syms (List.take y2 l)) ∧
 (decide (List.getD l (Int.toNat (↑x1 : Int)) (0 : Int) > (0 : Int)) = false →
 ∃ (y3 : Nat),
 Nat.le y3 (List.length l) ∧
 Nat.sub (List.length l) y3 < Nat.sub (List.length l) x1 ∧
 l = l ∧
 (↑(List.length l) : Int) = (↑(List.length l) : Int) ∧
 IntKind.wrap IntKind.i64 ((↑x1 : Int) + (1 : Int)) = (↑y3 : Int) ∧ l = l ∧ syms (List.take x1 l) = syms (List.take y3 l))) ∧
 (decide ((↑x1 : Int) < (↑(List.length l) : Int)) = false →
 (1 : Nat) ≤ List.length (syms (List.take x1 l)) ∧
 List.length (syms (List.take x1 l)) ≤ (4294967296 : Nat) ∧
 (List.all (syms (List.take x1 l)) fun (r : List Int) => decide (List.length r = (2 : Nat))) = true ∧ l = l ∧ srt (syms (List.take x1 l)) = ordS l)
theorem ranges6_e (l : List Int) : ranges6_t l = vcG Try.prog (Gof G6g) (one6 (oRanges l)) Try.f88 [.dat (.ints .i64 l)] [] (.leaf ((.fn (.func 102) [] [.p 2000 0 0, .p 2001 0 0])) ([(2000, .cells 22 [.dat (.ints .i64 l)]), (2001, .cells 143 [.o 2002]), (2002, .row 129 (.recs 2 (ordS l)))])) := by kernel_rfl
def codes6_t (l : List Int) : Prop :=
 List.length l ≤ (4294967296 : Nat) ∧
 ((chk l != (0 : Int)) = true →
 (chk l = (0 : Int) → chk l = (0 : Int) ∧ List.length (codL l) = (0 : Nat)) ∧ (¬chk l = (0 : Int) → Value.slice none (0 : Nat) (0 : Nat) = Value.slice none (0 : Nat) (0 : Nat) ∧ chk l = chk l)) ∧
 ((chk l != (0 : Int)) = false →
 chk l = (0 : Int) ∧
 (0 : Int) ≤ (↑(List.length l) : Int) ∧
 (↑(List.length l) : Int) ≤ (↑(List.length l) : Int) ∧
 (↑((16 : Nat)) : Int) * (↑(List.length l) : Int) ≤ (281474976710656 : Int) ∧
 (↑(List.length l) : Int) ≤ (9223372036854775807 : Int) ∧
 chk l = (0 : Int) ∧
 ∃ (y0 : Nat),
 (ISatE Try.prog ((102 : Nat)) [SV.p (700008 : Nat) (0 : Nat) (0 : Nat), SV.p (700009 : Nat) (0 : Nat) (0 : Nat)]
 [((700008 : Nat), SBlk.cells (22 : TypeId) [SV.dat (Dat.ints IntKind.i64 l)]), ((700009 : Nat), SBlk.cells (143 : TypeId) [SV.o (700010 : Nat)]),
 ((700010 : Nat), SBlk.row (129 : TypeId) (Dat.recs (2 : Nat) (ordS l)))]
 (itemF (gmx l) (0 : Int) (ordS l)) fun (x : Nat) => []) ∧
 (l = l ∧ ordS l = ordS l) ∧
 True ∧
 (gmx l = gmx l ∧ List.replicate (Int.toNat (↑(List.length l) : Int)) (List.replicate ((2 : Nat)) (0 : Int)) = codP l (0 : Nat)) ∧
 (∀ (i1 : Nat),
 i1 < List.length (itemF (gmx l) (0 : Int) (ordS l)) →
 True →
 (itemF (gmx l) (0 : Int) (ordS l))[i1]? =
 some
 [Value.agg #[Value.int IntKind.i64 (List.getD (symI l i1) (0 : Nat) (0 : Int)), Value.int IntKind.i64 (List.getD (symI l i1) (1 : Nat) (0 : Int))],
 Value.int IntKind.i64 (atF (gmx l) (ordS l) i1)] ∧
 List.length
 [Value.agg #[Value.int IntKind.i64 (List.getD (symI l i1) (0 : Nat) (0 : Int)), Value.int IntKind.i64 (List.getD (symI l i1) (1 : Nat) (0 : Int))],
 Value.int IntKind.i64 (atF (gmx l) (ordS l) i1)] =
 List.length #[(21 : Nat), (22 : Nat)].toList ∧
 (0 : Int) ≤ IntKind.wrap IntKind.i64 (gmx l - List.getD (symI l i1) (1 : Nat) (0 : Int)) ∧
 (0 : Int) ≤ List.getD (symI l i1) (0 : Nat) (0 : Int) ∧
 List.getD (symI l i1) (0 : Nat) (0 : Int) < (↑(List.length (codP l i1)) : Int) ∧
 Int.toNat (List.getD (symI l i1) (0 : Nat) (0 : Int)) < List.length (codP l i1) ∧
 True ∧
 gmx l = gmx l ∧
 List.set (codP l i1) (Int.toNat (List.getD (symI l i1) (0 : Nat) (0 : Int)))
 [List.getD (symI l i1) (1 : Nat) (0 : Int),
 Int.fdiv (atF (gmx l) (ordS l) i1)
 ((2 : Int) ^ min (Int.toNat (IntKind.wrap IntKind.i64 (gmx l - List.getD (symI l i1) (1 : Nat) (0 : Int)))) (IntKind.bits IntKind.i64))] =
 codP l (i1 + (1 : Nat))) ∧
 (True →
 (chk l = (0 : Int) → (0 : Int) = (0 : Int) ∧ codP l (List.length (itemF (gmx l) (0 : Int) (ordS l))) = codL l) ∧ (¬chk l = (0 : Int) → False ∧ (0 : Int) = chk l)))
theorem codes6_e (l : List Int) : codes6_t l = vcG Try.prog (Gof G6h) (oCodes l) Try.f66 [.dat (.ints .i64 l)] [] (.ite ⟨chk l = 0, inferInstance⟩ (.leaf (.tu [.o 2000, .v (.int .i64 0)]) ([(2000, .row 76 (.recs 2 (codL l)))])) (.leaf (.tu [.v (.slice none 0 0), .v (.int .i64 (chk l))]) ([]))) := by kernel_rfl
def rtable6_t (l : List Int) : Prop :=
 List.length l ≤ (4294967296 : Nat) ∧
 ((chk l != (0 : Int)) = true →
 (chk l = (0 : Int) → chk l = (0 : Int) ∧ List.length (tblL l) = (0 : Nat)) ∧ (¬chk l = (0 : Int) → Value.slice none (0 : Nat) (0 : Nat) = Value.slice none (0 : Nat) (0 : Nat) ∧ chk l = chk l)) ∧
 ((chk l != (0 : Int)) = false →
 List.length l ≤ (4294967296 : Nat) ∧
 (∃ (x0 : Nat), ((↑x0 : Int) ≤ gmx l ∧ chk l = (0 : Int)) ∧ l = l ∧ gmx l = gmx l ∧ gmx l = gmx l - (↑x0 : Int) ∧ List.length (refT l x0) = (0 : Nat)) ∧
 ∀ (x1 : Nat),
 (↑x1 : Int) ≤ gmx l ∧ chk l = (0 : Int) →
 (decide (gmx l - (↑x1 : Int) > (0 : Int)) = true →
 ∃ (g2 : Nat),
 (∃ (x3 : Nat),
 ((↑g2 : Int) < gmx l ∧ x3 ≤ List.length l ∧ chk l = (0 : Int)) ∧
 l = l ∧ gmx l = gmx l ∧ gmx l - (↑x1 : Int) = gmx l - (↑g2 : Int) ∧ (0 : Int) = (↑x3 : Int) ∧ refT l x1 = refS l g2 x3) ∧
 ∀ (x4 : Nat),
 (↑g2 : Int) < gmx l ∧ x4 ≤ List.length l ∧ chk l = (0 : Int) →
 (decide ((↑x4 : Int) < (↑(List.length l) : Int)) = true →
 (0 : Int) ≤ (↑x4 : Int) ∧
 (↑x4 : Int) < (↑(List.length l) : Int) ∧
 ((List.getD l (Int.toNat (↑x4 : Int)) (0 : Int) != gmx l - (↑g2 : Int)) = true →
 ∃ (y5 : Nat),
 ((↑g2 : Int) < gmx l ∧ y5 ≤ List.length l ∧ chk l = (0 : Int)) ∧
 Nat.sub (List.length l) y5 < Nat.sub (List.length l) x4 ∧
 l = l ∧
 gmx l = gmx l ∧
 gmx l - (↑g2 : Int) = gmx l - (↑g2 : Int) ∧ IntKind.wrap IntKind.i64 ((↑x4 : Int) + (1 : Int)) = (↑y5 : Int) ∧ refS l g2 x4 = refS l g2 y5) ∧
 ((List.getD l (Int.toNat (↑x4 : Int)) (0 : Int) != gmx l - (↑g2 : Int)) = false →
 ∃ (g6 : Nat × Nat),
 (∃ (x7 : Nat),
 ((↑g6.fst : Int) < gmx l ∧ g6.snd < List.length l ∧ List.getD l g6.snd (0 : Int) = gmx l - (↑g6.fst : Int) ∧ x7 ≤ (2 : Nat) ^ g6.fst ∧ chk l = (0 : Int)) ∧
 l = l ∧
 gmx l = gmx l ∧
 gmx l - (↑g2 : Int) = gmx l - (↑g6.fst : Int) ∧ (↑x4 : Int) = (↑g6.snd : Int) ∧ (0 : Int) = (↑x7 : Int) ∧ refS l g2 x4 = refK l g6.fst g6.snd x7) ∧
 ∀ (x8 : Nat),
 (↑g6.fst : Int) < gmx l ∧ g6.snd < List.length l ∧ List.getD l g6.snd (0 : Int) = gmx l - (↑g6.fst : Int) ∧ x8 ≤ (2 : Nat) ^ g6.fst ∧ chk l = (0 : Int) →
 (0 : Int) ≤ IntKind.wrap IntKind.u64 (IntKind.wrap IntKind.i64 (gmx l - (gmx l - (↑g6.fst : Int)))) ∧
 (decide
 ((↑x8 : Int) <
 IntKind.wrap IntKind.i64
 ((1 : Int) *
 (2 : Int) ^
 min (Int.toNat (IntKind.wrap IntKind.u64 (IntKind.wrap IntKind.i64 (gmx l - (gmx l - (↑g6.fst : Int)))))) (IntKind.bits IntKind.i64))) =
 true →
 (List.length (refK l g6.fst g6.snd x8) +
 Nat.succ
 (Nat.add
 (List.length
 (List.map (fun (i : Nat) => List.take ((3 : Nat)) (List.drop (i * (3 : Nat)) [(↑g6.snd : Int), gmx l - (↑g6.fst : Int), (0 : Int)]))
 []))
 ((0 : Nat)))) *
 (24 : Nat) ≤
 (140737488355328 : Nat) ∧
 ∃ (y9 : Nat),
 ((↑g6.fst : Int) < gmx l ∧
 g6.snd < List.length l ∧ List.getD l g6.snd (0 : Int) = gmx l - (↑g6.fst : Int) ∧ y9 ≤ (2 : Nat) ^ g6.fst ∧ chk l = (0 : Int)) ∧
 Nat.sub ((2 : Nat) ^ g6.fst) y9 < Nat.sub ((2 : Nat) ^ g6.fst) x8 ∧
 l = l ∧
 gmx l = gmx l ∧
 gmx l - (↑g6.fst : Int) = gmx l - (↑g6.fst : Int) ∧
 (↑g6.snd : Int) = (↑g6.snd : Int) ∧
 IntKind.wrap IntKind.i64 ((↑x8 : Int) + (1 : Int)) = (↑y9 : Int) ∧
 refK l g6.fst g6.snd x8 ++
 List.map
 (fun (i : Nat) => List.take ((3 : Nat)) (List.drop (i * (3 : Nat)) [(↑g6.snd : Int), gmx l - (↑g6.fst : Int), (0 : Int)]))
 (List.range (1 : Nat)) =
 refK l g6.fst g6.snd y9) ∧
 (decide
 ((↑x8 : Int) <
 IntKind.wrap IntKind.i64
 ((1 : Int) *
 (2 : Int) ^
 min (Int.toNat (IntKind.wrap IntKind.u64 (IntKind.wrap IntKind.i64 (gmx l - (gmx l - (↑g6.fst : Int)))))) (IntKind.bits IntKind.i64))) =
 false →
 ∃ (y10 : Nat),
 ((↑g2 : Int) < gmx l ∧ y10 ≤ List.length l ∧ chk l = (0 : Int)) ∧
 Nat.sub (List.length l) y10 < Nat.sub (List.length l) x4 ∧
 l = l ∧
 gmx l = gmx l ∧
 gmx l - (↑g6.fst : Int) = gmx l - (↑g2 : Int) ∧
 IntKind.wrap IntKind.i64 ((↑g6.snd : Int) + (1 : Int)) = (↑y10 : Int) ∧ refK l g6.fst g6.snd x8 = refS l g2 y10))) ∧
 (decide ((↑x4 : Int) < (↑(List.length l) : Int)) = false →
 ∃ (y11 : Nat),
 ((↑y11 : Int) ≤ gmx l ∧ chk l = (0 : Int)) ∧
 Nat.sub (Int.toNat (gmx l)) y11 < Nat.sub (Int.toNat (gmx l)) x1 ∧
 l = l ∧ gmx l = gmx l ∧ IntKind.wrap IntKind.i64 (gmx l - (↑g2 : Int) - (1 : Int)) = gmx l - (↑y11 : Int) ∧ refS l g2 x4 = refT l y11)) ∧
 (decide (gmx l - (↑x1 : Int) > (0 : Int)) = false → (chk l = (0 : Int) → (0 : Int) = (0 : Int) ∧ refT l x1 = tblL l) ∧ (¬chk l = (0 : Int) → False ∧ (0 : Int) = chk l)))
theorem rtable6_e (l : List Int) : rtable6_t l = vcG Try.prog (Gof G6g) (oRt l) Try.f73 [.dat (.ints .i64 l)] [] (.ite ⟨chk l = 0, inferInstance⟩ (.leaf (.tu [.o 2000, .v (.int .i64 0)]) ([(2000, .row 107 (.recs 3 (tblL l)))])) (.leaf (.tu [.v (.slice none 0 0), .v (.int .i64 (chk l))]) ([]))) := by kernel_rfl
def rcodes6_t (l : List Int) : Prop :=
 (chk l = (0 : Int) →
 List.length l ≤ (4294967296 : Nat) ∧
 (((0 : Int) != (0 : Int)) = true →
 (chk l = (0 : Int) → (0 : Int) = (0 : Int) ∧ List.length (codL l) = (0 : Nat)) ∧
 (¬chk l = (0 : Int) → Value.slice none (0 : Nat) (0 : Nat) = Value.slice none (0 : Nat) (0 : Nat) ∧ (0 : Int) = chk l)) ∧
 (((0 : Int) != (0 : Int)) = false →
 List.length l ≤ (4294967296 : Nat) ∧
 (0 : Int) ≤ (↑(List.length l) : Int) ∧
 (↑(List.length l) : Int) ≤ (↑(List.length l) : Int) ∧
 (↑((16 : Nat)) : Int) * (↑(List.length l) : Int) ≤ (281474976710656 : Int) ∧
 (↑(List.length l) : Int) ≤ (9223372036854775807 : Int) ∧
 (∃ (x0 : Nat),
 (x0 ≤ List.length (tblL l) ∧ chk l = (0 : Int)) ∧
 gmx l = gmx l ∧
 IntKind.wrap IntKind.i64 ((↑(List.length (tblL l)) : Int) - (1 : Int)) = (↑(List.length (tblL l)) : Int) - (1 : Int) - (↑x0 : Int) ∧
 tblL l = tblL l ∧ List.replicate (Int.toNat (↑(List.length l) : Int)) (List.replicate ((2 : Nat)) (0 : Int)) = refCL l x0) ∧
 ∀ (x1 : Nat),
 x1 ≤ List.length (tblL l) ∧ chk l = (0 : Int) →
 (decide ((↑(List.length (tblL l)) : Int) - (1 : Int) - (↑x1 : Int) ≥ (0 : Int)) = true →
 (0 : Int) ≤ (↑(List.length (tblL l)) : Int) - (1 : Int) - (↑x1 : Int) ∧
 (↑(List.length (tblL l)) : Int) - (1 : Int) - (↑x1 : Int) < (↑(List.length (tblL l)) : Int) ∧
 Int.toNat ((↑(List.length (tblL l)) : Int) - (1 : Int) - (↑x1 : Int)) < List.length (tblL l) ∧
 (0 : Int) ≤ (↑(List.length (tblL l)) : Int) - (1 : Int) - (↑x1 : Int) ∧
 (↑(List.length (tblL l)) : Int) - (1 : Int) - (↑x1 : Int) < (↑(List.length (tblL l)) : Int) ∧
 Int.toNat ((↑(List.length (tblL l)) : Int) - (1 : Int) - (↑x1 : Int)) < List.length (tblL l) ∧
 (0 : Int) ≤ (↑(List.length (tblL l)) : Int) - (1 : Int) - (↑x1 : Int) ∧
 (↑(List.length (tblL l)) : Int) - (1 : Int) - (↑x1 : Int) < (↑(List.length (tblL l)) : Int) ∧
 Int.toNat ((↑(List.length (tblL l)) : Int) - (1 : Int) - (↑x1 : Int)) < List.length (tblL l) ∧
 (0 : Int) ≤
 IntKind.wrap IntKind.u64
 (IntKind.wrap IntKind.i64
 (gmx l - List.getD (List.getD (tblL l) (Int.toNat ((↑(List.length (tblL l)) : Int) - (1 : Int) - (↑x1 : Int))) []) (1 : Nat) (0 : Int))) ∧
 (0 : Int) ≤ List.getD (List.getD (tblL l) (Int.toNat ((↑(List.length (tblL l)) : Int) - (1 : Int) - (↑x1 : Int))) []) (0 : Nat) (0 : Int) ∧
 List.getD (List.getD (tblL l) (Int.toNat ((↑(List.length (tblL l)) : Int) - (1 : Int) - (↑x1 : Int))) []) (0 : Nat) (0 : Int) <
 (↑(List.length (refCL l x1)) : Int) ∧
 Int.toNat (List.getD (List.getD (tblL l) (Int.toNat ((↑(List.length (tblL l)) : Int) - (1 : Int) - (↑x1 : Int))) []) (0 : Nat) (0 : Int)) <
 List.length (refCL l x1) ∧
 ∃ (y2 : Nat),
 (y2 ≤ List.length (tblL l) ∧ chk l = (0 : Int)) ∧
 Nat.sub (List.length (tblL l)) y2 < Nat.sub (List.length (tblL l)) x1 ∧
 gmx l = gmx l ∧
 IntKind.wrap IntKind.i64 ((↑(List.length (tblL l)) : Int) - (1 : Int) - (↑x1 : Int) - (1 : Int)) =
 (↑(List.length (tblL l)) : Int) - (1 : Int) - (↑y2 : Int) ∧
 tblL l = tblL l ∧
 List.set (refCL l x1)
 (Int.toNat
 (List.getD (List.getD (tblL l) (Int.toNat ((↑(List.length (tblL l)) : Int) - (1 : Int) - (↑x1 : Int))) []) (0 : Nat)
 (0 : Int)))
 [List.getD (List.getD (tblL l) (Int.toNat ((↑(List.length (tblL l)) : Int) - (1 : Int) - (↑x1 : Int))) []) (1 : Nat) (0 : Int),
 Int.fdiv ((↑(List.length (tblL l)) : Int) - (1 : Int) - (↑x1 : Int))
 ((2 : Int) ^
 min
 (Int.toNat
 (IntKind.wrap IntKind.u64
 (IntKind.wrap IntKind.i64
 (gmx l -
 List.getD (List.getD (tblL l) (Int.toNat ((↑(List.length (tblL l)) : Int) - (1 : Int) - (↑x1 : Int))) [])
 (1 : Nat) (0 : Int)))))
 (IntKind.bits IntKind.i64))] =
 refCL l y2) ∧
 (decide ((↑(List.length (tblL l)) : Int) - (1 : Int) - (↑x1 : Int) ≥ (0 : Int)) = false →
 (chk l = (0 : Int) → (0 : Int) = (0 : Int) ∧ refCL l x1 = codL l) ∧ (¬chk l = (0 : Int) → False ∧ (0 : Int) = chk l)))) ∧
 (¬chk l = (0 : Int) →
 List.length l ≤ (4294967296 : Nat) ∧
 ((chk l != (0 : Int)) = true →
 (chk l = (0 : Int) → chk l = (0 : Int) ∧ List.length (codL l) = (0 : Nat)) ∧
 (¬chk l = (0 : Int) → Value.slice none (0 : Nat) (0 : Nat) = Value.slice none (0 : Nat) (0 : Nat) ∧ chk l = chk l)) ∧
 ((chk l != (0 : Int)) = false →
 List.length l ≤ (4294967296 : Nat) ∧
 (0 : Int) ≤ (↑(List.length l) : Int) ∧
 (↑(List.length l) : Int) ≤ (↑(List.length l) : Int) ∧
 (↑((16 : Nat)) : Int) * (↑(List.length l) : Int) ≤ (281474976710656 : Int) ∧
 (↑(List.length l) : Int) ≤ (9223372036854775807 : Int) ∧
 (∃ (x3 : Nat),
 (x3 ≤ List.length (tblL l) ∧ chk l = (0 : Int)) ∧
 gmx l = gmx l ∧
 IntKind.wrap IntKind.i64 ((0 : Int) - (1 : Int)) = (↑(List.length (tblL l)) : Int) - (1 : Int) - (↑x3 : Int) ∧
 List.length (tblL l) = (0 : Nat) ∧ List.replicate (Int.toNat (↑(List.length l) : Int)) (List.replicate ((2 : Nat)) (0 : Int)) = refCL l x3) ∧
 ∀ (x4 : Nat),
 x4 ≤ List.length (tblL l) ∧ chk l = (0 : Int) →
 (decide ((↑(List.length (tblL l)) : Int) - (1 : Int) - (↑x4 : Int) ≥ (0 : Int)) = true →
 (0 : Int) ≤ (↑(List.length (tblL l)) : Int) - (1 : Int) - (↑x4 : Int) ∧
 (↑(List.length (tblL l)) : Int) - (1 : Int) - (↑x4 : Int) < (↑(List.length (tblL l)) : Int) ∧
 Int.toNat ((↑(List.length (tblL l)) : Int) - (1 : Int) - (↑x4 : Int)) < List.length (tblL l) ∧
 (0 : Int) ≤ (↑(List.length (tblL l)) : Int) - (1 : Int) - (↑x4 : Int) ∧
 (↑(List.length (tblL l)) : Int) - (1 : Int) - (↑x4 : Int) < (↑(List.length (tblL l)) : Int) ∧
 Int.toNat ((↑(List.length (tblL l)) : Int) - (1 : Int) - (↑x4 : Int)) < List.length (tblL l) ∧
 (0 : Int) ≤ (↑(List.length (tblL l)) : Int) - (1 : Int) - (↑x4 : Int) ∧
 (↑(List.length (tblL l)) : Int) - (1 : Int) - (↑x4 : Int) < (↑(List.length (tblL l)) : Int) ∧
 Int.toNat ((↑(List.length (tblL l)) : Int) - (1 : Int) - (↑x4 : Int)) < List.length (tblL l) ∧
 (0 : Int) ≤
 IntKind.wrap IntKind.u64
 (IntKind.wrap IntKind.i64
 (gmx l - List.getD (List.getD (tblL l) (Int.toNat ((↑(List.length (tblL l)) : Int) - (1 : Int) - (↑x4 : Int))) []) (1 : Nat) (0 : Int))) ∧
 (0 : Int) ≤ List.getD (List.getD (tblL l) (Int.toNat ((↑(List.length (tblL l)) : Int) - (1 : Int) - (↑x4 : Int))) []) (0 : Nat) (0 : Int) ∧
 List.getD (List.getD (tblL l) (Int.toNat ((↑(List.length (tblL l)) : Int) - (1 : Int) - (↑x4 : Int))) []) (0 : Nat) (0 : Int) <
 (↑(List.length (refCL l x4)) : Int) ∧
 Int.toNat (List.getD (List.getD (tblL l) (Int.toNat ((↑(List.length (tblL l)) : Int) - (1 : Int) - (↑x4 : Int))) []) (0 : Nat) (0 : Int)) <
 List.length (refCL l x4) ∧
 ∃ (y5 : Nat),
 (y5 ≤ List.length (tblL l) ∧ chk l = (0 : Int)) ∧
 Nat.sub (List.length (tblL l)) y5 < Nat.sub (List.length (tblL l)) x4 ∧
 gmx l = gmx l ∧
 IntKind.wrap IntKind.i64 ((↑(List.length (tblL l)) : Int) - (1 : Int) - (↑x4 : Int) - (1 : Int)) =
 (↑(List.length (tblL l)) : Int) - (1 : Int) - (↑y5 : Int) ∧
 tblL l = tblL l ∧
 List.set (refCL l x4)
 (Int.toNat
 (List.getD (List.getD (tblL l) (Int.toNat ((↑(List.length (tblL l)) : Int) - (1 : Int) - (↑x4 : Int))) []) (0 : Nat)
 (0 : Int)))
 [List.getD (List.getD (tblL l) (Int.toNat ((↑(List.length (tblL l)) : Int) - (1 : Int) - (↑x4 : Int))) []) (1 : Nat) (0 : Int),
 Int.fdiv ((↑(List.length (tblL l)) : Int) - (1 : Int) - (↑x4 : Int))
 ((2 : Int) ^
 min
 (Int.toNat
 (IntKind.wrap IntKind.u64
 (IntKind.wrap IntKind.i64
 (gmx l -
 List.getD (List.getD (tblL l) (Int.toNat ((↑(List.length (tblL l)) : Int) - (1 : Int) - (↑x4 : Int))) [])
 (1 : Nat) (0 : Int)))))
 (IntKind.bits IntKind.i64))] =
 refCL l y5) ∧
 (decide ((↑(List.length (tblL l)) : Int) - (1 : Int) - (↑x4 : Int) ≥ (0 : Int)) = false →
 (chk l = (0 : Int) → (0 : Int) = (0 : Int) ∧ refCL l x4 = codL l) ∧ (¬chk l = (0 : Int) → False ∧ (0 : Int) = chk l))))
theorem rcodes6_e (l : List Int) : rcodes6_t l = vcG Try.prog (Gof G6h) (one6 (oRc l)) Try.f52 [.dat (.ints .i64 l)] [] (.ite ⟨chk l = 0, inferInstance⟩ (.leaf (.tu [.o 2000, .v (.int .i64 0)]) ([(2000, .row 76 (.recs 2 (codL l)))])) (.leaf (.tu [.v (.slice none 0 0), .v (.int .i64 (chk l))]) ([]))) := by kernel_rfl
def items6_t (l : List Int) (l0 : Nat) : Prop :=
 chk l = (0 : Int) ∧
 ∃ (g0 : Unit),
 ∃ (x1 : Nat),
 Nat.le x1 (List.length (ordS l)) ∧
 ((0 : Nat), true) = (x1, true) ∧
 (Value.func (Fn.yield l0) #[] #[] = Value.func (Fn.yield l0) #[] #[] ∧
 gmx l = gmx l ∧ (0 : Int) = atF (gmx l) (ordS l) x1 ∧ (↑(List.length (ordS l)) : Int) = (↑(List.length (ordS l)) : Int) ∧ (0 : Int) = (↑x1 : Int) ∧ l = l ∧ ordS l = ordS l) ∧
 ∀ (x2 : Nat),
 Nat.le x2 (List.length (ordS l)) →
 (decide ((↑x2 : Int) < (↑(List.length (ordS l)) : Int)) = true →
 (0 : Int) ≤ (↑x2 : Int) ∧
 (↑x2 : Int) < (↑(List.length (ordS l)) : Int) ∧
 Int.toNat (↑x2 : Int) < List.length (ordS l) ∧
 l0 = l0 ∧
 (items l)[x2]? =
 some
 [Value.agg
 #[Value.int IntKind.i64 (List.getD (List.getD (ordS l) (Int.toNat (↑x2 : Int)) []) ((0 : Nat)) (0 : Int)),
 Value.int IntKind.i64 (List.getD (List.getD (ordS l) (Int.toNat (↑x2 : Int)) []) ((1 : Nat)) (0 : Int))],
 Value.int IntKind.i64 (atF (gmx l) (ordS l) x2)] ∧
 ((0 : Int) ≤ IntKind.wrap IntKind.i64 (gmx l - List.getD (List.getD (ordS l) (Int.toNat (↑x2 : Int)) []) ((1 : Nat)) (0 : Int)) ∧
 ∃ (y3 : Nat),
 Nat.le y3 (List.length (ordS l)) ∧
 (x2 + (1 : Nat), true) = (y3, true) ∧
 Nat.sub (List.length (ordS l)) y3 < Nat.sub (List.length (ordS l)) x2 ∧
 Value.func (Fn.yield l0) #[] #[] = Value.func (Fn.yield l0) #[] #[] ∧
 gmx l = gmx l ∧
 IntKind.wrap IntKind.i64
 (atF (gmx l) (ordS l) x2 +
 IntKind.wrap IntKind.i64
 ((1 : Int) *
 (2 : Int) ^
 min (Int.toNat (IntKind.wrap IntKind.i64 (gmx l - List.getD (List.getD (ordS l) (Int.toNat (↑x2 : Int)) []) ((1 : Nat)) (0 : Int))))
 (IntKind.bits IntKind.i64))) =
 atF (gmx l) (ordS l) y3 ∧
 (↑(List.length (ordS l)) : Int) = (↑(List.length (ordS l)) : Int) ∧
 IntKind.wrap IntKind.i64 ((↑x2 : Int) + (1 : Int)) = (↑y3 : Int) ∧ l = l ∧ ordS l = ordS l) ∧
 True) ∧
 (decide ((↑x2 : Int) < (↑(List.length (ordS l)) : Int)) = false → x2 = List.length (items l))
theorem items6_e (l : List Int) (l0 : Nat) : items6_t l l0 = vcFI Try.prog (Gof G6g) l0 (items l) (oneI (oItems l0 l)) Try.f102 [.p 0 0 0, .p 1 0 0] [(0, .cells 22 [.dat (.ints .i64 l)]), (1, .cells 143 [.o 2]), (2, .row 129 (.recs 2 (ordS l)))]  := by kernel_rfl
end Go.Proofs.Ytmdbliacaeokaaa
namespace Go.Proofs.Ytmdbliacaeokaaa
open Go Go.RowKit
set_option linter.unusedVariables false
set_option linter.unusedSimpArgs false
set_option maxRecDepth 100000
theorem symsF_app (a b : List Int) : ∀ i, symsF i (a ++ b) = symsF i a ++ symsF (i + a.length) b := by
  induction a with
  | nil => intro i; simp [symsF]
  | cons x r ih =>
    intro i
    simp only [List.cons_append, symsF, ih (i + 1), List.length_cons]
    have : i + 1 + (r.length : Int) = i + ((r.length + 1 : Nat) : Int) := by push_cast; omega
    rw [this]
    cases decide (0 < x) <;> simp
theorem symsF_mem (l : List Int) : ∀ i r, r ∈ symsF i l → ∃ k : Nat, k < l.length ∧ r = [i + k, l.getD k 0] ∧ 0 < l.getD k 0 := by
  induction l with
  | nil => intro i r h; simp [symsF] at h
  | cons x t ih =>
    intro i r h
    have tail : r ∈ symsF (i + 1) t → ∃ k : Nat, k < (x :: t).length ∧ r = [i + k, (x :: t).getD k 0] ∧ 0 < (x :: t).getD k 0 := fun h => by
      obtain ⟨k, h1, h2, h3⟩ := ih (i + 1) r h
      refine ⟨k + 1, by simpa using h1, ?_, by simpa using h3⟩
      rw [h2]
      simp only [List.getD_cons_succ, List.cons.injEq, and_true]
      push_cast; omega
    unfold symsF at h
    by_cases hx : 0 < x
    · rw [decide_eq_true hx, cond_true, List.mem_cons] at h
      rcases h with rfl | h
      · exact ⟨0, by simp, by simp, by simpa using hx⟩
      · exact tail h
    · rw [decide_eq_false hx, cond_false] at h
      exact tail h
theorem syms_mem {l : List Int} {r : List Int} (h : r ∈ syms l) : ∃ k : Nat, k < l.length ∧ r = [(k : Int), l.getD k 0] ∧ 0 < l.getD k 0 := by
  obtain ⟨k, h1, h2, h3⟩ := symsF_mem l 0 r h
  exact ⟨k, h1, by rw [h2]; simp, h3⟩
theorem syms_two {l : List Int} : ∀ r ∈ syms l, r.length = 2 := fun r h => by
  obtain ⟨k, _, rfl, _⟩ := syms_mem h
  rfl
theorem symsF_sorted (l : List Int) : ∀ i, (symsF i l).Pairwise (fun a b => a.getD 0 0 < b.getD 0 0) := by
  induction l with
  | nil => intro i; simp [symsF]
  | cons x t ih =>
    intro i
    unfold symsF
    cases decide (0 < x)
    · exact ih (i + 1)
    · refine List.pairwise_cons.2 ⟨fun b hb => ?_, ih (i + 1)⟩
      obtain ⟨k, _, rfl, _⟩ := symsF_mem t (i + 1) b hb
      simp only [List.getD_cons_zero]
      omega
theorem syms_len_le (l : List Int) : (syms l).length ≤ l.length := by
  unfold syms
  have : ∀ (l : List Int) i, (symsF i l).length ≤ l.length := by
    intro l
    induction l with
    | nil => intro i; simp [symsF]
    | cons x t ih =>
      intro i
      unfold symsF
      have := ih (i + 1)
      cases decide (0 < x)
      · simp only [cond_false, List.length_cons]; omega
      · simp only [cond_true, List.length_cons]; omega
  exact this l 0
theorem syms_snoc (l : List Int) (x : Int) : syms (l ++ [x]) = syms l ++ cond (decide (0 < x)) [[(l.length : Int), x]] [] := by
  unfold syms
  rw [symsF_app]
  simp only [symsF, Int.zero_add]
theorem syms_take {l : List Int} {i : Nat} (h : i < l.length) : syms (l.take (i + 1)) = syms (l.take i) ++ cond (decide (0 < l.getD i 0)) [[(i : Int), l.getD i 0]] [] := by
  rw [take_succ l 0 h, syms_snoc, List.length_take, Nat.min_eq_left (by omega)]
theorem ordS_perm (l : List Int) : (ordS l).Perm (syms l) := srt_perm _
theorem ordS_mem {l : List Int} {r : List Int} (h : r ∈ ordS l) : ∃ k : Nat, k < l.length ∧ r = [(k : Int), l.getD k 0] ∧ 0 < l.getD k 0 := syms_mem ((ordS_perm l).mem_iff.1 h)
def tot (m : Int) (ss : List (List Int)) : Nat := (ss.map (wid m)).sum
theorem tot_app (m : Int) (a b : List (List Int)) : tot m (a ++ b) = tot m a + tot m b := by simp [tot]
theorem tot_perm {m : Int} {a b : List (List Int)} (h : a.Perm b) : tot m a = tot m b := (h.map (wid m)).sum_nat
theorem wid_pos (m : Int) (s : List Int) : 0 < wid m s := Nat.pow_pos (by omega)
theorem tblF_len (m : Int) : ∀ ss, (tblF m ss).length = tot m ss
  | [] => rfl
  | s :: r => by simp [tblF, blkS, tot, tblF_len m r]
theorem tblF_app (m : Int) (a b : List (List Int)) : tblF m (a ++ b) = tblF m a ++ tblF m b := by
  induction a with
  | nil => rfl
  | cons x r ih => simp [tblF, ih]
theorem tot_syms (m : Int) (l : List Int) : (tot m (syms l) : Int) = sumM m l := by
  induction l using snoc_ind' with
  | h0 => rfl
  | h1 l z ih =>
    rw [syms_snoc, tot_app, sumM_snoc, ← ih]
    cases decide (0 < z)
    · simp [tot]
    · simp [tot, wid]
theorem tot_ord {l : List Int} (h : chk l = 0) : tot (gmx l) (ordS l) = 2 ^ (gmx l).toNat := by
  obtain ⟨h1, h2, h3, h4⟩ := chk_zero h
  have := (room_iff h2).2 h4
  rw [← tot_syms] at this
  rw [tot_perm (ordS_perm l)]
  exact_mod_cast this
theorem atF_tot (m : Int) (ss : List (List Int)) (i : Nat) : atF m ss i = (tot m (ss.take i) : Int) := by
  unfold atF tot
  have : ∀ (l : List (List Int)) (a : Int), l.foldl (fun a s => a + (wid m s : Int)) a = a + ((l.map (wid m)).sum : Nat) := by
    intro l
    induction l with
    | nil => intro a; simp
    | cons x r ih => intro a; rw [List.foldl_cons, ih]; simp only [List.map_cons, List.sum_cons]; push_cast; omega
  rw [this]; simp
theorem atF_succ (m : Int) (ss : List (List Int)) {i : Nat} (h : i < ss.length) : atF m ss (i + 1) = atF m ss i + (wid m (ss.getD i []) : Int) := by
  rw [atF_tot, atF_tot, take_succ ss [] h, tot_app]
  simp [tot]
theorem atF_le (m : Int) (ss : List (List Int)) (i : Nat) : atF m ss i ≤ tot m ss := by
  rw [atF_tot]
  have : tot m ss = tot m (ss.take i) + tot m (ss.drop i) := by rw [← tot_app, List.take_append_drop]
  omega
theorem atF_nonneg (m : Int) (ss : List (List Int)) (i : Nat) : 0 ≤ atF m ss i := by rw [atF_tot]; omega
structure Good (l : List Int) : Prop where
  len : l.length ≤ 256
  lens : ∀ x ∈ l, 0 ≤ x ∧ x ≤ 11
  m0 : 1 ≤ gmx l
  m1 : gmx l ≤ 11
  sum : tot (gmx l) (ordS l) = 2 ^ (gmx l).toNat
  big : 2 ^ (gmx l).toNat ≤ 2048
theorem good {l : List Int} (h : chk l = 0) : Good l := by
  obtain ⟨h1, h2, h3, h4⟩ := chk_zero h
  have hg := gmx_ge l
  have hl := gmx_le (m := 11) (by omega) fun x hx => (all_ok h2 x hx).2
  refine ⟨h1, all_ok h2, ?_, hl, tot_ord h, ?_⟩
  · by_cases h0 : gmx l = 0
    · have hz : ∀ x ∈ l, x = 0 := fun x hx => by have := hg.2 x hx; have := (all_ok h2 x hx).1; omega
      have : ∀ l : List Int, (∀ x ∈ l, x = 0) → cntP l = 0 := by
        intro l
        induction l using snoc_ind' with
        | h0 => intro _; rfl
        | h1 l z ih =>
          intro h
          rw [cntP_snoc, h z (by simp), ih fun x hx => h x (by simp [hx])]
          rfl
      rw [this l hz] at h3
      omega
    · omega
  · exact Nat.pow_le_pow_right (n := 2) (by omega) (show (gmx l).toNat ≤ 11 by omega)
theorem symI_mem {l : List Int} {i : Nat} (h : i < (ordS l).length) : ∃ k : Nat, k < l.length ∧ symI l i = [(k : Int), l.getD k 0] ∧ 0 < l.getD k 0 := by
  have hm : symI l i ∈ ordS l := by
    unfold symI
    rw [List.getD_eq_getElem?_getD, List.getElem?_eq_getElem h]
    exact List.getElem_mem h
  exact ordS_mem hm
theorem symI_bd {l : List Int} (hg : Good l) {i : Nat} (h : i < (ordS l).length) : 0 ≤ (symI l i).getD 0 0 ∧ (symI l i).getD 0 0 < l.length ∧ 1 ≤ (symI l i).getD 1 0 ∧ (symI l i).getD 1 0 ≤ gmx l := by
  obtain ⟨k, h1, h2, h3⟩ := symI_mem h
  rw [h2]
  simp only [List.getD_cons_zero, List.getD_cons_succ]
  have := (gmx_ge l).2 _ (getD_mem' h1)
  omega
theorem at_bd {l : List Int} (hg : Good l) {i : Nat} (h : i < (ordS l).length) : 0 ≤ atF (gmx l) (ordS l) i ∧ atF (gmx l) (ordS l) i + (wid (gmx l) (symI l i) : Int) ≤ ((2 ^ (gmx l).toNat : Nat) : Int) := by
  refine ⟨atF_nonneg _ _ _, ?_⟩
  have := atF_le (gmx l) (ordS l) (i + 1)
  rw [atF_succ _ _ h, hg.sum] at this
  exact this
theorem itemF_len (m : Int) : ∀ a ss, (itemF m a ss).length = ss.length
  | a, [] => rfl
  | a, s :: r => by simp [itemF, itemF_len m _ r]
theorem itemF_get (m : Int) : ∀ (ss : List (List Int)) (a : Int) (i : Nat), i < ss.length →
    (itemF m a ss)[i]? = some [.agg #[.int .i64 ((ss.getD i []).getD 0 0), .int .i64 ((ss.getD i []).getD 1 0)], .int .i64 (a + atF m ss i)]
  | [], a, i, h => by simp at h
  | s :: r, a, 0, _ => by simp [itemF, atF]
  | s :: r, a, i + 1, h => by
    simp only [itemF, List.getElem?_cons_succ]
    rw [itemF_get m r _ i (by simpa using h)]
    have : a + (wid m s : Int) + atF m r i = a + atF m (s :: r) (i + 1) := by
      rw [atF_tot, atF_tot]
      simp [tot]
      omega
    rw [this]
    rfl
theorem items_len (l : List Int) : (items l).length = (ordS l).length := itemF_len ..
theorem items_get {l : List Int} {i : Nat} (h : i < (ordS l).length) : (items l)[i]? = some (itemI l i) := by
  have := itemF_get (gmx l) (ordS l) 0 i h
  rw [Int.zero_add] at this
  exact this
theorem codF_len (m : Int) : ∀ ss a out, (codF m a ss out).length = out.length
  | [], a, out => rfl
  | s :: r, a, out => by rw [codF, codF_len m r, List.length_set]
theorem codF_snoc (m : Int) (s : List Int) : ∀ (ss : List (List Int)) (a : Int) (out : List (List Int)), codF m a (ss ++ [s]) out = (codF m a ss out).set (s.getD 0 0).toNat [s.getD 1 0, (a + tot m ss) / 2 ^ (m - s.getD 1 0).toNat]
  | [], a, out => by simp [codF, tot]
  | x :: r, a, out => by
    simp only [List.cons_append, codF, codF_snoc m s r]
    have : a + (wid m x : Int) + tot m r = a + tot m (x :: r) := by simp [tot]; omega
    rw [this]
theorem codP_succ {l : List Int} {i : Nat} (h : i < (ordS l).length) : codP l (i + 1) = (codP l i).set ((symI l i).getD 0 0).toNat [(symI l i).getD 1 0, atF (gmx l) (ordS l) i / 2 ^ (gmx l - (symI l i).getD 1 0).toNat] := by
  unfold codP
  rw [take_succ (ordS l) [] h, codF_snoc, atF_tot, Int.zero_add]
  rfl
theorem codP_len (l : List Int) (i : Nat) : (codP l i).length = l.length := by unfold codP; rw [codF_len, List.length_replicate]
theorem tblL_len {l : List Int} (hg : Good l) : (tblL l).length = 2 ^ (gmx l).toNat := by
  unfold tblL
  rw [tblF_len, hg.sum]
theorem tblF_mem (m : Int) {c : List Int} : ∀ ss, c ∈ tblF m ss → ∃ s ∈ ss, c = [s.getD 0 0, s.getD 1 0, 0]
  | [], h => by simp [tblF] at h
  | s :: r, h => by
    simp only [tblF, List.mem_append, blkS, List.mem_replicate] at h
    rcases h with ⟨_, h⟩ | h
    · exact ⟨s, by simp, h⟩
    · obtain ⟨s', h1, h2⟩ := tblF_mem m r h
      exact ⟨s', by simp [h1], h2⟩
theorem cell_bd {l : List Int} (hg : Good l) {i : Nat} (h : i < (tblL l).length) : 0 ≤ ((tblL l).getD i []).getD 0 0 ∧ ((tblL l).getD i []).getD 0 0 < l.length ∧ 1 ≤ ((tblL l).getD i []).getD 1 0 ∧ ((tblL l).getD i []).getD 1 0 ≤ gmx l := by
  have hm : (tblL l).getD i [] ∈ tblL l := by
    rw [List.getD_eq_getElem?_getD, List.getElem?_eq_getElem h]
    exact List.getElem_mem h
  obtain ⟨s, h1, h2⟩ := tblF_mem _ _ hm
  obtain ⟨k, k1, k2, k3⟩ := ordS_mem h1
  rw [h2, k2]
  simp only [List.getD_cons_zero, List.getD_cons_succ]
  have := (gmx_ge l).2 _ (getD_mem' k1)
  omega
def refL (l : List Int) : Nat → List (List Int)
  | 0 => []
  | j + 1 => refL l j ++ (syms l).filter (isLen (gmx l - j))
theorem refT_eq (l : List Int) : ∀ j, refT l j = tblF (gmx l) (refL l j)
  | 0 => rfl
  | j + 1 => by rw [refT, refL, tblF_app, refT_eq l j]
theorem perm_split {α : Type} {p q r : α → Bool} (h : ∀ x, p x = (q x || r x)) (hd : ∀ x, (q x && r x) = false) : ∀ S : List α, (S.filter p).Perm (S.filter q ++ S.filter r)
  | [] => List.Perm.refl _
  | x :: S => by
    have ih := perm_split h hd S
    have hx := h x
    have hdx := hd x
    cases hq : q x <;> cases hr : r x
    · rw [hq, hr] at hx
      simpa [List.filter_cons, hq, hr, hx] using ih
    · rw [hq, hr] at hx
      simp only [List.filter_cons, hq, hr, hx]
      exact (ih.cons x).trans List.perm_middle.symm
    · rw [hq, hr] at hx
      simp only [List.filter_cons, hq, hr, hx]
      exact ih.cons x
    · rw [hq, hr] at hdx; cases hdx
theorem refL_perm (l : List Int) : ∀ j : Nat, ((syms l).filter fun r => decide (gmx l - j < r.getD 1 0)).Perm (refL l j)
  | 0 => by
    have : ((syms l).filter fun r => decide (gmx l - (0 : Nat) < r.getD 1 0)) = [] := by
      rw [List.filter_eq_nil_iff]
      intro r hr
      obtain ⟨k, k1, rfl, k3⟩ := syms_mem hr
      have := (gmx_ge l).2 _ (getD_mem' k1)
      simp only [List.getD_cons_succ, List.getD_cons_zero, decide_eq_true_eq]
      omega
    rw [this]
    exact List.Perm.refl _
  | j + 1 => by
    refine (perm_split (q := fun r => decide (gmx l - j < r.getD 1 0)) (r := isLen (gmx l - j)) (fun r => ?_) (fun r => ?_) (syms l)).trans ((refL_perm l j).append_right _)
    · unfold isLen
      rw [Bool.eq_iff_iff]
      simp only [decide_eq_true_eq, Bool.or_eq_true, beq_iff_eq]
      push_cast
      omega
    · unfold isLen
      rw [Bool.eq_false_iff]
      simp only [ne_eq, Bool.and_eq_true, decide_eq_true_eq, beq_iff_eq]
      omega
theorem refL_sorted (l : List Int) : ∀ j, (refL l j).Pairwise (fun x y => sLe x y = true)
  | 0 => List.Pairwise.nil
  | j + 1 => by
    rw [refL, List.pairwise_append]
    refine ⟨refL_sorted l j, ?_, fun a ha b hb => ?_⟩
    · have := (symsF_sorted l 0).filter (isLen (gmx l - j))
      refine List.Pairwise.imp_of_mem ?_ this
      intro a b ha hb h
      have h1 := (List.mem_filter.1 ha).2
      have h2 := (List.mem_filter.1 hb).2
      simp only [isLen, beq_iff_eq] at h1 h2
      rw [sLe_iff]
      omega
    · have h1 := (List.mem_filter.1 ((refL_perm l j).mem_iff.2 ha)).2
      have h2 := (List.mem_filter.1 hb).2
      simp only [isLen, beq_iff_eq] at h2
      simp only [decide_eq_true_eq] at h1
      rw [sLe_iff]
      omega
theorem refT_end {l : List Int} (hg : Good l) : refT l (gmx l).toNat = tblL l := by
  rw [refT_eq]
  unfold tblL ordS
  rw [srt_unique syms_two ?_ (refL_sorted l _)]
  refine (refL_perm l (gmx l).toNat).symm.trans ?_
  have : ((syms l).filter fun r => decide (gmx l - (gmx l).toNat < r.getD 1 0)) = syms l := by
    rw [List.filter_eq_self]
    intro r hr
    obtain ⟨k, k1, rfl, k3⟩ := syms_mem hr
    simp only [List.getD_cons_succ, List.getD_cons_zero, decide_eq_true_eq]
    have := hg.m0
    omega
  rw [this]
theorem refS_zero (l : List Int) (j : Nat) : refS l j 0 = refT l j := by simp [refS, syms, symsF, tblF]
theorem refS_all {l : List Int} (j : Nat) : refS l j l.length = refT l (j + 1) := by
  unfold refS
  rw [List.take_length]
  rfl
theorem refS_step {l : List Int} {j s : Nat} (hs : s < l.length) (hp : 0 < gmx l - (j : Int)) : refS l j (s + 1) = if l.getD s 0 = gmx l - j then refK l j s (2 ^ j) else refS l j s := by
  unfold refS
  rw [syms_take hs]
  by_cases h0 : 0 < l.getD s 0
  · rw [decide_eq_true h0, cond_true, List.filter_append, tblF_app, ← List.append_assoc]
    split
    · rename_i h
      have : [[(s : Int), l.getD s 0]].filter (isLen (gmx l - j)) = [[(s : Int), l.getD s 0]] := by
        have hb : (l.getD s 0 == gmx l - (j : Int)) = true := by rw [beq_iff_eq]; exact h
        simp only [List.filter_cons, isLen, List.getD_cons_succ, List.getD_cons_zero, List.filter_nil, hb, if_true]
      rw [this]
      unfold refK refS
      simp only [tblF, blkS, wid, List.append_nil, List.getD_cons_succ, List.getD_cons_zero, h]
      have : (gmx l - (gmx l - (j : Int))).toNat = j := by omega
      rw [this]
    · rename_i h
      have : [[(s : Int), l.getD s 0]].filter (isLen (gmx l - j)) = [] := by
        have hb : (l.getD s 0 == gmx l - (j : Int)) = false := by rw [beq_eq_false_iff_ne]; exact h
        simp only [List.filter_cons, isLen, List.getD_cons_succ, List.getD_cons_zero, List.filter_nil, hb, Bool.false_eq_true, if_false]
      rw [this]
      simp [tblF]
  · rw [decide_eq_false h0, cond_false, List.append_nil, if_neg (by omega)]
theorem refK_succ (l : List Int) (j s k : Nat) : refK l j s (k + 1) = refK l j s k ++ [[(s : Int), gmx l - j, 0]] := by
  unfold refK
  rw [List.replicate_succ', List.append_assoc]
theorem tblF_bd {m : Int} (hm : m ≤ 11) : ∀ ss : List (List Int), (∀ s ∈ ss, 0 ≤ s.getD 1 0) → (tblF m ss).length ≤ ss.length * 2048
  | [], _ => by simp [tblF]
  | s :: r, h => by
    have ih := tblF_bd hm r fun x hx => h x (by simp [hx])
    have h1 := h s (by simp)
    have h2 : wid m s ≤ 2 ^ 11 := Nat.pow_le_pow_right (by omega) (by omega)
    simp only [tblF, blkS, List.length_append, List.length_replicate, List.length_cons]
    omega
theorem refK_bd {l : List Int} (hg : Good l) {j s k : Nat} (hj : (j : Int) < gmx l) (hk : k ≤ 2 ^ j) : (refK l j s k).length ≤ 2000000 := by
  have hpos : ∀ l' : List Int, ∀ r ∈ syms l', 0 ≤ r.getD 1 0 := fun l' r hr => by
    obtain ⟨q, _, rfl, h⟩ := syms_mem hr
    simp only [List.getD_cons_succ, List.getD_cons_zero]
    omega
  have h1 : (refT l j).length ≤ 256 * 2048 := by
    rw [refT_eq]
    have hp := refL_perm l j
    have := tblF_bd hg.m1 (refL l j) fun r hr => hpos l r (List.mem_filter.1 (hp.mem_iff.2 hr)).1
    have h2 : (refL l j).length ≤ 256 := by
      rw [← hp.length_eq]
      exact Nat.le_trans (List.length_filter_le ..) (Nat.le_trans (syms_len_le l) hg.len)
    omega
  have h2 : (tblF (gmx l) ((syms (l.take s)).filter (isLen (gmx l - j)))).length ≤ 256 * 2048 := by
    have := tblF_bd hg.m1 ((syms (l.take s)).filter (isLen (gmx l - j))) fun r hr => hpos _ r (List.mem_filter.1 hr).1
    have h3 : ((syms (l.take s)).filter (isLen (gmx l - j))).length ≤ 256 := by
      have := syms_len_le (l.take s)
      rw [List.length_take] at this
      have := List.length_filter_le (isLen (gmx l - j)) (syms (l.take s))
      have := hg.len
      omega
    omega
  have h3 : (2 : Nat) ^ j ≤ 2 ^ 11 := Nat.pow_le_pow_right (by omega) (by have := hg.m1; omega)
  unfold refK refS
  simp only [List.length_append, List.length_replicate]
  omega
theorem refC_len (m : Int) : ∀ (t : List (List Int)) (a : Int) (out : List (List Int)), (refC m a t out).length = out.length
  | [], a, out => rfl
  | c :: r, a, out => by rw [refC, List.length_set, refC_len m r]
theorem refC_block (m : Int) (n b z : Int) (r out : List (List Int)) : ∀ (k : Nat) (a : Int), refC m a (List.replicate (k + 1) [n, b, z] ++ r) out = (refC m (a + k + 1) r out).set n.toNat [b, a / 2 ^ (m - b).toNat]
  | 0, a => by simp [refC]
  | k + 1, a => by
    rw [List.replicate_succ, List.cons_append, refC, refC_block m n b z r out k (a + 1)]
    simp only [List.getD_cons_zero, List.getD_cons_succ, List.set_set]
    have : a + 1 + (k : Int) + 1 = a + ((k + 1 : Nat) : Int) + 1 := by push_cast; omega
    rw [this]
def codB (m : Int) : Int → List (List Int) → List (List Int) → List (List Int)
  | _, [], out => out
  | a, s :: r, out => (codB m (a + (wid m s : Int)) r out).set (s.getD 0 0).toNat [s.getD 1 0, a / 2 ^ (m - s.getD 1 0).toNat]
theorem refC_tbl (m : Int) (out : List (List Int)) : ∀ (ss : List (List Int)) (a : Int), refC m a (tblF m ss) out = codB m a ss out
  | [], a => rfl
  | s :: r, a => by
    obtain ⟨k, hk⟩ : ∃ k, wid m s = k + 1 := ⟨wid m s - 1, by have := wid_pos m s; omega⟩
    simp only [tblF, blkS, codB]
    rw [hk, refC_block, refC_tbl m out r]
    have : a + (k : Int) + 1 = a + ((k + 1 : Nat) : Int) := by push_cast; omega
    rw [this]
theorem codF_set (m : Int) (k : Nat) (v : List Int) : ∀ (ss : List (List Int)) (a : Int) (out : List (List Int)), (∀ s ∈ ss, (s.getD 0 0).toNat ≠ k) → codF m a ss (out.set k v) = (codF m a ss out).set k v
  | [], a, out, _ => rfl
  | s :: r, a, out, h => by
    rw [codF, codF, List.set_comm _ _ (Ne.symm (h s (by simp))), codF_set m k v r _ _ fun x hx => h x (by simp [hx])]
theorem codB_codF (m : Int) : ∀ (ss : List (List Int)) (a : Int) (out : List (List Int)), ss.Pairwise (fun x y => (x.getD 0 0).toNat ≠ (y.getD 0 0).toNat) → codB m a ss out = codF m a ss out
  | [], a, out, _ => rfl
  | s :: r, a, out, h => by
    obtain ⟨h1, h2⟩ := List.pairwise_cons.1 h
    rw [codB, codF, codB_codF m r _ _ h2, codF_set m _ _ r _ _ fun x hx => Ne.symm (h1 x hx)]
theorem ordS_nodup (l : List Int) : (ordS l).Pairwise (fun x y => (x.getD 0 0).toNat ≠ (y.getD 0 0).toNat) := by
  refine ((ordS_perm l).pairwise_iff fun h => Ne.symm h).2 ?_
  refine List.Pairwise.imp_of_mem ?_ (symsF_sorted l 0)
  intro a b ha hb h
  obtain ⟨k, _, rfl, _⟩ := syms_mem ha
  obtain ⟨q, _, rfl, _⟩ := syms_mem hb
  simp only [List.getD_cons_zero] at h ⊢
  omega
theorem refCL_zero (l : List Int) : refCL l 0 = List.replicate l.length [0, 0] := by
  unfold refCL
  simp [refC]
theorem refCL_end (l : List Int) : refCL l (tblL l).length = codL l := by
  unfold refCL
  rw [Nat.sub_self, List.drop_zero, Int.sub_self]
  show refC _ _ (tblF (gmx l) (ordS l)) _ = _
  rw [refC_tbl, codB_codF _ _ _ _ (ordS_nodup l)]
  rfl
theorem refCL_succ {l : List Int} {c : Nat} (h : c < (tblL l).length) : refCL l (c + 1) = (refCL l c).set (((tblL l).getD ((tblL l).length - 1 - c) []).getD 0 0).toNat
    [((tblL l).getD ((tblL l).length - 1 - c) []).getD 1 0, (((tblL l).length : Int) - 1 - c) / 2 ^ (gmx l - ((tblL l).getD ((tblL l).length - 1 - c) []).getD 1 0).toNat] := by
  unfold refCL
  have hi : (tblL l).length - 1 - c < (tblL l).length := by omega
  have e : (tblL l).length - (c + 1) = (tblL l).length - 1 - c := by omega
  have e2 : (tblL l).length - c = (tblL l).length - 1 - c + 1 := by omega
  rw [e, List.drop_eq_getElem_cons hi, refC, e2]
  have e3 : (tblL l)[(tblL l).length - 1 - c] = (tblL l).getD ((tblL l).length - 1 - c) [] := by rw [List.getD_eq_getElem?_getD, List.getElem?_eq_getElem hi]; rfl
  rw [e3]
  have e4 : ((tblL l).length : Int) - ((c + 1 : Nat) : Int) + 1 = (tblL l).length - c := by push_cast; omega
  have e5 : ((tblL l).length : Int) - ((c + 1 : Nat) : Int) = (tblL l).length - 1 - c := by push_cast; omega
  rw [e4, e5]
theorem refCL_len (l : List Int) (c : Nat) : (refCL l c).length = l.length := by unfold refCL; rw [refC_len, List.length_replicate]
end Go.Proofs.Ytmdbliacaeokaaa
namespace Go.Proofs.Ytmdbliacaeokaaa
open Go Go.RowKit
set_option linter.unusedVariables false
set_option linter.unusedSimpArgs false
set_option maxRecDepth 100000
theorem syms_end {l : List Int} (h : chk l = 0) : 1 ≤ (syms l).length := by
  have h3 := (chk_zero h).2.2.1
  have : ∀ l : List Int, cntP l = ((syms l).length : Int) := by
    intro l
    induction l using snoc_ind' with
    | h0 => rfl
    | h1 l z ih =>
      rw [cntP_snoc, syms_snoc, List.length_append, ih]
      cases decide (0 < z) <;> simp
  rw [this] at h3
  omega
theorem pair2 (a b : Int) : List.map (fun (i : Nat) => List.take 2 (List.drop (i * 2) [a, b])) (List.range 1) = [[a, b]] := rfl
theorem ranges6_v (l : List Int) (hc : chk l = 0) : ranges6_t l := by
  have hg := good hc
  have hlen := hg.len
  unfold ranges6_t
  refine ⟨⟨0, by rw [nle]; omega, rfl, rfl, rfl, rfl, rfl⟩, fun i hi => ⟨fun hlt => ?_, fun hge => ?_⟩⟩
  · simp only [decide_eq_true_eq] at hlt
    have hi' : i < l.length := by omega
    have hsl := syms_len_le (l.take i)
    rw [List.length_take] at hsl
    simp only [toNat_cast, gt_iff_lt, decide_eq_true_eq, decide_eq_false_iff_not]
    refine ⟨by omega, by omega, fun hp => ⟨?_, i + 1, by rw [nle]; omega, by show l.length - (i + 1) < l.length - i; omega, by trivial, by trivial, by rw [wr (by omega) (by omega)]; simp, by trivial, ?_⟩, fun hp => ⟨i + 1, by rw [nle]; omega, by show l.length - (i + 1) < l.length - i; omega, by trivial, by trivial, by rw [wr (by omega) (by omega)]; simp, by trivial, ?_⟩⟩
    · show ((syms (l.take i)).length + 1) * 16 ≤ _
      omega
    · rw [pair2, syms_take hi', decide_eq_true hp]; rfl
    · rw [syms_take hi', decide_eq_false hp, cond_false, List.append_nil]
  · simp only [decide_eq_false_iff_not] at hge
    rw [List.take_of_length_le (by omega)]
    have := syms_len_le l
    refine ⟨syms_end hc, by omega, ?_, by trivial, by trivial⟩
    rw [List.all_eq_true]
    intro r hr
    simp [syms_two r hr]
theorem items6_v (l : List Int) (hc : chk l = 0) (l0 : Nat) : items6_t l l0 := by
  have hg := good hc
  have hm := hg.m1
  unfold items6_t
  refine ⟨hc, (), 0, by rw [nle]; omega, rfl, ⟨rfl, rfl, rfl, rfl, rfl, rfl, rfl⟩, fun i hi => ⟨fun hlt => ?_, fun hge => ?_⟩⟩
  · simp only [decide_eq_true_eq] at hlt
    have hi' : i < (ordS l).length := by omega
    have hb := symI_bd hg hi'
    have ha := at_bd hg hi'
    have hbig := hg.big
    have hol : (ordS l).length ≤ 256 := by
      have := (ordS_perm l).length_eq
      have := syms_len_le l
      have := hg.len
      omega
    have hw : (wid (gmx l) (symI l i) : Int) = 2 ^ (gmx l - (symI l i).getD 1 0).toNat := by unfold wid; exact (pow_cast _).symm
    simp only [toNat_cast]
    have e : (ordS l).getD i [] = symI l i := rfl
    rw [e]
    have e1 : IntKind.wrap IntKind.i64 (gmx l - (symI l i).getD 1 0) = gmx l - (symI l i).getD 1 0 := wr (by omega) (by omega)
    refine ⟨by omega, by omega, hi', by trivial, items_get hi', ⟨by rw [e1]; omega, i + 1, by rw [nle]; omega, by trivial, by show (ordS l).length - (i + 1) < (ordS l).length - i; omega, by trivial, by trivial, ?_, by trivial, by rw [wr (by omega) (by omega)]; simp, by trivial, by trivial⟩, by trivial⟩
    rw [e1, shl1 (by omega) (by omega), ← hw, atF_succ _ _ hi', e, wr (by omega) (by omega)]
  · simp only [decide_eq_false_iff_not] at hge
    rw [nle] at hi
    rw [items_len]
    omega
theorem G6g_ok : AllOk Try.prog G6g := .cons sort_sound <| G6f_ok
theorem items6_isat (l : List Int) (hc : chk l = 0) : ISat Try.prog 102 [.p 0 0 0, .p 1 0 0] [(0, .cells 22 [.dat (.ints .i64 l)]), (1, .cells 143 [.o 2]), (2, .row 129 (.recs 2 (ordS l)))] (items l) :=
  isat_of_vcI (Ωi := fun l0 => oneI (oItems l0 l)) G6g_ok mixed Try.func102 (by kernel_rfl) fun l0 => by
    have := items6_v l hc l0
    rw [items6_e] at this
    exact this
theorem items6_at (k : Nat) (l : List Int) (hc : chk l = 0) : ISat Try.prog 102 [.p k 0 0, .p (k + 1) 0 0] [(k, .cells 22 [.dat (.ints .i64 l)]), (k + 1, .cells 143 [.o (k + 2)]), (k + 2, .row 129 (.recs 2 (ordS l)))] (items l) := by
  have := (items6_isat l hc).ren (fun i => k + i) (fun a b _ _ h => by omega) rfl rfl
  exact this
theorem ranges6_sound : Sound Try.prog 88 sRanges.ctr := sRanges.sound (by kernel_rfl) sRanges_enc fun l hc => by
  have h0 := hc _ (.head _)
  exact satG G6g_ok mixed Try.func88 (ranges6_e l) (ranges6_v l h0)
theorem rtable6_v (l : List Int) (h0 : l.length ≤ 4294967296) : rtable6_t l := by
  unfold rtable6_t
  refine ⟨h0, fun h => ⟨fun hc => by rw [hc] at h; simp at h, fun hc => ⟨rfl, rfl⟩⟩, fun h => ?_⟩
  have hc : chk l = 0 := by simpa using h
  have hg := good hc
  have m0 := hg.m0
  have m1 := hg.m1
  have hL := hg.len
  refine ⟨h0, ⟨0, ⟨by omega, hc⟩, rfl, rfl, by simp, rfl⟩, fun j ⟨hj, _⟩ => ⟨fun hlt => ?_, fun hge => ?_⟩⟩
  · simp only [gt_iff_lt, decide_eq_true_eq] at hlt
    refine ⟨j, ⟨0, ⟨by omega, by omega, hc⟩, rfl, rfl, rfl, rfl, (refS_zero l j).symm⟩, fun s ⟨_, hs, _⟩ => ⟨fun hlt2 => ?_, fun hge2 => ?_⟩⟩
    · simp only [decide_eq_true_eq] at hlt2
      have hs' : s < l.length := by omega
      have step := refS_step (l := l) (j := j) hs' hlt
      simp only [toNat_cast]
      refine ⟨by omega, by omega, fun hne => ?_, fun heq => ?_⟩
      · have hne' : ¬ l.getD s 0 = gmx l - j := by simpa using hne
        rw [if_neg hne'] at step
        exact ⟨s + 1, ⟨by omega, by omega, hc⟩, by show l.length - (s + 1) < l.length - s; omega, by trivial, by trivial, by trivial, by rw [wr (by omega) (by omega)]; simp, step.symm⟩
      · have heq' : l.getD s 0 = gmx l - j := by simpa using heq
        rw [if_pos heq'] at step
        refine ⟨(j, s), ⟨0, ⟨by show (j : Int) < gmx l; omega, hs', heq', Nat.zero_le _, hc⟩, by trivial, by trivial, by trivial, by trivial, by trivial, by simp [refK]⟩, fun k ⟨_, _, _, hk, _⟩ => ?_⟩
        have e : gmx l - (gmx l - (j : Int)) = j := by omega
        have hjj : (j : Int) < gmx l := by omega
        simp only [e]
        have h2j : (2 : Int) ^ j = ((2 ^ j : Nat) : Int) := pow_cast j
        rw [wr (n := (j : Int)) (by omega) (by omega), wru (by omega) (by omega), shl1 (by omega) (by omega), toNat_cast, h2j]
        simp only at hk
        have hj11 : j ≤ 11 := by omega
        have h2b : 2 ^ j ≤ 2 ^ 11 := Nat.pow_le_pow_right (n := 2) (by omega) hj11
        refine ⟨by omega, fun hlt3 => ?_, fun hge3 => ?_⟩
        · simp only [decide_eq_true_eq] at hlt3
          have hbd := refK_bd hg (j := j) (s := s) (k := k) hjj hk
          refine ⟨?_, k + 1, ⟨hjj, hs', heq', by omega, hc⟩, by show 2 ^ j - (k + 1) < 2 ^ j - k; omega, by trivial, by trivial, by trivial, by trivial, by rw [wr (by omega) (by omega)]; simp, ?_⟩
          · show ((refK l j s k).length + 1) * 24 ≤ _
            omega
          · rw [refK_succ]; rfl
        · simp only [decide_eq_false_iff_not] at hge3
          have : k = 2 ^ j := by omega
          subst this
          exact ⟨s + 1, ⟨by omega, by omega, hc⟩, by show l.length - (s + 1) < l.length - s; omega, by trivial, by trivial, by trivial, by rw [wr (by omega) (by omega)]; simp, step.symm⟩
    · simp only [decide_eq_false_iff_not] at hge2
      have : s = l.length := by omega
      subst this
      refine ⟨j + 1, ⟨by omega, hc⟩, by show (gmx l).toNat - (j + 1) < (gmx l).toNat - j; omega, by trivial, by trivial, by rw [wr (by omega) (by omega)]; push_cast; omega, refS_all j⟩
  · simp only [gt_iff_lt, decide_eq_false_iff_not] at hge
    refine ⟨fun _ => ⟨rfl, ?_⟩, fun hn => absurd hc hn⟩
    have : j = (gmx l).toNat := by omega
    rw [this]
    exact refT_end hg
theorem rtable6_sound : Sound Try.prog 73 sTable.ctr := sTable.sound (by kernel_rfl) sTable_enc fun l hc => by
  have h0 := hc _ (.head _)
  exact satG G6g_ok mixed Try.func73 (rtable6_e l) (rtable6_v l h0)
theorem G6h_ok : AllOk Try.prog G6h := .cons ranges6_sound <| .cons rtable6_sound <| G6g_ok
theorem codes6_v (l : List Int) (h0 : l.length ≤ 4294967296) : codes6_t l := by
  unfold codes6_t
  refine ⟨h0, fun h => ⟨fun hc => by rw [hc] at h; simp at h, fun hc => ⟨rfl, rfl⟩⟩, fun h => ?_⟩
  have hc : chk l = 0 := by simpa using h
  have hg := good hc
  have m0 := hg.m0
  have m1 := hg.m1
  have hL := hg.len
  have hit : (itemF (gmx l) 0 (ordS l)).length = (ordS l).length := itemF_len ..
  refine ⟨hc, by omega, by omega, by omega, by omega, hc, 0, items6_at 700008 l hc, ⟨rfl, rfl⟩, trivial, ⟨rfl, by rw [toNat_cast]; rfl⟩, fun i hi _ => ?_, fun _ => ⟨fun _ => ⟨rfl, ?_⟩, fun hn => absurd hc hn⟩⟩
  · rw [hit] at hi
    have hb := symI_bd hg hi
    have ha := at_bd hg hi
    rw [wr (n := gmx l - (symI l i).getD 1 0) (by omega) (by omega), codP_len]
    refine ⟨items_get hi, by trivial, by omega, by omega, by omega, by omega, trivial, by trivial, ?_⟩
    rw [codP_succ hi, b64, Nat.min_eq_left (by omega), fdivp (Int.le_of_lt (pow_pos' _))]
  · rw [hit]
    unfold codP codL
    rw [List.take_length]
theorem rcodes6_v (l : List Int) (h0 : l.length ≤ 4294967296) : rcodes6_t l := by
  unfold rcodes6_t
  refine ⟨fun hc => ⟨h0, fun h => by simp at h, fun _ => ?_⟩, fun hn => ⟨h0, fun _ => ⟨fun hc => absurd hc hn, fun _ => ⟨rfl, rfl⟩⟩, fun h => absurd (by simpa using h) hn⟩⟩
  have hg := good hc
  have m0 := hg.m0
  have m1 := hg.m1
  have hL := hg.len
  have hbig := hg.big
  have hN := tblL_len hg
  have hNb : (tblL l).length ≤ 2048 := by rw [hN]; exact hbig
  refine ⟨h0, by omega, by omega, by omega, by omega, ⟨0, ⟨by omega, hc⟩, rfl, ?_, rfl, ?_⟩, fun c ⟨hcl, _⟩ => ⟨fun hlt => ?_, fun hge => ?_⟩⟩
  · rw [wr (by omega) (by omega)]; simp
  · rw [toNat_cast, refCL_zero]; rfl
  · simp only [ge_iff_le, decide_eq_true_eq] at hlt
    have hi : (tblL l).length - 1 - c < (tblL l).length := by omega
    have e : (((tblL l).length : Int) - 1 - (c : Int)).toNat = (tblL l).length - 1 - c := by omega
    have hb := cell_bd hg hi
    rw [e, refCL_len, wr (n := gmx l - ((tblL l).getD ((tblL l).length - 1 - c) []).getD 1 0) (by omega) (by omega), wru (by omega) (by omega)]
    refine ⟨by omega, by omega, hi, by omega, by omega, hi, by omega, by omega, hi, by omega, by omega, by omega, by omega, c + 1, ⟨by omega, hc⟩, by show (tblL l).length - (c + 1) < (tblL l).length - c; omega, by trivial, by rw [wr (by omega) (by omega)]; push_cast; omega, by trivial, ?_⟩
    rw [refCL_succ (by omega), b64, Nat.min_eq_left (by omega), fdivp (Int.le_of_lt (pow_pos' _))]
  · simp only [ge_iff_le, decide_eq_false_iff_not] at hge
    have : c = (tblL l).length := by omega
    subst this
    exact ⟨fun _ => ⟨rfl, refCL_end l⟩, fun hn => absurd hc hn⟩
theorem codes6_sound : Sound Try.prog 66 sCodes.ctr := sCodes.sound (by kernel_rfl) sCodes_enc fun l hc => by
  have h0 := hc _ (.head _)
  exact satG G6h_ok mixed Try.func66 (codes6_e l) (codes6_v l h0)
theorem rcodes6_sound : Sound Try.prog 52 sCodes.ctr := sCodes.sound (by kernel_rfl) sCodes_enc fun l hc => by
  have h0 := hc _ (.head _)
  exact satG G6h_ok mixed Try.func52 (rcodes6_e l) (rcodes6_v l h0)
theorem G6i_ok : AllOk Try.prog G6i := .cons codes6_sound <| .cons rcodes6_sound <| G6h_ok
end Go.Proofs.Ytmdbliacaeokaaa
namespace Go.Proofs.Ytmdbliacaeokaaa
open Go Go.RowKit
set_option linter.unusedVariables false
set_option maxRecDepth 100000
abbrev Nd : Type := List (List Int)
def nd (c f n : Int) (s : List Int) : Nd := [[c], [f], [n], s]
def ndC (x : Nd) : Int := (x.getD 0 []).getD 0 0
def ndF (x : Nd) : Bool := (x.getD 1 []).getD 0 0 == 1
def ndN (x : Nd) : Int := (x.getD 2 []).getD 0 0
def ndS (x : Nd) : List Int := x.getD 3 []
def befB (c1 : Int) (f1 : Bool) (n1 c2 : Int) (f2 : Bool) (n2 : Int) : Bool := cond (c1 != c2) (decide (c1 < c2)) (cond (f1 != f2) f1 (decide (n1 < n2)))
def befN (x y : Nd) : Bool := befB (ndC x) (ndF x) (ndN x) (ndC y) (ndF y) (ndN y)
def bestI (xs : List Nd) : Nat → Nat
  | 0 => 0
  | i + 1 => cond (befN (xs.getD i []) (xs.getD (bestI xs i) [])) i (bestI xs i)
def bestX (xs : List Nd) : Nat := bestI xs xs.length
def topX (xs : List Nd) : Nd := xs.getD (bestX xs) []
def restX (xs : List Nd) : List Nd := xs.take (bestX xs) ++ xs.drop (bestX xs + 1)
def incAll (out ss : List Int) : List Int := ss.foldl (fun o s => o.set s.toNat (o.getD s.toNat 0 + 1)) out
def leavesG : Int → List Int → List Nd
  | _, [] => []
  | i, x :: r => cond (decide (0 < x)) (nd x 1 i [i] :: leavesG (i + 1) r) (leavesG (i + 1) r)
def leaves (l : List Int) : List Nd := leavesG 0 l
def mrgX (xs : List Nd) (made : Nat) : Nd := nd (ndC (topX xs) + ndC (topX (restX xs))) 0 made (ndS (topX xs) ++ ndS (topX (restX xs)))
def sumL (l : List Int) : Int := l.sum
def nzL (l : List Int) : Int := l.foldl (fun s x => cond (x != 0) (s + 1) s) 0
end Go.Proofs.Ytmdbliacaeokaaa
namespace Go.Proofs.Ytmdbliacaeokaaa
open Go Go.RowKit
set_option linter.unusedVariables false
set_option linter.unusedSimpArgs false
set_option maxRecDepth 100000
def sNz : Spec where
  ι := List Int
  dec l H := match l with
    | [.dat (.ints .i64 l)] => some (l, [])
    | _ => none
  args := fun l => [.dat (.ints .i64 l)]
  pre := fun l => [⟨l.length ≤ 4294967296, inferInstance⟩]
  out := fun l => .leaf (.v (.int .i64 (nzL l))) []
theorem sNz_enc : ∀ l H n i ls, sNz.dec l H = some (i, ls) → l = renL (rho ls n) (sNz.args i) ∧ givenHp H ls = renH (rho ls n) (sNz.hp i) := by
  intro l H n i ls h
  simp only [sNz] at h
  repeat' split at h
  all_goals first
    | (cases h; done)
    | (cases h; exact ⟨rfl, rfl⟩)
def oNz (l : List Int) : LoopInv := { ι := Nat, p := fun i => i ≤ l.length, tm := fun i => [(0, .dat (.ints .i64 l)), (3, .v (.int .i64 (nzL (l.take i)))), (4, .v (.int .i64 (i : Nat)))], hp := fun _ => [], μ := fun i => l.length - i }
end Go.Proofs.Ytmdbliacaeokaaa
namespace Go.Proofs.Ytmdbliacaeokaaa
open Go Go.RowKit
set_option linter.unusedVariables false
set_option maxRecDepth 100000
def roomE (l : List Int) : Int := cond (decide (256 < l.length)) 6 (cond (l.all okLen) 0 2)
def roomV (l : List Int) : Int := cond (roomE l == 0) (roomL l) 0
def lchk (l : List Int) : Int := cond (roomE l == 0) (cond (decide (cntP l < 2)) 7 (cond (roomL l == 2048) 0 21)) (roomE l)
def noC (l : List Int) (x : Int) : Bool := decide ((l.length : Int) ≤ x) || l.getD x.toNat 0 == 0
def txE (l : List Int) (s : ByteArray) : Int := cond (lchk l == 0) (cond (decide (131072 < s.size)) 4 (cond ((bytesN s).any (noC l)) 7 0)) (lchk l)
def nuE (l : List Int) (n : Int) : Int := cond (lchk l == 0) (cond (decide (n < 0) || decide (131072 < n)) 2 0) (lchk l)
def hB (l : List Int) (i : Nat) : Int := ((codL l).getD i []).getD 0 0
def hV (l : List Int) (i : Nat) : Int := ((codL l).getD i []).getD 1 0
def mC (l : List Int) : Nat → List (List Int × List Int)
  | 0 => []
  | i + 1 => cond (decide (0 < hB l i)) (([(i : Int)], [hB l i, hV l i]) :: mC l i) (mC l i)
def mB (l : List Int) : Nat → List (List Int × List Int)
  | 0 => []
  | i + 1 => cond (decide (0 < hB l i)) (([hB l i, hV l i], [(i : Int)]) :: mB l i) (mB l i)
def fnd (l : List Int) (b v : Int) : Nat → Int
  | 0 => -1
  | i + 1 => cond (hB l i == b && hV l i == v) (i : Int) (fnd l b v i)
def fLc (l : List Int) (b v : Int) : Int := fnd l b v l.length
def byK (s : ByteArray) (k : Nat) : Int := nthS (bytesN s) k
def hwR (l : List Int) (s : ByteArray) : Nat → ByteArray × Int × Int
  | 0 => (ByteArray.empty, 0, 0)
  | k + 1 => putWr (hwR l s k) (hB l (byK s k).toNat) (hV l (byK s k).toNat)
def hwS (l : List Int) (s : ByteArray) (k : Nat) : ByteArray := (hwR l s k).1
def hwP (l : List Int) (s : ByteArray) (k : Nat) : Int := (hwR l s k).2.1
def hwN (l : List Int) (s : ByteArray) (k : Nat) : Int := (hwR l s k).2.2
def wrH (l : List Int) (s : ByteArray) : ByteArray := dS (hwS l s s.size) (hwP l s s.size) (hwN l s s.size)
def wrO (l : List Int) (s : ByteArray) : ByteArray := cond (txE l s == 0) (wrH l s) ByteArray.empty
def szO (l : List Int) (s : ByteArray) : Int := cond (txE l s == 0) (wrH l s).size 0
def itBkU (l : List Int) : List (List Value) := (List.range l.length).map fun k => [.int .i64 (nthI l k : Nat), .int .u8 (nthS l k)]
def hrd (l : List Int) (s : ByteArray) (n : Int) : Nat → Int → Int → List Int → Option (List Int)
  | 0, b, v, out => cond (decide (n ≤ out.length)) (some out) none
  | L + 1, b, v, out => cond (decide (n ≤ out.length)) none (cond (decide (11 ≤ b)) none
      (cond (decide (fLc l (b + 1) (2 * v + bkBit s (L : Nat)) < 0)) (hrd l s n L (b + 1) (2 * v + bkBit s (L : Nat)) out) (hrd l s n L 0 0 (out ++ [fLc l (b + 1) (2 * v + bkBit s (L : Nat))]))))
def rdX (l : List Int) (b : ByteArray) (n : Int) : Option (List Int) := cond (bkE b == 0) (hrd l b n (bkN b).toNat 0 0 []) none
def oS (o : Option (List Int)) : ByteArray := match o with
  | some x => strOfNums x
  | none => ByteArray.empty
def oE (o : Option (List Int)) : Int := match o with
  | some _ => 0
  | none => 22
def rdS (l : List Int) (b : ByteArray) (n : Int) : ByteArray := oS (rdX l b n)
def rdE (l : List Int) (b : ByteArray) (n : Int) : Int := oE (rdX l b n)
def rO (l : List Int) (b : ByteArray) (n : Int) : ByteArray := cond (nuE l n == 0) (rdS l b n) ByteArray.empty
def rE (l : List Int) (b : ByteArray) (n : Int) : Int := cond (nuE l n == 0) (rdE l b n) (nuE l n)
def ptE (n : Int) : Int := cond (decide (n < 0) || decide (131072 < n)) 2 (cond (decide (n < 6)) 20 0)
def ptK (n : Int) : Int := (n + 3) / 4
def ptL (n : Int) : List Int := [ptK n, ptK n, ptK n, n - 3 * ptK n]
def ptV (n : Int) : List Int := cond (ptE n == 0) (ptL n) [0, 0, 0, 0]
def rsS (s : ByteArray) (p : List Int) : Nat → ByteArray
  | 0 => s
  | i + 1 => (rsS s p i).extract (p.getD i 0).toNat (rsS s p i).size
def pcS (s : ByteArray) (p : List Int) (i : Nat) : ByteArray := (rsS s p i).extract 0 (p.getD i 0).toNat
def itDv (s : ByteArray) (p : List Int) : List (List Value) := (List.range 4).map fun i => [.int .i64 (i : Nat), .string (pcS s p i)]
def le16 (b : ByteArray) (i : Nat) : Int := byI b i + 256 * byI b (i + 1)
def z4 (b : ByteArray) (i : Nat) : Int := le16 b (2 * i)
def q4 (b : ByteArray) : List Int := [z4 b 0, z4 b 1, z4 b 2, b.size - 6 - z4 b 0 - z4 b 1 - z4 b 2]
def at4 (b : ByteArray) (i : Nat) : Int := 6 + ((q4 b).take i).sum
def p4 (b : ByteArray) (i : Nat) : ByteArray := pcS (b.extract 6 b.size) (q4 b) i
def x4 (l : List Int) (b : ByteArray) (n : Int) (i : Nat) : Option (List Int) := rdX l (p4 b i) ((ptL n).getD i 0)
def ok4 (l : List Int) (b : ByteArray) (n : Int) (i : Nat) : Bool := (List.range i).all fun j => (x4 l b n j).isSome
def out4 (l : List Int) (b : ByteArray) (n : Int) : Nat → ByteArray
  | 0 => ByteArray.empty
  | i + 1 => out4 l b n i ++ oS (x4 l b n i)
def bad4 (l : List Int) (b : ByteArray) (n : Int) : Nat := (List.range 4).findIdx fun j => !(x4 l b n j).isSome
def e4 (l : List Int) (b : ByteArray) (n : Int) : Int := cond (nuE l n == 0) (cond (decide (n < 6)) 20 (cond (decide (b.size < 6) || decide ((q4 b).getD 3 0 < 0)) 22 0)) (nuE l n)
def r4E (l : List Int) (b : ByteArray) (n : Int) : Int := cond (e4 l b n == 0) (cond (ok4 l b n 4) 0 22) (e4 l b n)
def r4P (l : List Int) (b : ByteArray) (n : Int) : Int := cond (e4 l b n == 0) (cond (ok4 l b n 4) 0 (at4 b (bad4 l b n))) 0
def r4O (l : List Int) (b : ByteArray) (n : Int) : ByteArray := cond (e4 l b n == 0) (cond (ok4 l b n 4) (out4 l b n 4) ByteArray.empty) ByteArray.empty
structure RdS where
  L : Nat
  b : Int
  v : Int
  out : List Int
structure RdP (l : List Int) (s : ByteArray) (n : Int) (x : RdS) : Prop where
  e : bkE s = 0
  le : (x.L : Int) ≤ bkN s
  b0 : 0 ≤ x.b
  b1 : x.b + x.L ≤ bkN s
  v0 : x.b ≤ 11 → 0 ≤ x.v
  v1 : x.b ≤ 11 → x.v < 2 ^ x.b.toNat
  o1 : (x.out.length : Int) ≤ n
  is : hrd l s n x.L x.b x.v x.out = rdX l s n
def InP (l : List Int) (s : ByteArray) (n : Int) (L0 : Nat) (x : RdS) (f : Int) : Prop := ¬ n ≤ x.out.length ∧ x.L ≤ L0 ∧ ((f = -1 ∧ RdP l s n x ∧ x.b ≤ 11) ∨ (0 ≤ f ∧ f < l.length ∧ x.L < L0 ∧ RdP l s n ⟨x.L, 0, 0, x.out ++ [f]⟩))
def BtP (l : List Int) (s : ByteArray) (n : Int) (L0 : Nat) (x : RdS) : Prop := ¬ n ≤ x.out.length ∧ x.L + 1 ≤ L0 ∧ RdP l s n ⟨x.L + 1, x.b - 1, (x.v - bkBit s x.L) / 2, x.out⟩ ∧ 1 ≤ x.b ∧ x.b ≤ 11 ∧ x.v = 2 * ((x.v - bkBit s x.L) / 2) + bkBit s x.L
end Go.Proofs.Ytmdbliacaeokaaa
namespace Go.Proofs.Ytmdbliacaeokaaa
open Go Go.RowKit
set_option linter.unusedVariables false
set_option linter.unusedSimpArgs false
set_option maxRecDepth 100000
def sRoomL : Spec where
  ι := List Int
  dec l H := match l with
    | [.dat (.ints .i64 l)] => some (l, [])
    | _ => none
  args := fun l => [.dat (.ints .i64 l)]
  pre := fun l => [⟨l.length ≤ 4294967296, inferInstance⟩]
  out := fun l => .leaf (.tu [.v (.int .i64 (roomV l)), .v (.int .i64 (roomE l))]) []
theorem sRoomL_enc : ∀ l H n i ls, sRoomL.dec l H = some (i, ls) → l = renL (rho ls n) (sRoomL.args i) ∧ givenHp H ls = renH (rho ls n) (sRoomL.hp i) := by
  intro l H n i ls h
  simp only [sRoomL] at h
  repeat' split at h
  all_goals first
    | (cases h; done)
    | (cases h; exact ⟨rfl, rfl⟩)
def sCoded : Spec where
  ι := List Int
  dec l H := match l with
    | [.dat (.ints .i64 l)] => some (l, [])
    | _ => none
  args := fun l => [.dat (.ints .i64 l)]
  pre := fun l => [⟨l.length ≤ 4294967296, inferInstance⟩]
  out := fun l => .leaf (.tu [.v (.int .i64 (cntP l)), .v (.int .i64 (gmx l))]) []
theorem sCoded_enc : ∀ l H n i ls, sCoded.dec l H = some (i, ls) → l = renL (rho ls n) (sCoded.args i) ∧ givenHp H ls = renH (rho ls n) (sCoded.hp i) := by
  intro l H n i ls h
  simp only [sCoded] at h
  repeat' split at h
  all_goals first
    | (cases h; done)
    | (cases h; exact ⟨rfl, rfl⟩)
def sLchk : Spec where
  ι := List Int
  dec l H := match l with
    | [.dat (.ints .i64 l)] => some (l, [])
    | _ => none
  args := fun l => [.dat (.ints .i64 l)]
  pre := fun l => [⟨l.length ≤ 4294967296, inferInstance⟩]
  out := fun l => .leaf (.v (.int .i64 (lchk l))) []
theorem sLchk_enc : ∀ l H n i ls, sLchk.dec l H = some (i, ls) → l = renL (rho ls n) (sLchk.args i) ∧ givenHp H ls = renH (rho ls n) (sLchk.hp i) := by
  intro l H n i ls h
  simp only [sLchk] at h
  repeat' split at h
  all_goals first
    | (cases h; done)
    | (cases h; exact ⟨rfl, rfl⟩)
def sTxE : Spec where
  ι := List Int × ByteArray
  dec l H := match l with
    | [.dat (.ints .i64 l), .v (.string s)] => some ((l, s), [])
    | _ => none
  args := fun (l, s) => [.dat (.ints .i64 l), .v (.string s)]
  pre := fun (l, s) => [⟨l.length ≤ 4294967296, inferInstance⟩, ⟨s.size ≤ 4294967296, inferInstance⟩]
  out := fun (l, s) => .leaf (.v (.int .i64 (txE l s))) []
theorem sTxE_enc : ∀ l H n i ls, sTxE.dec l H = some (i, ls) → l = renL (rho ls n) (sTxE.args i) ∧ givenHp H ls = renH (rho ls n) (sTxE.hp i) := by
  intro l H n i ls h
  simp only [sTxE] at h
  repeat' split at h
  all_goals first
    | (cases h; done)
    | (cases h; exact ⟨rfl, rfl⟩)
def sNuE : Spec where
  ι := List Int × Int
  dec l H := match l with
    | [.dat (.ints .i64 l), .v (.int .i64 n)] => some ((l, n), [])
    | _ => none
  args := fun (l, n) => [.dat (.ints .i64 l), .v (.int .i64 n)]
  pre := fun (l, n) => [⟨l.length ≤ 4294967296, inferInstance⟩]
  out := fun (l, n) => .leaf (.v (.int .i64 (nuE l n))) []
theorem sNuE_enc : ∀ l H n i ls, sNuE.dec l H = some (i, ls) → l = renL (rho ls n) (sNuE.args i) ∧ givenHp H ls = renH (rho ls n) (sNuE.hp i) := by
  intro l H n i ls h
  simp only [sNuE] at h
  repeat' split at h
  all_goals first
    | (cases h; done)
    | (cases h; exact ⟨rfl, rfl⟩)
def sTabs : Spec where
  ι := List Int
  dec l H := match l with
    | [.dat (.ints .i64 l)] => some (l, [])
    | _ => none
  args := fun l => [.dat (.ints .i64 l)]
  pre := fun l => [⟨chk l = 0, inferInstance⟩]
  out := fun l => .leaf (.tu [.m 2000, .m 2001]) [(2000, .mp (.one (.i .u8)) (.st [.i .i64, .i .i64]) (mC l l.length)), (2001, .mp (.st [.i .i64, .i .i64]) (.one (.i .u8)) (mB l l.length))]
theorem sTabs_enc : ∀ l H n i ls, sTabs.dec l H = some (i, ls) → l = renL (rho ls n) (sTabs.args i) ∧ givenHp H ls = renH (rho ls n) (sTabs.hp i) := by
  intro l H n i ls h
  simp only [sTabs] at h
  repeat' split at h
  all_goals first
    | (cases h; done)
    | (cases h; exact ⟨rfl, rfl⟩)
def sBackU : Spec where
  ι := List Int
  own := true
  dec l H := match l with
    | [.o l0] => match H l0 with
      | some (.row 5 (.ints .u8 xs)) => some (xs, [l0])
      | _ => none
    | _ => none
  args := fun xs => [.o 0]
  hp := fun xs => [(0, .row 5 (.ints .u8 xs))]
  pre := fun xs => [⟨xs.length ≤ 4294967296, inferInstance⟩]
  out := fun xs => .leaf (.fn (.func 77) [] [.p 2000 0 0]) [(2000, .cells 46 [.o 0]), (0, .row 5 (.ints .u8 xs))]
theorem sBackU_enc : ∀ l H n i ls, sBackU.dec l H = some (i, ls) → l = renL (rho ls n) (sBackU.args i) ∧ givenHp H ls = renH (rho ls n) (sBackU.hp i) := by
  intro l H n i ls h
  simp only [sBackU] at h
  repeat' split at h
  all_goals first
    | (cases h; done)
    | (cases h; exact ⟨rfl, rfl⟩)
    | (cases h; refine ⟨rfl, ?_⟩; simp only [givenHp, List.filterMap_cons, List.filterMap_nil, Option.map, *]; rfl)
def sWrH : Spec where
  ι := List Int × ByteArray
  dec l H := match l with
    | [.dat (.ints .i64 l), .v (.string s)] => some ((l, s), [])
    | _ => none
  args := fun (l, s) => [.dat (.ints .i64 l), .v (.string s)]
  pre := fun (l, s) => [⟨chk l = 0, inferInstance⟩, ⟨txE l s = 0, inferInstance⟩, ⟨s.size ≤ 100000, inferInstance⟩]
  out := fun (l, s) => .leaf (.v (.string (wrH l s))) []
theorem sWrH_enc : ∀ l H n i ls, sWrH.dec l H = some (i, ls) → l = renL (rho ls n) (sWrH.args i) ∧ givenHp H ls = renH (rho ls n) (sWrH.hp i) := by
  intro l H n i ls h
  simp only [sWrH] at h
  repeat' split at h
  all_goals first
    | (cases h; done)
    | (cases h; exact ⟨rfl, rfl⟩)
def sRdH : Spec where
  ι := List Int × ByteArray × Int
  dec l H := match l with
    | [.dat (.ints .i64 l), .v (.string b), .v (.int .i64 n)] => some ((l, b, n), [])
    | _ => none
  args := fun (l, b, n) => [.dat (.ints .i64 l), .v (.string b), .v (.int .i64 n)]
  pre := fun (l, b, n) => [⟨chk l = 0, inferInstance⟩, ⟨b.size ≤ 4294967296, inferInstance⟩, ⟨0 ≤ n, inferInstance⟩, ⟨n ≤ 131072, inferInstance⟩]
  out := fun (l, b, n) => .leaf (.tu [.v (.string (rdS l b n)), .v (.int .i64 (rdE l b n))]) []
theorem sRdH_enc : ∀ l H n i ls, sRdH.dec l H = some (i, ls) → l = renL (rho ls n) (sRdH.args i) ∧ givenHp H ls = renH (rho ls n) (sRdH.hp i) := by
  intro l H n i ls h
  simp only [sRdH] at h
  repeat' split at h
  all_goals first
    | (cases h; done)
    | (cases h; exact ⟨rfl, rfl⟩)
def oRoomP (l : List Int) : LoopInv := { ι := Nat, p := fun i => i ≤ l.length ∧ l.length ≤ 256 ∧ (l.take i).all okLen = true, tm := fun i => [(4, .v (.int .i64 (sumM 11 (l.take i)))), (10, .dat (.ints .i64 l)), (11, .v (.int .i64 l.length)), (12, .v (.int .i64 (i : Nat)))], hp := fun _ => [], μ := fun i => l.length - i }
def oRoomR (l : List Int) : LoopInv := { ι := Nat, p := fun i => i ≤ l.length ∧ l.length ≤ 256 ∧ (l.take i).all okLen = true, tm := fun i => [(0, .dat (.ints .i64 l)), (4, .v (.int .i64 (sumM 11 (l.take i)))), (5, .v (.int .i64 (i : Nat)))], hp := fun _ => [], μ := fun i => l.length - i }
def oCoded (l : List Int) : LoopInv := { ι := Nat, p := fun i => i ≤ l.length, tm := fun i => [(2, .v (.int .i64 (cntP (l.take i)))), (3, .v (.int .i64 (gmx (l.take i)))), (6, .dat (.ints .i64 l)), (7, .v (.int .i64 l.length)), (8, .v (.int .i64 (i : Nat)))], hp := fun _ => [], μ := fun i => l.length - i }
def oTx (l : List Int) (s : ByteArray) : LoopInv := { ι := Nat, p := fun i => i ≤ s.size ∧ lchk l = 0 ∧ s.size ≤ 131072 ∧ ((bytesN s).take i).any (noC l) = false, tm := fun i => [(0, .dat (.ints .i64 l)), (19, .o 5000), (20, .v (.int .i64 (bytesN s).length)), (21, .v (.int .i64 (i : Nat)))], hp := fun _ => [(5000, .row 5 (.ints .u8 (bytesN s)))], μ := fun i => s.size - i }
def hpT (l : List Int) (i : Nat) : List (Nat × SBlk) := [(5000, .mp (.one (.i .u8)) (.st [.i .i64, .i .i64]) (mC l i)), (5001, .mp (.st [.i .i64, .i .i64]) (.one (.i .u8)) (mB l i)), (5002, .row 76 (.recs 2 (codL l)))]
def oTabs (l : List Int) : LoopInv := { ι := Nat, p := fun i => i ≤ l.length, tm := fun i => [(6, .m 5000), (7, .m 5001), (17, .o 5002), (18, .v (.int .i64 (codL l).length)), (19, .v (.int .i64 (i : Nat)))], hp := fun i => hpT l i, μ := fun i => l.length - i }
def oBku (l0 : Nat) (xs : List Int) : LoopInvI := { ι := Nat, p := fun k => k ≤ xs.length, tm := fun k => [(0, .v (.func (.yield l0) #[] #[])), (1, .p 0 0 0), (3, .v (.int .i64 ((xs.length : Int) - 1 - (k : Nat))))], hp := fun k => [(0, .cells 46 [.o 1]), (1, .row 5 (.ints .u8 xs))], μ := fun k => xs.length - k, y := fun k => k }
def oBkuF (l0 : Nat) (xs : List Int) : Nat → Option LoopFamI := fun k => cond (Nat.beq k 0) (some ⟨Unit, fun _ => oBku l0 xs⟩) none
def hwC (k : Nat) (l : List Int) (s : ByteArray) (i : Nat) : Nat × SBlk := (k, .cells 86 [.v (.string (hwS l s i)), .v (.int .i64 (hwP l s i)), .v (.int .i64 (hwN l s i))])
def rWrH (l : List Int) (s : ByteArray) : RngInv := { f := 77, cap := [.p 400016 0 0], hpI := [(400016, .cells 46 [.o 400008]), (400008, .row 5 (.ints .u8 (bytesN s)))], xs := itBkU (bytesN s), it := fun k => [.int .i64 (nthI (bytesN s) k : Nat), .int .u8 (byK s k)], tm := [(5, .p 1000 0 0), (7, .p 1001 0 0)], hp := fun k => [(1000, .cells 71 [.m 1002]), hwC 1001 l s k, (1002, .mp (.one (.i .u8)) (.st [.i .i64, .i .i64]) (mC l l.length))] }
def oWrH (l : List Int) (s : ByteArray) : Nat → Option LoopFam := fun k => cond (Nat.beq k 0) (some (.rng Nat fun _ => rWrH l s)) none
def rdC (k : Nat) (s : ByteArray) (L : Nat) : Nat × SBlk := (k, .cells 68 [.v (.string s), .v (.int .i64 (L : Nat))])
def oRdH (l : List Int) (s : ByteArray) (n : Int) : LoopInv := { ι := RdS, p := fun x => RdP l s n x, tm := fun x => [(2, .v (.int .i64 n)), (8, .p 5000 0 0), (11, .m 5001), (12, .o 5002), (13, .p 5003 0 0)], hp := fun x => [rdC 5000 s x.L, (5001, .mp (.st [.i .i64, .i .i64]) (.one (.i .u8)) (mB l l.length)), (5002, .row 5 (.ints .u8 x.out)), (5003, .cells 76 [.v (.int .i64 x.b), .v (.int .i64 x.v)])], μ := fun x => x.L }
def hpR (l : List Int) (s : ByteArray) (x : RdS) : List (Nat × SBlk) := [rdC 5000 s x.L, (5001, .row 76 (.recs 2 (codL l))), (5002, .row 5 (.ints .u8 x.out))]
def oRrdA (l : List Int) (s : ByteArray) (n : Int) : LoopInv := { ι := RdS, p := fun x => RdP l s n x ∧ x.b = 0 ∧ x.v = 0, tm := fun x => [(2, .v (.int .i64 n)), (8, .p 5000 0 0), (10, .o 5001), (12, .o 5002)], hp := fun x => hpR l s x, μ := fun x => x.L }
def oRrdB (l : List Int) (s : ByteArray) (n : Int) (L0 : Nat) : LoopInv := { ι := RdS × Int, p := fun x => InP l s n L0 x.1 x.2, tm := fun x => [(2, .v (.int .i64 n)), (8, .p 5000 0 0), (10, .o 5001), (12, .o 5002), (13, .v (.int .i64 x.1.v)), (14, .v (.int .i64 x.1.b)), (15, .v (.int .i64 x.2))], hp := fun x => hpR l s x.1, μ := fun x => x.1.L }
def oRrdC (l : List Int) (s : ByteArray) (n : Int) (L0 : Nat) (x : RdS) : LoopInv := { ι := Nat, p := fun k => k ≤ l.length ∧ BtP l s n L0 x, tm := fun k => [(2, .v (.int .i64 n)), (8, .p 5000 0 0), (10, .o 5001), (12, .o 5002), (13, .v (.int .i64 x.v)), (14, .v (.int .i64 x.b)), (15, .v (.int .i64 (fnd l x.b x.v k))), (19, .v (.int .i64 (k : Nat)))], hp := fun _ => hpR l s x, μ := fun k => l.length - k }
def oRrdD (l : List Int) (s : ByteArray) (n : Int) (L0 : Nat) (x : RdS) : LoopInv := { ι := Unit, p := fun _ => ¬ n ≤ x.out.length ∧ x.L + 1 ≤ L0 ∧ RdP l s n ⟨x.L + 1, x.b, x.v, x.out⟩ ∧ x.b < 11, tm := fun _ => [(2, .v (.int .i64 n)), (8, .p 5000 0 0), (10, .o 5001), (12, .o 5002), (13, .v (.int .i64 x.v)), (14, .v (.int .i64 x.b)), (15, .v (.int .i64 (-1))), (16, .p 5003 0 0), (17, .v (.int .u64 (bkBit s x.L)))], hp := fun _ => [rdC 5000 s (x.L + 1), (5001, .row 76 (.recs 2 (codL l))), (5002, .row 5 (.ints .u8 x.out)), rdC 5003 s x.L], μ := fun _ => 0 }
def oRrdE (l : List Int) (s : ByteArray) (n : Int) (L0 : Nat) (x : RdS) (k : Nat) : LoopInv := { ι := Unit, p := fun _ => k < l.length ∧ BtP l s n L0 x, tm := fun _ => [(2, .v (.int .i64 n)), (8, .p 5000 0 0), (10, .o 5001), (12, .o 5002), (13, .v (.int .i64 x.v)), (14, .v (.int .i64 x.b)), (15, .v (.int .i64 (fnd l x.b x.v (k + 1)))), (19, .v (.int .i64 (k : Nat)))], hp := fun _ => hpR l s x, μ := fun _ => 0 }
def oRrd (l : List Int) (s : ByteArray) (n : Int) : Nat → Option LoopFam := fun k => cond (Nat.beq k 0) (some (.one (oRrdA l s n))) (cond (Nat.beq k 1) (some (.fam Nat fun L0 => oRrdB l s n L0)) (cond (Nat.beq k 2) (some (.fam (Nat × RdS) fun g => oRrdC l s n g.1 g.2)) (cond (Nat.beq k 1012) (some (.fam (Nat × RdS) fun g => oRrdD l s n g.1 g.2)) (cond (Nat.beq k 1015) (some (.fam (Nat × RdS × Nat) fun g => oRrdE l s n g.1 g.2.1 g.2.2)) none))))
def GUa : List (Nat × Ctr) := (63, sRoomL.ctr) :: (70, sRoomL.ctr) :: (64, sCoded.ctr) :: (55, sBackU.ctr) :: (71, sNz.ctr) :: (GBe ++ G6i)
def GUb : List (Nat × Ctr) := (46, sLchk.ctr) :: (50, sLchk.ctr) :: (48, sTabs.ctr) :: (32, sRdH.ctr) :: GUa
def GUc : List (Nat × Ctr) := (37, sTxE.ctr) :: (29, sNuE.ctr) :: (31, sNuE.ctr) :: (38, sWrH.ctr) :: (30, sRdH.ctr) :: GUb
end Go.Proofs.Ytmdbliacaeokaaa
namespace Go.Proofs.Ytmdbliacaeokaaa
open Go Go.RowKit
set_option linter.unusedVariables false
set_option maxRecDepth 100000
def roomU_t (l : List Int) : Prop :=
 (decide ((↑(List.length l) : Int) > (256 : Int)) = true → (0 : Int) = roomV l ∧ (6 : Int) = roomE l) ∧
 (decide ((↑(List.length l) : Int) > (256 : Int)) = false →
 (∃ (x0 : Nat),
 (x0 ≤ List.length l ∧ List.length l ≤ (256 : Nat) ∧ List.all (List.take x0 l) okLen = true) ∧
 (0 : Int) = sumM (11 : Int) (List.take x0 l) ∧ l = l ∧ (↑(List.length l) : Int) = (↑(List.length l) : Int) ∧ (0 : Int) = (↑x0 : Int)) ∧
 ∀ (x1 : Nat),
 x1 ≤ List.length l ∧ List.length l ≤ (256 : Nat) ∧ List.all (List.take x1 l) okLen = true →
 (decide ((↑x1 : Int) < (↑(List.length l) : Int)) = true →
 (0 : Int) ≤ (↑x1 : Int) ∧
 (↑x1 : Int) < (↑(List.length l) : Int) ∧
 (decide (List.getD l (Int.toNat (↑x1 : Int)) (0 : Int) < (0 : Int)) = true → (0 : Int) = roomV l ∧ (2 : Int) = roomE l) ∧
 (decide (List.getD l (Int.toNat (↑x1 : Int)) (0 : Int) < (0 : Int)) = false →
 (decide (List.getD l (Int.toNat (↑x1 : Int)) (0 : Int) > (11 : Int)) = true → (0 : Int) = roomV l ∧ (2 : Int) = roomE l) ∧
 (decide (List.getD l (Int.toNat (↑x1 : Int)) (0 : Int) > (11 : Int)) = false →
 (decide (List.getD l (Int.toNat (↑x1 : Int)) (0 : Int) > (0 : Int)) = true →
 (0 : Int) ≤ IntKind.wrap IntKind.i64 ((11 : Int) - List.getD l (Int.toNat (↑x1 : Int)) (0 : Int)) ∧
 ∃ (y2 : Nat),
 (y2 ≤ List.length l ∧ List.length l ≤ (256 : Nat) ∧ List.all (List.take y2 l) okLen = true) ∧
 Nat.sub (List.length l) y2 < Nat.sub (List.length l) x1 ∧
 IntKind.wrap IntKind.i64
 (sumM (11 : Int) (List.take x1 l) +
 IntKind.wrap IntKind.i64
 ((1 : Int) *
 (2 : Int) ^ min (Int.toNat (IntKind.wrap IntKind.i64 ((11 : Int) - List.getD l (Int.toNat (↑x1 : Int)) (0 : Int)))) (IntKind.bits IntKind.i64))) =
 sumM (11 : Int) (List.take y2 l) ∧
 l = l ∧ (↑(List.length l) : Int) = (↑(List.length l) : Int) ∧ IntKind.wrap IntKind.i64 ((↑x1 : Int) + (1 : Int)) = (↑y2 : Int)) ∧
 (decide (List.getD l (Int.toNat (↑x1 : Int)) (0 : Int) > (0 : Int)) = false →
 ∃ (y3 : Nat),
 (y3 ≤ List.length l ∧ List.length l ≤ (256 : Nat) ∧ List.all (List.take y3 l) okLen = true) ∧
 Nat.sub (List.length l) y3 < Nat.sub (List.length l) x1 ∧
 sumM (11 : Int) (List.take x1 l) = sumM (11 : Int) (List.take y3 l) ∧
 l = l ∧ (↑(List.length l) : Int) = (↑(List.length l) : Int) ∧ IntKind.wrap IntKind.i64 ((↑x1 : Int) + (1 : Int)) = (↑y3 : Int))))) ∧
 (decide ((↑x1 : Int) < (↑(List.length l) : Int)) = false → sumM (11 : Int) (List.take x1 l) = roomV l ∧ (0 : Int) = roomE l))
theorem roomU_e (l : List Int) : roomU_t l = vcG Try.prog (Gof []) (one (oRoomP l)) Try.f63 [.dat (.ints .i64 l)] [] (.leaf ((.tu [.v (.int .i64 (roomV l)), .v (.int .i64 (roomE l))])) ([])) := by kernel_rfl
def rroomU_t (l : List Int) : Prop :=
 (decide ((↑(List.length l) : Int) > (256 : Int)) = true → (0 : Int) = roomV l ∧ (6 : Int) = roomE l) ∧
 (decide ((↑(List.length l) : Int) > (256 : Int)) = false →
 (∃ (x0 : Nat), (x0 ≤ List.length l ∧ List.length l ≤ (256 : Nat) ∧ List.all (List.take x0 l) okLen = true) ∧ l = l ∧ (0 : Int) = sumM (11 : Int) (List.take x0 l) ∧ (0 : Int) = (↑x0 : Int)) ∧
 ∀ (x1 : Nat),
 x1 ≤ List.length l ∧ List.length l ≤ (256 : Nat) ∧ List.all (List.take x1 l) okLen = true →
 (decide ((↑x1 : Int) < (↑(List.length l) : Int)) = true →
 (0 : Int) ≤ (↑x1 : Int) ∧
 (↑x1 : Int) < (↑(List.length l) : Int) ∧
 (decide (List.getD l (Int.toNat (↑x1 : Int)) (0 : Int) < (0 : Int)) = true → (0 : Int) = roomV l ∧ (2 : Int) = roomE l) ∧
 (decide (List.getD l (Int.toNat (↑x1 : Int)) (0 : Int) < (0 : Int)) = false →
 (0 : Int) ≤ (↑x1 : Int) ∧
 (↑x1 : Int) < (↑(List.length l) : Int) ∧
 (decide (List.getD l (Int.toNat (↑x1 : Int)) (0 : Int) > (11 : Int)) = true → (0 : Int) = roomV l ∧ (2 : Int) = roomE l) ∧
 (decide (List.getD l (Int.toNat (↑x1 : Int)) (0 : Int) > (11 : Int)) = false →
 (0 : Int) ≤ (↑x1 : Int) ∧
 (↑x1 : Int) < (↑(List.length l) : Int) ∧
 (decide (List.getD l (Int.toNat (↑x1 : Int)) (0 : Int) > (0 : Int)) = true →
 (0 : Int) ≤ (↑x1 : Int) ∧
 (↑x1 : Int) < (↑(List.length l) : Int) ∧
 (0 : Int) ≤ IntKind.wrap IntKind.u64 (IntKind.wrap IntKind.i64 ((11 : Int) - List.getD l (Int.toNat (↑x1 : Int)) (0 : Int))) ∧
 ∃ (y2 : Nat),
 (y2 ≤ List.length l ∧ List.length l ≤ (256 : Nat) ∧ List.all (List.take y2 l) okLen = true) ∧
 Nat.sub (List.length l) y2 < Nat.sub (List.length l) x1 ∧
 l = l ∧
 IntKind.wrap IntKind.i64
 (sumM (11 : Int) (List.take x1 l) +
 IntKind.wrap IntKind.i64
 ((1 : Int) *
 (2 : Int) ^
 min (Int.toNat (IntKind.wrap IntKind.u64 (IntKind.wrap IntKind.i64 ((11 : Int) - List.getD l (Int.toNat (↑x1 : Int)) (0 : Int)))))
 (IntKind.bits IntKind.i64))) =
 sumM (11 : Int) (List.take y2 l) ∧
 IntKind.wrap IntKind.i64 ((↑x1 : Int) + (1 : Int)) = (↑y2 : Int)) ∧
 (decide (List.getD l (Int.toNat (↑x1 : Int)) (0 : Int) > (0 : Int)) = false →
 ∃ (y3 : Nat),
 (y3 ≤ List.length l ∧ List.length l ≤ (256 : Nat) ∧ List.all (List.take y3 l) okLen = true) ∧
 Nat.sub (List.length l) y3 < Nat.sub (List.length l) x1 ∧
 l = l ∧ sumM (11 : Int) (List.take x1 l) = sumM (11 : Int) (List.take y3 l) ∧ IntKind.wrap IntKind.i64 ((↑x1 : Int) + (1 : Int)) = (↑y3 : Int))))) ∧
 (decide ((↑x1 : Int) < (↑(List.length l) : Int)) = false → sumM (11 : Int) (List.take x1 l) = roomV l ∧ (0 : Int) = roomE l))
theorem rroomU_e (l : List Int) : rroomU_t l = vcG Try.prog (Gof []) (one (oRoomR l)) Try.f70 [.dat (.ints .i64 l)] [] (.leaf ((.tu [.v (.int .i64 (roomV l)), .v (.int .i64 (roomE l))])) ([])) := by kernel_rfl
def codedU_t (l : List Int) : Prop :=
 (∃ (x0 : Nat),
 Nat.le x0 (List.length l) ∧ (0 : Int) = cntP (List.take x0 l) ∧ (0 : Int) = gmx (List.take x0 l) ∧ l = l ∧ (↑(List.length l) : Int) = (↑(List.length l) : Int) ∧ (0 : Int) = (↑x0 : Int)) ∧
 ∀ (x1 : Nat),
 Nat.le x1 (List.length l) →
 (decide ((↑x1 : Int) < (↑(List.length l) : Int)) = true →
 (0 : Int) ≤ (↑x1 : Int) ∧
 (↑x1 : Int) < (↑(List.length l) : Int) ∧
 (decide (List.getD l (Int.toNat (↑x1 : Int)) (0 : Int) > (0 : Int)) = true →
 ∃ (y2 : Nat),
 Nat.le y2 (List.length l) ∧
 Nat.sub (List.length l) y2 < Nat.sub (List.length l) x1 ∧
 IntKind.wrap IntKind.i64 (cntP (List.take x1 l) + (1 : Int)) = cntP (List.take y2 l) ∧
 max (gmx (List.take x1 l)) (List.getD l (Int.toNat (↑x1 : Int)) (0 : Int)) = gmx (List.take y2 l) ∧
 l = l ∧ (↑(List.length l) : Int) = (↑(List.length l) : Int) ∧ IntKind.wrap IntKind.i64 ((↑x1 : Int) + (1 : Int)) = (↑y2 : Int)) ∧
 (decide (List.getD l (Int.toNat (↑x1 : Int)) (0 : Int) > (0 : Int)) = false →
 ∃ (y3 : Nat),
 Nat.le y3 (List.length l) ∧
 Nat.sub (List.length l) y3 < Nat.sub (List.length l) x1 ∧
 cntP (List.take x1 l) = cntP (List.take y3 l) ∧
 gmx (List.take x1 l) = gmx (List.take y3 l) ∧
 l = l ∧ (↑(List.length l) : Int) = (↑(List.length l) : Int) ∧ IntKind.wrap IntKind.i64 ((↑x1 : Int) + (1 : Int)) = (↑y3 : Int))) ∧
 (decide ((↑x1 : Int) < (↑(List.length l) : Int)) = false → cntP (List.take x1 l) = cntP l ∧ gmx (List.take x1 l) = gmx l)
theorem codedU_e (l : List Int) : codedU_t l = vcG Try.prog (Gof []) (one (oCoded l)) Try.f64 [.dat (.ints .i64 l)] [] (.leaf ((.tu [.v (.int .i64 (cntP l)), .v (.int .i64 (gmx l))])) ([])) := by kernel_rfl
def bkuU_t (xs : List Int) : Prop :=
 xs = xs
theorem bkuU_e (xs : List Int) : bkuU_t xs = vcG Try.prog (Gof []) (fun _ => none) Try.f55 [.o 0] [(0, .row 5 (.ints .u8 xs))] (.leaf ((.fn (.func 77) [] [.p 2000 0 0])) ([(2000, .cells 46 [.o 0]), (0, .row 5 (.ints .u8 xs))])) := by kernel_rfl
def lchkU_t (l : List Int) : Prop :=
 List.length l ≤ (4294967296 : Nat) ∧
 List.length l ≤ (4294967296 : Nat) ∧
 ((roomE l != (0 : Int)) = true → roomE l = lchk l) ∧
 ((roomE l != (0 : Int)) = false →
 (decide (cntP l < (2 : Int)) = true → (7 : Int) = lchk l) ∧
 (decide (cntP l < (2 : Int)) = false → ((roomV l != (2048 : Int)) = true → (21 : Int) = lchk l) ∧ ((roomV l != (2048 : Int)) = false → (0 : Int) = lchk l)))
theorem lchkU_e (l : List Int) : lchkU_t l = vcG Try.prog (Gof GUa) (fun _ => none) Try.f46 [.dat (.ints .i64 l)] [] (.leaf ((.v (.int .i64 (lchk l)))) ([])) := by kernel_rfl
def rlchkU_t (l : List Int) : Prop :=
 List.length l ≤ (4294967296 : Nat) ∧
 ((roomE l != (0 : Int)) = true → roomE l = lchk l) ∧
 ((roomE l != (0 : Int)) = false →
 List.length l ≤ (4294967296 : Nat) ∧
 (decide (nzL l < (2 : Int)) = true → (7 : Int) = lchk l) ∧
 (decide (nzL l < (2 : Int)) = false → ((roomV l != (2048 : Int)) = true → (21 : Int) = lchk l) ∧ ((roomV l != (2048 : Int)) = false → (0 : Int) = lchk l)))
theorem rlchkU_e (l : List Int) : rlchkU_t l = vcG Try.prog (Gof GUa) (fun _ => none) Try.f50 [.dat (.ints .i64 l)] [] (.leaf ((.v (.int .i64 (lchk l)))) ([])) := by kernel_rfl
def tabsU_t (l : List Int) : Prop :=
 (chk l = (0 : Int) →
 List.length l ≤ (4294967296 : Nat) ∧
 (∃ (x0 : Nat),
 Nat.le x0 (List.length l) ∧
 (↑(List.length (codL l)) : Int) = (↑(List.length (codL l)) : Int) ∧
 (0 : Int) = (↑x0 : Int) ∧ (∀ (q1 : List Int), mget [] q1 = mget (mC l x0) q1) ∧ (∀ (q2 : List Int), mget [] q2 = mget (mB l x0) q2) ∧ codL l = codL l) ∧
 ∀ (x3 : Nat),
 Nat.le x3 (List.length l) →
 (decide ((↑x3 : Int) < (↑(List.length (codL l)) : Int)) = true →
 (0 : Int) ≤ (↑x3 : Int) ∧
 (↑x3 : Int) < (↑(List.length (codL l)) : Int) ∧
 Int.toNat (↑x3 : Int) < List.length (codL l) ∧
 (decide (List.getD (List.getD (codL l) (Int.toNat (↑x3 : Int)) []) ((0 : Nat)) (0 : Int) > (0 : Int)) = true →
 ∃ (y4 : Nat),
 Nat.le y4 (List.length l) ∧
 Nat.sub (List.length l) y4 < Nat.sub (List.length l) x3 ∧
 (↑(List.length (codL l)) : Int) = (↑(List.length (codL l)) : Int) ∧
 IntKind.wrap IntKind.i64 ((↑x3 : Int) + (1 : Int)) = (↑y4 : Int) ∧
 (∀ (q5 : List Int),
 mget
 (([IntKind.wrap IntKind.u8 (↑x3 : Int)],
 [List.getD (List.getD (codL l) (Int.toNat (↑x3 : Int)) []) ((0 : Nat)) (0 : Int),
 List.getD (List.getD (codL l) (Int.toNat (↑x3 : Int)) []) ((1 : Nat)) (0 : Int)]) ::
 mC l x3)
 q5 =
 mget (mC l y4) q5) ∧
 (∀ (q6 : List Int),
 mget
 (([List.getD (List.getD (codL l) (Int.toNat (↑x3 : Int)) []) ((0 : Nat)) (0 : Int),
 List.getD (List.getD (codL l) (Int.toNat (↑x3 : Int)) []) ((1 : Nat)) (0 : Int)],
 [IntKind.wrap IntKind.u8 (↑x3 : Int)]) ::
 mB l x3)
 q6 =
 mget (mB l y4) q6) ∧
 codL l = codL l) ∧
 (decide (List.getD (List.getD (codL l) (Int.toNat (↑x3 : Int)) []) ((0 : Nat)) (0 : Int) > (0 : Int)) = false →
 ∃ (y7 : Nat),
 Nat.le y7 (List.length l) ∧
 Nat.sub (List.length l) y7 < Nat.sub (List.length l) x3 ∧
 (↑(List.length (codL l)) : Int) = (↑(List.length (codL l)) : Int) ∧
 IntKind.wrap IntKind.i64 ((↑x3 : Int) + (1 : Int)) = (↑y7 : Int) ∧
 (∀ (q8 : List Int), mget (mC l x3) q8 = mget (mC l y7) q8) ∧ (∀ (q9 : List Int), mget (mB l x3) q9 = mget (mB l y7) q9) ∧ codL l = codL l)) ∧
 (decide ((↑x3 : Int) < (↑(List.length (codL l)) : Int)) = false →
 (∀ (q10 : List Int), mget (mC l x3) q10 = mget (mC l (List.length l)) q10) ∧ ∀ (q11 : List Int), mget (mB l x3) q11 = mget (mB l (List.length l)) q11)) ∧
 (¬chk l = (0 : Int) →
 List.length l ≤ (4294967296 : Nat) ∧
 (∃ (x12 : Nat),
 Nat.le x12 (List.length l) ∧
 (0 : Int) = (↑(List.length (codL l)) : Int) ∧
 (0 : Int) = (↑x12 : Int) ∧ (∀ (q13 : List Int), mget [] q13 = mget (mC l x12) q13) ∧ (∀ (q14 : List Int), mget [] q14 = mget (mB l x12) q14) ∧ List.length (codL l) = (0 : Nat)) ∧
 ∀ (x15 : Nat),
 Nat.le x15 (List.length l) →
 (decide ((↑x15 : Int) < (↑(List.length (codL l)) : Int)) = true →
 (0 : Int) ≤ (↑x15 : Int) ∧
 (↑x15 : Int) < (↑(List.length (codL l)) : Int) ∧
 Int.toNat (↑x15 : Int) < List.length (codL l) ∧
 (decide (List.getD (List.getD (codL l) (Int.toNat (↑x15 : Int)) []) ((0 : Nat)) (0 : Int) > (0 : Int)) = true →
 ∃ (y16 : Nat),
 Nat.le y16 (List.length l) ∧
 Nat.sub (List.length l) y16 < Nat.sub (List.length l) x15 ∧
 (↑(List.length (codL l)) : Int) = (↑(List.length (codL l)) : Int) ∧
 IntKind.wrap IntKind.i64 ((↑x15 : Int) + (1 : Int)) = (↑y16 : Int) ∧
 (∀ (q17 : List Int),
 mget
 (([IntKind.wrap IntKind.u8 (↑x15 : Int)],
 [List.getD (List.getD (codL l) (Int.toNat (↑x15 : Int)) []) ((0 : Nat)) (0 : Int),
 List.getD (List.getD (codL l) (Int.toNat (↑x15 : Int)) []) ((1 : Nat)) (0 : Int)]) ::
 mC l x15)
 q17 =
 mget (mC l y16) q17) ∧
 (∀ (q18 : List Int),
 mget
 (([List.getD (List.getD (codL l) (Int.toNat (↑x15 : Int)) []) ((0 : Nat)) (0 : Int),
 List.getD (List.getD (codL l) (Int.toNat (↑x15 : Int)) []) ((1 : Nat)) (0 : Int)],
 [IntKind.wrap IntKind.u8 (↑x15 : Int)]) ::
 mB l x15)
 q18 =
 mget (mB l y16) q18) ∧
 codL l = codL l) ∧
 (decide (List.getD (List.getD (codL l) (Int.toNat (↑x15 : Int)) []) ((0 : Nat)) (0 : Int) > (0 : Int)) = false →
 ∃ (y19 : Nat),
 Nat.le y19 (List.length l) ∧
 Nat.sub (List.length l) y19 < Nat.sub (List.length l) x15 ∧
 (↑(List.length (codL l)) : Int) = (↑(List.length (codL l)) : Int) ∧
 IntKind.wrap IntKind.i64 ((↑x15 : Int) + (1 : Int)) = (↑y19 : Int) ∧
 (∀ (q20 : List Int), mget (mC l x15) q20 = mget (mC l y19) q20) ∧ (∀ (q21 : List Int), mget (mB l x15) q21 = mget (mB l y19) q21) ∧ codL l = codL l)) ∧
 (decide ((↑x15 : Int) < (↑(List.length (codL l)) : Int)) = false →
 (∀ (q22 : List Int), mget (mC l x15) q22 = mget (mC l (List.length l)) q22) ∧ ∀ (q23 : List Int), mget (mB l x15) q23 = mget (mB l (List.length l)) q23))
theorem tabsU_e (l : List Int) : tabsU_t l = vcG Try.prog (Gof GUa) (one (oTabs l)) Try.f48 [.dat (.ints .i64 l)] [] (.leaf ((.tu [.m 2000, .m 2001])) ([(2000, .mp (.one (.i .u8)) (.st [.i .i64, .i .i64]) (mC l l.length)), (2001, .mp (.st [.i .i64, .i .i64]) (.one (.i .u8)) (mB l l.length))])) := by kernel_rfl
def rrdU_t (l : List Int) (s : ByteArray) (n : Int) : Prop :=
 ByteArray.size s ≤ (4294967296 : Nat) ∧
 ((bkE s != (0 : Int)) = true → ByteArray.empty = rdS l s n ∧ (22 : Int) = rdE l s n) ∧
 ((bkE s != (0 : Int)) = false →
 (chk l = (0 : Int) →
 List.length l ≤ (4294967296 : Nat) ∧
 (∃ (x0 : RdS), (RdP l s n x0 ∧ x0.b = (0 : Int) ∧ x0.v = (0 : Int)) ∧ n = n ∧ bkS s = s ∧ bkR s = (↑x0.L : Int) ∧ codL l = codL l ∧ [] = x0.out) ∧
 ∀ (x1 : RdS),
 RdP l s n x1 ∧ x1.b = (0 : Int) ∧ x1.v = (0 : Int) →
 (decide ((↑(List.length x1.out) : Int) < n) = true →
 ∃ (g2 : Nat),
 (∃ (x3 : RdS × Int),
 (¬n ≤ (↑(List.length x3.fst.out) : Int) ∧
 x3.fst.L ≤ g2 ∧
 (x3.snd = (-1 : Int) ∧ RdP l s n x3.fst ∧ x3.fst.b ≤ (11 : Int) ∨
 (0 : Int) ≤ x3.snd ∧
 x3.snd < (↑(List.length l) : Int) ∧ x3.fst.L < g2 ∧ RdP l s n { L := x3.fst.L, b := (0 : Int), v := (0 : Int), out := x3.fst.out ++ [x3.snd] })) ∧
 n = n ∧ (0 : Int) = x3.fst.v ∧ (0 : Int) = x3.fst.b ∧ (-1 : Int) = x3.snd ∧ s = s ∧ (↑x1.L : Int) = (↑x3.fst.L : Int) ∧ codL l = codL l ∧ x1.out = x3.fst.out) ∧
 ∀ (x4 : RdS × Int),
 ¬n ≤ (↑(List.length x4.fst.out) : Int) ∧
 x4.fst.L ≤ g2 ∧
 (x4.snd = (-1 : Int) ∧ RdP l s n x4.fst ∧ x4.fst.b ≤ (11 : Int) ∨
 (0 : Int) ≤ x4.snd ∧
 x4.snd < (↑(List.length l) : Int) ∧ x4.fst.L < g2 ∧ RdP l s n { L := x4.fst.L, b := (0 : Int), v := (0 : Int), out := x4.fst.out ++ [x4.snd] }) →
 (decide (x4.snd < (0 : Int)) = true →
 ByteArray.size s ≤ (4294967296 : Nat) ∧
 ∃ (g5 : Nat × RdS),
 (((tkE s (↑x4.fst.L : Int) (1 : Int) != (0 : Int)) = true → ByteArray.empty = rdS l s n ∧ (22 : Int) = rdE l s n) ∧
 ((tkE s (↑x4.fst.L : Int) (1 : Int) != (0 : Int)) = false →
 ((x4.fst.b == (11 : Int)) = true → ByteArray.empty = rdS l s n ∧ (22 : Int) = rdE l s n) ∧
 ((x4.fst.b == (11 : Int)) = false →
 ∃ (x6 : Unit),
 (¬n ≤ (↑(List.length g5.snd.out) : Int) ∧
 g5.snd.L + (1 : Nat) ≤ g5.fst ∧
 RdP l s n { L := g5.snd.L + (1 : Nat), b := g5.snd.b, v := g5.snd.v, out := g5.snd.out } ∧ g5.snd.b < (11 : Int)) ∧
 n = n ∧
 x4.fst.v = g5.snd.v ∧
 x4.fst.b = g5.snd.b ∧
 x4.snd = (-1 : Int) ∧
 tkV s (↑x4.fst.L : Int) (1 : Int) = bkBit s (↑g5.snd.L : Int) ∧
 s = s ∧
 (↑x4.fst.L : Int) = (↑(g5.snd.L + (1 : Nat)) : Int) ∧
 codL l = codL l ∧
 x4.fst.out = g5.snd.out ∧ tkS s (↑x4.fst.L : Int) (1 : Int) = s ∧ tkL s (↑x4.fst.L : Int) (1 : Int) = (↑g5.snd.L : Int)))) ∧
 ∀ (x7 : Unit),
 ¬n ≤ (↑(List.length g5.snd.out) : Int) ∧
 g5.snd.L + (1 : Nat) ≤ g5.fst ∧ RdP l s n { L := g5.snd.L + (1 : Nat), b := g5.snd.b, v := g5.snd.v, out := g5.snd.out } ∧ g5.snd.b < (11 : Int) →
 ∃ (g8 : Nat × RdS),
 (∃ (x9 : Nat),
 (x9 ≤ List.length l ∧ BtP l s n g8.fst g8.snd) ∧
 n = n ∧
 IntKind.wrap IntKind.i64 (IntKind.wrap IntKind.i64 ((2 : Int) * g5.snd.v) + IntKind.wrap IntKind.i64 (bkBit s (↑g5.snd.L : Int))) = g8.snd.v ∧
 IntKind.wrap IntKind.i64 (g5.snd.b + (1 : Int)) = g8.snd.b ∧
 (-1 : Int) = fnd l g8.snd.b g8.snd.v x9 ∧
 (0 : Int) = (↑x9 : Int) ∧ s = s ∧ (↑g5.snd.L : Int) = (↑g8.snd.L : Int) ∧ codL l = codL l ∧ g5.snd.out = g8.snd.out) ∧
 ∀ (x10 : Nat),
 x10 ≤ List.length l ∧ BtP l s n g8.fst g8.snd →
 (decide ((↑x10 : Int) < (↑(List.length (codL l)) : Int)) = true →
 ∃ (g11 : Nat × RdS × Nat),
 ((0 : Int) ≤ (↑x10 : Int) ∧
 (↑x10 : Int) < (↑(List.length (codL l)) : Int) ∧
 Int.toNat (↑x10 : Int) < List.length (codL l) ∧
 ((List.getD (List.getD (codL l) (Int.toNat (↑x10 : Int)) []) (0 : Nat) (0 : Int) == g8.snd.b) = true →
 (0 : Int) ≤ (↑x10 : Int) ∧
 (↑x10 : Int) < (↑(List.length (codL l)) : Int) ∧
 Int.toNat (↑x10 : Int) < List.length (codL l) ∧
 ((List.getD (List.getD (codL l) (Int.toNat (↑x10 : Int)) []) (1 : Nat) (0 : Int) == g8.snd.v) = true →
 ∃ (x12 : Unit),
 (g11.snd.snd < List.length l ∧ BtP l s n g11.fst g11.snd.fst) ∧
 n = n ∧
 g8.snd.v = g11.snd.fst.v ∧
 g8.snd.b = g11.snd.fst.b ∧
 (↑x10 : Int) = fnd l g11.snd.fst.b g11.snd.fst.v (g11.snd.snd + (1 : Nat)) ∧
 (↑x10 : Int) = (↑g11.snd.snd : Int) ∧
 s = s ∧ (↑g8.snd.L : Int) = (↑g11.snd.fst.L : Int) ∧ codL l = codL l ∧ g8.snd.out = g11.snd.fst.out) ∧
 ((List.getD (List.getD (codL l) (Int.toNat (↑x10 : Int)) []) (1 : Nat) (0 : Int) == g8.snd.v) = false →
 ∃ (x13 : Unit),
 (g11.snd.snd < List.length l ∧ BtP l s n g11.fst g11.snd.fst) ∧
 n = n ∧
 g8.snd.v = g11.snd.fst.v ∧
 g8.snd.b = g11.snd.fst.b ∧
 fnd l g8.snd.b g8.snd.v x10 = fnd l g11.snd.fst.b g11.snd.fst.v (g11.snd.snd + (1 : Nat)) ∧
 (↑x10 : Int) = (↑g11.snd.snd : Int) ∧
 s = s ∧ (↑g8.snd.L : Int) = (↑g11.snd.fst.L : Int) ∧ codL l = codL l ∧ g8.snd.out = g11.snd.fst.out)) ∧
 ((List.getD (List.getD (codL l) (Int.toNat (↑x10 : Int)) []) (0 : Nat) (0 : Int) == g8.snd.b) = false →
 ∃ (x14 : Unit),
 (g11.snd.snd < List.length l ∧ BtP l s n g11.fst g11.snd.fst) ∧
 n = n ∧
 g8.snd.v = g11.snd.fst.v ∧
 g8.snd.b = g11.snd.fst.b ∧
 fnd l g8.snd.b g8.snd.v x10 = fnd l g11.snd.fst.b g11.snd.fst.v (g11.snd.snd + (1 : Nat)) ∧
 (↑x10 : Int) = (↑g11.snd.snd : Int) ∧
 s = s ∧ (↑g8.snd.L : Int) = (↑g11.snd.fst.L : Int) ∧ codL l = codL l ∧ g8.snd.out = g11.snd.fst.out)) ∧
 ∀ (x15 : Unit),
 g11.snd.snd < List.length l ∧ BtP l s n g11.fst g11.snd.fst →
 ∃ (y16 : Nat),
 (y16 ≤ List.length l ∧ BtP l s n g8.fst g8.snd) ∧
 Nat.sub (List.length l) y16 < Nat.sub (List.length l) x10 ∧
 n = n ∧
 g11.snd.fst.v = g8.snd.v ∧
 g11.snd.fst.b = g8.snd.b ∧
 fnd l g11.snd.fst.b g11.snd.fst.v (g11.snd.snd + (1 : Nat)) = fnd l g8.snd.b g8.snd.v y16 ∧
 IntKind.wrap IntKind.i64 ((↑g11.snd.snd : Int) + (1 : Int)) = (↑y16 : Int) ∧
 s = s ∧ (↑g11.snd.fst.L : Int) = (↑g8.snd.L : Int) ∧ codL l = codL l ∧ g11.snd.fst.out = g8.snd.out) ∧
 (decide ((↑x10 : Int) < (↑(List.length (codL l)) : Int)) = false →
 ∃ (y17 : RdS × Int),
 (¬n ≤ (↑(List.length y17.fst.out) : Int) ∧
 y17.fst.L ≤ g2 ∧
 (y17.snd = (-1 : Int) ∧ RdP l s n y17.fst ∧ y17.fst.b ≤ (11 : Int) ∨
 (0 : Int) ≤ y17.snd ∧
 y17.snd < (↑(List.length l) : Int) ∧
 y17.fst.L < g2 ∧ RdP l s n { L := y17.fst.L, b := (0 : Int), v := (0 : Int), out := y17.fst.out ++ [y17.snd] })) ∧
 y17.fst.1 < x4.fst.1 ∧
 n = n ∧
 g8.snd.v = y17.fst.v ∧
 g8.snd.b = y17.fst.b ∧
 fnd l g8.snd.b g8.snd.v x10 = y17.snd ∧
 s = s ∧ (↑g8.snd.L : Int) = (↑y17.fst.L : Int) ∧ codL l = codL l ∧ g8.snd.out = y17.fst.out)) ∧
 (decide (x4.snd < (0 : Int)) = false →
 (List.length x4.fst.out + (1 : Nat)) * (1 : Nat) ≤ (140737488355328 : Nat) ∧
 ∃ (y18 : RdS),
 (RdP l s n y18 ∧ y18.b = (0 : Int) ∧ y18.v = (0 : Int)) ∧
 y18.1 < x1.1 ∧ n = n ∧ s = s ∧ (↑x4.fst.L : Int) = (↑y18.L : Int) ∧ codL l = codL l ∧ x4.fst.out ++ [IntKind.wrap IntKind.u8 x4.snd] = y18.out)) ∧
 (decide ((↑(List.length x1.out) : Int) < n) = false →
 ByteArray.size s ≤ (4294967296 : Nat) ∧
 ((tkE s (↑x1.L : Int) (1 : Int) == (0 : Int)) = true → ByteArray.empty = rdS l s n ∧ (22 : Int) = rdE l s n) ∧
 ((tkE s (↑x1.L : Int) (1 : Int) == (0 : Int)) = false → strOfNums x1.out = rdS l s n ∧ (0 : Int) = rdE l s n))) ∧
 (¬chk l = (0 : Int) →
 List.length l ≤ (4294967296 : Nat) ∧
 (∃ (x19 : RdS), (RdP l s n x19 ∧ x19.b = (0 : Int) ∧ x19.v = (0 : Int)) ∧ n = n ∧ bkS s = s ∧ bkR s = (↑x19.L : Int) ∧ List.length (codL l) = (0 : Nat) ∧ [] = x19.out) ∧
 ∀ (x20 : RdS),
 RdP l s n x20 ∧ x20.b = (0 : Int) ∧ x20.v = (0 : Int) →
 (decide ((↑(List.length x20.out) : Int) < n) = true →
 ∃ (g21 : Nat),
 (∃ (x22 : RdS × Int),
 (¬n ≤ (↑(List.length x22.fst.out) : Int) ∧
 x22.fst.L ≤ g21 ∧
 (x22.snd = (-1 : Int) ∧ RdP l s n x22.fst ∧ x22.fst.b ≤ (11 : Int) ∨
 (0 : Int) ≤ x22.snd ∧
 x22.snd < (↑(List.length l) : Int) ∧ x22.fst.L < g21 ∧ RdP l s n { L := x22.fst.L, b := (0 : Int), v := (0 : Int), out := x22.fst.out ++ [x22.snd] })) ∧
 n = n ∧ (0 : Int) = x22.fst.v ∧ (0 : Int) = x22.fst.b ∧ (-1 : Int) = x22.snd ∧ s = s ∧ (↑x20.L : Int) = (↑x22.fst.L : Int) ∧ codL l = codL l ∧ x20.out = x22.fst.out) ∧
 ∀ (x23 : RdS × Int),
 ¬n ≤ (↑(List.length x23.fst.out) : Int) ∧
 x23.fst.L ≤ g21 ∧
 (x23.snd = (-1 : Int) ∧ RdP l s n x23.fst ∧ x23.fst.b ≤ (11 : Int) ∨
 (0 : Int) ≤ x23.snd ∧
 x23.snd < (↑(List.length l) : Int) ∧ x23.fst.L < g21 ∧ RdP l s n { L := x23.fst.L, b := (0 : Int), v := (0 : Int), out := x23.fst.out ++ [x23.snd] }) →
 (decide (x23.snd < (0 : Int)) = true →
 ByteArray.size s ≤ (4294967296 : Nat) ∧
 ∃ (g24 : Nat × RdS),
 (((tkE s (↑x23.fst.L : Int) (1 : Int) != (0 : Int)) = true → ByteArray.empty = rdS l s n ∧ (22 : Int) = rdE l s n) ∧
 ((tkE s (↑x23.fst.L : Int) (1 : Int) != (0 : Int)) = false →
 ((x23.fst.b == (11 : Int)) = true → ByteArray.empty = rdS l s n ∧ (22 : Int) = rdE l s n) ∧
 ((x23.fst.b == (11 : Int)) = false →
 ∃ (x25 : Unit),
 (¬n ≤ (↑(List.length g24.snd.out) : Int) ∧
 g24.snd.L + (1 : Nat) ≤ g24.fst ∧
 RdP l s n { L := g24.snd.L + (1 : Nat), b := g24.snd.b, v := g24.snd.v, out := g24.snd.out } ∧ g24.snd.b < (11 : Int)) ∧
 n = n ∧
 x23.fst.v = g24.snd.v ∧
 x23.fst.b = g24.snd.b ∧
 x23.snd = (-1 : Int) ∧
 tkV s (↑x23.fst.L : Int) (1 : Int) = bkBit s (↑g24.snd.L : Int) ∧
 s = s ∧
 (↑x23.fst.L : Int) = (↑(g24.snd.L + (1 : Nat)) : Int) ∧
 codL l = codL l ∧
 x23.fst.out = g24.snd.out ∧ tkS s (↑x23.fst.L : Int) (1 : Int) = s ∧ tkL s (↑x23.fst.L : Int) (1 : Int) = (↑g24.snd.L : Int)))) ∧
 ∀ (x26 : Unit),
 ¬n ≤ (↑(List.length g24.snd.out) : Int) ∧
 g24.snd.L + (1 : Nat) ≤ g24.fst ∧ RdP l s n { L := g24.snd.L + (1 : Nat), b := g24.snd.b, v := g24.snd.v, out := g24.snd.out } ∧ g24.snd.b < (11 : Int) →
 ∃ (g27 : Nat × RdS),
 (∃ (x28 : Nat),
 (x28 ≤ List.length l ∧ BtP l s n g27.fst g27.snd) ∧
 n = n ∧
 IntKind.wrap IntKind.i64 (IntKind.wrap IntKind.i64 ((2 : Int) * g24.snd.v) + IntKind.wrap IntKind.i64 (bkBit s (↑g24.snd.L : Int))) = g27.snd.v ∧
 IntKind.wrap IntKind.i64 (g24.snd.b + (1 : Int)) = g27.snd.b ∧
 (-1 : Int) = fnd l g27.snd.b g27.snd.v x28 ∧
 (0 : Int) = (↑x28 : Int) ∧ s = s ∧ (↑g24.snd.L : Int) = (↑g27.snd.L : Int) ∧ codL l = codL l ∧ g24.snd.out = g27.snd.out) ∧
 ∀ (x29 : Nat),
 x29 ≤ List.length l ∧ BtP l s n g27.fst g27.snd →
 (decide ((↑x29 : Int) < (↑(List.length (codL l)) : Int)) = true →
 ∃ (g30 : Nat × RdS × Nat),
 ((0 : Int) ≤ (↑x29 : Int) ∧
 (↑x29 : Int) < (↑(List.length (codL l)) : Int) ∧
 Int.toNat (↑x29 : Int) < List.length (codL l) ∧
 ((List.getD (List.getD (codL l) (Int.toNat (↑x29 : Int)) []) (0 : Nat) (0 : Int) == g27.snd.b) = true →
 (0 : Int) ≤ (↑x29 : Int) ∧
 (↑x29 : Int) < (↑(List.length (codL l)) : Int) ∧
 Int.toNat (↑x29 : Int) < List.length (codL l) ∧
 ((List.getD (List.getD (codL l) (Int.toNat (↑x29 : Int)) []) (1 : Nat) (0 : Int) == g27.snd.v) = true →
 ∃ (x31 : Unit),
 (g30.snd.snd < List.length l ∧ BtP l s n g30.fst g30.snd.fst) ∧
 n = n ∧
 g27.snd.v = g30.snd.fst.v ∧
 g27.snd.b = g30.snd.fst.b ∧
 (↑x29 : Int) = fnd l g30.snd.fst.b g30.snd.fst.v (g30.snd.snd + (1 : Nat)) ∧
 (↑x29 : Int) = (↑g30.snd.snd : Int) ∧
 s = s ∧ (↑g27.snd.L : Int) = (↑g30.snd.fst.L : Int) ∧ codL l = codL l ∧ g27.snd.out = g30.snd.fst.out) ∧
 ((List.getD (List.getD (codL l) (Int.toNat (↑x29 : Int)) []) (1 : Nat) (0 : Int) == g27.snd.v) = false →
 ∃ (x32 : Unit),
 (g30.snd.snd < List.length l ∧ BtP l s n g30.fst g30.snd.fst) ∧
 n = n ∧
 g27.snd.v = g30.snd.fst.v ∧
 g27.snd.b = g30.snd.fst.b ∧
 fnd l g27.snd.b g27.snd.v x29 = fnd l g30.snd.fst.b g30.snd.fst.v (g30.snd.snd + (1 : Nat)) ∧
 (↑x29 : Int) = (↑g30.snd.snd : Int) ∧
 s = s ∧ (↑g27.snd.L : Int) = (↑g30.snd.fst.L : Int) ∧ codL l = codL l ∧ g27.snd.out = g30.snd.fst.out)) ∧
 ((List.getD (List.getD (codL l) (Int.toNat (↑x29 : Int)) []) (0 : Nat) (0 : Int) == g27.snd.b) = false →
 ∃ (x33 : Unit),
 (g30.snd.snd < List.length l ∧ BtP l s n g30.fst g30.snd.fst) ∧
 n = n ∧
 g27.snd.v = g30.snd.fst.v ∧
 g27.snd.b = g30.snd.fst.b ∧
 fnd l g27.snd.b g27.snd.v x29 = fnd l g30.snd.fst.b g30.snd.fst.v (g30.snd.snd + (1 : Nat)) ∧
 (↑x29 : Int) = (↑g30.snd.snd : Int) ∧
 s = s ∧ (↑g27.snd.L : Int) = (↑g30.snd.fst.L : Int) ∧ codL l = codL l ∧ g27.snd.out = g30.snd.fst.out)) ∧
 ∀ (x34 : Unit),
 g30.snd.snd < List.length l ∧ BtP l s n g30.fst g30.snd.fst →
 ∃ (y35 : Nat),
 (y35 ≤ List.length l ∧ BtP l s n g27.fst g27.snd) ∧
 Nat.sub (List.length l) y35 < Nat.sub (List.length l) x29 ∧
 n = n ∧
 g30.snd.fst.v = g27.snd.v ∧
 g30.snd.fst.b = g27.snd.b ∧
 fnd l g30.snd.fst.b g30.snd.fst.v (g30.snd.snd + (1 : Nat)) = fnd l g27.snd.b g27.snd.v y35 ∧
 IntKind.wrap IntKind.i64 ((↑g30.snd.snd : Int) + (1 : Int)) = (↑y35 : Int) ∧
 s = s ∧ (↑g30.snd.fst.L : Int) = (↑g27.snd.L : Int) ∧ codL l = codL l ∧ g30.snd.fst.out = g27.snd.out) ∧
 (decide ((↑x29 : Int) < (↑(List.length (codL l)) : Int)) = false →
 ∃ (y36 : RdS × Int),
 (¬n ≤ (↑(List.length y36.fst.out) : Int) ∧
 y36.fst.L ≤ g21 ∧
 (y36.snd = (-1 : Int) ∧ RdP l s n y36.fst ∧ y36.fst.b ≤ (11 : Int) ∨
 (0 : Int) ≤ y36.snd ∧
 y36.snd < (↑(List.length l) : Int) ∧
 y36.fst.L < g21 ∧ RdP l s n { L := y36.fst.L, b := (0 : Int), v := (0 : Int), out := y36.fst.out ++ [y36.snd] })) ∧
 y36.fst.1 < x23.fst.1 ∧
 n = n ∧
 g27.snd.v = y36.fst.v ∧
 g27.snd.b = y36.fst.b ∧
 fnd l g27.snd.b g27.snd.v x29 = y36.snd ∧
 s = s ∧ (↑g27.snd.L : Int) = (↑y36.fst.L : Int) ∧ codL l = codL l ∧ g27.snd.out = y36.fst.out)) ∧
 (decide (x23.snd < (0 : Int)) = false →
 (List.length x23.fst.out + (1 : Nat)) * (1 : Nat) ≤ (140737488355328 : Nat) ∧
 ∃ (y37 : RdS),
 (RdP l s n y37 ∧ y37.b = (0 : Int) ∧ y37.v = (0 : Int)) ∧
 y37.1 < x20.1 ∧ n = n ∧ s = s ∧ (↑x23.fst.L : Int) = (↑y37.L : Int) ∧ codL l = codL l ∧ x23.fst.out ++ [IntKind.wrap IntKind.u8 x23.snd] = y37.out)) ∧
 (decide ((↑(List.length x20.out) : Int) < n) = false →
 ByteArray.size s ≤ (4294967296 : Nat) ∧
 ((tkE s (↑x20.L : Int) (1 : Int) == (0 : Int)) = true → ByteArray.empty = rdS l s n ∧ (22 : Int) = rdE l s n) ∧
 ((tkE s (↑x20.L : Int) (1 : Int) == (0 : Int)) = false → strOfNums x20.out = rdS l s n ∧ (0 : Int) = rdE l s n))))
theorem rrdU_e (l : List Int) (s : ByteArray) (n : Int) : rrdU_t l s n = vcG Try.prog (Gof GUa) (oRrd l s n) Try.f32 [.dat (.ints .i64 l), .v (.string s), .v (.int .i64 n)] [] (.leaf ((.tu [.v (.string (rdS l s n)), .v (.int .i64 (rdE l s n))])) ([])) := by kernel_rfl
def txU_t (l : List Int) (s : ByteArray) : Prop :=
 List.length l ≤ (4294967296 : Nat) ∧
 ((lchk l != (0 : Int)) = true → lchk l = txE l s) ∧
 ((lchk l != (0 : Int)) = false →
 (decide ((↑(ByteArray.size s) : Int) > (131072 : Int)) = true → (4 : Int) = txE l s) ∧
 (decide ((↑(ByteArray.size s) : Int) > (131072 : Int)) = false →
 ByteArray.size s ≤ (9223372036854775807 : Nat) ∧
 (∃ (x0 : Nat),
 (x0 ≤ ByteArray.size s ∧
 lchk l = (0 : Int) ∧ ByteArray.size s ≤ (131072 : Nat) ∧ List.any (List.take x0 (List.map (fun (b : UInt8) => (↑(UInt8.toNat b) : Int)) s.data.toList)) (noC l) = false) ∧
 l = l ∧
 (↑(List.length (List.map (fun (b : UInt8) => (↑(UInt8.toNat b) : Int)) s.data.toList)) : Int) =
 (↑(List.length (List.map (fun (b : UInt8) => (↑(UInt8.toNat b) : Int)) s.data.toList)) : Int) ∧
 (0 : Int) = (↑x0 : Int) ∧ List.map (fun (b : UInt8) => (↑(UInt8.toNat b) : Int)) s.data.toList = List.map (fun (b : UInt8) => (↑(UInt8.toNat b) : Int)) s.data.toList) ∧
 ∀ (x1 : Nat),
 x1 ≤ ByteArray.size s ∧
 lchk l = (0 : Int) ∧ ByteArray.size s ≤ (131072 : Nat) ∧ List.any (List.take x1 (List.map (fun (b : UInt8) => (↑(UInt8.toNat b) : Int)) s.data.toList)) (noC l) = false →
 (decide ((↑x1 : Int) < (↑(List.length (List.map (fun (b : UInt8) => (↑(UInt8.toNat b) : Int)) s.data.toList)) : Int)) = true →
 (0 : Int) ≤ (↑x1 : Int) ∧
 (↑x1 : Int) < (↑(List.length (List.map (fun (b : UInt8) => (↑(UInt8.toNat b) : Int)) s.data.toList)) : Int) ∧
 Int.toNat (↑x1 : Int) < List.length (List.map (fun (b : UInt8) => (↑(UInt8.toNat b) : Int)) s.data.toList) ∧
 (decide
 (IntKind.wrap IntKind.i64 (List.getD (List.map (fun (b : UInt8) => (↑(UInt8.toNat b) : Int)) s.data.toList) (Int.toNat (↑x1 : Int)) (0 : Int)) ≥
 (↑(List.length l) : Int)) =
 true →
 (7 : Int) = txE l s) ∧
 (decide
 (IntKind.wrap IntKind.i64 (List.getD (List.map (fun (b : UInt8) => (↑(UInt8.toNat b) : Int)) s.data.toList) (Int.toNat (↑x1 : Int)) (0 : Int)) ≥
 (↑(List.length l) : Int)) =
 false →
 (0 : Int) ≤ List.getD (List.map (fun (b : UInt8) => (↑(UInt8.toNat b) : Int)) s.data.toList) (Int.toNat (↑x1 : Int)) (0 : Int) ∧
 List.getD (List.map (fun (b : UInt8) => (↑(UInt8.toNat b) : Int)) s.data.toList) (Int.toNat (↑x1 : Int)) (0 : Int) < (↑(List.length l) : Int) ∧
 ((List.getD l (Int.toNat (List.getD (List.map (fun (b : UInt8) => (↑(UInt8.toNat b) : Int)) s.data.toList) (Int.toNat (↑x1 : Int)) (0 : Int))) (0 : Int) ==
 (0 : Int)) =
 true →
 (7 : Int) = txE l s) ∧
 ((List.getD l (Int.toNat (List.getD (List.map (fun (b : UInt8) => (↑(UInt8.toNat b) : Int)) s.data.toList) (Int.toNat (↑x1 : Int)) (0 : Int))) (0 : Int) ==
 (0 : Int)) =
 false →
 ∃ (y2 : Nat),
 (y2 ≤ ByteArray.size s ∧
 lchk l = (0 : Int) ∧
 ByteArray.size s ≤ (131072 : Nat) ∧ List.any (List.take y2 (List.map (fun (b : UInt8) => (↑(UInt8.toNat b) : Int)) s.data.toList)) (noC l) = false) ∧
 Nat.sub (ByteArray.size s) y2 < Nat.sub (ByteArray.size s) x1 ∧
 l = l ∧
 (↑(List.length (List.map (fun (b : UInt8) => (↑(UInt8.toNat b) : Int)) s.data.toList)) : Int) =
 (↑(List.length (List.map (fun (b : UInt8) => (↑(UInt8.toNat b) : Int)) s.data.toList)) : Int) ∧
 IntKind.wrap IntKind.i64 ((↑x1 : Int) + (1 : Int)) = (↑y2 : Int) ∧
 List.map (fun (b : UInt8) => (↑(UInt8.toNat b) : Int)) s.data.toList = List.map (fun (b : UInt8) => (↑(UInt8.toNat b) : Int)) s.data.toList))) ∧
 (decide ((↑x1 : Int) < (↑(List.length (List.map (fun (b : UInt8) => (↑(UInt8.toNat b) : Int)) s.data.toList)) : Int)) = false → (0 : Int) = txE l s)))
theorem txU_e (l : List Int) (s : ByteArray) : txU_t l s = vcG Try.prog (Gof GUb) (one (oTx l s)) Try.f37 [.dat (.ints .i64 l), .v (.string s)] [] (.leaf ((.v (.int .i64 (txE l s)))) ([])) := by kernel_rfl
def nuU_t (l : List Int) (n : Int) : Prop :=
 List.length l ≤ (4294967296 : Nat) ∧
 ((lchk l == (0 : Int)) = true →
 (decide (n < (0 : Int)) = true → (2 : Int) = nuE l n) ∧
 (decide (n < (0 : Int)) = false → (decide (n > (131072 : Int)) = true → (2 : Int) = nuE l n) ∧ (decide (n > (131072 : Int)) = false → lchk l = nuE l n))) ∧
 ((lchk l == (0 : Int)) = false → lchk l = nuE l n)
theorem nuU_e (l : List Int) (n : Int) : nuU_t l n = vcG Try.prog (Gof GUb) (fun _ => none) Try.f29 [.dat (.ints .i64 l), .v (.int .i64 n)] [] (.leaf ((.v (.int .i64 (nuE l n)))) ([])) := by kernel_rfl
def rnuU_t (l : List Int) (n : Int) : Prop :=
 List.length l ≤ (4294967296 : Nat) ∧
 ((lchk l == (0 : Int)) = true →
 (decide (n < (0 : Int)) = true → (2 : Int) = nuE l n) ∧
 (decide (n < (0 : Int)) = false → (decide (n > (131072 : Int)) = true → (2 : Int) = nuE l n) ∧ (decide (n > (131072 : Int)) = false → lchk l = nuE l n))) ∧
 ((lchk l == (0 : Int)) = false → lchk l = nuE l n)
theorem rnuU_e (l : List Int) (n : Int) : rnuU_t l n = vcG Try.prog (Gof GUb) (fun _ => none) Try.f31 [.dat (.ints .i64 l), .v (.int .i64 n)] [] (.leaf ((.v (.int .i64 (nuE l n)))) ([])) := by kernel_rfl
def wrU_t (l : List Int) (s : ByteArray) : Prop :=
 chk l = (0 : Int) ∧
 ByteArray.size s ≤ (9223372036854775807 : Nat) ∧
 List.length (List.map (fun (b : UInt8) => (↑(UInt8.toNat b) : Int)) s.data.toList) ≤ (4294967296 : Nat) ∧
 ∃ (y0 : Nat),
 (ISatE Try.prog ((77 : Nat)) [SV.p (400016 : Nat) (0 : Nat) (0 : Nat)]
 [((400016 : Nat), SBlk.cells (46 : TypeId) [SV.o (400008 : Nat)]),
 ((400008 : Nat), SBlk.row (5 : TypeId) (Dat.ints IntKind.u8 (List.map (fun (b : UInt8) => (↑(UInt8.toNat b) : Int)) s.data.toList)))]
 (List.map
 (fun (k : Nat) =>
 [Value.int IntKind.i64 (↑(nthI (List.map (fun (b : UInt8) => (↑(UInt8.toNat b) : Int)) s.data.toList) k) : Int),
 Value.int IntKind.u8 (nthS (List.map (fun (b : UInt8) => (↑(UInt8.toNat b) : Int)) s.data.toList) k)])
 (List.range (List.length (List.map (fun (b : UInt8) => (↑(UInt8.toNat b) : Int)) s.data.toList))))
 fun (x : Nat) => []) ∧
 List.map (fun (b : UInt8) => (↑(UInt8.toNat b) : Int)) s.data.toList = List.map (fun (b : UInt8) => (↑(UInt8.toNat b) : Int)) s.data.toList ∧
 True ∧
 (ByteArray.empty = hwS l s (0 : Nat) ∧
 (0 : Int) = hwP l s (0 : Nat) ∧ (0 : Int) = hwN l s (0 : Nat) ∧ ∀ (q1 : List Int), mget (mC l (List.length l)) q1 = mget (mC l (List.length l)) q1) ∧
 (∀ (i2 : Nat),
 i2 <
 List.length
 (List.map
 (fun (k : Nat) =>
 [Value.int IntKind.i64 (↑(nthI (List.map (fun (b : UInt8) => (↑(UInt8.toNat b) : Int)) s.data.toList) k) : Int),
 Value.int IntKind.u8 (nthS (List.map (fun (b : UInt8) => (↑(UInt8.toNat b) : Int)) s.data.toList) k)])
 (List.range (List.length (List.map (fun (b : UInt8) => (↑(UInt8.toNat b) : Int)) s.data.toList)))) →
 True →
 (List.map
 (fun (k : Nat) =>
 [Value.int IntKind.i64 (↑(nthI (List.map (fun (b : UInt8) => (↑(UInt8.toNat b) : Int)) s.data.toList) k) : Int),
 Value.int IntKind.u8 (nthS (List.map (fun (b : UInt8) => (↑(UInt8.toNat b) : Int)) s.data.toList) k)])
 (List.range (List.length (List.map (fun (b : UInt8) => (↑(UInt8.toNat b) : Int)) s.data.toList))))[i2]? =
 some [Value.int IntKind.i64 (↑(nthI (List.map (fun (b : UInt8) => (↑(UInt8.toNat b) : Int)) s.data.toList) i2) : Int), Value.int IntKind.u8 (byK s i2)] ∧
 List.length [Value.int IntKind.i64 (↑(nthI (List.map (fun (b : UInt8) => (↑(UInt8.toNat b) : Int)) s.data.toList) i2) : Int), Value.int IntKind.u8 (byK s i2)] =
 List.length #[(20 : Nat), (21 : Nat)].toList ∧
 (0 : Int) ≤ hwN l s i2 ∧
 hwN l s i2 ≤ (7 : Int) ∧
 (0 : Int) ≤ hwP l s i2 ∧
 hwP l s i2 < (2 : Int) ^ Int.toNat (hwN l s i2) ∧
 (0 : Int) ≤ List.headD (mval ((2 : Nat)) (mC l (List.length l)) [byK s i2]) (0 : Int) ∧
 List.headD (mval ((2 : Nat)) (mC l (List.length l)) [byK s i2]) (0 : Int) ≤ (32 : Int) ∧
 (0 : Int) ≤ IntKind.wrap IntKind.u64 (List.headD (List.tail (mval ((2 : Nat)) (mC l (List.length l)) [byK s i2])) (0 : Int)) ∧
 IntKind.wrap IntKind.u64 (List.headD (List.tail (mval ((2 : Nat)) (mC l (List.length l)) [byK s i2])) (0 : Int)) <
 (2 : Int) ^ Int.toNat (List.headD (mval ((2 : Nat)) (mC l (List.length l)) [byK s i2]) (0 : Int)) ∧
 ByteArray.size (hwS l s i2) ≤ (1000000 : Nat) ∧
 True ∧
 wS (hwS l s i2) (hwP l s i2) (hwN l s i2) (List.headD (mval ((2 : Nat)) (mC l (List.length l)) [byK s i2]) (0 : Int))
 (IntKind.wrap IntKind.u64 (List.headD (List.tail (mval ((2 : Nat)) (mC l (List.length l)) [byK s i2])) (0 : Int))) =
 hwS l s (i2 + (1 : Nat)) ∧
 wP (hwP l s i2) (hwN l s i2) (List.headD (mval ((2 : Nat)) (mC l (List.length l)) [byK s i2]) (0 : Int))
 (IntKind.wrap IntKind.u64 (List.headD (List.tail (mval ((2 : Nat)) (mC l (List.length l)) [byK s i2])) (0 : Int))) =
 hwP l s (i2 + (1 : Nat)) ∧
 wN (hwN l s i2) (List.headD (mval ((2 : Nat)) (mC l (List.length l)) [byK s i2]) (0 : Int)) = hwN l s (i2 + (1 : Nat)) ∧
 ∀ (q3 : List Int), mget (mC l (List.length l)) q3 = mget (mC l (List.length l)) q3) ∧
 (True →
 (0 : Int) ≤
 hwN l s
 (List.length
 (List.map
 (fun (k : Nat) =>
 [Value.int IntKind.i64 (↑(nthI (List.map (fun (b : UInt8) => (↑(UInt8.toNat b) : Int)) s.data.toList) k) : Int),
 Value.int IntKind.u8 (nthS (List.map (fun (b : UInt8) => (↑(UInt8.toNat b) : Int)) s.data.toList) k)])
 (List.range (List.length (List.map (fun (b : UInt8) => (↑(UInt8.toNat b) : Int)) s.data.toList))))) ∧
 hwN l s
 (List.length
 (List.map
 (fun (k : Nat) =>
 [Value.int IntKind.i64 (↑(nthI (List.map (fun (b : UInt8) => (↑(UInt8.toNat b) : Int)) s.data.toList) k) : Int),
 Value.int IntKind.u8 (nthS (List.map (fun (b : UInt8) => (↑(UInt8.toNat b) : Int)) s.data.toList) k)])
 (List.range (List.length (List.map (fun (b : UInt8) => (↑(UInt8.toNat b) : Int)) s.data.toList))))) ≤
 (7 : Int) ∧
 (0 : Int) ≤
 hwP l s
 (List.length
 (List.map
 (fun (k : Nat) =>
 [Value.int IntKind.i64 (↑(nthI (List.map (fun (b : UInt8) => (↑(UInt8.toNat b) : Int)) s.data.toList) k) : Int),
 Value.int IntKind.u8 (nthS (List.map (fun (b : UInt8) => (↑(UInt8.toNat b) : Int)) s.data.toList) k)])
 (List.range (List.length (List.map (fun (b : UInt8) => (↑(UInt8.toNat b) : Int)) s.data.toList))))) ∧
 hwP l s
 (List.length
 (List.map
 (fun (k : Nat) =>
 [Value.int IntKind.i64 (↑(nthI (List.map (fun (b : UInt8) => (↑(UInt8.toNat b) : Int)) s.data.toList) k) : Int),
 Value.int IntKind.u8 (nthS (List.map (fun (b : UInt8) => (↑(UInt8.toNat b) : Int)) s.data.toList) k)])
 (List.range (List.length (List.map (fun (b : UInt8) => (↑(UInt8.toNat b) : Int)) s.data.toList))))) <
 (2 : Int) ^
 Int.toNat
 (hwN l s
 (List.length
 (List.map
 (fun (k : Nat) =>
 [Value.int IntKind.i64 (↑(nthI (List.map (fun (b : UInt8) => (↑(UInt8.toNat b) : Int)) s.data.toList) k) : Int),
 Value.int IntKind.u8 (nthS (List.map (fun (b : UInt8) => (↑(UInt8.toNat b) : Int)) s.data.toList) k)])
 (List.range (List.length (List.map (fun (b : UInt8) => (↑(UInt8.toNat b) : Int)) s.data.toList)))))) ∧
 ByteArray.size
 (hwS l s
 (List.length
 (List.map
 (fun (k : Nat) =>
 [Value.int IntKind.i64 (↑(nthI (List.map (fun (b : UInt8) => (↑(UInt8.toNat b) : Int)) s.data.toList) k) : Int),
 Value.int IntKind.u8 (nthS (List.map (fun (b : UInt8) => (↑(UInt8.toNat b) : Int)) s.data.toList) k)])
 (List.range (List.length (List.map (fun (b : UInt8) => (↑(UInt8.toNat b) : Int)) s.data.toList)))))) ≤
 (1000000 : Nat) ∧
 dS
 (hwS l s
 (List.length
 (List.map
 (fun (k : Nat) =>
 [Value.int IntKind.i64 (↑(nthI (List.map (fun (b : UInt8) => (↑(UInt8.toNat b) : Int)) s.data.toList) k) : Int),
 Value.int IntKind.u8 (nthS (List.map (fun (b : UInt8) => (↑(UInt8.toNat b) : Int)) s.data.toList) k)])
 (List.range (List.length (List.map (fun (b : UInt8) => (↑(UInt8.toNat b) : Int)) s.data.toList))))))
 (hwP l s
 (List.length
 (List.map
 (fun (k : Nat) =>
 [Value.int IntKind.i64 (↑(nthI (List.map (fun (b : UInt8) => (↑(UInt8.toNat b) : Int)) s.data.toList) k) : Int),
 Value.int IntKind.u8 (nthS (List.map (fun (b : UInt8) => (↑(UInt8.toNat b) : Int)) s.data.toList) k)])
 (List.range (List.length (List.map (fun (b : UInt8) => (↑(UInt8.toNat b) : Int)) s.data.toList))))))
 (hwN l s
 (List.length
 (List.map
 (fun (k : Nat) =>
 [Value.int IntKind.i64 (↑(nthI (List.map (fun (b : UInt8) => (↑(UInt8.toNat b) : Int)) s.data.toList) k) : Int),
 Value.int IntKind.u8 (nthS (List.map (fun (b : UInt8) => (↑(UInt8.toNat b) : Int)) s.data.toList) k)])
 (List.range (List.length (List.map (fun (b : UInt8) => (↑(UInt8.toNat b) : Int)) s.data.toList)))))) =
 wrH l s)
theorem wrU_e (l : List Int) (s : ByteArray) : wrU_t l s = vcG Try.prog (Gof GUb) (oWrH l s) Try.f38 [.dat (.ints .i64 l), .v (.string s)] [] (.leaf ((.v (.string (wrH l s)))) ([])) := by kernel_rfl
def rdU_t (l : List Int) (s : ByteArray) (n : Int) : Prop :=
 ByteArray.size s ≤ (4294967296 : Nat) ∧
 ((bkE s != (0 : Int)) = true → ByteArray.empty = rdS l s n ∧ (22 : Int) = rdE l s n) ∧
 ((bkE s != (0 : Int)) = false →
 chk l = (0 : Int) ∧
 (0 : Int) ≤ (0 : Int) ∧
 (0 : Int) ≤ n ∧
 (↑((1 : Nat)) : Int) * n ≤ (281474976710656 : Int) ∧
 n ≤ (9223372036854775807 : Int) ∧
 (∃ (x0 : RdS),
 RdP l s n x0 ∧
 n = n ∧
 bkS s = s ∧
 bkR s = (↑x0.L : Int) ∧
 (∀ (q1 : List Int), mget (mB l (List.length l)) q1 = mget (mB l (List.length l)) q1) ∧
 List.replicate (Int.toNat (0 : Int)) (0 : Int) = x0.out ∧ (0 : Int) = x0.b ∧ (0 : Int) = x0.v) ∧
 ∀ (x2 : RdS),
 RdP l s n x2 →
 (decide ((↑(List.length x2.out) : Int) < n) = true →
 ByteArray.size s ≤ (4294967296 : Nat) ∧
 ((tkE s (↑x2.L : Int) (1 : Int) != (0 : Int)) = true → ByteArray.empty = rdS l s n ∧ (22 : Int) = rdE l s n) ∧
 ((tkE s (↑x2.L : Int) (1 : Int) != (0 : Int)) = false →
 (0 : Int) ≤ (1 : Int) ∧
 ((!mhas (mB l (List.length l))
 [IntKind.wrap IntKind.i64 (x2.b + (1 : Int)),
 bits BinOp.or IntKind.i64 (IntKind.wrap IntKind.i64 (x2.v * (2 : Int) ^ min (Int.toNat (1 : Int)) (IntKind.bits IntKind.i64)))
 (IntKind.wrap IntKind.i64 (tkV s (↑x2.L : Int) (1 : Int)))]) =
 true →
 ∃ (y3 : RdS),
 RdP l s n y3 ∧
 y3.1 < x2.1 ∧
 n = n ∧
 tkS s (↑x2.L : Int) (1 : Int) = s ∧
 tkL s (↑x2.L : Int) (1 : Int) = (↑y3.L : Int) ∧
 (∀ (q4 : List Int), mget (mB l (List.length l)) q4 = mget (mB l (List.length l)) q4) ∧
 x2.out = y3.out ∧
 IntKind.wrap IntKind.i64 (x2.b + (1 : Int)) = y3.b ∧
 bits BinOp.or IntKind.i64 (IntKind.wrap IntKind.i64 (x2.v * (2 : Int) ^ min (Int.toNat (1 : Int)) (IntKind.bits IntKind.i64)))
 (IntKind.wrap IntKind.i64 (tkV s (↑x2.L : Int) (1 : Int))) =
 y3.v) ∧
 ((!mhas (mB l (List.length l))
 [IntKind.wrap IntKind.i64 (x2.b + (1 : Int)),
 bits BinOp.or IntKind.i64 (IntKind.wrap IntKind.i64 (x2.v * (2 : Int) ^ min (Int.toNat (1 : Int)) (IntKind.bits IntKind.i64)))
 (IntKind.wrap IntKind.i64 (tkV s (↑x2.L : Int) (1 : Int)))]) =
 false →
 (List.length x2.out + (1 : Nat)) * (1 : Nat) ≤ (140737488355328 : Nat) ∧
 ∃ (y5 : RdS),
 RdP l s n y5 ∧
 y5.1 < x2.1 ∧
 n = n ∧
 tkS s (↑x2.L : Int) (1 : Int) = s ∧
 tkL s (↑x2.L : Int) (1 : Int) = (↑y5.L : Int) ∧
 (∀ (q6 : List Int), mget (mB l (List.length l)) q6 = mget (mB l (List.length l)) q6) ∧
 x2.out ++
 [List.headD
 (mval ((1 : Nat)) (mB l (List.length l))
 [IntKind.wrap IntKind.i64 (x2.b + (1 : Int)),
 bits BinOp.or IntKind.i64 (IntKind.wrap IntKind.i64 (x2.v * (2 : Int) ^ min (Int.toNat (1 : Int)) (IntKind.bits IntKind.i64)))
 (IntKind.wrap IntKind.i64 (tkV s (↑x2.L : Int) (1 : Int)))])
 (0 : Int)] =
 y5.out ∧
 (0 : Int) = y5.b ∧ (0 : Int) = y5.v))) ∧
 (decide ((↑(List.length x2.out) : Int) < n) = false →
 (decide ((↑x2.L : Int) > (0 : Int)) = true → ByteArray.empty = rdS l s n ∧ (22 : Int) = rdE l s n) ∧
 (decide ((↑x2.L : Int) > (0 : Int)) = false → strOfNums x2.out = rdS l s n ∧ (0 : Int) = rdE l s n)))
theorem rdU_e (l : List Int) (s : ByteArray) (n : Int) : rdU_t l s n = vcG Try.prog (Gof GUb) (one (oRdH l s n)) Try.f30 [.dat (.ints .i64 l), .v (.string s), .v (.int .i64 n)] [] (.leaf ((.tu [.v (.string (rdS l s n)), .v (.int .i64 (rdE l s n))])) ([])) := by kernel_rfl
def bkuI_t (xs : List Int) (l0 : Nat) : Prop :=
 ∃ (g0 : Unit),
 ∃ (x1 : Nat),
 Nat.le x1 (List.length xs) ∧
 ((0 : Nat), true) = (x1, true) ∧
 (Value.func (Fn.yield l0) #[] #[] = Value.func (Fn.yield l0) #[] #[] ∧
 IntKind.wrap IntKind.i64 ((↑(List.length xs) : Int) - (1 : Int)) = (↑(List.length xs) : Int) - (1 : Int) - (↑x1 : Int) ∧ xs = xs) ∧
 ∀ (x2 : Nat),
 Nat.le x2 (List.length xs) →
 (decide ((↑(List.length xs) : Int) - (1 : Int) - (↑x2 : Int) ≥ (0 : Int)) = true →
 (0 : Int) ≤ (↑(List.length xs) : Int) - (1 : Int) - (↑x2 : Int) ∧
 (↑(List.length xs) : Int) - (1 : Int) - (↑x2 : Int) < (↑(List.length xs) : Int) ∧
 Int.toNat ((↑(List.length xs) : Int) - (1 : Int) - (↑x2 : Int)) < List.length xs ∧
 l0 = l0 ∧
 (itBkU xs)[x2]? =
 some
 [Value.int IntKind.i64 ((↑(List.length xs) : Int) - (1 : Int) - (↑x2 : Int)),
 Value.int IntKind.u8 (List.getD xs (Int.toNat ((↑(List.length xs) : Int) - (1 : Int) - (↑x2 : Int))) (0 : Int))] ∧
 (∃ (y3 : Nat),
 Nat.le y3 (List.length xs) ∧
 (x2 + (1 : Nat), true) = (y3, true) ∧
 Nat.sub (List.length xs) y3 < Nat.sub (List.length xs) x2 ∧
 Value.func (Fn.yield l0) #[] #[] = Value.func (Fn.yield l0) #[] #[] ∧
 IntKind.wrap IntKind.i64 ((↑(List.length xs) : Int) - (1 : Int) - (↑x2 : Int) - (1 : Int)) = (↑(List.length xs) : Int) - (1 : Int) - (↑y3 : Int) ∧ xs = xs) ∧
 True) ∧
 (decide ((↑(List.length xs) : Int) - (1 : Int) - (↑x2 : Int) ≥ (0 : Int)) = false → x2 = List.length (itBkU xs))
theorem bkuI_e (xs : List Int) (l0 : Nat) : bkuI_t xs l0 = vcFI Try.prog (Gof []) l0 (itBkU xs) (oBkuF l0 xs) Try.f77 [.p 0 0 0] [(0, .cells 46 [.o 1]), (1, .row 5 (.ints .u8 xs))]  := by kernel_rfl
end Go.Proofs.Ytmdbliacaeokaaa
namespace Go.Proofs.Ytmdbliacaeokaaa
open Go Go.RowKit
set_option linter.unusedVariables false
def kI (l : List Int) (i : Nat) : Nat := ((symI l i).getD 0 0).toNat
def bI (l : List Int) (i : Nat) : Int := l.getD (kI l i) 0
def aI (l : List Int) (i : Nat) : Nat := (atF (gmx l) (ordS l) i).toNat
def wI (l : List Int) (i : Nat) : Nat := wid (gmx l) (symI l i)
end Go.Proofs.Ytmdbliacaeokaaa
namespace Go.Proofs.Ytmdbliacaeokaaa
open Go Go.RowKit
set_option linter.unusedVariables false
set_option linter.unusedSimpArgs false
set_option maxRecDepth 100000
theorem getD_e {α : Type} {l : List α} {i : Nat} (d : α) (h : i < l.length) : l.getD i d = l[i] := by rw [List.getD_eq_getElem?_getD, List.getElem?_eq_getElem h]; rfl
theorem bestI_lt {xs : List Nd} (h : 0 < xs.length) : ∀ i, i ≤ xs.length → bestI xs i < xs.length
  | 0, _ => h
  | i + 1, hi => by
    unfold bestI
    have := bestI_lt h i (by omega)
    cases befN (xs.getD i []) (xs.getD (bestI xs i) []) <;> simp only [cond_true, cond_false] <;> omega
theorem bestX_lt {xs : List Nd} (h : 0 < xs.length) : bestX xs < xs.length := bestI_lt h _ (Nat.le_refl _)
theorem rest_perm {xs : List Nd} (h : 0 < xs.length) : xs.Perm (topX xs :: restX xs) := by
  have hb := bestX_lt h
  have e : xs = xs.take (bestX xs) ++ (topX xs :: xs.drop (bestX xs + 1)) := by
    unfold topX
    rw [getD_e [] hb, ← List.drop_eq_getElem_cons hb, List.take_append_drop]
  unfold restX
  conv => lhs; rw [e]
  exact List.perm_middle
theorem rest_len {xs : List Nd} (h : 0 < xs.length) : (restX xs).length + 1 = xs.length := by
  have := (rest_perm h).length_eq
  simp only [List.length_cons] at this
  omega
theorem inc_get {n : Nat} (ss : List Int) : (∀ s ∈ ss, 0 ≤ s ∧ s < n) → ∀ out : List Int, out.length = n → ∀ k : Nat, k < n → (incAll out ss).getD k 0 = out.getD k 0 + (ss.count (k : Int) : Nat) := by
  induction ss with
  | nil => intro _ out _ k _; simp [incAll]
  | cons s r ih =>
    intro h out hl k hk
    have hs := h s (by simp)
    have : incAll out (s :: r) = incAll (out.set s.toNat (out.getD s.toNat 0 + 1)) r := rfl
    rw [this, ih (fun x hx => h x (by simp [hx])) _ (by rw [List.length_set]; exact hl) k hk, getD_set_i, List.count_cons]
    by_cases e : s.toNat = k
    · have e2 : s = (k : Int) := by omega
      subst e2
      rw [if_pos ⟨e, by omega⟩]
      simp only [toNat_cast, beq_self_eq_true, if_true]
      push_cast
      omega
    · have e2 : (s == (k : Int)) = false := by simp; omega
      rw [if_neg (fun h => e h.1), e2]
      simp
def posL (l : List Int) : List Int := (syms l).map fun r => r.getD 0 0
theorem posL_nodup (l : List Int) : (posL l).Nodup := by
  unfold posL
  have := symsF_sorted l 0
  rw [List.Nodup, List.pairwise_map]
  exact this.imp (fun h => by omega)
theorem posL_rng {l : List Int} {s : Int} (h : s ∈ posL l) : 0 ≤ s ∧ s < l.length ∧ 0 < l.getD s.toNat 0 := by
  unfold posL at h
  obtain ⟨r, hr, rfl⟩ := List.mem_map.1 h
  obtain ⟨k, h1, rfl, h3⟩ := syms_mem hr
  simp only [List.getD_cons_zero, toNat_cast]
  exact ⟨by omega, by omega, h3⟩
def kraft (out ss : List Int) : Nat := (ss.map fun s => 2 ^ (256 - (out.getD s.toNat 0).toNat)).sum
structure HInv (l : List Int) (j : Nat) (out : List Int) (xs : List Nd) : Prop where
  len : out.length = l.length
  xl : xs.length + j = (leaves l).length
  perm : (xs.flatMap ndS).Perm (posL l)
  zero : ∀ k, k < l.length → (k : Int) ∉ posL l → out.getD k 0 = 0
  bd : ∀ k, k < l.length → 0 ≤ out.getD k 0 ∧ out.getD k 0 ≤ j
  kr : ∀ x ∈ xs, kraft out (ndS x) = 2 ^ 256
  cnt : ∀ x ∈ xs, 1 ≤ ndC x
  tot : (xs.map ndC).sum = sumL l
theorem mrg_S (xs : List Nd) (j : Nat) : ndS (mrgX xs j) = ndS (topX xs) ++ ndS (topX (restX xs)) := rfl
structure Split (l : List Int) (xs : List Nd) : Prop where
  p : xs.Perm (topX xs :: topX (restX xs) :: restX (restX xs))
  nd1 : (ndS (topX xs) ++ ndS (topX (restX xs))).Nodup
  q : ∀ q ∈ restX (restX xs), ∀ s ∈ ndS q, s ∉ ndS (topX xs) ++ ndS (topX (restX xs))
  rng : ∀ x ∈ xs, ∀ s ∈ ndS x, s ∈ posL l
theorem HInv.split {l : List Int} {j : Nat} {out : List Int} {xs : List Nd} (h : HInv l j out xs) (h2 : 2 ≤ xs.length) : Split l xs := by
  have p1 := rest_perm (xs := xs) (by omega)
  have r1 := rest_len (xs := xs) (by omega)
  have p2 := rest_perm (xs := restX xs) (by omega)
  have p : xs.Perm (topX xs :: topX (restX xs) :: restX (restX xs)) := p1.trans (p2.cons _)
  have hn : ((topX xs :: topX (restX xs) :: restX (restX xs)).flatMap ndS).Nodup := ((p.flatMap_right ndS).symm.trans h.perm).symm.nodup (posL_nodup l)
  rw [List.flatMap_cons, List.flatMap_cons, ← List.append_assoc, List.nodup_append] at hn
  refine ⟨p, hn.1, fun q hq s hs hm => ?_, fun x hx s hs => ?_⟩
  · exact hn.2.2 s hm s (List.mem_flatMap.2 ⟨q, hq, hs⟩) rfl
  · exact h.perm.mem_iff.1 (List.mem_flatMap.2 ⟨x, hx, hs⟩)
theorem HInv.get {l : List Int} {j : Nat} {out : List Int} {xs : List Nd} (h : HInv l j out xs) (h2 : 2 ≤ xs.length) : ∀ k, k < l.length →
    (incAll out (ndS (mrgX xs j))).getD k 0 = out.getD k 0 + (if (k : Int) ∈ ndS (topX xs) ++ ndS (topX (restX xs)) then 1 else 0) := by
  intro k hk
  have sp := h.split h2
  have hx : topX xs ∈ xs := sp.p.mem_iff.2 (by simp)
  have hy : topX (restX xs) ∈ xs := sp.p.mem_iff.2 (by simp)
  rw [mrg_S, inc_get (n := l.length) _ (fun s hs => ?_) _ h.len k hk, List.Nodup.count sp.nd1]
  · split <;> rfl
  · rw [List.mem_append] at hs
    have := posL_rng (hs.elim (sp.rng _ hx s) (sp.rng _ hy s))
    exact ⟨this.1, this.2.1⟩
end Go.Proofs.Ytmdbliacaeokaaa
namespace Go.Proofs.Ytmdbliacaeokaaa
open Go Go.RowKit
set_option linter.unusedVariables false
set_option linter.unusedSimpArgs false
set_option maxRecDepth 100000
theorem sym_eq {l : List Int} {i : Nat} (h : i < (ordS l).length) : symI l i = [(kI l i : Int), bI l i] ∧ kI l i < l.length ∧ 0 < bI l i := by
  obtain ⟨k, h1, h2, h3⟩ := symI_mem h
  have e : kI l i = k := by unfold kI; rw [h2]; simp
  unfold bI
  rw [e]
  exact ⟨h2, h1, h3⟩
theorem aI_cast {l : List Int} (i : Nat) : atF (gmx l) (ordS l) i = (aI l i : Int) := by
  have := atF_nonneg (gmx l) (ordS l) i
  unfold aI
  omega
theorem aI_succ {l : List Int} {i : Nat} (h : i < (ordS l).length) : aI l (i + 1) = aI l i + wI l i := by
  have := atF_succ (gmx l) (ordS l) h
  rw [aI_cast, aI_cast] at this
  unfold wI symI
  omega
theorem aI_mono {l : List Int} {i j : Nat} (hij : i < j) (hj : j ≤ (ordS l).length) : aI l i + wI l i ≤ aI l j := by
  induction j with
  | zero => omega
  | succ j ih =>
    have e := aI_succ (l := l) (i := j) (by omega)
    by_cases h : i = j
    · subst h; omega
    · have := ih (by omega) (by omega)
      omega
theorem wI_eq {l : List Int} {i : Nat} (h : i < (ordS l).length) : wI l i = 2 ^ (gmx l - bI l i).toNat := by
  unfold wI wid
  rw [(sym_eq h).1]
  simp
theorem aI_end {l : List Int} (hg : Good l) : aI l (ordS l).length = 2 ^ (gmx l).toNat := by
  have := atF_tot (gmx l) (ordS l) (ordS l).length
  rw [List.take_length, hg.sum, aI_cast] at this
  omega
theorem bI_bd {l : List Int} (hg : Good l) {i : Nat} (h : i < (ordS l).length) : 1 ≤ bI l i ∧ bI l i ≤ gmx l := by
  obtain ⟨h1, h2, h3⟩ := sym_eq h
  exact ⟨by omega, (gmx_ge l).2 _ (getD_mem' h2)⟩
theorem ord_le {l : List Int} {i j : Nat} (hij : i < j) (hj : j < (ordS l).length) : sLe (symI l i) (symI l j) = true := by
  have hs : (ordS l).Pairwise (fun x y => sLe x y = true) := srt_sorted _
  have := List.pairwise_iff_getElem.1 hs i j (by omega) hj hij
  unfold symI
  rw [getD_e [] (by omega), getD_e [] hj]
  exact this
theorem ord_cmp {l : List Int} {i j : Nat} (hij : i < j) (hj : j < (ordS l).length) : bI l j < bI l i ∨ (bI l j = bI l i ∧ kI l i < kI l j) := by
  have h := ord_le hij hj
  have hn := List.pairwise_iff_getElem.1 (ordS_nodup l) i j (by omega) hj hij
  rw [← getD_e [] (by omega), ← getD_e [] hj] at hn
  have hn' : kI l i ≠ kI l j := hn
  rw [(sym_eq (show i < (ordS l).length by omega)).1, (sym_eq hj).1] at h
  unfold sLe at h
  simp only [List.getD_cons_succ, List.getD_cons_zero, Bool.or_eq_true, Bool.and_eq_true, decide_eq_true_eq] at h
  rcases h with h | ⟨h1, h2⟩
  · exact .inl h
  · exact .inr ⟨h1, by omega⟩
theorem ord_ne {l : List Int} {i j : Nat} (hi : i < (ordS l).length) (hj : j < (ordS l).length) (h : kI l i = kI l j) : i = j := by
  rcases Nat.lt_trichotomy i j with h1 | h1 | h1
  · have := List.pairwise_iff_getElem.1 (ordS_nodup l) i j hi hj h1
    rw [← getD_e [] hi, ← getD_e [] hj] at this
    exact absurd h this
  · exact h1
  · have := List.pairwise_iff_getElem.1 (ordS_nodup l) j i hj hi h1
    rw [← getD_e [] hi, ← getD_e [] hj] at this
    exact absurd h.symm this
theorem ord_has {l : List Int} {k : Nat} (hk : k < l.length) (h : 0 < l.getD k 0) : ∃ i, i < (ordS l).length ∧ kI l i = k := by
  have hm : [(k : Int), l.getD k 0] ∈ ordS l := by
    refine (ordS_perm l).mem_iff.2 ?_
    have hs := syms_snoc (l.take k) (l.getD k 0)
    rw [← take_succ l 0 hk, decide_eq_true h, cond_true, List.length_take, Nat.min_eq_left (by omega)] at hs
    have e2 : syms l = syms (l.take (k + 1)) ++ symsF ((l.take (k + 1)).length : Int) (l.drop (k + 1)) := by
      conv => lhs; rw [← List.take_append_drop (k + 1) l]
      unfold syms
      rw [symsF_app]
      simp
    rw [e2, hs]
    simp
  obtain ⟨i, hi, he⟩ := List.mem_iff_getElem.1 hm
  refine ⟨i, hi, ?_⟩
  unfold kI symI
  rw [getD_e [] hi, he]
  simp
theorem wI_dvd {l : List Int} (hg : Good l) {i j : Nat} (hij : i ≤ j) (hj : j < (ordS l).length) : wI l i ∣ wI l j := by
  have hi : i < (ordS l).length := by omega
  rw [wI_eq hi, wI_eq hj]
  refine Nat.pow_dvd_pow 2 ?_
  rcases Nat.lt_or_eq_of_le hij with h | h
  · have := ord_cmp h hj
    omega
  · subst h; exact Nat.le_refl _
theorem aI_dvd {l : List Int} (hg : Good l) {i : Nat} (hi : i < (ordS l).length) : wI l i ∣ aI l i := by
  have key : ∀ d j, j + d = (ordS l).length → i ≤ j → wI l i ∣ aI l j := by
    intro d
    induction d with
    | zero =>
      intro j hj _
      have : j = (ordS l).length := by omega
      subst this
      rw [aI_end hg, wI_eq hi]
      have hb := bI_bd hg hi
      exact Nat.pow_dvd_pow 2 (by omega)
    | succ d ih =>
      intro j hj hij
      have h1 := ih (j + 1) (by omega) (by omega)
      rw [aI_succ (by omega)] at h1
      exact (Nat.dvd_add_left (wI_dvd hg hij (by omega))).1 h1
  exact key ((ordS l).length - i) i (by omega) (Nat.le_refl _)
theorem codP_at {l : List Int} : ∀ j, j ≤ (ordS l).length → ∀ i, i < j → (codP l j).getD (kI l i) [] = [bI l i, ((aI l i / wI l i : Nat) : Int)]
  | 0, _, i, h => by omega
  | j + 1, hj, i, hi => by
    have hlt : j < (ordS l).length := by omega
    obtain ⟨s1, s2, s3⟩ := sym_eq hlt
    rw [codP_succ hlt]
    have e1 : ((symI l j).getD 0 0).toNat = kI l j := rfl
    have e2 : (symI l j).getD 1 0 = bI l j := by rw [s1]; simp
    rw [e1, e2, aI_cast]
    by_cases h : i = j
    · subst h
      rw [List.getD_eq_getElem?_getD, List.getElem?_set_self (by rw [codP_len]; exact s2)]
      simp only [Option.getD_some]
      rw [wI_eq hlt, Int.natCast_ediv, ← pow_cast]
    · have hne : kI l j ≠ kI l i := fun e => h (ord_ne hlt (by omega) e).symm
      rw [List.getD_eq_getElem?_getD, List.getElem?_set_ne hne, ← List.getD_eq_getElem?_getD]
      exact codP_at j (by omega) i (by omega)
theorem codP_none {l : List Int} {k : Nat} (hk : k < l.length) (h0 : ¬ 0 < l.getD k 0) : ∀ j, j ≤ (ordS l).length → (codP l j).getD k [] = [0, 0]
  | 0, _ => by simp [codP, codF, List.getD, List.getElem?_replicate, hk]
  | j + 1, hj => by
    have hlt : j < (ordS l).length := by omega
    obtain ⟨s1, s2, s3⟩ := sym_eq hlt
    rw [codP_succ hlt]
    have e1 : ((symI l j).getD 0 0).toNat = kI l j := rfl
    have hne : kI l j ≠ k := fun e => by
      unfold bI at s3
      rw [e] at s3
      exact h0 s3
    rw [e1, List.getD_eq_getElem?_getD, List.getElem?_set_ne hne, ← List.getD_eq_getElem?_getD]
    exact codP_none hk h0 j (by omega)
theorem codL_codP (l : List Int) : codL l = codP l (ordS l).length := by unfold codL codP; rw [List.take_length]
theorem codL_at {l : List Int} {i : Nat} (h : i < (ordS l).length) : (codL l).getD (kI l i) [] = [bI l i, ((aI l i / wI l i : Nat) : Int)] := by rw [codL_codP]; exact codP_at _ (Nat.le_refl _) i h
theorem codL_none {l : List Int} {k : Nat} (hk : k < l.length) (h0 : ¬ 0 < l.getD k 0) : (codL l).getD k [] = [0, 0] := by rw [codL_codP]; exact codP_none hk h0 _ (Nat.le_refl _)
end Go.Proofs.Ytmdbliacaeokaaa
namespace Go.Proofs.Ytmdbliacaeokaaa
open Go Go.RowKit
set_option linter.unusedVariables false
set_option linter.unusedSimpArgs false
set_option maxRecDepth 100000
structure Cod (l : List Int) (k i : Nat) : Prop where
  lt : i < (ordS l).length
  at_ : kI l i = k
  len : hB l k = l.getD k 0
  bits : hB l k = bI l i
  val : hV l k = ((aI l i / wI l i : Nat) : Int)
theorem cod_at {l : List Int} {i : Nat} (hi : i < (ordS l).length) : Cod l (kI l i) i := by
  have hc := codL_at hi
  refine ⟨hi, rfl, ?_, ?_, ?_⟩
  · unfold hB; rw [hc]; rfl
  · unfold hB; rw [hc]; rfl
  · unfold hV; rw [hc]; rfl
theorem cod_has {l : List Int} {k : Nat} (hk : k < l.length) (h : 0 < l.getD k 0) : ∃ i, Cod l k i := by
  obtain ⟨i, hi, rfl⟩ := ord_has hk h
  exact ⟨i, cod_at hi⟩
theorem cod_no {l : List Int} {k : Nat} (hk : k < l.length) (h : ¬ 0 < l.getD k 0) : hB l k = 0 ∧ hV l k = 0 := by
  unfold hB hV
  rw [codL_none hk h]
  exact ⟨rfl, rfl⟩
structure CodB (l : List Int) (k : Nat) : Prop where
  b0 : 1 ≤ hB l k
  b1 : hB l k ≤ 11
  v0 : 0 ≤ hV l k
  v1 : hV l k < 2 ^ (hB l k).toNat
theorem cod_bd {l : List Int} (hg : Good l) {k i : Nat} (h : Cod l k i) : CodB l k := by
  have hb := bI_bd hg h.lt
  have hm := hg.m1
  obtain ⟨q, hq⟩ := aI_dvd hg h.lt
  have hw : 0 < wI l i := wid_pos _ _
  have hd : aI l i / wI l i = q := by rw [hq]; exact Nat.mul_div_cancel_left _ hw
  have hend : aI l i + wI l i ≤ 2 ^ (gmx l).toNat := by
    rw [← aI_end hg]
    exact aI_mono h.lt (Nat.le_refl _)
  have hww := wI_eq h.lt
  have he : 2 ^ (gmx l).toNat = wI l i * 2 ^ (bI l i).toNat := by
    rw [hww, ← Nat.pow_add]
    congr 1
    omega
  have hlt : q < 2 ^ (bI l i).toNat := by
    rw [he, hq, show wI l i * q + wI l i = wI l i * (q + 1) by rw [Nat.mul_add, Nat.mul_one]] at hend
    have := Nat.le_of_mul_le_mul_left hend hw
    omega
  refine ⟨by rw [h.bits]; omega, by rw [h.bits]; omega, by rw [h.val]; omega, ?_⟩
  rw [h.val, h.bits, hd]
  exact_mod_cast hlt
theorem hB_0 {l : List Int} (hg : Good l) {k : Nat} (hk : k < l.length) : 0 ≤ hB l k ∧ hB l k ≤ 11 ∧ (0 < hB l k ↔ 0 < l.getD k 0) := by
  by_cases h : 0 < l.getD k 0
  · obtain ⟨i, hc⟩ := cod_has hk h
    have hb := cod_bd hg hc
    have b0 := hb.b0
    have b1 := hb.b1
    exact ⟨by omega, by omega, by omega⟩
  · have := cod_no hk h
    exact ⟨by omega, by omega, by omega⟩
theorem fnd_rng (l : List Int) (b v : Int) : ∀ n, -1 ≤ fnd l b v n ∧ fnd l b v n < (n : Nat)
  | 0 => by show (-1 : Int) ≤ -1 ∧ (-1 : Int) < _; omega
  | n + 1 => by
    have ih := fnd_rng l b v n
    simp only [fnd]
    cases hB l n == b && hV l n == v
    · rw [cond_false]; omega
    · rw [cond_true]; omega
theorem fnd_is (l : List Int) (b v : Int) : ∀ n, 0 ≤ fnd l b v n → hB l (fnd l b v n).toNat = b ∧ hV l (fnd l b v n).toNat = v
  | 0, h => by exact absurd h (by show ¬ (0 : Int) ≤ -1; omega)
  | n + 1, h => by
    simp only [fnd] at h ⊢
    cases hq : hB l n == b && hV l n == v
    · rw [hq, cond_false] at h
      rw [cond_false]
      exact fnd_is l b v n h
    · rw [cond_true]
      simp only [Bool.and_eq_true, beq_iff_eq] at hq
      rw [toNat_cast]
      exact hq
theorem fnd_no (l : List Int) (b v : Int) : ∀ n, (∀ k, k < n → ¬ (hB l k = b ∧ hV l k = v)) → fnd l b v n = -1
  | 0, _ => rfl
  | n + 1, h => by
    have h1 := h n (by omega)
    have hq : (hB l n == b && hV l n == v) = false := by
      rw [Bool.eq_false_iff]
      intro e
      simp only [Bool.and_eq_true, beq_iff_eq] at e
      exact h1 e
    simp only [fnd, hq, cond_false]
    exact fnd_no l b v n fun k hk => h k (by omega)
theorem fLc_11 {l : List Int} (hg : Good l) {b v : Int} (h : 11 < b) : fLc l b v = -1 := fnd_no l b v _ fun k hk ⟨e, _⟩ => by
  have := hB_0 hg hk
  omega
theorem mC_get (l : List Int) (x : Int) : ∀ n, mget (mC l n) [x] = cond (decide (0 ≤ x) && decide (x < n) && decide (0 < hB l x.toNat)) (some [hB l x.toNat, hV l x.toNat]) none
  | 0 => by
    have : (decide (0 ≤ x) && decide (x < ((0 : Nat) : Int)) && decide (0 < hB l x.toNat)) = false := by
      rw [Bool.eq_false_iff]
      intro h
      simp only [Bool.and_eq_true, decide_eq_true_eq] at h
      omega
    rw [this]
    rfl
  | n + 1 => by
    have ih := mC_get l x n
    by_cases hx : x = (n : Int)
    · subst hx
      have e1 : (decide ((0 : Int) ≤ (n : Nat)) && decide (((n : Nat) : Int) < ((n + 1 : Nat) : Int))) = true := by
        simp only [Bool.and_eq_true, decide_eq_true_eq]; omega
      have e2 : (decide ((0 : Int) ≤ (n : Nat)) && decide (((n : Nat) : Int) < ((n : Nat) : Int))) = false := by
        simp
      rw [e2, Bool.false_and, cond_false] at ih
      rw [e1, Bool.true_and, toNat_cast]
      simp only [mC]
      cases decide (0 < hB l n)
      · rw [cond_false, cond_false]; exact ih
      · rw [cond_true, cond_true, mget_cons, if_pos rfl]
    · have e1 : decide (x < ((n + 1 : Nat) : Int)) = decide (x < (n : Nat)) := decide_eq_decide.2 (by omega)
      rw [e1, ← ih]
      simp only [mC]
      cases decide (0 < hB l n)
      · rw [cond_false]
      · rw [cond_true, mget_cons, if_neg (by simp; omega)]
theorem mB_get (l : List Int) (b v : Int) (hb : 0 < b) : ∀ n, mget (mB l n) [b, v] = cond (decide (fnd l b v n < 0)) none (some [fnd l b v n])
  | 0 => rfl
  | n + 1 => by
    have ih := mB_get l b v hb n
    have hm : mB l (n + 1) = cond (decide (0 < hB l n)) (([hB l n, hV l n], [(n : Int)]) :: mB l n) (mB l n) := rfl
    have hf : fnd l b v (n + 1) = cond (hB l n == b && hV l n == v) (n : Int) (fnd l b v n) := rfl
    by_cases hq : hB l n = b ∧ hV l n = v
    · have e1 : (hB l n == b && hV l n == v) = true := by simp [hq.1, hq.2]
      have e2 : decide (0 < hB l n) = true := by rw [hq.1]; exact decide_eq_true hb
      rw [e1, cond_true] at hf
      rw [hm, e2, cond_true, mget_cons, hq.1, hq.2, if_pos rfl, hf, decide_eq_false (show ¬ ((n : Int) < 0) by omega), cond_false]
    · have e1 : (hB l n == b && hV l n == v) = false := by
        rw [Bool.eq_false_iff]
        intro e
        simp only [Bool.and_eq_true, beq_iff_eq] at e
        exact hq e
      rw [e1, cond_false] at hf
      rw [hf, ← ih, hm]
      cases decide (0 < hB l n)
      · rw [cond_false]
      · rw [cond_true, mget_cons, if_neg]
        intro e
        simp only [List.cons.injEq, and_true] at e
        exact hq e
theorem lchk_0 {l : List Int} (h : lchk l = 0) : chk l = 0 := by
  unfold lchk at h
  cases h1 : roomE l == 0
  · rw [h1, cond_false] at h
    rw [h] at h1
    cases h1
  · rw [h1, cond_true] at h
    unfold roomE at h1
    unfold chk
    cases h2 : decide (256 < l.length)
    · rw [h2, cond_false] at h1
      cases h3 : l.all okLen
      · rw [h3, cond_false] at h1; cases h1
      · simp only [cond_true, cond_false]
        cases h4 : decide (cntP l < 2)
        · rw [h4, cond_false] at h
          cases h5 : roomL l == 2048
          · rw [h5, cond_false] at h; cases h
          · rfl
        · rw [h4, cond_true] at h; cases h
    · rw [h2, cond_true] at h1; cases h1
end Go.Proofs.Ytmdbliacaeokaaa

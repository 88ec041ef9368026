/-
  Texts joined: D8F, EF, EA, EAt, EG, EB, EI, EC, ECt, EH, EJ, Lib, EK, ED, EL, EMf, EM, EMt, EN, FF, FA, FB, FC, FD, FG, FH, FI, FJ, FK, FM, FN, FO, FP, FQ, FR, HF, HA, HAt, Kd, FS, FT, HB. Conditions: each theorem's own.
-/
import Derived.WalkKit
import Derived.IntWalk
import Derived.Test.YtbdgknebimdjoaaProg
import Derived.Test.YtbdgknebimdjoaaK3
import Derived.Test.YtbdgknebimdjoaaK1
import Derived.Shelf.Small.Bits
import Derived.Shelf.Sort.Plain
import Derived.Shelf.Slices.In.SortNone
import Derived.Sort.OwnSortedInts
namespace Go.Proofs.Ytbdgknebimdjoaa
set_option linter.unusedVariables false
def hiI (n : Int) : Int := cond (decide (n ≤ 0)) (-1) (Nat.log2 n.toNat : Nat)
def hiM (n : Int) (i : Nat) : Int := cond (decide (n ≤ 0)) (-1) (min ((i : Int) - 1) (Nat.log2 n.toNat : Nat))
def modI (x m : Int) : Int := cond (decide (m < 1)) 0 (x % m)
def minL (l : List Int) : Int := l.tail.foldl min (l.headD 0)
def pt (p : Int) : Int := cond (decide (p < 0)) 1 p
def pts (l : List Int) : Int := l.foldl (fun s p => s + pt p) 0
def dbad (log : Int) (xs : List Int) : Bool := decide (xs.length < 1) || decide (256 < xs.length) || xs.getD (xs.length - 1) 0 == 0 || xs.any (fun x => decide (x < -1)) || !(pts xs == 2 ^ log.toNat)
def dchk (log : Int) (xs : List Int) : Int := cond (decide (log < 5) || decide (12 < log)) 31 (cond (dbad log xs) 23 0)
def inW (x : Int) : Bool := decide (-9223372036854775808 ≤ x) && decide (x ≤ 9223372036854775807)
end Go.Proofs.Ytbdgknebimdjoaa
namespace Go.Proofs.Ytbdgknebimdjoaa
open Go
set_option linter.unusedVariables false
set_option maxRecDepth 100000
def szN (g : Int) : Nat := 2 ^ g.toNat
def stN (g : Int) : Nat := szN g / 2 + szN g / 8 + 3
def oN (g : Int) (t : Nat) : Nat := (t * stN g) % szN g
def isR (p : Int) : Bool := p == -1
def nrN (l : List Int) : Nat := (l.filter isR).length
def lowF (s : Int) : List Int → List Int
  | [] => []
  | p :: r => cond (isR p) (s :: lowF (s + 1) r) (lowF (s + 1) r)
def hiF (s : Int) : List Int → List Int
  | [] => []
  | p :: r => List.replicate p.toNat s ++ hiF (s + 1) r
def okC (g : Int) (l : List Int) (c : Nat) : Bool := decide (c + nrN l < szN g)
def tL (g : Int) (l : List Int) : List Nat := (List.range (szN g)).filter fun t => okC g l (oN g t)
def cntT (g : Int) (l : List Int) (t : Nat) : Nat := ((List.range t).filter fun t => okC g l (oN g t)).length
def lowI (g : Int) (c : Nat) : List Int → List (Int × Int)
  | [] => []
  | s :: r => ((szN g : Int) - 1 - (c : Int), s) :: lowI g (c + 1) r
def hiI2 (g : Int) (l : List Int) (c : Nat) : List Int → List (Int × Int)
  | [] => []
  | s :: r => ((oN g ((tL g l).getD c 0) : Int), s) :: hiI2 g l (c + 1) r
def itA (g : Int) (l : List Int) : List (Int × Int) := lowI g 0 (lowF 0 l)
def itB (g : Int) (l : List Int) : List (Int × Int) := hiI2 g l 0 (hiF 0 l)
def itC (g : Int) (l : List Int) : List (Int × Int) := itA g l ++ itB g l
def putC (out : List Int) (x : Int × Int) : List Int := out.set x.1.toNat x.2
def putCs (out : List Int) (xs : List (Int × Int)) : List Int := xs.foldl putC out
def zL (n : Nat) : List Int := List.replicate n 0
def sprP (g : Int) (l : List Int) (n : Nat) : List Int := putCs (zL (szN g)) ((itC g l).take n)
def spr (g : Int) (l : List Int) : List Int := putCs (zL (szN g)) (itC g l)
def rareM (g : Int) : Nat → List (List Int × List Int)
  | 0 => []
  | n + 1 => ([(szN g : Int) - 1 - n], [1]) :: rareM g n
def hiN (l : List Int) (i : Nat) : Nat := (hiF 0 (l.take i)).length
def itV (x : Int × Int) : List Value := [.int .i64 x.1, .int .i64 x.2]
def itVs (g : Int) (l : List Int) : List (List Value) := (itC g l).map itV
def cellsF (s : Int) (c : Int) : List Int → List Int
  | [] => []
  | x :: r => cond (x == s) (c :: cellsF s (c + 1) r) (cellsF s (c + 1) r)
def cellsP (sp : List Int) (s : Int) (i : Nat) : List Int := cellsF s 0 (sp.take i)
def cellsL (sp : List Int) (s : Int) : List Int := cellsF s 0 sp
def statesP (n : Nat) (sp : List Int) (i : Nat) : List (List Int) := (List.range n).map fun (s : Nat) => cellsP sp (s : Int) i
def statesL (n : Nat) (sp : List Int) : List (List Int) := (List.range n).map fun (s : Nat) => cellsL sp (s : Int)
def okE (g : Int) (l : List Int) : Bool := dchk g l == 0
def encL (g : Int) (l : List Int) : List (List Int) := cond (okE g l) (statesL l.length (spr g l)) []
def encG (g : Int) (l : List Int) : Int := cond (okE g l) g 0
def sprO (g : Int) (l : List Int) : List Int := cond (okE g l) (spr g l) []
def sorted (l : List Int) : Bool := (List.range (l.length - 1)).all fun i => decide (l.getD i 0 ≤ l.getD (i + 1) 0)
def flatP (t : List (List Int)) (i : Nat) : List Int := (t.take i).flatten
def insI (a : Int) : List Int → List Int
  | [] => [a]
  | b :: r => cond (decide (a ≤ b)) (a :: b :: r) (b :: insI a r)
def srtI : List Int → List Int
  | [] => []
  | a :: r => insI a (srtI r)
def upTo (l : List Int) : Bool := (List.range l.length).all fun i => l.getD i 0 == (i : Int)
def ebad (g : Int) (t : List (List Int)) : Bool := decide (g < 0) || decide (12 < g) || decide (256 < t.length)
def eform (g : Int) (t : List (List Int)) : Bool := t.all sorted && t.flatten.length == szN g && upTo (srtI t.flatten)
def echk (g : Int) (t : List (List Int)) : Int := cond (ebad g t) 2 (cond (eform g t) 0 3)
end Go.Proofs.Ytbdgknebimdjoaa
namespace Go.Proofs.Ytbdgknebimdjoaa
open Go Go.RowKit
set_option linter.unusedVariables false
set_option linter.unusedSimpArgs false
set_option maxRecDepth 100000
def sHigh : Spec where
  ι := Int
  dec l H := match l with
    | [.v (.int .i64 n)] => some (n, [])
    | _ => none
  args := fun n => [.v (.int .i64 n)]
  pre := fun n => [⟨n ≤ 9223372036854775807, inferInstance⟩]
  out := fun n => .leaf (.v (.int .i64 (hiI n))) []
theorem sHigh_enc : ∀ l H n i ls, sHigh.dec l H = some (i, ls) → l = renL (rho ls n) (sHigh.args i) ∧ givenHp H ls = renH (rho ls n) (sHigh.hp i) := by
  intro l H n i ls h
  simp only [sHigh] at h
  repeat' split at h
  all_goals first
    | (cases h; done)
    | (cases h; exact ⟨rfl, rfl⟩)
def sMod : Spec where
  ι := Int × Int
  dec l H := match l with
    | [.v (.int .i64 x), .v (.int .i64 m)] => some ((x, m), [])
    | _ => none
  args := fun (x, m) => [.v (.int .i64 x), .v (.int .i64 m)]
  pre := fun (x, m) => [⟨inW x = true, inferInstance⟩, ⟨inW m = true, inferInstance⟩]
  out := fun (x, m) => .leaf (.v (.int .i64 (modI x m))) []
theorem sMod_enc : ∀ l H n i ls, sMod.dec l H = some (i, ls) → l = renL (rho ls n) (sMod.args i) ∧ givenHp H ls = renH (rho ls n) (sMod.hp i) := by
  intro l H n i ls h
  simp only [sMod] at h
  repeat' split at h
  all_goals first
    | (cases h; done)
    | (cases h; exact ⟨rfl, rfl⟩)
def sMin : Spec where
  ι := List Int
  dec l H := match l with
    | [.dat (.ints .i64 l)] => some (l, [])
    | _ => none
  args := fun l => [.dat (.ints .i64 l)]
  pre := fun l => [⟨0 < l.length, inferInstance⟩, ⟨l.length ≤ 4294967296, inferInstance⟩]
  out := fun l => .leaf (.v (.int .i64 (minL l))) []
theorem sMin_enc : ∀ l H n i ls, sMin.dec l H = some (i, ls) → l = renL (rho ls n) (sMin.args i) ∧ givenHp H ls = renH (rho ls n) (sMin.hp i) := by
  intro l H n i ls h
  simp only [sMin] at h
  repeat' split at h
  all_goals first
    | (cases h; done)
    | (cases h; exact ⟨rfl, rfl⟩)
def sAdd : Spec where
  ι := Int × Int
  dec l H := match l with
    | [.v (.int .i64 n), .p l0 0 0] => match H l0 with
      | some (.cells 3 [.v (.int .i64 s)]) => some ((n, s), [l0])
      | _ => none
    | _ => none
  args := fun (n, s) => [.v (.int .i64 n), .p 0 0 0]
  hp := fun (n, s) => [(0, .cells 3 [.v (.int .i64 s)])]
  pre := fun (n, s) => [⟨0 ≤ n, inferInstance⟩, ⟨n ≤ 1048576, inferInstance⟩, ⟨0 ≤ s, inferInstance⟩, ⟨s ≤ 1048576, inferInstance⟩]
  out := fun (n, s) => .leaf (.tu []) [(0, .cells 3 [.v (.int .i64 (min (s + n) 1048576))])]
theorem sAdd_enc : ∀ l H n i ls, sAdd.dec l H = some (i, ls) → l = renL (rho ls n) (sAdd.args i) ∧ givenHp H ls = renH (rho ls n) (sAdd.hp i) := by
  intro l H n i ls h
  simp only [sAdd] at h
  repeat' split at h
  all_goals first
    | (cases h; done)
    | (cases h; exact ⟨rfl, rfl⟩)
    | (cases h; refine ⟨rfl, ?_⟩; simp only [givenHp, List.filterMap_cons, List.filterMap_nil, Option.map, *]; rfl)
def sPoints : Spec where
  ι := Int × List Int
  dec l H := match l with
    | [.ag [.v (.int .i64 g), .dat (.ints .i64 l)]] => some ((g, l), [])
    | _ => none
  args := fun (g, l) => [.ag [.v (.int .i64 g), .dat (.ints .i64 l)]]
  pre := fun (g, l) => [⟨l.length ≤ 4294967296, inferInstance⟩]
  out := fun (g, l) => .leaf (.v (.int .i64 (min (pts l) 1048576))) []
theorem sPoints_enc : ∀ l H n i ls, sPoints.dec l H = some (i, ls) → l = renL (rho ls n) (sPoints.args i) ∧ givenHp H ls = renH (rho ls n) (sPoints.hp i) := by
  intro l H n i ls h
  simp only [sPoints] at h
  repeat' split at h
  all_goals first
    | (cases h; done)
    | (cases h; exact ⟨rfl, rfl⟩)
def sCheck : Spec where
  ι := Int × List Int
  dec l H := match l with
    | [.ag [.v (.int .i64 g), .dat (.ints .i64 l)]] => some ((g, l), [])
    | _ => none
  args := fun (g, l) => [.ag [.v (.int .i64 g), .dat (.ints .i64 l)]]
  pre := fun (g, l) => [⟨l.length ≤ 4294967296, inferInstance⟩]
  out := fun (g, l) => .leaf (.v (.int .i64 (dchk g l))) []
theorem sCheck_enc : ∀ l H n i ls, sCheck.dec l H = some (i, ls) → l = renL (rho ls n) (sCheck.args i) ∧ givenHp H ls = renH (rho ls n) (sCheck.hp i) := by
  intro l H n i ls h
  simp only [sCheck] at h
  repeat' split at h
  all_goals first
    | (cases h; done)
    | (cases h; exact ⟨rfl, rfl⟩)
def sStep : Spec where
  ι := Int
  dec l H := match l with
    | [.v (.int .i64 g)] => some (g, [])
    | _ => none
  args := fun g => [.v (.int .i64 g)]
  pre := fun g => [⟨5 ≤ g, inferInstance⟩, ⟨g ≤ 12, inferInstance⟩]
  out := fun g => .leaf (.v (.int .i64 (stN g))) []
theorem sStep_enc : ∀ l H n i ls, sStep.dec l H = some (i, ls) → l = renL (rho ls n) (sStep.args i) ∧ givenHp H ls = renH (rho ls n) (sStep.hp i) := by
  intro l H n i ls h
  simp only [sStep] at h
  repeat' split at h
  all_goals first
    | (cases h; done)
    | (cases h; exact ⟨rfl, rfl⟩)
def sNaN : Spec where
  ι := Int
  dec l H := match l with
    | [.v (.int .i64 a)] => some (a, [])
    | _ => none
  args := fun a => [.v (.int .i64 a)]
  out := fun a => .leaf (.v (.bool false)) []
theorem sNaN_enc : ∀ l H n i ls, sNaN.dec l H = some (i, ls) → l = renL (rho ls n) (sNaN.args i) ∧ givenHp H ls = renH (rho ls n) (sNaN.hp i) := by
  intro l H n i ls h
  simp only [sNaN] at h
  repeat' split at h
  all_goals first
    | (cases h; done)
    | (cases h; exact ⟨rfl, rfl⟩)
def sLess : Spec where
  ι := Int × Int
  dec l H := match l with
    | [.v (.int .i64 a), .v (.int .i64 b)] => some ((a, b), [])
    | _ => none
  args := fun (a, b) => [.v (.int .i64 a), .v (.int .i64 b)]
  out := fun (a, b) => .leaf (.v (.bool (decide (a < b)))) []
theorem sLess_enc : ∀ l H n i ls, sLess.dec l H = some (i, ls) → l = renL (rho ls n) (sLess.args i) ∧ givenHp H ls = renH (rho ls n) (sLess.hp i) := by
  intro l H n i ls h
  simp only [sLess] at h
  repeat' split at h
  all_goals first
    | (cases h; done)
    | (cases h; exact ⟨rfl, rfl⟩)
def sGiven : Spec where
  ι := Int × List Int
  dec l H := match l with
    | [.ag [.v (.int .i64 g), .dat (.ints .i64 l)]] => some ((g, l), [])
    | _ => none
  args := fun (g, l) => [.ag [.v (.int .i64 g), .dat (.ints .i64 l)]]
  out := fun (g, l) => .leaf (.fn (.func 125) [] [.p 2000 0 0]) [(2000, .cells 24 [.v (.int .i64 g), .dat (.ints .i64 l)])]
theorem sGiven_enc : ∀ l H n i ls, sGiven.dec l H = some (i, ls) → l = renL (rho ls n) (sGiven.args i) ∧ givenHp H ls = renH (rho ls n) (sGiven.hp i) := by
  intro l H n i ls h
  simp only [sGiven] at h
  repeat' split at h
  all_goals first
    | (cases h; done)
    | (cases h; exact ⟨rfl, rfl⟩)
def sSpr : Spec where
  ι := Int × List Int
  dec l H := match l with
    | [.ag [.v (.int .i64 g), .dat (.ints .i64 l)]] => some ((g, l), [])
    | _ => none
  args := fun (g, l) => [.ag [.v (.int .i64 g), .dat (.ints .i64 l)]]
  pre := fun (g, l) => [⟨l.length ≤ 4294967296, inferInstance⟩]
  out := fun (g, l) => .leaf (.tu [.dat (.ints .i64 (sprO g l)), .v (.int .i64 (dchk g l))]) []
theorem sSpr_enc : ∀ l H n i ls, sSpr.dec l H = some (i, ls) → l = renL (rho ls n) (sSpr.args i) ∧ givenHp H ls = renH (rho ls n) (sSpr.hp i) := by
  intro l H n i ls h
  simp only [sSpr] at h
  repeat' split at h
  all_goals first
    | (cases h; done)
    | (cases h; exact ⟨rfl, rfl⟩)
def one (x : LoopInv) : Nat → Option LoopFam := fun k => cond (Nat.beq k 0) (some (.one x)) none
def oHigh (n : Int) : LoopInv := { ι := Nat, p := fun i => i ≤ 63, tm := fun i => [(0, .v (.int .i64 n)), (3, .v (.int .i64 (hiM n i))), (5, .v (.int .i64 (i : Nat)))], hp := fun _ => [], μ := fun i => 63 - i }
def oMin (l : List Int) : LoopInv := { ι := Nat, p := fun i => 1 ≤ i ∧ i ≤ l.length, tm := fun i => [(0, .dat (.ints .i64 l)), (3, .v (.int .i64 (minL (l.take i)))), (4, .v (.int .i64 (i : Nat)))], hp := fun _ => [], μ := fun i => l.length - i }
def oPoints (g : Int) (l : List Int) : LoopInv := { ι := Nat, p := fun i => i ≤ l.length, tm := fun i => [(3, .p 1001 0 0), (4, .fn (.func 124) [] [.p 1001 0 0]), (9, .dat (.ints .i64 l)), (10, .v (.int .i64 l.length)), (11, .v (.int .i64 (i : Nat)))], hp := fun i => [(1001, .cells 3 [.v (.int .i64 (min (pts (l.take i)) 1048576))])], μ := fun i => l.length - i }
def dB (g : Int) (l : List Int) : SBlk := .cells 24 [.v (.int .i64 g), .dat (.ints .i64 l)]
def mB (g : Int) (n : Nat) : SBlk := .mp (.one (.i .i64)) (.one .b) (rareM g n)
def oGivA (l0 : Nat) (g : Int) (l : List Int) : LoopInvI := { ι := Nat, p := fun i => i ≤ l.length, tm := fun i => [(0, .v (.func (.yield l0) #[] #[])), (1, .p 0 0 0), (3, .v (.int .i64 (szN g : Nat))), (4, .m 1000), (5, .v (.int .i64 ((szN g : Int) - 1 - (nrN (l.take i) : Nat)))), (18, .dat (.ints .i64 l)), (19, .v (.int .i64 l.length)), (20, .v (.int .i64 (i : Nat)))], hp := fun i => [(0, dB g l), (1000, mB g (nrN (l.take i)))], μ := fun i => l.length - i, y := fun i => nrN (l.take i) }
def oGivB (l0 : Nat) (g : Int) (l : List Int) : LoopInvI := { ι := Nat × Nat, p := fun x => x.1 ≤ l.length ∧ x.2 ≤ szN g ∧ cntT g l x.2 = hiN l x.1 ∧ (okC g l (oN g x.2) = true ∨ szN g ≤ nrN l), tm := fun x => [(0, .v (.func (.yield l0) #[] #[])), (1, .p 0 0 0), (3, .v (.int .i64 (szN g : Nat))), (4, .m 1000), (8, .v (.int .i64 (oN g x.2 : Nat))), (38, .dat (.ints .i64 l)), (39, .v (.int .i64 l.length)), (40, .v (.int .i64 (x.1 : Nat)))], hp := fun x => [(0, dB g l), (1000, mB g (nrN l))], μ := fun x => l.length - x.1, y := fun x => nrN l + hiN l x.1 }
def oGivC (l0 : Nat) (g : Int) (l : List Int) (i : Nat) : LoopInvI := { ι := Nat × Nat, p := fun x => i < l.length ∧ x.1 ≤ (l.getD i 0).toNat ∧ x.2 ≤ szN g ∧ cntT g l x.2 = hiN l i + x.1 ∧ (okC g l (oN g x.2) = true ∨ szN g ≤ nrN l), tm := fun x => [(0, .v (.func (.yield l0) #[] #[])), (1, .p 0 0 0), (3, .v (.int .i64 (szN g : Nat))), (4, .m 1000), (8, .v (.int .i64 (oN g x.2 : Nat))), (9, .v (.int .i64 (i : Nat))), (38, .dat (.ints .i64 l)), (39, .v (.int .i64 l.length)), (40, .v (.int .i64 (i : Nat))), (46, .v (.int .i64 ((l.getD i 0).toNat : Nat))), (47, .v (.int .i64 (x.1 : Nat)))], hp := fun x => [(0, dB g l), (1000, mB g (nrN l))], μ := fun x => (l.getD i 0).toNat - x.1, y := fun x => nrN l + (hiN l i + x.1) }
def oGivD (l0 : Nat) (g : Int) (l : List Int) (i j : Nat) : LoopInvI := { ι := Nat, p := fun t => i < l.length ∧ j < (l.getD i 0).toNat ∧ t ≤ szN g ∧ cntT g l t = hiN l i + (j + 1), tm := fun t => [(0, .v (.func (.yield l0) #[] #[])), (1, .p 0 0 0), (3, .v (.int .i64 (szN g : Nat))), (4, .m 1000), (8, .v (.int .i64 (oN g t : Nat))), (9, .v (.int .i64 (i : Nat))), (38, .dat (.ints .i64 l)), (39, .v (.int .i64 l.length)), (40, .v (.int .i64 (i : Nat))), (46, .v (.int .i64 ((l.getD i 0).toNat : Nat))), (47, .v (.int .i64 (j : Nat)))], hp := fun t => [(0, dB g l), (1000, mB g (nrN l))], μ := fun t => szN g - t, y := fun t => nrN l + (hiN l i + (j + 1)) }
def oGiv (l0 : Nat) (g : Int) (l : List Int) : Nat → Option LoopFamI := fun k => cond (Nat.beq k 0) (some ⟨Unit, fun _ => oGivA l0 g l⟩) (cond (Nat.beq k 1) (some ⟨Unit, fun _ => oGivB l0 g l⟩) (cond (Nat.beq k 2) (some ⟨Nat, fun i => oGivC l0 g l i⟩) (cond (Nat.beq k 3) (some ⟨Nat × Nat, fun x => oGivD l0 g l x.1 x.2⟩) none)))
def rSpr (g : Int) (l : List Int) : RngInv := { f := 125, cap := [.p 600008 0 0], hpI := [(600008, dB g l)], xs := itVs g l, it := fun i => itV ((itC g l).getD i (0, 0)), tm := [(5, .p 1001 0 0)], hp := fun i => [(1001, .cells 22 [.o 1002]), (1002, .row 3 (.ints .i64 (sprP g l i)))] }
def oPsp (g : Int) (l : List Int) : Nat → Option LoopFam := fun k => cond (Nat.beq k 0) (some (.rng Nat fun _ => rSpr g l)) none
def GEa : List (Nat × Ctr) := (52, sHigh.ctr) :: (124, sAdd.ctr) :: (93, sMin.ctr) :: (51, sMod.ctr) :: (126, sStep.ctr) :: (130, sNaN.ctr) :: (95, sGiven.ctr) :: []
def GEb : List (Nat × Ctr) := (94, sPoints.ctr) :: (101, sLess.ctr) :: GEa
def GEc : List (Nat × Ctr) := (59, sCheck.ctr) :: GEb
def GEd : List (Nat × Ctr) := (60, sSpr.ctr) :: GEc
end Go.Proofs.Ytbdgknebimdjoaa
namespace Go.Proofs.Ytbdgknebimdjoaa
open Go Go.RowKit
set_option linter.unusedVariables false
set_option maxRecDepth 100000
def high_t (n : Int) : Prop :=
 (∃ (x0 : Nat), Nat.le x0 (63 : Nat) ∧ n = n ∧ (-1 : Int) = hiM n x0 ∧ (0 : Int) = (↑x0 : Int)) ∧
 ∀ (x1 : Nat),
 Nat.le x1 (63 : Nat) →
 (decide ((↑x1 : Int) < (63 : Int)) = true →
 (0 : Int) ≤ (↑x1 : Int) ∧
 (decide (Int.fdiv n ((2 : Int) ^ min (Int.toNat (↑x1 : Int)) (IntKind.bits IntKind.i64)) > (0 : Int)) = true →
 ∃ (y2 : Nat),
 Nat.le y2 (63 : Nat) ∧ Nat.sub (63 : Nat) y2 < Nat.sub (63 : Nat) x1 ∧ n = n ∧ (↑x1 : Int) = hiM n y2 ∧ IntKind.wrap IntKind.i64 ((↑x1 : Int) + (1 : Int)) = (↑y2 : Int)) ∧
 (decide (Int.fdiv n ((2 : Int) ^ min (Int.toNat (↑x1 : Int)) (IntKind.bits IntKind.i64)) > (0 : Int)) = false →
 ∃ (y3 : Nat), Nat.le y3 (63 : Nat) ∧ Nat.sub (63 : Nat) y3 < Nat.sub (63 : Nat) x1 ∧ n = n ∧ hiM n x1 = hiM n y3 ∧ IntKind.wrap IntKind.i64 ((↑x1 : Int) + (1 : Int)) = (↑y3 : Int))) ∧
 (decide ((↑x1 : Int) < (63 : Int)) = false → hiM n x1 = hiI n)
theorem high_e (n : Int) : high_t n = vcG Try.prog (Gof []) (one (oHigh n)) Try.f52 [.v (.int .i64 n)] [] (.leaf ((.v (.int .i64 (hiI n)))) ([])) := by kernel_rfl
def modK_t (x m : Int) : Prop :=
 (decide (m < (1 : Int)) = true → (0 : Int) = modI x m) ∧
 (decide (m < (1 : Int)) = false →
 m ≠ (0 : Int) ∧ (decide (Int.tmod x m < (0 : Int)) = true → IntKind.wrap IntKind.i64 (Int.tmod x m + m) = modI x m) ∧ (decide (Int.tmod x m < (0 : Int)) = false → Int.tmod x m = modI x m))
theorem modK_e (x m : Int) : modK_t x m = vcG Try.prog (Gof []) (fun _ => none) Try.f51 [.v (.int .i64 x), .v (.int .i64 m)] [] (.leaf ((.v (.int .i64 (modI x m)))) ([])) := by kernel_rfl
def minK_t (l : List Int) : Prop :=
 (decide ((↑(List.length l) : Int) < (1 : Int)) = true → False) ∧
 (decide ((↑(List.length l) : Int) < (1 : Int)) = false →
 (0 : Int) ≤ (0 : Int) ∧
 (0 : Int) < (↑(List.length l) : Int) ∧
 (∃ (x0 : Nat), ((1 : Nat) ≤ x0 ∧ x0 ≤ List.length l) ∧ l = l ∧ List.getD l (Int.toNat (0 : Int)) (0 : Int) = minL (List.take x0 l) ∧ (1 : Int) = (↑x0 : Int)) ∧
 ∀ (x1 : Nat),
 (1 : Nat) ≤ x1 ∧ x1 ≤ List.length l →
 (decide ((↑x1 : Int) < (↑(List.length l) : Int)) = true →
 (0 : Int) ≤ (↑x1 : Int) ∧
 (↑x1 : Int) < (↑(List.length l) : Int) ∧
 ∃ (y2 : Nat),
 ((1 : Nat) ≤ y2 ∧ y2 ≤ List.length l) ∧
 Nat.sub (List.length l) y2 < Nat.sub (List.length l) x1 ∧
 l = l ∧
 min (minL (List.take x1 l)) (List.getD l (Int.toNat (↑x1 : Int)) (0 : Int)) = minL (List.take y2 l) ∧ IntKind.wrap IntKind.i64 ((↑x1 : Int) + (1 : Int)) = (↑y2 : Int)) ∧
 (decide ((↑x1 : Int) < (↑(List.length l) : Int)) = false → minL (List.take x1 l) = minL l))
theorem minK_e (l : List Int) : minK_t l = vcG Try.prog (Gof []) (one (oMin l)) Try.f93 [.dat (.ints .i64 l)] [] (.leaf ((.v (.int .i64 (minL l)))) ([])) := by kernel_rfl
def add_t (n s : Int) : Prop :=
 min (IntKind.wrap IntKind.i64 (s + n)) (1048576 : Int) = min (s + n) (1048576 : Int)
theorem add_e (n s : Int) : add_t n s = vcG Try.prog (Gof []) (fun _ => none) Try.f124 [.v (.int .i64 n), .p 0 0 0] [(0, .cells 3 [.v (.int .i64 s)])] (.leaf ((.tu [])) ([(0, .cells 3 [.v (.int .i64 (min (s + n) 1048576))])])) := by kernel_rfl
def stepE_t (g : Int) : Prop :=
 (0 : Int) ≤ g ∧
 (0 : Int) ≤ (1 : Int) ∧
 (0 : Int) ≤ (3 : Int) ∧
 IntKind.wrap IntKind.i64
 (IntKind.wrap IntKind.i64
 (Int.fdiv (IntKind.wrap IntKind.i64 ((1 : Int) * (2 : Int) ^ min (Int.toNat g) (IntKind.bits IntKind.i64))) ((2 : Int) ^ min (Int.toNat (1 : Int)) (IntKind.bits IntKind.i64)) +
 Int.fdiv (IntKind.wrap IntKind.i64 ((1 : Int) * (2 : Int) ^ min (Int.toNat g) (IntKind.bits IntKind.i64))) ((2 : Int) ^ min (Int.toNat (3 : Int)) (IntKind.bits IntKind.i64))) +
 (3 : Int)) =
 (↑(stN g) : Int)
theorem stepE_e (g : Int) : stepE_t g = vcG Try.prog (Gof []) (fun _ => none) Try.f126 [.v (.int .i64 g)] [] (.leaf ((.v (.int .i64 (stN g)))) ([])) := by kernel_rfl
def nanE_t (a : Int) : Prop :=
 (a != a) = false
theorem nanE_e (a : Int) : nanE_t a = vcG Try.prog (Gof []) (fun _ => none) Try.f130 [.v (.int .i64 a)] [] (.leaf ((.v (.bool false))) ([])) := by kernel_rfl
def givenE_t (g : Int) (l : List Int) : Prop :=
 g = g ∧ l = l
theorem givenE_e (g : Int) (l : List Int) : givenE_t g l = vcG Try.prog (Gof []) (fun _ => none) Try.f95 [.ag [.v (.int .i64 g), .dat (.ints .i64 l)]] [] (.leaf ((.fn (.func 125) [] [.p 2000 0 0])) ([(2000, .cells 24 [.v (.int .i64 g), .dat (.ints .i64 l)])])) := by kernel_rfl
def points_t (g : Int) (l : List Int) : Prop :=
 (∃ (x0 : Nat), Nat.le x0 (List.length l) ∧ l = l ∧ (↑(List.length l) : Int) = (↑(List.length l) : Int) ∧ (0 : Int) = (↑x0 : Int) ∧ (0 : Int) = min (pts (List.take x0 l)) (1048576 : Int)) ∧
 ∀ (x1 : Nat),
 Nat.le x1 (List.length l) →
 (decide ((↑x1 : Int) < (↑(List.length l) : Int)) = true →
 (0 : Int) ≤ (↑x1 : Int) ∧
 (↑x1 : Int) < (↑(List.length l) : Int) ∧
 (decide (List.getD l (Int.toNat (↑x1 : Int)) (0 : Int) < (0 : Int)) = true →
 (0 : Int) ≤ (1 : Int) ∧
 (1 : Int) ≤ (1048576 : Int) ∧
 (0 : Int) ≤ min (pts (List.take x1 l)) (1048576 : Int) ∧
 min (pts (List.take x1 l)) (1048576 : Int) ≤ (1048576 : Int) ∧
 ∃ (y2 : Nat),
 Nat.le y2 (List.length l) ∧
 Nat.sub (List.length l) y2 < Nat.sub (List.length l) x1 ∧
 l = l ∧
 (↑(List.length l) : Int) = (↑(List.length l) : Int) ∧
 IntKind.wrap IntKind.i64 ((↑x1 : Int) + (1 : Int)) = (↑y2 : Int) ∧
 min (min (pts (List.take x1 l)) (1048576 : Int) + (1 : Int)) (1048576 : Int) = min (pts (List.take y2 l)) (1048576 : Int)) ∧
 (decide (List.getD l (Int.toNat (↑x1 : Int)) (0 : Int) < (0 : Int)) = false →
 (0 : Int) ≤ min (List.getD l (Int.toNat (↑x1 : Int)) (0 : Int)) (1048576 : Int) ∧
 min (List.getD l (Int.toNat (↑x1 : Int)) (0 : Int)) (1048576 : Int) ≤ (1048576 : Int) ∧
 (0 : Int) ≤ min (pts (List.take x1 l)) (1048576 : Int) ∧
 min (pts (List.take x1 l)) (1048576 : Int) ≤ (1048576 : Int) ∧
 ∃ (y3 : Nat),
 Nat.le y3 (List.length l) ∧
 Nat.sub (List.length l) y3 < Nat.sub (List.length l) x1 ∧
 l = l ∧
 (↑(List.length l) : Int) = (↑(List.length l) : Int) ∧
 IntKind.wrap IntKind.i64 ((↑x1 : Int) + (1 : Int)) = (↑y3 : Int) ∧
 min (min (pts (List.take x1 l)) (1048576 : Int) + min (List.getD l (Int.toNat (↑x1 : Int)) (0 : Int)) (1048576 : Int)) (1048576 : Int) =
 min (pts (List.take y3 l)) (1048576 : Int))) ∧
 (decide ((↑x1 : Int) < (↑(List.length l) : Int)) = false → min (pts (List.take x1 l)) (1048576 : Int) = min (pts l) (1048576 : Int))
theorem points_e (g : Int) (l : List Int) : points_t g l = vcG Try.prog (Gof GEa) (one (oPoints g l)) Try.f94 [.ag [.v (.int .i64 g), .dat (.ints .i64 l)]] [] (.leaf ((.v (.int .i64 (min (pts l) 1048576)))) ([])) := by kernel_rfl
def lessE_t (a b : Int) : Prop :=
 (false = true → ((!false) = true → true = decide (a < b)) ∧ ((!false) = false → decide (a < b) = decide (a < b))) ∧ (false = false → decide (a < b) = decide (a < b))
theorem lessE_e (a b : Int) : lessE_t a b = vcG Try.prog (Gof GEa) (fun _ => none) Try.f101 [.v (.int .i64 a), .v (.int .i64 b)] [] (.leaf ((.v (.bool (decide (a < b))))) ([])) := by kernel_rfl
def check_t (g : Int) (l : List Int) : Prop :=
 (decide (g < (5 : Int)) = true → (31 : Int) = dchk g l) ∧
 (decide (g < (5 : Int)) = false →
 (decide (g > (12 : Int)) = true → (31 : Int) = dchk g l) ∧
 (decide (g > (12 : Int)) = false →
 (decide ((↑(List.length l) : Int) < (1 : Int)) = true → (23 : Int) = dchk g l) ∧
 (decide ((↑(List.length l) : Int) < (1 : Int)) = false →
 (decide ((↑(List.length l) : Int) > (256 : Int)) = true → (23 : Int) = dchk g l) ∧
 (decide ((↑(List.length l) : Int) > (256 : Int)) = false →
 (0 : Int) ≤ IntKind.wrap IntKind.i64 ((↑(List.length l) : Int) - (1 : Int)) ∧
 IntKind.wrap IntKind.i64 ((↑(List.length l) : Int) - (1 : Int)) < (↑(List.length l) : Int) ∧
 ((List.getD l (Int.toNat (IntKind.wrap IntKind.i64 ((↑(List.length l) : Int) - (1 : Int)))) (0 : Int) == (0 : Int)) = true → (23 : Int) = dchk g l) ∧
 ((List.getD l (Int.toNat (IntKind.wrap IntKind.i64 ((↑(List.length l) : Int) - (1 : Int)))) (0 : Int) == (0 : Int)) = false →
 (0 : Nat) < List.length l ∧
 List.length l ≤ (4294967296 : Nat) ∧
 (decide (minL l < (-1 : Int)) = true → (23 : Int) = dchk g l) ∧
 (decide (minL l < (-1 : Int)) = false →
 List.length l ≤ (4294967296 : Nat) ∧
 (0 : Int) ≤ g ∧
 ((min (pts l) (1048576 : Int) != IntKind.wrap IntKind.i64 ((1 : Int) * (2 : Int) ^ min (Int.toNat g) (IntKind.bits IntKind.i64))) = true → (23 : Int) = dchk g l) ∧
 ((min (pts l) (1048576 : Int) != IntKind.wrap IntKind.i64 ((1 : Int) * (2 : Int) ^ min (Int.toNat g) (IntKind.bits IntKind.i64))) = false →
 (0 : Int) = dchk g l)))))))
theorem check_e (g : Int) (l : List Int) : check_t g l = vcG Try.prog (Gof GEb) (fun _ => none) Try.f59 [.ag [.v (.int .i64 g), .dat (.ints .i64 l)]] [] (.leaf ((.v (.int .i64 (dchk g l)))) ([])) := by kernel_rfl
def sprE_t (g : Int) (l : List Int) : Prop :=
 List.length l ≤ (4294967296 : Nat) ∧
 ((dchk g l != (0 : Int)) = true → List.length (sprO g l) = (0 : Nat) ∧ dchk g l = dchk g l) ∧
 ((dchk g l != (0 : Int)) = false →
 (0 : Int) ≤ g ∧
 (0 : Int) ≤ IntKind.wrap IntKind.i64 ((1 : Int) * (2 : Int) ^ min (Int.toNat g) (IntKind.bits IntKind.i64)) ∧
 IntKind.wrap IntKind.i64 ((1 : Int) * (2 : Int) ^ min (Int.toNat g) (IntKind.bits IntKind.i64)) ≤
 IntKind.wrap IntKind.i64 ((1 : Int) * (2 : Int) ^ min (Int.toNat g) (IntKind.bits IntKind.i64)) ∧
 (↑((8 : Nat)) : Int) * IntKind.wrap IntKind.i64 ((1 : Int) * (2 : Int) ^ min (Int.toNat g) (IntKind.bits IntKind.i64)) ≤ (281474976710656 : Int) ∧
 IntKind.wrap IntKind.i64 ((1 : Int) * (2 : Int) ^ min (Int.toNat g) (IntKind.bits IntKind.i64)) ≤ (9223372036854775807 : Int) ∧
 ∃ (y0 : Nat),
 ISat Try.prog ((125 : Nat)) [SV.p (600008 : Nat) (0 : Nat) (0 : Nat)] [((600008 : Nat), SBlk.cells (24 : TypeId) [SV.v (Value.int IntKind.i64 g), SV.dat (Dat.ints IntKind.i64 l)])]
 (List.map itV (itC g l)) ∧
 (g = g ∧ l = l) ∧
 True ∧
 List.replicate (Int.toNat (IntKind.wrap IntKind.i64 ((1 : Int) * (2 : Int) ^ min (Int.toNat g) (IntKind.bits IntKind.i64)))) (0 : Int) = sprP g l (0 : Nat) ∧
 (∀ (i1 : Nat),
 i1 < List.length (List.map itV (itC g l)) →
 True →
 (List.map itV (itC g l))[i1]? =
 some [Value.int IntKind.i64 (List.getD (itC g l) i1 ((0 : Int), (0 : Int))).fst, Value.int IntKind.i64 (List.getD (itC g l) i1 ((0 : Int), (0 : Int))).snd] ∧
 List.length [Value.int IntKind.i64 (List.getD (itC g l) i1 ((0 : Int), (0 : Int))).fst, Value.int IntKind.i64 (List.getD (itC g l) i1 ((0 : Int), (0 : Int))).snd] =
 List.length #[(19 : Nat), (20 : Nat)].toList ∧
 (0 : Int) ≤ (List.getD (itC g l) i1 ((0 : Int), (0 : Int))).fst ∧
 (List.getD (itC g l) i1 ((0 : Int), (0 : Int))).fst < (↑(List.length (sprP g l i1)) : Int) ∧
 Int.toNat (List.getD (itC g l) i1 ((0 : Int), (0 : Int))).fst < List.length (sprP g l i1) ∧
 True ∧
 List.set (sprP g l i1) (Int.toNat (List.getD (itC g l) i1 ((0 : Int), (0 : Int))).fst) (List.getD (itC g l) i1 ((0 : Int), (0 : Int))).snd =
 sprP g l (i1 + (1 : Nat))) ∧
 (True → sprP g l (List.length (List.map itV (itC g l))) = sprO g l ∧ (0 : Int) = dchk g l))
theorem sprE_e (g : Int) (l : List Int) : sprE_t g l = vcG Try.prog (Gof GEc) (oPsp g l) Try.f60 [.ag [.v (.int .i64 g), .dat (.ints .i64 l)]] [] (.leaf ((.tu [.dat (.ints .i64 (sprO g l)), .v (.int .i64 (dchk g l))])) ([])) := by kernel_rfl
def givIt_t (g : Int) (l : List Int) (l0 : Nat) : Prop :=
 (0 : Int) ≤ g ∧
 ∃ (g0 : Unit),
 ∃ (x1 : Nat),
 Nat.le x1 (List.length l) ∧
 ((0 : Nat), true) = (List.length (List.filter isR (List.take x1 l)), true) ∧
 (Value.func (Fn.yield l0) #[] #[] = Value.func (Fn.yield l0) #[] #[] ∧
 IntKind.wrap IntKind.i64 ((1 : Int) * (2 : Int) ^ min (Int.toNat g) (IntKind.bits IntKind.i64)) = (↑(szN g) : Int) ∧
 IntKind.wrap IntKind.i64 (IntKind.wrap IntKind.i64 ((1 : Int) * (2 : Int) ^ min (Int.toNat g) (IntKind.bits IntKind.i64)) - (1 : Int)) =
 (↑(szN g) : Int) - (1 : Int) - (↑(nrN (List.take x1 l)) : Int) ∧
 l = l ∧ (↑(List.length l) : Int) = (↑(List.length l) : Int) ∧ (0 : Int) = (↑x1 : Int) ∧ g = g ∧ l = l ∧ ∀ (q2 : List Int), mget [] q2 = mget (rareM g (nrN (List.take x1 l))) q2) ∧
 ∀ (x3 : Nat),
 Nat.le x3 (List.length l) →
 (decide ((↑x3 : Int) < (↑(List.length l) : Int)) = true →
 (0 : Int) ≤ (↑x3 : Int) ∧
 (↑x3 : Int) < (↑(List.length l) : Int) ∧
 ((List.getD l (Int.toNat (↑x3 : Int)) (0 : Int) == (-1 : Int)) = true →
 l0 = l0 ∧
 (itVs g l)[List.length (List.filter isR (List.take x3 l))]? =
 some [Value.int IntKind.i64 ((↑(szN g) : Int) - (1 : Int) - (↑(nrN (List.take x3 l)) : Int)), Value.int IntKind.i64 (↑x3 : Int)] ∧
 (∃ (y4 : Nat),
 Nat.le y4 (List.length l) ∧
 (List.length (List.filter isR (List.take x3 l)) + (1 : Nat), true) = (List.length (List.filter isR (List.take y4 l)), true) ∧
 Nat.sub (List.length l) y4 < Nat.sub (List.length l) x3 ∧
 Value.func (Fn.yield l0) #[] #[] = Value.func (Fn.yield l0) #[] #[] ∧
 (↑(szN g) : Int) = (↑(szN g) : Int) ∧
 IntKind.wrap IntKind.i64 ((↑(szN g) : Int) - (1 : Int) - (↑(nrN (List.take x3 l)) : Int) - (1 : Int)) =
 (↑(szN g) : Int) - (1 : Int) - (↑(nrN (List.take y4 l)) : Int) ∧
 l = l ∧
 (↑(List.length l) : Int) = (↑(List.length l) : Int) ∧
 IntKind.wrap IntKind.i64 ((↑x3 : Int) + (1 : Int)) = (↑y4 : Int) ∧
 g = g ∧
 l = l ∧
 ∀ (q5 : List Int),
 mget (([(↑(szN g) : Int) - (1 : Int) - (↑(nrN (List.take x3 l)) : Int)], [(1 : Int)]) :: rareM g (nrN (List.take x3 l))) q5 =
 mget (rareM g (nrN (List.take y4 l))) q5) ∧
 True) ∧
 ((List.getD l (Int.toNat (↑x3 : Int)) (0 : Int) == (-1 : Int)) = false →
 ∃ (y6 : Nat),
 Nat.le y6 (List.length l) ∧
 (List.length (List.filter isR (List.take x3 l)), true) = (List.length (List.filter isR (List.take y6 l)), true) ∧
 Nat.sub (List.length l) y6 < Nat.sub (List.length l) x3 ∧
 Value.func (Fn.yield l0) #[] #[] = Value.func (Fn.yield l0) #[] #[] ∧
 (↑(szN g) : Int) = (↑(szN g) : Int) ∧
 (↑(szN g) : Int) - (1 : Int) - (↑(nrN (List.take x3 l)) : Int) = (↑(szN g) : Int) - (1 : Int) - (↑(nrN (List.take y6 l)) : Int) ∧
 l = l ∧
 (↑(List.length l) : Int) = (↑(List.length l) : Int) ∧
 IntKind.wrap IntKind.i64 ((↑x3 : Int) + (1 : Int)) = (↑y6 : Int) ∧
 g = g ∧ l = l ∧ ∀ (q7 : List Int), mget (rareM g (nrN (List.take x3 l))) q7 = mget (rareM g (nrN (List.take y6 l))) q7)) ∧
 (decide ((↑x3 : Int) < (↑(List.length l) : Int)) = false →
 ∃ (g8 : Unit),
 ∃ (x9 : Nat × Nat),
 (x9.fst ≤ List.length l ∧ x9.snd ≤ szN g ∧ cntT g l x9.snd = hiN l x9.fst ∧ (okC g l (oN g x9.snd) = true ∨ szN g ≤ nrN l)) ∧
 (List.length (List.filter isR (List.take x3 l)), true) = (Nat.add (nrN l) (hiN l x9.fst), true) ∧
 (Value.func (Fn.yield l0) #[] #[] = Value.func (Fn.yield l0) #[] #[] ∧
 (↑(szN g) : Int) = (↑(szN g) : Int) ∧
 (0 : Int) = (↑(oN g x9.snd) : Int) ∧
 l = l ∧
 (↑(List.length l) : Int) = (↑(List.length l) : Int) ∧
 (0 : Int) = (↑x9.fst : Int) ∧ g = g ∧ l = l ∧ ∀ (q10 : List Int), mget (rareM g (nrN (List.take x3 l))) q10 = mget (rareM g (nrN l)) q10) ∧
 ∀ (x11 : Nat × Nat),
 x11.fst ≤ List.length l ∧ x11.snd ≤ szN g ∧ cntT g l x11.snd = hiN l x11.fst ∧ (okC g l (oN g x11.snd) = true ∨ szN g ≤ nrN l) →
 (decide ((↑x11.fst : Int) < (↑(List.length l) : Int)) = true →
 (0 : Int) ≤ (↑x11.fst : Int) ∧
 (↑x11.fst : Int) < (↑(List.length l) : Int) ∧
 ∃ (g12 : Nat),
 ∃ (x13 : Nat × Nat),
 (g12 < List.length l ∧
 x13.fst ≤ Int.toNat (List.getD l g12 (0 : Int)) ∧
 x13.snd ≤ szN g ∧ cntT g l x13.snd = hiN l g12 + x13.fst ∧ (okC g l (oN g x13.snd) = true ∨ szN g ≤ nrN l)) ∧
 (Nat.add (nrN l) (hiN l x11.fst), true) = (Nat.add (nrN l) (hiN l g12 + x13.fst), true) ∧
 (Value.func (Fn.yield l0) #[] #[] = Value.func (Fn.yield l0) #[] #[] ∧
 (↑(szN g) : Int) = (↑(szN g) : Int) ∧
 (↑(oN g x11.snd) : Int) = (↑(oN g x13.snd) : Int) ∧
 (↑x11.fst : Int) = (↑g12 : Int) ∧
 l = l ∧
 (↑(List.length l) : Int) = (↑(List.length l) : Int) ∧
 (↑x11.fst : Int) = (↑g12 : Int) ∧
 max (List.getD l (Int.toNat (↑x11.fst : Int)) (0 : Int)) (0 : Int) = (↑(Int.toNat (List.getD l g12 (0 : Int))) : Int) ∧
 (0 : Int) = (↑x13.fst : Int) ∧ g = g ∧ l = l ∧ ∀ (q14 : List Int), mget (rareM g (nrN l)) q14 = mget (rareM g (nrN l)) q14) ∧
 ∀ (x15 : Nat × Nat),
 g12 < List.length l ∧
 x15.fst ≤ Int.toNat (List.getD l g12 (0 : Int)) ∧
 x15.snd ≤ szN g ∧ cntT g l x15.snd = hiN l g12 + x15.fst ∧ (okC g l (oN g x15.snd) = true ∨ szN g ≤ nrN l) →
 (decide ((↑x15.fst : Int) < (↑(Int.toNat (List.getD l g12 (0 : Int))) : Int)) = true →
 l0 = l0 ∧
 (itVs g l)[Nat.add (nrN l) (hiN l g12 + x15.fst)]? =
 some [Value.int IntKind.i64 (↑(oN g x15.snd) : Int), Value.int IntKind.i64 (↑g12 : Int)] ∧
 ((5 : Int) ≤ g ∧
 g ≤ (12 : Int) ∧
 ∃ (g16 : Nat × Nat),
 ∃ (x17 : Nat),
 (g16.fst < List.length l ∧
 g16.snd < Int.toNat (List.getD l g16.fst (0 : Int)) ∧
 x17 ≤ szN g ∧ cntT g l x17 = hiN l g16.fst + (g16.snd + (1 : Nat))) ∧
 (Nat.add (nrN l) (hiN l g12 + x15.fst) + (1 : Nat), true) =
 (Nat.succ (Nat.add (nrN l) (Nat.add (hiN l g16.fst) g16.snd)), true) ∧
 (Value.func (Fn.yield l0) #[] #[] = Value.func (Fn.yield l0) #[] #[] ∧
 (↑(szN g) : Int) = (↑(szN g) : Int) ∧
 bits BinOp.and IntKind.i64 (IntKind.wrap IntKind.i64 ((↑(oN g x15.snd) : Int) + (↑(stN g) : Int)))
 (IntKind.wrap IntKind.i64 ((↑(szN g) : Int) - (1 : Int))) =
 (↑(oN g x17) : Int) ∧
 (↑g12 : Int) = (↑g16.fst : Int) ∧
 l = l ∧
 (↑(List.length l) : Int) = (↑(List.length l) : Int) ∧
 (↑g12 : Int) = (↑g16.fst : Int) ∧
 (↑(Int.toNat (List.getD l g12 (0 : Int))) : Int) = (↑(Int.toNat (List.getD l g16.fst (0 : Int))) : Int) ∧
 (↑x15.fst : Int) = (↑g16.snd : Int) ∧
 g = g ∧ l = l ∧ ∀ (q18 : List Int), mget (rareM g (nrN l)) q18 = mget (rareM g (nrN l)) q18) ∧
 ∀ (x19 : Nat),
 g16.fst < List.length l ∧
 g16.snd < Int.toNat (List.getD l g16.fst (0 : Int)) ∧
 x19 ≤ szN g ∧ cntT g l x19 = hiN l g16.fst + (g16.snd + (1 : Nat)) →
 ((List.headD (mval ((1 : Nat)) (rareM g (nrN l)) [(↑(oN g x19) : Int)]) (0 : Int) == (1 : Int)) = true →
 (5 : Int) ≤ g ∧
 g ≤ (12 : Int) ∧
 ∃ (y20 : Nat),
 (g16.fst < List.length l ∧
 g16.snd < Int.toNat (List.getD l g16.fst (0 : Int)) ∧
 y20 ≤ szN g ∧ cntT g l y20 = hiN l g16.fst + (g16.snd + (1 : Nat))) ∧
 (Nat.succ (Nat.add (nrN l) (Nat.add (hiN l g16.fst) g16.snd)), true) =
 (Nat.succ (Nat.add (nrN l) (Nat.add (hiN l g16.fst) g16.snd)), true) ∧
 Nat.sub (szN g) y20 < Nat.sub (szN g) x19 ∧
 Value.func (Fn.yield l0) #[] #[] = Value.func (Fn.yield l0) #[] #[] ∧
 (↑(szN g) : Int) = (↑(szN g) : Int) ∧
 bits BinOp.and IntKind.i64 (IntKind.wrap IntKind.i64 ((↑(oN g x19) : Int) + (↑(stN g) : Int)))
 (IntKind.wrap IntKind.i64 ((↑(szN g) : Int) - (1 : Int))) =
 (↑(oN g y20) : Int) ∧
 (↑g16.fst : Int) = (↑g16.fst : Int) ∧
 l = l ∧
 (↑(List.length l) : Int) = (↑(List.length l) : Int) ∧
 (↑g16.fst : Int) = (↑g16.fst : Int) ∧
 (↑(Int.toNat (List.getD l g16.fst (0 : Int))) : Int) =
 (↑(Int.toNat (List.getD l g16.fst (0 : Int))) : Int) ∧
 (↑g16.snd : Int) = (↑g16.snd : Int) ∧
 g = g ∧
 l = l ∧
 ∀ (q21 : List Int), mget (rareM g (nrN l)) q21 = mget (rareM g (nrN l)) q21) ∧
 ((List.headD (mval ((1 : Nat)) (rareM g (nrN l)) [(↑(oN g x19) : Int)]) (0 : Int) == (1 : Int)) = false →
 ∃ (y22 : Nat × Nat),
 (g12 < List.length l ∧
 y22.fst ≤ Int.toNat (List.getD l g12 (0 : Int)) ∧
 y22.snd ≤ szN g ∧
 cntT g l y22.snd = hiN l g12 + y22.fst ∧ (okC g l (oN g y22.snd) = true ∨ szN g ≤ nrN l)) ∧
 (Nat.succ (Nat.add (nrN l) (Nat.add (hiN l g16.fst) g16.snd)), true) =
 (Nat.add (nrN l) (hiN l g12 + y22.fst), true) ∧
 Nat.sub (Int.toNat (List.getD l g12 (0 : Int))) y22.fst <
 Nat.sub (Int.toNat (List.getD l g12 (0 : Int))) x15.fst ∧
 Value.func (Fn.yield l0) #[] #[] = Value.func (Fn.yield l0) #[] #[] ∧
 (↑(szN g) : Int) = (↑(szN g) : Int) ∧
 (↑(oN g x19) : Int) = (↑(oN g y22.snd) : Int) ∧
 (↑g16.fst : Int) = (↑g12 : Int) ∧
 l = l ∧
 (↑(List.length l) : Int) = (↑(List.length l) : Int) ∧
 (↑g16.fst : Int) = (↑g12 : Int) ∧
 (↑(Int.toNat (List.getD l g16.fst (0 : Int))) : Int) =
 (↑(Int.toNat (List.getD l g12 (0 : Int))) : Int) ∧
 IntKind.wrap IntKind.i64 ((↑g16.snd : Int) + (1 : Int)) = (↑y22.fst : Int) ∧
 g = g ∧
 l = l ∧
 ∀ (q23 : List Int), mget (rareM g (nrN l)) q23 = mget (rareM g (nrN l)) q23)) ∧
 True) ∧
 (decide ((↑x15.fst : Int) < (↑(Int.toNat (List.getD l g12 (0 : Int))) : Int)) = false →
 ∃ (y24 : Nat × Nat),
 (y24.fst ≤ List.length l ∧ y24.snd ≤ szN g ∧ cntT g l y24.snd = hiN l y24.fst ∧ (okC g l (oN g y24.snd) = true ∨ szN g ≤ nrN l)) ∧
 (Nat.add (nrN l) (hiN l g12 + x15.fst), true) = (Nat.add (nrN l) (hiN l y24.fst), true) ∧
 Nat.sub (List.length l) y24.fst < Nat.sub (List.length l) x11.fst ∧
 Value.func (Fn.yield l0) #[] #[] = Value.func (Fn.yield l0) #[] #[] ∧
 (↑(szN g) : Int) = (↑(szN g) : Int) ∧
 (↑(oN g x15.snd) : Int) = (↑(oN g y24.snd) : Int) ∧
 l = l ∧
 (↑(List.length l) : Int) = (↑(List.length l) : Int) ∧
 IntKind.wrap IntKind.i64 ((↑g12 : Int) + (1 : Int)) = (↑y24.fst : Int) ∧
 g = g ∧ l = l ∧ ∀ (q25 : List Int), mget (rareM g (nrN l)) q25 = mget (rareM g (nrN l)) q25)) ∧
 (decide ((↑x11.fst : Int) < (↑(List.length l) : Int)) = false → Nat.add (nrN l) (hiN l x11.fst) = List.length (itVs g l)))
theorem givIt_e (g : Int) (l : List Int) (l0 : Nat) : givIt_t g l l0 = vcFI Try.prog (Gof GEa) l0 (itVs g l) (oGiv l0 g l) Try.f125 [.p 0 0 0] [(0, .cells 24 [.v (.int .i64 g), .dat (.ints .i64 l)])]  := by kernel_rfl
end Go.Proofs.Ytbdgknebimdjoaa
namespace Go.Proofs.Ytbdgknebimdjoaa
open Go Go.RowKit
set_option linter.unusedVariables false
set_option linter.unusedSimpArgs false
set_option maxRecDepth 100000
theorem filt_at {p : Nat → Bool} : ∀ {n t : Nat}, t < n → p t = true → ((List.range n).filter p)[((List.range t).filter p).length]? = some t
  | n + 1, t, h, hp => by
    rw [List.range_succ, List.filter_append]
    by_cases ht : t < n
    · have ih := filt_at (n := n) ht hp
      have hl := (List.getElem?_eq_some_iff.1 ih).1
      rw [List.getElem?_append_left hl]
      exact ih
    · have e : t = n := by omega
      subst e
      rw [List.getElem?_append_right (Nat.le_refl _), Nat.sub_self]
      simp [hp]
theorem perm_of_range {l : List Nat} {n : Nat} (hd : l.Nodup) (hl : l.length = n) (h : ∀ x ∈ l, x < n) : l.Perm (List.range n) := by
  rw [List.perm_ext_iff_of_nodup hd List.nodup_range]
  intro a
  rw [List.mem_range]
  refine ⟨h a, fun ha => ?_⟩
  by_cases hm : a ∈ l
  · exact hm
  · exfalso
    have h1 : (a :: l).Nodup := List.nodup_cons.2 ⟨hm, hd⟩
    have h2 : (a :: l) ⊆ List.range n := by
      intro x hx
      rw [List.mem_range]
      simp only [List.mem_cons] at hx
      rcases hx with rfl | hx
      · exact ha
      · exact h x hx
    have := List.Nodup.length_le_of_subset h1 h2
    simp only [List.length_cons, List.length_range] at this
    omega
structure DOk (g : Int) (l : List Int) : Prop where
  g5 : 5 ≤ g
  g12 : g ≤ 12
  n1 : 1 ≤ l.length
  n2 : l.length ≤ 256
  lo : ∀ x ∈ l, -1 ≤ x
  last : l.getD (l.length - 1) 0 ≠ 0
  sum : pts l = 2 ^ g.toNat
theorem dchk0 {g : Int} {l : List Int} (h : dchk g l = 0) : DOk g l := by
  unfold dchk at h
  cases h1 : decide (g < 5) || decide (12 < g)
  · rw [h1, cond_false] at h
    simp only [Bool.or_eq_false_iff, decide_eq_false_iff_not] at h1
    cases h2 : dbad g l
    · unfold dbad at h2
      simp only [Bool.or_eq_false_iff, decide_eq_false_iff_not, Bool.not_eq_false', beq_iff_eq, beq_eq_false_iff_ne, List.any_eq_false, decide_eq_true_eq] at h2
      obtain ⟨⟨⟨⟨k1, k2⟩, k3⟩, k4⟩, k5⟩ := h2
      exact ⟨by omega, by omega, by omega, by omega, fun x hx => by have := k4 x hx; omega, k3, k5⟩
    · rw [h2] at h; cases h
  · rw [h1] at h; cases h
theorem dchk0' {g : Int} {l : List Int} (h : DOk g l) : dchk g l = 0 := by
  unfold dchk
  rw [decide_eq_false (by have := h.g5; omega), decide_eq_false (by have := h.g12; omega), Bool.or_false, cond_false]
  have : dbad g l = false := by
    unfold dbad
    simp only [Bool.or_eq_false_iff, decide_eq_false_iff_not, Bool.not_eq_false', beq_iff_eq, beq_eq_false_iff_ne, List.any_eq_false, decide_eq_true_eq]
    exact ⟨⟨⟨⟨by have := h.n1; omega, by have := h.n2; omega⟩, h.last⟩, fun x hx => by have := h.lo x hx; omega⟩, h.sum⟩
  rw [this]
  rfl
theorem szI (g : Int) : (szN g : Int) = 2 ^ g.toNat := by simp [szN]
theorem szN_bd {g : Int} (h1 : 5 ≤ g) (h2 : g ≤ 12) : 32 ≤ szN g ∧ szN g ≤ 4096 := by
  unfold szN
  have a := Nat.pow_le_pow_right (show 0 < 2 by omega) (show 5 ≤ g.toNat by omega)
  have b := Nat.pow_le_pow_right (show 0 < 2 by omega) (show g.toNat ≤ 12 by omega)
  exact ⟨a, b⟩
theorem szN_pos (g : Int) : 0 < szN g := Nat.two_pow_pos _
theorem stN_bd {g : Int} (h1 : 5 ≤ g) (h2 : g ≤ 12) : 1 ≤ stN g ∧ stN g ≤ 4096 := by
  have := szN_bd h1 h2
  unfold stN
  omega
theorem stN_odd {g : Int} (h1 : 5 ≤ g) : stN g % 2 = 1 := by
  obtain ⟨k, hk⟩ : ∃ k, g.toNat = k + 5 := ⟨g.toNat - 5, by omega⟩
  unfold stN szN
  rw [hk, Nat.pow_add]
  have e : 2 ^ k * 2 ^ 5 = 32 * 2 ^ k := by omega
  rw [e]
  omega
theorem st_coprime {g : Int} (h1 : 5 ≤ g) : Nat.Coprime (szN g) (stN g) := by
  unfold szN
  refine Nat.Coprime.pow_left _ ?_
  have h := stN_odd h1
  show Nat.gcd 2 (stN g) = 1
  rw [Nat.gcd_rec, h]
  rfl
theorem oN_lt (g : Int) (t : Nat) : oN g t < szN g := Nat.mod_lt _ (szN_pos g)
theorem oN_zero (g : Int) : oN g 0 = 0 := by simp [oN]
theorem oN_size (g : Int) : oN g (szN g) = 0 := by simp [oN]
theorem oN_succ (g : Int) (t : Nat) : oN g (t + 1) = (oN g t + stN g) % szN g := by
  unfold oN
  rw [Nat.add_mul, Nat.one_mul, Nat.mod_add_mod]
theorem oN_inj {g : Int} (h1 : 5 ≤ g) {a b : Nat} (ha : a < szN g) (hb : b < szN g) (h : oN g a = oN g b) : a = b := by
  have key : ∀ {a b : Nat}, a ≤ b → b < szN g → oN g a = oN g b → a = b := by
    intro a b hab hb h
    obtain ⟨d, rfl⟩ : ∃ d, b = a + d := ⟨b - a, by omega⟩
    unfold oN at h
    have hd : szN g ∣ (a + d) * stN g - a * stN g := Nat.dvd_of_mod_eq_zero (Nat.sub_mod_eq_zero_of_mod_eq h.symm)
    rw [Nat.add_mul, Nat.add_sub_cancel_left] at hd
    have := Nat.Coprime.dvd_of_dvd_mul_right (st_coprime h1) hd
    rcases Nat.eq_zero_or_pos d with h0 | h0
    · omega
    · have := Nat.le_of_dvd h0 this
      omega
  rcases Nat.le_total a b with hab | hab
  · exact key hab hb h
  · exact (key hab ha h.symm).symm
theorem oN_nodup {g : Int} (h1 : 5 ≤ g) : ((List.range (szN g)).map (oN g)).Nodup := by
  unfold List.Nodup
  rw [List.pairwise_map]
  refine List.Pairwise.imp_of_mem ?_ (List.nodup_range (n := szN g))
  intro a b ha hb hab he
  rw [List.mem_range] at ha hb
  exact hab (oN_inj h1 ha hb he)
theorem oN_perm {g : Int} (h1 : 5 ≤ g) : ((List.range (szN g)).map (oN g)).Perm (List.range (szN g)) :=
  perm_of_range (oN_nodup h1) (by simp) fun x hx => by
    simp only [List.mem_map] at hx
    obtain ⟨t, _, rfl⟩ := hx
    exact oN_lt g t
theorem nrN_snoc (l : List Int) (x : Int) : nrN (l ++ [x]) = nrN l + cond (isR x) 1 0 := by
  unfold nrN
  rw [List.filter_append, List.length_append]
  cases h : isR x <;> simp [h]
theorem nrN_take {l : List Int} {i : Nat} (h : i < l.length) : nrN (l.take (i + 1)) = nrN (l.take i) + cond (isR (l.getD i 0)) 1 0 := by
  rw [take_succ l 0 h, nrN_snoc]
theorem nrN_take_le (l : List Int) (i : Nat) : nrN (l.take i) ≤ nrN l := by
  conv => rhs; rw [← List.take_append_drop i l]
  unfold nrN
  rw [List.filter_append, List.length_append]
  omega
theorem lowF_len (s : Int) : ∀ l : List Int, (lowF s l).length = nrN l
  | [] => rfl
  | p :: r => by
    have ih := lowF_len (s + 1) r
    unfold nrN at ih ⊢
    cases h : isR p <;> simp [lowF, h, ih]
theorem lowF_at : ∀ (l : List Int) (s : Int) (i : Nat), i < l.length → isR (l.getD i 0) = true → (lowF s l)[nrN (l.take i)]? = some (s + i)
  | p :: r, s, 0, _, h => by
    simp only [List.getD_cons_zero] at h
    simp [lowF, h, nrN]
  | p :: r, s, i + 1, hi, h => by
    have ih := lowF_at r (s + 1) i (by simpa using hi) (by simpa using h)
    have e : nrN ((p :: r).take (i + 1)) = cond (isR p) 1 0 + nrN (r.take i) := by
      unfold nrN
      cases hp : isR p <;> simp [hp, Nat.add_comm]
    rw [e]
    have e2 : s + 1 + (i : Int) = s + ((i + 1 : Nat) : Int) := by omega
    cases hp : isR p
    · simp only [lowF, hp, cond_false, Nat.zero_add]
      rw [ih, e2]
    · simp only [lowF, hp, cond_true]
      rw [Nat.add_comm, List.getElem?_cons_succ, ih, e2]
theorem hiF_app (s : Int) : ∀ (a b : List Int), hiF s (a ++ b) = hiF s a ++ hiF (s + a.length) b := by
  intro a
  induction a generalizing s with
  | nil => intro b; simp [hiF]
  | cons p r ih =>
    intro b
    simp only [List.cons_append, hiF, ih, List.append_assoc, List.length_cons]
    congr 2
    push_cast
    rw [show s + 1 + (r.length : Int) = s + ((r.length : Int) + 1) by omega]
theorem hiN_succ {l : List Int} {i : Nat} (h : i < l.length) : hiN l (i + 1) = hiN l i + (l.getD i 0).toNat := by
  unfold hiN
  rw [take_succ l 0 h, hiF_app, List.length_append]
  simp [hiF]
theorem hiN_le (l : List Int) (i : Nat) : hiN l i ≤ (hiF 0 l).length := by
  conv => rhs; rw [← List.take_append_drop i l]
  unfold hiN
  rw [hiF_app, List.length_append]
  omega
theorem hiN_all (l : List Int) : hiN l l.length = (hiF 0 l).length := by simp [hiN]
theorem hiF_at {l : List Int} {i j : Nat} (h : i < l.length) (hj : j < (l.getD i 0).toNat) : (hiF 0 l)[hiN l i + j]? = some (i : Int) := by
  have e : l = l.take i ++ l.getD i 0 :: l.drop (i + 1) := by
    have : l.getD i 0 = l[i] := by rw [List.getD_eq_getElem?_getD, List.getElem?_eq_getElem h]; rfl
    rw [this, List.getElem_cons_drop, List.take_append_drop]
  have e3 : hiF 0 l = hiF 0 (l.take i) ++ hiF (0 + ((l.take i).length : Int)) (l.getD i 0 :: l.drop (i + 1)) := by rw [← hiF_app, ← e]
  rw [e3, List.getElem?_append_right (by unfold hiN; omega)]
  have e2 : hiN l i + j - (hiF 0 (l.take i)).length = j := by unfold hiN; omega
  rw [e2]
  simp only [hiF]
  rw [List.getElem?_append_left (by simpa using hj), List.getElem?_replicate, if_pos hj]
  simp only [List.length_take, Option.some.injEq]
  omega
theorem pts_split : ∀ (s : Int) (l : List Int), (∀ x ∈ l, -1 ≤ x) → pts l = (nrN l + (hiF s l).length : Nat) := by
  intro s l
  have key : ∀ (l : List Int) (s a : Int), (∀ x ∈ l, -1 ≤ x) → l.foldl (fun s p => s + pt p) a = a + (nrN l + (hiF s l).length : Nat) := by
    intro l
    induction l with
    | nil => intro s a _; simp [nrN, hiF]
    | cons p r ih =>
      intro s a h
      have hp := h p (by simp)
      rw [List.foldl_cons, ih (s + 1) _ (fun x hx => h x (by simp [hx]))]
      have e : nrN (p :: r) = cond (isR p) 1 0 + nrN r := by
        unfold nrN
        cases hp : isR p <;> simp [hp, Nat.add_comm]
      simp only [hiF, List.length_append, List.length_replicate]
      rw [e]
      unfold pt isR
      by_cases h1 : p < 0
      · have : p = -1 := by omega
        subst this
        simp
        omega
      · have h2 : (p == -1) = false := by simp; omega
        rw [decide_eq_false h1, h2]
        simp only [cond_false]
        push_cast
        omega
  intro h
  have := key l s 0 h
  rw [Int.zero_add] at this
  exact this
theorem DOk.total {g : Int} {l : List Int} (h : DOk g l) : nrN l + (hiF 0 l).length = szN g := by
  have h1 := pts_split 0 l h.lo
  rw [h.sum, ← szI] at h1
  omega
theorem DOk.pos {g : Int} {l : List Int} (h : DOk g l) {i j : Nat} (hi : i < l.length) (hj : j < (l.getD i 0).toNat) : nrN l < szN g := by
  have h1 := h.total
  have h2 := hiN_le l (i + 1)
  rw [hiN_succ hi] at h2
  omega
theorem cntT_succ (g : Int) (l : List Int) (t : Nat) : cntT g l (t + 1) = cntT g l t + cond (okC g l (oN g t)) 1 0 := by
  unfold cntT
  rw [List.range_succ, List.filter_append, List.length_append]
  cases h : okC g l (oN g t) <;> simp [h]
theorem tL_len {g : Int} {l : List Int} (h : DOk g l) : (tL g l).length = (hiF 0 l).length := by
  have h1 := (oN_perm h.g5).filter (okC g l)
  have h2 := h1.length_eq
  rw [List.filter_map, List.length_map] at h2
  have e : (okC g l ∘ oN g) = fun t => okC g l (oN g t) := rfl
  rw [e] at h2
  have h3 : ((List.range (szN g)).filter (okC g l)).length = szN g - nrN l := by
    have h4 : ∀ n, ((List.range n).filter fun c => decide (c + nrN l < szN g)).length = min n (szN g - nrN l) := by
      intro n
      induction n with
      | zero => simp
      | succ n ih =>
        rw [List.range_succ, List.filter_append, List.length_append, ih]
        by_cases hn : n + nrN l < szN g
        · simp [hn]; omega
        · simp [hn]; omega
    have := h4 (szN g)
    unfold okC
    rw [this]
    omega
  have := h.total
  show ((List.range (szN g)).filter fun t => okC g l (oN g t)).length = _
  omega
theorem cntT_size {g : Int} {l : List Int} (h : DOk g l) : cntT g l (szN g) = (hiF 0 l).length := tL_len h
theorem t_lt {g : Int} {l : List Int} (h : DOk g l) {t : Nat} (ht : t ≤ szN g) (hc : cntT g l t < (hiF 0 l).length) : t < szN g := by
  rcases Nat.lt_or_ge t (szN g) with h1 | h1
  · exact h1
  · have e : t = szN g := by omega
    subst e
    rw [cntT_size h] at hc
    omega
theorem tL_at {g : Int} {l : List Int} {t : Nat} (ht : t < szN g) (ho : okC g l (oN g t) = true) : (tL g l).getD (cntT g l t) 0 = t := by
  rw [List.getD_eq_getElem?_getD]
  unfold tL cntT
  rw [filt_at (p := fun t => okC g l (oN g t)) ht ho]
  rfl
theorem lowI_len (g : Int) : ∀ (xs : List Int) (c : Nat), (lowI g c xs).length = xs.length
  | [], _ => rfl
  | x :: r, c => by simp [lowI, lowI_len g r]
theorem lowI_at (g : Int) : ∀ (xs : List Int) (c k : Nat) {s : Int}, xs[k]? = some s → (lowI g c xs)[k]? = some ((szN g : Int) - 1 - ((c + k : Nat) : Int), s)
  | x :: r, c, 0, s, h => by simp at h; simp [lowI, h]
  | x :: r, c, k + 1, s, h => by
    simp only [List.getElem?_cons_succ] at h
    simp only [lowI, List.getElem?_cons_succ, lowI_at g r (c + 1) k h]
    rw [show c + 1 + k = c + (k + 1) by omega]
theorem hiI2_len (g : Int) (l : List Int) : ∀ (xs : List Int) (c : Nat), (hiI2 g l c xs).length = xs.length
  | [], _ => rfl
  | x :: r, c => by simp [hiI2, hiI2_len g l r]
theorem hiI2_at (g : Int) (l : List Int) : ∀ (xs : List Int) (c k : Nat) {s : Int}, xs[k]? = some s → (hiI2 g l c xs)[k]? = some ((oN g ((tL g l).getD (c + k) 0) : Int), s)
  | x :: r, c, 0, s, h => by simp at h; simp [hiI2, h]
  | x :: r, c, k + 1, s, h => by
    simp only [List.getElem?_cons_succ] at h
    simp only [hiI2, List.getElem?_cons_succ, hiI2_at g l r (c + 1) k h]
    rw [show c + 1 + k = c + (k + 1) by omega]
theorem itA_len (g : Int) (l : List Int) : (itA g l).length = nrN l := by unfold itA; rw [lowI_len, lowF_len]
theorem itB_len (g : Int) (l : List Int) : (itB g l).length = (hiF 0 l).length := by unfold itB; rw [hiI2_len]
theorem itC_len {g : Int} {l : List Int} (h : DOk g l) : (itC g l).length = szN g := by
  unfold itC
  rw [List.length_append, itA_len, itB_len, h.total]
theorem itC_low {g : Int} {l : List Int} {i : Nat} (h : i < l.length) (hr : isR (l.getD i 0) = true) : (itC g l)[nrN (l.take i)]? = some ((szN g : Int) - 1 - (nrN (l.take i) : Nat), (i : Int)) := by
  have h1 := lowF_at l 0 i h hr
  rw [Int.zero_add] at h1
  have h2 : (itA g l)[nrN (l.take i)]? = _ := lowI_at g (lowF 0 l) 0 _ h1
  unfold itC
  rw [List.getElem?_append_left ((List.getElem?_eq_some_iff.1 h2).1), h2, Nat.zero_add]
theorem itC_hi {g : Int} {l : List Int} (hd : DOk g l) {i j t : Nat} (h : i < l.length) (hj : j < (l.getD i 0).toNat) (ht : t ≤ szN g) (hc : cntT g l t = hiN l i + j) (ho : okC g l (oN g t) = true) :
    (itC g l)[nrN l + (hiN l i + j)]? = some ((oN g t : Int), (i : Int)) := by
  have h1 := hiF_at h hj
  have h2 := hiI2_at g l (hiF 0 l) 0 _ h1
  have hlt := (List.getElem?_eq_some_iff.1 h1).1
  have htl := t_lt hd ht (by omega)
  unfold itC
  rw [List.getElem?_append_right (by rw [itA_len]; omega), itA_len, Nat.add_sub_cancel_left]
  show (hiI2 g l 0 (hiF 0 l))[_]? = _
  rw [h2, Nat.zero_add, ← hc, tL_at htl ho]
theorem itVs_at {g : Int} {l : List Int} {k : Nat} {x : Int × Int} (h : (itC g l)[k]? = some x) : (itVs g l)[k]? = some [.int .i64 x.1, .int .i64 x.2] := by
  unfold itVs
  rw [List.getElem?_map, h]
  rfl
theorem itVs_len (g : Int) (l : List Int) : (itVs g l).length = (itC g l).length := by simp [itVs]
theorem mget_cons' (p : List Int × List Int) (l : List (List Int × List Int)) (key : List Int) : mget (p :: l) key = if p.1 = key then some p.2 else mget l key := by
  unfold mget
  rw [List.find?_cons]
  by_cases h : p.1 = key
  · simp [h]
  · have hb : (p.1 == key) = false := by simpa using h
    simp [h, hb]
theorem rareM_get (g : Int) : ∀ (n c : Nat), c < szN g → n ≤ szN g → mget (rareM g n) [(c : Int)] = if c + n < szN g then none else some [1]
  | 0, c, h, _ => by rw [if_pos (by omega)]; rfl
  | n + 1, c, h, hn => by
    rw [rareM, mget_cons', rareM_get g n c h (by omega)]
    by_cases h1 : c + n + 1 = szN g
    · rw [if_pos (by simp; omega), if_neg (by omega)]
    · rw [if_neg (by simp; omega)]
      by_cases h2 : c + n < szN g
      · rw [if_pos h2, if_pos (by omega)]
      · rw [if_neg h2, if_neg (by omega)]
theorem rareM_ok {g : Int} {l : List Int} (hn : nrN l ≤ szN g) {c : Nat} (hc : c < szN g) : ((mval 1 (rareM g (nrN l)) [(c : Int)]).headD 0 == 1) = !okC g l c := by
  unfold mval okC
  rw [rareM_get g _ c hc hn]
  by_cases h : c + nrN l < szN g
  · simp [h]
  · simp [h]
theorem putC_len (o : List Int) (x : Int × Int) : (putC o x).length = o.length := by simp [putC]
theorem putCs_len : ∀ (xs : List (Int × Int)) (o : List Int), (putCs o xs).length = o.length
  | [], _ => rfl
  | x :: xs, o => by
    unfold putCs
    rw [List.foldl_cons]
    exact (putCs_len xs (putC o x)).trans (putC_len o x)
theorem sprP_len (g : Int) (l : List Int) (k : Nat) : (sprP g l k).length = szN g := by unfold sprP; rw [putCs_len]; simp [zL]
theorem spr_len (g : Int) (l : List Int) : (spr g l).length = szN g := by unfold spr; rw [putCs_len]; simp [zL]
theorem sprP_zero (g : Int) (l : List Int) : sprP g l 0 = List.replicate (szN g) 0 := by simp [sprP, putCs, zL]
theorem take_snoc {α : Type} {l : List α} {k : Nat} {x : α} (h : l[k]? = some x) : l.take (k + 1) = l.take k ++ [x] := by
  rw [List.take_add_one, h]
  rfl
theorem sprP_succ {g : Int} {l : List Int} {k : Nat} {x : Int × Int} (h : (itC g l)[k]? = some x) : sprP g l (k + 1) = (sprP g l k).set x.1.toNat x.2 := by
  unfold sprP
  rw [take_snoc h]
  unfold putCs
  rw [List.foldl_append]
  rfl
theorem sprP_all {g : Int} {l : List Int} (h : DOk g l) : sprP g l (nrN l + hiN l l.length) = spr g l := by
  have := itC_len h
  have h2 := h.total
  unfold sprP spr
  rw [hiN_all, List.take_of_length_le (by omega)]
theorem itC_bd {g : Int} {l : List Int} (h : DOk g l) {k : Nat} {x : Int × Int} (hx : (itC g l)[k]? = some x) : 0 ≤ x.1 ∧ x.1 < szN g := by
  have hm := List.mem_of_getElem? hx
  unfold itC at hm
  rw [List.mem_append] at hm
  rcases hm with hm | hm
  · have hlen := h.total
    obtain ⟨j, hj, hxj⟩ := List.mem_iff_getElem.1 hm
    have hj' : j < (lowF 0 l).length := by
      have : (itA g l).length = (lowF 0 l).length := by unfold itA; rw [lowI_len]
      omega
    have := lowI_at g (lowF 0 l) 0 j (List.getElem?_eq_getElem hj')
    have e : (itA g l)[j]? = some x := by rw [List.getElem?_eq_getElem hj, hxj]
    unfold itA at e
    rw [e] at this
    cases this
    rw [lowF_len] at hj'
    simp only
    omega
  · obtain ⟨j, hj, hxj⟩ := List.mem_iff_getElem.1 hm
    have hj' : j < (hiF 0 l).length := by rw [itB_len] at hj; exact hj
    have := hiI2_at g l (hiF 0 l) 0 j (List.getElem?_eq_getElem hj')
    have e : (itB g l)[j]? = some x := by rw [List.getElem?_eq_getElem hj, hxj]
    unfold itB at e
    rw [e] at this
    cases this
    have := oN_lt g ((tL g l).getD (0 + j) 0)
    simp only
    omega
theorem and_mask (a : Nat) {g : Int} (h1 : 5 ≤ g) (h2 : g ≤ 12) (ha : a ≤ 100000) : bits .and .i64 (a : Int) ((szN g : Int) - 1) = ((a % szN g : Nat) : Int) := by
  have hx : ∀ a : Nat, a ≤ 4294967295 → (BitVec.ofInt 64 (a : Int)).toNat = a := fun a ha => by
    rw [BitVec.ofInt_natCast, BitVec.toNat_ofNat]; exact Nat.mod_eq_of_lt (by omega)
  have hs := szN_bd h1 h2
  have e : (szN g : Int) - 1 = ((szN g - 1 : Nat) : Int) := by omega
  rw [e]
  show IntKind.i64.wrap ((BitVec.ofInt 64 (a : Int) &&& BitVec.ofInt 64 ((szN g - 1 : Nat) : Int)).toNat : Int) = _
  rw [BitVec.toNat_and, hx a (by omega), hx _ (by omega)]
  have : szN g - 1 = 2 ^ g.toNat - 1 := rfl
  rw [this, Nat.and_two_pow_sub_one_eq_mod, IntKind.wrap_i64]
  have h3 : a % 2 ^ g.toNat < 2 ^ g.toNat := Nat.mod_lt _ (Nat.two_pow_pos _)
  have h4 : szN g = 2 ^ g.toNat := rfl
  rw [← h4] at h3 ⊢
  omega
end Go.Proofs.Ytbdgknebimdjoaa
namespace Go.Proofs.Ytbdgknebimdjoaa
open Go Go.RowKit
set_option linter.unusedVariables false
set_option linter.unusedSimpArgs false
set_option maxRecDepth 100000
theorem mixed : Try.prog.follows .mixedOrders = true := by kernel_rfl
theorem log2_lt63 {n : Int} (h : n ≤ 9223372036854775807) : Nat.log2 n.toNat ≤ 62 := by
  by_cases h0 : n.toNat = 0
  · rw [h0]; decide
  · have := (Nat.log2_lt h0 (k := 63)).2 (by omega)
    omega
theorem div_pos_iff {n : Int} (h : 0 < n) (i : Nat) : 0 < n / 2 ^ i ↔ i ≤ Nat.log2 n.toNat := by
  rw [Nat.le_log2 (by omega)]
  have h1 : 0 < n / 2 ^ i ↔ 1 * 2 ^ i ≤ n := by
    rw [← Int.le_ediv_iff_mul_le (pow_pos' i)]
    omega
  rw [h1, pow_cast]
  omega
theorem high_v (n : Int) (h0 : n ≤ 9223372036854775807) : high_t n := by
  unfold high_t
  have hl := log2_lt63 h0
  refine ⟨⟨0, by rw [nle]; omega, rfl, by unfold hiM; cases decide (n ≤ 0) <;> simp <;> omega, rfl⟩, fun i hi => ⟨fun hlt => ?_, fun hge => ?_⟩⟩
  · simp only [decide_eq_true_eq] at hlt
    rw [nle] at hi
    rw [b64, toNat_cast, Nat.min_eq_left (by omega), fdivp (by have := pow_pos' i; omega)]
    refine ⟨by omega, fun hp => ⟨i + 1, by rw [nle]; omega, by show 63 - (i+1) < 63 - i; omega, by trivial, ?_, by rw [wr (by omega) (by omega)]; simp⟩, fun hp => ⟨i + 1, by rw [nle]; omega, by show 63 - (i+1) < 63 - i; omega, by trivial, ?_, by rw [wr (by omega) (by omega)]; simp⟩⟩
    · simp only [gt_iff_lt, decide_eq_true_eq] at hp
      have hn : 0 < n := by
        rcases Int.lt_or_le 0 n with h | h
        · exact h
        · have := Int.ediv_nonpos_of_nonpos_of_neg h (pow_pos' i)
          omega
      have := (div_pos_iff hn i).1 hp
      unfold hiM
      rw [decide_eq_false (by omega)]
      simp only [cond_false]
      omega
    · simp only [gt_iff_lt, decide_eq_false_iff_not] at hp
      unfold hiM
      by_cases hn : 0 < n
      · have : ¬ i ≤ Nat.log2 n.toNat := fun h => hp ((div_pos_iff hn i).2 h)
        rw [decide_eq_false (by omega)]
        simp only [cond_false]
        omega
      · rw [decide_eq_true (by omega)]
        rfl
  · simp only [decide_eq_false_iff_not] at hge
    rw [nle] at hi
    unfold hiM hiI
    cases decide (n ≤ 0)
    · simp only [cond_false]; omega
    · rfl
theorem tmod_pos {x m : Int} (hm : 0 < m) : (Int.tmod x m < 0 → Int.tmod x m + m = x % m) ∧ (¬ Int.tmod x m < 0 → Int.tmod x m = x % m) := by
  have h1 := Int.emod_nonneg x (show m ≠ 0 by omega)
  have h2 := Int.emod_lt_of_pos x hm
  have h3 := Int.tmod_eq_emod (a := x) (b := m)
  constructor
  · intro h
    split at h3 <;> omega
  · intro h
    split at h3 <;> omega
theorem mod_v (x m : Int) (hx : inW x = true) (hm : inW m = true) : modK_t x m := by
  unfold modK_t
  simp only [inW, Bool.and_eq_true, decide_eq_true_eq] at hx hm
  refine ⟨fun h => ?_, fun h => ⟨?_, fun h2 => ?_, fun h2 => ?_⟩⟩
  · unfold modI; rw [h]; rfl
  · simp only [decide_eq_false_iff_not] at h; omega
  · have h' := h
    simp only [decide_eq_false_iff_not, decide_eq_true_eq] at h h2
    have h1 := Int.emod_nonneg x (show m ≠ 0 by omega)
    have h3 := Int.emod_lt_of_pos x (show 0 < m by omega)
    have := (tmod_pos (x := x) (show 0 < m by omega)).1 h2
    rw [this, wr (by omega) (by omega)]
    unfold modI; rw [h']; rfl
  · have h' := h
    simp only [decide_eq_false_iff_not] at h h2
    rw [(tmod_pos (x := x) (show 0 < m by omega)).2 h2]
    unfold modI; rw [h']; rfl
theorem minL_snoc (l : List Int) (z : Int) (h : l ≠ []) : minL (l ++ [z]) = min (minL l) z := by
  cases l with
  | nil => exact absurd rfl h
  | cons x r => simp [minL, List.foldl_append]
theorem min_v (l : List Int) (h0 : 0 < l.length) (h1 : l.length ≤ 4294967296) : minK_t l := by
  unfold minK_t
  refine ⟨fun h => by simp only [decide_eq_true_eq] at h; omega, fun h => ⟨by omega, by omega, ⟨1, ⟨by omega, by omega⟩, rfl, ?_, rfl⟩, fun i hi => ⟨fun hlt => ?_, fun hge => ?_⟩⟩⟩
  · cases l with
    | nil => simp at h0
    | cons x r => simp [minL]
  · simp only [decide_eq_true_eq] at hlt
    have hlt' : i < l.length := by omega
    refine ⟨by omega, by omega, i + 1, ⟨by omega, by omega⟩, by show l.length - (i+1) < l.length - i; omega, by trivial, ?_, by rw [wr (by omega) (by omega)]; simp⟩
    rw [take_succ l 0 hlt', toNat_cast, minL_snoc]
    intro hn
    have := congrArg List.length hn
    simp only [List.length_take, List.length_nil] at this
    omega
  · simp only [decide_eq_false_iff_not] at hge
    rw [List.take_of_length_le (by omega)]
theorem pts_snoc (l : List Int) (p : Int) : pts (l ++ [p]) = pts l + pt p := by simp [pts, List.foldl_append]
theorem pt_nonneg (p : Int) : 0 ≤ pt p := by
  unfold pt
  by_cases h : p < 0
  · rw [decide_eq_true h]; simp
  · rw [decide_eq_false h]; simp only [cond_false]; omega
theorem snoc_ind {P : List Int → Prop} (h0 : P []) (h1 : ∀ l z, P l → P (l ++ [z])) (l : List Int) : P l := by
  have : P l.reverse.reverse := by
    induction l.reverse with
    | nil => exact h0
    | cons x r ih => rw [List.reverse_cons]; exact h1 _ _ ih
  rwa [List.reverse_reverse] at this
theorem pts_nonneg (l : List Int) : 0 ≤ pts l := by
  induction l using snoc_ind with
  | h0 => simp [pts]
  | h1 l z ih => rw [pts_snoc]; have := pt_nonneg z; omega
theorem pts_app (a b : List Int) : pts (a ++ b) = pts a + pts b := by
  induction b using snoc_ind with
  | h0 => simp [pts]
  | h1 b z ih => rw [← List.append_assoc, pts_snoc, ih, pts_snoc]; omega
theorem pt_neg {p : Int} (h : decide (p < 0) = true) : pt p = 1 := by unfold pt; rw [h]; rfl
theorem pt_pos {p : Int} (h : decide (p < 0) = false) : pt p = p := by unfold pt; rw [h]; rfl
theorem add_v (n s : Int) (h0 : 0 ≤ n) (h1 : n ≤ 1048576) (h2 : 0 ≤ s) (h3 : s ≤ 1048576) : add_t n s := by
  unfold add_t
  rw [wr (by omega) (by omega)]
theorem points_v (g : Int) (l : List Int) (h : l.length ≤ 4294967296) : points_t g l := by
  unfold points_t
  refine ⟨⟨0, by rw [nle]; omega, rfl, rfl, rfl, rfl⟩, fun i hi => ⟨fun hlt => ?_, fun hge => ?_⟩⟩
  · simp only [decide_eq_true_eq] at hlt
    rw [nle] at hi
    simp only [toNat_cast]
    have hlt' : i < l.length := by omega
    have hs : pts (l.take (i + 1)) = pts (l.take i) + pt (l.getD i 0) := by rw [take_succ l 0 hlt', pts_snoc]
    have b2 := pts_nonneg (l.take i)
    have b3 := pt_nonneg (l.getD i 0)
    refine ⟨by omega, by omega, fun hn => ?_, fun hn => ?_⟩
    · have := pt_neg hn
      exact ⟨by omega, by omega, by omega, by omega, i + 1, by rw [nle]; omega, by show l.length - (i+1) < l.length - i; omega, by trivial, by trivial, by rw [wr (by omega) (by omega)]; simp, by omega⟩
    · have := pt_pos hn
      exact ⟨by omega, by omega, by omega, by omega, i + 1, by rw [nle]; omega, by show l.length - (i+1) < l.length - i; omega, by trivial, by trivial, by rw [wr (by omega) (by omega)]; simp, by omega⟩
  · simp only [decide_eq_false_iff_not] at hge
    rw [List.take_of_length_le (by omega)]
theorem dchk_out {g : Int} {l : List Int} (h : (decide (g < 5) || decide (12 < g)) = true) : dchk g l = 31 := by unfold dchk; rw [h]; rfl
theorem dchk_in {g : Int} {l : List Int} (h1 : decide (g < 5) = false) (h2 : decide (12 < g) = false) : dchk g l = cond (dbad g l) 23 0 := by unfold dchk; rw [h1, h2]; rfl
theorem dbad_iff (g : Int) (l : List Int) : dbad g l = true ↔ l.length < 1 ∨ 256 < l.length ∨ l.getD (l.length - 1) 0 = 0 ∨ (∃ x ∈ l, x < -1) ∨ pts l ≠ 2 ^ g.toNat := by
  unfold dbad
  simp only [Bool.or_eq_true, decide_eq_true_eq, beq_iff_eq, List.any_eq_true, Bool.not_eq_true', beq_eq_false_iff_ne, ne_eq]
  constructor
  · rintro ((((h | h) | h) | h) | h)
    · exact .inl h
    · exact .inr (.inl h)
    · exact .inr (.inr (.inl h))
    · exact .inr (.inr (.inr (.inl h)))
    · exact .inr (.inr (.inr (.inr h)))
  · rintro (h | h | h | h | h)
    · exact .inl (.inl (.inl (.inl h)))
    · exact .inl (.inl (.inl (.inr h)))
    · exact .inl (.inl (.inr h))
    · exact .inl (.inr h)
    · exact .inr h
theorem bad23 {g : Int} {l : List Int} (h1 : decide (g < 5) = false) (h2 : decide (12 < g) = false) (h : l.length < 1 ∨ 256 < l.length ∨ l.getD (l.length - 1) 0 = 0 ∨ (∃ x ∈ l, x < -1) ∨ pts l ≠ 2 ^ g.toNat) : (23 : Int) = dchk g l := by
  rw [dchk_in h1 h2, (dbad_iff g l).2 h]; rfl
theorem good0 {g : Int} {l : List Int} (h1 : decide (g < 5) = false) (h2 : decide (12 < g) = false) (h : ¬ (l.length < 1 ∨ 256 < l.length ∨ l.getD (l.length - 1) 0 = 0 ∨ (∃ x ∈ l, x < -1) ∨ pts l ≠ 2 ^ g.toNat)) : (0 : Int) = dchk g l := by
  have : dbad g l = false := by
    cases hb : dbad g l
    · rfl
    · exact absurd ((dbad_iff g l).1 hb) h
  rw [dchk_in h1 h2, this]; rfl
theorem minL_lt (l : List Int) (h : l ≠ []) (c : Int) : minL l < c ↔ ∃ x ∈ l, x < c := by
  induction l using snoc_ind with
  | h0 => exact absurd rfl h
  | h1 l z ih =>
    by_cases hl : l = []
    · subst hl; simp [minL]
    · rw [minL_snoc l z hl]
      have := ih hl
      constructor
      · intro h1
        by_cases hz : z < c
        · exact ⟨z, by simp, hz⟩
        · obtain ⟨x, hx, hxc⟩ := this.1 (by omega)
          exact ⟨x, by simp [hx], hxc⟩
      · rintro ⟨x, hx, hxc⟩
        simp only [List.mem_append, List.mem_singleton] at hx
        rcases hx with hx | rfl
        · have := this.2 ⟨x, hx, hxc⟩
          omega
        · omega
theorem pow12 {g : Int} (h2 : g ≤ 12) : (2 : Int) ^ g.toNat ≤ 4096 := by
  have := pow_mono (show g.toNat ≤ 12 by omega)
  omega
theorem check_v (g : Int) (l : List Int) (h0 : l.length ≤ 4294967296) : check_t g l := by
  unfold check_t
  refine ⟨fun h => (dchk_out (by rw [h]; rfl)).symm, fun h5 => ⟨fun h => (dchk_out (by simp only [gt_iff_lt] at h; rw [h, Bool.or_true])).symm, fun h12 => ⟨fun h => bad23 h5 h12 (.inl (by simp only [decide_eq_true_eq] at h; omega)), fun h1 => ⟨fun h => bad23 h5 h12 (.inr (.inl (by simp at h; omega))), fun h2 => ?_⟩⟩⟩⟩
  simp only [decide_eq_false_iff_not, gt_iff_lt] at h1 h2
  have h5' := h5
  have h12' := h12
  simp only [decide_eq_false_iff_not, gt_iff_lt] at h5' h12'
  have hw : IntKind.wrap IntKind.i64 ((l.length : Int) - 1) = (l.length : Int) - 1 := wr (by omega) (by omega)
  have ht : ((l.length : Int) - 1).toNat = l.length - 1 := by omega
  simp only [hw, ht, shl1 (show 0 ≤ g by omega) (show g ≤ 62 by omega), toNat_cast]
  have p12 := pow12 (show g ≤ 12 by omega)
  have p0 := pow_pos' g.toNat
  have hne : l ≠ [] := by rintro rfl; simp at h1
  refine ⟨by omega, by omega, fun h => bad23 h5 h12 (.inr (.inr (.inl (by simpa using h)))), fun h3 => ⟨by omega, h0, fun hm => bad23 h5 h12 (.inr (.inr (.inr (.inl ((minL_lt l hne _).1 (by simpa using hm)))))), fun hm => ⟨h0, by omega, fun hb => bad23 h5 h12 (.inr (.inr (.inr (.inr ?_)))), fun hb => good0 h5 h12 ?_⟩⟩⟩
  · have : min (pts l) 1048576 ≠ 2 ^ g.toNat := by simpa using hb
    omega
  · have hb' : min (pts l) 1048576 = 2 ^ g.toNat := by simpa using hb
    rintro (c | c | c | c | c)
    · omega
    · omega
    · rw [c] at h3; simp at h3
    · have := (minL_lt l hne _).2 c
      simp only [decide_eq_false_iff_not] at hm
      omega
    · omega
theorem sz_wrap {g : Int} (h1 : 5 ≤ g) (h2 : g ≤ 12) : IntKind.wrap IntKind.i64 ((1 : Int) * (2 : Int) ^ min (Int.toNat g) (IntKind.bits IntKind.i64)) = (szN g : Int) := by
  rw [shl1 (by omega) (by omega), szI]
theorem wu {g : Int} (h1 : 5 ≤ g) (h2 : g ≤ 12) : IntKind.wrap IntKind.u64 g = g := wru (by omega) (by omega)
theorem stI (g : Int) : (stN g : Int) = (szN g : Int) / 2 + (szN g : Int) / 8 + 3 := by unfold stN; push_cast; rfl
theorem stepE_v (g : Int) (h0 : 5 ≤ g) (h1 : g ≤ 12) : stepE_t g := by
  unfold stepE_t
  have hs := szN_bd h0 h1
  simp only [sz_wrap h0 h1]
  simp only [b64, bu64]
  have e1 : Int.fdiv (szN g : Int) (2 ^ min (Int.toNat 1) 64) = (szN g : Int) / 2 := by rw [fdivp (by decide)]; rfl
  have e3 : Int.fdiv (szN g : Int) (2 ^ min (Int.toNat 3) 64) = (szN g : Int) / 8 := by rw [fdivp (by decide)]; rfl
  rw [e1, e3, stI, wr (n := (szN g : Int) / 2 + (szN g : Int) / 8) (by omega) (by omega), wr (by omega) (by omega)]
  simp
  omega
theorem nanE_v (a : Int) : nanE_t a := by unfold nanE_t; simp
theorem givenE_v (g : Int) (l : List Int) : givenE_t g l := ⟨rfl, rfl⟩
theorem lessE_v (a b : Int) : lessE_t a b := by unfold lessE_t; simp
theorem and_step {g : Int} (h1 : 5 ≤ g) (h2 : g ≤ 12) (t : Nat) : bits BinOp.and IntKind.i64 (IntKind.wrap IntKind.i64 ((oN g t : Int) + (stN g : Int))) (IntKind.wrap IntKind.i64 ((szN g : Int) - (1 : Int))) = (oN g (t + 1) : Int) := by
  have a := oN_lt g t
  have b := szN_bd h1 h2
  have c := stN_bd h1 h2
  rw [wr (by omega) (by omega), wr (by omega) (by omega), oN_succ]
  have := and_mask (oN g t + stN g) h1 h2 (by omega)
  push_cast at this
  rw [this]
  push_cast
  rfl
theorem isR_of {x : Int} (h : (x == (-1 : Int)) = true) : isR x = true := h
theorem nrN_take_lt {l : List Int} {i : Nat} (h : i < l.length) (hr : isR (l.getD i 0) = true) : nrN (l.take i) < nrN l := by
  have h1 := nrN_take h
  have h2 := nrN_take_le l (i + 1)
  rw [hr] at h1
  simp only [cond_true] at h1
  omega
theorem nrN_le {g : Int} {l : List Int} (h : DOk g l) : nrN l ≤ szN g := by have := h.total; omega
theorem rare_next {g : Int} {l : List Int} (hp : nrN l < szN g) {t : Nat} (ht : t ≤ szN g) (hr : okC g l (oN g t) = false) : t < szN g ∧ cntT g l (t + 1) = cntT g l t := by
  refine ⟨?_, by rw [cntT_succ, hr]; rfl⟩
  rcases Nat.lt_or_ge t (szN g) with h | h
  · exact h
  · have e : t = szN g := by omega
    subst e
    rw [oN_size] at hr
    unfold okC at hr
    rw [decide_eq_true (by omega)] at hr
    cases hr
theorem good_next {g : Int} {l : List Int} {t : Nat} (hr : okC g l (oN g t) = true) : cntT g l (t + 1) = cntT g l t + 1 := by rw [cntT_succ, hr]; rfl
theorem okD_zero {g : Int} {l : List Int} (h : DOk g l) : okC g l (oN g 0) = true ∨ szN g ≤ nrN l := by
  rw [oN_zero]
  unfold okC
  by_cases h1 : nrN l < szN g
  · exact .inl (decide_eq_true (by omega))
  · exact .inr (by omega)
theorem cnt_wrap64 {i : Nat} (h : i ≤ 4294967296) : IntKind.wrap IntKind.i64 ((i : Int) + 1) = ((i + 1 : Nat) : Int) := by rw [wr (by omega) (by omega)]; push_cast; rfl
theorem cnt_wrap {i : Nat} (h : i ≤ 100000) : IntKind.wrap IntKind.i64 ((i : Int) + 1) = ((i + 1 : Nat) : Int) := by rw [wr (by omega) (by omega)]; push_cast; rfl
theorem givIt_v (g : Int) (l : List Int) (h : dchk g l = 0) (l0 : Nat) : givIt_t g l l0 := by
  have hd := dchk0 h
  have hg5 := hd.g5
  have hg12 := hd.g12
  have hsz := szN_bd hg5 hg12
  have hn2 := hd.n2
  have htot := hd.total
  have hnr := nrN_le hd
  unfold givIt_t
  simp only [sz_wrap hg5 hg12, toNat_cast, nle, Nat.add_eq, Nat.sub_eq]
  refine ⟨by omega, (), 0, Nat.zero_le _, (by first | rfl | trivial), ⟨(by first | rfl | trivial), (by first | rfl | trivial), by rw [wr (by omega) (by omega)]; simp [nrN], (by first | rfl | trivial), (by first | rfl | trivial), (by first | rfl | trivial), (by first | rfl | trivial), (by first | rfl | trivial), (by first | trivial | (intro q; first | rfl | trivial))⟩, fun i hi => ⟨fun hlt => ?_, fun hge => ?_⟩⟩
  · have hlt : i < l.length := by simpa using hlt
    refine ⟨by omega, by omega, fun hr => ?_, fun hr => ?_⟩
    · have hl := nrN_take_lt hlt (isR_of hr)
      have hs : nrN (l.take (i + 1)) = nrN (l.take i) + 1 := by rw [nrN_take hlt, isR_of hr]; rfl
      refine ⟨(by first | rfl | trivial), itVs_at (itC_low hlt (isR_of hr)), ⟨i + 1, by omega, congrArg (fun k : Nat => (k, true)) hs.symm, by omega, (by first | rfl | trivial), (by first | rfl | trivial), ?_, (by first | rfl | trivial), (by first | rfl | trivial), cnt_wrap (by omega), (by first | rfl | trivial), (by first | rfl | trivial), fun q => ?_⟩, (by first | rfl | trivial)⟩
      · rw [wr (by omega) (by omega), hs]; omega
      · rw [hs]; rfl
    · have hs : nrN (l.take (i + 1)) = nrN (l.take i) := by
        rw [nrN_take hlt]
        have : isR (l.getD i 0) = false := hr
        rw [this]; rfl
      exact ⟨i + 1, by omega, congrArg (fun k : Nat => (k, true)) hs.symm, by omega, (by first | rfl | trivial), (by first | rfl | trivial), by rw [hs], (by first | rfl | trivial), (by first | rfl | trivial), cnt_wrap (by omega), (by first | rfl | trivial), (by first | rfl | trivial), (by first | trivial | (intro q; rw [hs]))⟩
  · have hge : i = l.length := by simp at hge; omega
    subst hge
    refine ⟨(), (0, 0), ⟨Nat.zero_le _, Nat.zero_le _, (by first | rfl | trivial), okD_zero hd⟩, ?_, ⟨(by first | rfl | trivial), (by first | rfl | trivial), by rw [oN_zero]; rfl, (by first | rfl | trivial), (by first | rfl | trivial), (by first | rfl | trivial), (by first | rfl | trivial), (by first | rfl | trivial), fun q => by rw [List.take_length]⟩, ?_⟩
    · show (nrN (l.take l.length), true) = (nrN l + hiN l 0, true)
      rw [List.take_length]
      simp [hiN, hiF]
    rintro ⟨i, t⟩ ⟨hi, ht, hc, ho⟩
    simp only at hi ht hc ho ⊢
    refine ⟨fun hlt => ?_, fun hge => ?_⟩
    · have hlt : i < l.length := by simpa using hlt
      refine ⟨by omega, by omega, i, (0, t), ⟨hlt, Nat.zero_le _, ht, hc, ho⟩, (by first | rfl | trivial), ⟨(by first | rfl | trivial), (by first | rfl | trivial), (by first | rfl | trivial), (by first | rfl | trivial), (by first | rfl | trivial), (by first | rfl | trivial), (by first | rfl | trivial), by omega, (by first | rfl | trivial), (by first | rfl | trivial), (by first | rfl | trivial), (by first | trivial | (intro q; first | rfl | trivial))⟩, ?_⟩
      rintro ⟨j, t⟩ ⟨_, hj, ht, hc, ho⟩
      simp only at hj ht hc ho ⊢
      refine ⟨fun hjl => ?_, fun hjl => ?_⟩
      · have hjl : j < (l.getD i 0).toNat := by
          simp only [decide_eq_true_eq] at hjl
          omega
        have hpos := hd.pos hlt hjl
        have ho' : okC g l (oN g t) = true := ho.resolve_right (by omega)
        have hhl := hiN_le l (i + 1)
        rw [hiN_succ hlt] at hhl
        have htl := t_lt hd ht (by omega)
        refine ⟨(by first | rfl | trivial), itVs_at (itC_hi hd hlt hjl ht hc ho'), ⟨hg5, hg12, (i, j), t + 1, ⟨hlt, hjl, by omega, by rw [good_next ho', hc]; simp only; omega⟩, (by first | rfl | trivial), ⟨(by first | rfl | trivial), (by first | rfl | trivial), and_step hg5 hg12 t, (by first | rfl | trivial), (by first | rfl | trivial), (by first | rfl | trivial), (by first | rfl | trivial), (by first | rfl | trivial), (by first | rfl | trivial), (by first | rfl | trivial), (by first | rfl | trivial), (by first | trivial | (intro q; first | rfl | trivial))⟩, fun t hx => ?_⟩, (by first | rfl | trivial)⟩
        obtain ⟨_, _, ht, hc⟩ := hx
        simp only at hc ⊢
        have hrare := rareM_ok hnr (oN_lt g t)
        rw [hrare]
        refine ⟨fun hr => ?_, fun hr => ?_⟩
        · have hr : okC g l (oN g t) = false := by simpa using hr
          obtain ⟨k1, k2⟩ := rare_next hpos ht hr
          exact ⟨hg5, hg12, t + 1, ⟨hlt, hjl, by omega, by rw [k2, hc]⟩, (by first | rfl | trivial), by omega, (by first | rfl | trivial), (by first | rfl | trivial), and_step hg5 hg12 t, (by first | rfl | trivial), (by first | rfl | trivial), (by first | rfl | trivial), (by first | rfl | trivial), (by first | rfl | trivial), (by first | rfl | trivial), (by first | rfl | trivial), (by first | rfl | trivial), (by first | trivial | (intro q; first | rfl | trivial))⟩
        · have hr : okC g l (oN g t) = true := by simpa using hr
          have := getD_mem' hlt
          have hpb : (l.getD i 0) ≤ 4096 := by
            have := hd.total
            omega
          refine ⟨(j + 1, t), ⟨hlt, by simp only; omega, ht, by simp only; omega, .inl hr⟩, (by first | rfl | trivial), by simp only; omega, (by first | rfl | trivial), (by first | rfl | trivial), (by first | rfl | trivial), (by first | rfl | trivial), (by first | rfl | trivial), (by first | rfl | trivial), (by first | rfl | trivial), (by first | rfl | trivial), cnt_wrap (by omega), (by first | rfl | trivial), (by first | rfl | trivial), (by first | trivial | (intro q; first | rfl | trivial))⟩
      · have hjl : j = (l.getD i 0).toNat := by
          simp only [decide_eq_false_iff_not] at hjl
          omega
        have hs := hiN_succ hlt
        exact ⟨(i + 1, t), ⟨hlt, ht, by simp only; omega, ho⟩, by simp only; rw [hs, hjl], by simp only; omega, (by first | rfl | trivial), (by first | rfl | trivial), (by first | rfl | trivial), (by first | rfl | trivial), (by first | rfl | trivial), cnt_wrap (by omega), (by first | rfl | trivial), (by first | rfl | trivial), (by first | trivial | (intro q; first | rfl | trivial))⟩
    · have hge : i = l.length := by simp at hge; omega
      subst hge
      rw [itVs_len, itC_len hd, hiN_all]
      exact htot
theorem sprO0 {g : Int} {l : List Int} (h : (dchk g l != (0 : Int)) = true) : (sprO g l).length = 0 := by
  have : okE g l = false := by unfold okE; simpa using h
  unfold sprO
  rw [this]
  rfl
theorem sprO1 {g : Int} {l : List Int} (h : dchk g l = 0) : sprO g l = spr g l := by
  have : okE g l = true := by unfold okE; simpa using h
  unfold sprO
  rw [this]
  rfl
theorem high_sound : Sound Try.prog 52 sHigh.ctr := sHigh.sound (by kernel_rfl) sHigh_enc fun n hc => by
  have h0 := hc _ (.head _)
  exact satG AllOk.nil mixed Try.func52 (high_e n) (high_v n h0)
theorem add_sound : Sound Try.prog 124 sAdd.ctr := sAdd.sound (by kernel_rfl) sAdd_enc fun ⟨n, s⟩ hc => by
  have h0 := hc _ (.head _)
  have h1 := hc _ (.tail _ (.head _))
  have h2 := hc _ (.tail _ (.tail _ (.head _)))
  have h3 := hc _ (.tail _ (.tail _ (.tail _ (.head _))))
  exact satG AllOk.nil mixed Try.func124 (add_e n s) (add_v n s h0 h1 h2 h3)
theorem minK_sound : Sound Try.prog 93 sMin.ctr := sMin.sound (by kernel_rfl) sMin_enc fun l hc => by
  have h0 := hc _ (.head _)
  have h1 := hc _ (.tail _ (.head _))
  exact satG AllOk.nil mixed Try.func93 (minK_e l) (min_v l h0 h1)
theorem modK_sound : Sound Try.prog 51 sMod.ctr := sMod.sound (by kernel_rfl) sMod_enc fun ⟨x, m⟩ hc => by
  have h0 := hc _ (.head _)
  have h1 := hc _ (.tail _ (.head _))
  exact satG AllOk.nil mixed Try.func51 (modK_e x m) (mod_v x m h0 h1)
theorem stepE_sound : Sound Try.prog 126 sStep.ctr := sStep.sound (by kernel_rfl) sStep_enc fun g hc => by
  have h0 := hc _ (.head _)
  have h1 := hc _ (.tail _ (.head _))
  exact satG AllOk.nil mixed Try.func126 (stepE_e g) (stepE_v g h0 h1)
theorem nanE_sound : Sound Try.prog 130 sNaN.ctr := sNaN.sound (by kernel_rfl) sNaN_enc fun a hc => by
  exact satG AllOk.nil mixed Try.func130 (nanE_e a) (nanE_v a)
theorem givenE_sound : Sound Try.prog 95 sGiven.ctr := sGiven.sound (by kernel_rfl) sGiven_enc fun ⟨g, l⟩ hc => by
  exact satG AllOk.nil mixed Try.func95 (givenE_e g l) (givenE_v g l)
theorem GEa_ok : AllOk Try.prog GEa := .cons high_sound <| .cons add_sound <| .cons minK_sound <| .cons modK_sound <| .cons stepE_sound <| .cons nanE_sound <| .cons givenE_sound <| AllOk.nil
theorem giv_isat (k : Nat) (g : Int) (l : List Int) (h : dchk g l = 0) : ISat Try.prog 125 [.p k 0 0] [(k, .cells 24 [.v (.int .i64 g), .dat (.ints .i64 l)])] (itVs g l) := by
  have h0 : ISat Try.prog 125 [.p 0 0 0] [(0, .cells 24 [.v (.int .i64 g), .dat (.ints .i64 l)])] (itVs g l) :=
    isat_of_vcI (Ωi := fun l0 => oGiv l0 g l) GEa_ok mixed Try.func125 (by kernel_rfl) fun l0 => by
      have := givIt_v g l h l0
      rw [givIt_e] at this
      exact this
  exact h0.ren (fun i => k + i) (by intro a b _ _ e; omega) rfl rfl
theorem points_sound : Sound Try.prog 94 sPoints.ctr := sPoints.sound (by kernel_rfl) sPoints_enc fun ⟨g, l⟩ hc => by
  have h0 := hc _ (.head _)
  exact satG GEa_ok mixed Try.func94 (points_e g l) (points_v g l h0)
theorem lessE_sound : Sound Try.prog 101 sLess.ctr := sLess.sound (by kernel_rfl) sLess_enc fun ⟨a, b⟩ hc => by
  exact satG GEa_ok mixed Try.func101 (lessE_e a b) (lessE_v a b)
theorem GEb_ok : AllOk Try.prog GEb := .cons points_sound <| .cons lessE_sound <| GEa_ok
theorem check_sound : Sound Try.prog 59 sCheck.ctr := sCheck.sound (by kernel_rfl) sCheck_enc fun ⟨g, l⟩ hc => by
  have h0 := hc _ (.head _)
  exact satG GEb_ok mixed Try.func59 (check_e g l) (check_v g l h0)
theorem GEc_ok : AllOk Try.prog GEc := .cons check_sound <| GEb_ok
theorem sprE_v (g : Int) (l : List Int) (h0 : l.length ≤ 4294967296) : sprE_t g l := by
  unfold sprE_t
  refine ⟨h0, fun h => ⟨sprO0 h, rfl⟩, fun h => ?_⟩
  have h : dchk g l = 0 := by simpa using h
  have hd := dchk0 h
  have hg5 := hd.g5
  have hg12 := hd.g12
  have hsz := szN_bd hg5 hg12
  simp only [sz_wrap hg5 hg12, toNat_cast, Nat.add_eq, Nat.sub_eq]
  refine ⟨by omega, by omega, Int.le_refl _, by omega, by omega, 0, giv_isat _ g l h, (by first | rfl | trivial), trivial, (sprP_zero g l).symm, fun i hi _ => ?_, fun _ => ⟨?_, h.symm⟩⟩
  · rw [List.length_map] at hi
    have hx : (itC g l)[i]? = some ((itC g l).getD i (0, 0)) := by
      rw [List.getD_eq_getElem?_getD, List.getElem?_eq_getElem hi]; rfl
    have hb := itC_bd hd hx
    rw [sprP_len]
    exact ⟨itVs_at hx, (by first | rfl | trivial), hb.1, hb.2, by omega, trivial, (sprP_succ hx).symm⟩
  · rw [List.length_map, sprO1 h]
    have := sprP_all hd
    rw [hiN_all, hd.total] at this
    rw [itC_len hd]
    exact this
theorem sprE_sound : Sound Try.prog 60 sSpr.ctr := sSpr.sound (by kernel_rfl) sSpr_enc fun ⟨g, l⟩ hc => by
  have h0 := hc _ (.head _)
  exact satG GEc_ok mixed Try.func60 (sprE_e g l) (sprE_v g l h0)
theorem GEd_ok : AllOk Try.prog GEd := .cons sprE_sound <| GEc_ok
end Go.Proofs.Ytbdgknebimdjoaa
namespace Go.Proofs.Ytbdgknebimdjoaa
open Go
set_option linter.unusedVariables false
set_option maxRecDepth 100000
def celT (t : List (List Int)) (s : Int) : List Int := cond (decide (s < 0) || decide ((t.length : Int) ≤ s)) [] (t.getD s.toNat [])
def noC (t : List (List Int)) (s : Int) : Bool := Nat.beq (celT t s).length 0
def celM (t : List (List Int)) (s : Int) : Int := cond (noC t s) 7 0
def nbI (X p : Int) : Int := cond (decide (X / 2 ^ (hiI X - hiI p).toNat < p)) (hiI X - hiI p - 1) (hiI X - hiI p)
def putX (g x : Int) : Int := x + (szN g : Int)
def putN (g : Int) (t : List (List Int)) (x s : Int) : Int := nbI (putX g x) (celT t s).length
def putS (g : Int) (t : List (List Int)) (x s : Int) : Int := (celT t s).getD (putX g x / 2 ^ (putN g t x s).toNat - (celT t s).length).toNat 0
def putV (g : Int) (t : List (List Int)) (x s : Int) : Int := putX g x % 2 ^ (putN g t x s).toNat
def frE (g : Int) (t : List (List Int)) (s : Int) : Int := cond (echk g t == 0) (celM t s) (echk g t)
def frI (g : Int) (t : List (List Int)) (s : Int) : Int := cond (frE g t s == 0) ((celT t s).getD 0 0) 0
def stE (g : Int) (t : List (List Int)) (x s : Int) : Int := cond (decide (x < 0) || decide ((szN g : Int) ≤ x)) 2 (celM t s)
def puE (g : Int) (t : List (List Int)) (x s : Int) : Int := cond (echk g t == 0) (stE g t x s) (echk g t)
def puS (g : Int) (t : List (List Int)) (x s : Int) : Int := cond (puE g t x s == 0) (putS g t x s) 0
def puB (g : Int) (t : List (List Int)) (x s : Int) : Int := cond (puE g t x s == 0) (putN g t x s) 0
def puV (g : Int) (t : List (List Int)) (x s : Int) : Int := cond (puE g t x s == 0) (putV g t x s) 0
def runL (g : Int) (t : List (List Int)) : List Int → Int × Int
  | [] => (0, 0)
  | s :: r => match r with
    | [] => ((celT t s).getD 0 0, 0)
    | _ :: _ => (putS g t (runL g t r).1 s, (runL g t r).2 + putN g t (runL g t r).1 s)
def ruE (g : Int) (t : List (List Int)) (l : List Int) : Int := cond (echk g t == 0) (cond (decide (100000 < l.length)) 2 (cond (Nat.beq l.length 0 || l.any (noC t)) 7 0)) (echk g t)
def ruS (g : Int) (t : List (List Int)) (l : List Int) : Int := cond (ruE g t l == 0) (runL g t l).1 0
def ruN (g : Int) (t : List (List Int)) (l : List Int) : Int := cond (ruE g t l == 0) (runL g t l).2 0
def litT (g : Int) (t : List (List Int)) : Bool := ebad g t || decide (t.flatten.length ≤ 65536)
def cutP (t : List (List Int)) (i : Nat) : List (List Int) := t.take i ++ List.replicate (t.length - i) []
def preF (t : List (List Int)) (s i : Nat) : List Int := flatP t s ++ (t.getD s []).take i
structure ChkOk (g : Int) (t : List (List Int)) (s i : Nat) : Prop where
  rng : ∀ c ∈ preF t s i, 0 ≤ c ∧ c < (szN g : Int)
  nodup : (preF t s i).Nodup
  srt : ∀ k, k < s → sorted (t.getD k []) = true
  cur : sorted ((t.getD s []).take i) = true
def srtFrom (l : List Int) (k : Nat) : Prop := ∀ m, l.length ≤ m + k → m < l.length → l.getD (m - 1) 0 ≤ l.getD m 0
end Go.Proofs.Ytbdgknebimdjoaa
namespace Go.Proofs.Ytbdgknebimdjoaa
open Go Go.RowKit
set_option linter.unusedVariables false
set_option linter.unusedSimpArgs false
set_option maxRecDepth 100000
def sEnc : Spec where
  ι := Int × List Int
  dec l H := match l with
    | [.ag [.v (.int .i64 g), .dat (.ints .i64 l)]] => some ((g, l), [])
    | _ => none
  args := fun (g, l) => [.ag [.v (.int .i64 g), .dat (.ints .i64 l)]]
  pre := fun (g, l) => [⟨l.length ≤ 4294967296, inferInstance⟩]
  out := fun (g, l) => .leaf (.tu [.ag [.v (.int .i64 (encG g l)), .dat (.lists (encL g l))], .v (.int .i64 (dchk g l))]) []
theorem sEnc_enc : ∀ l H n i ls, sEnc.dec l H = some (i, ls) → l = renL (rho ls n) (sEnc.args i) ∧ givenHp H ls = renH (rho ls n) (sEnc.hp i) := by
  intro l H n i ls h
  simp only [sEnc] at h
  repeat' split at h
  all_goals first
    | (cases h; done)
    | (cases h; exact ⟨rfl, rfl⟩)
def sSorted : Spec where
  ι := List Int
  dec l H := match l with
    | [.dat (.ints .i64 l)] => some (l, [])
    | _ => none
  args := fun l => [.dat (.ints .i64 l)]
  pre := fun l => [⟨l.length ≤ 4294967296, inferInstance⟩]
  out := fun l => .leaf (.v (.bool (sorted l))) []
theorem sSorted_enc : ∀ l H n i ls, sSorted.dec l H = some (i, ls) → l = renL (rho ls n) (sSorted.args i) ∧ givenHp H ls = renH (rho ls n) (sSorted.hp i) := by
  intro l H n i ls h
  simp only [sSorted] at h
  repeat' split at h
  all_goals first
    | (cases h; done)
    | (cases h; exact ⟨rfl, rfl⟩)
def sCut : Spec where
  ι := List (List Int)
  dec l H := match l with
    | [.dat (.lists t)] => some (t, [])
    | _ => none
  args := fun t => [.dat (.lists t)]
  pre := fun t => [⟨t.length ≤ 65536, inferInstance⟩, ⟨t.flatten.length ≤ 65536, inferInstance⟩]
  out := fun t => .leaf (.dat (.lists t)) []
theorem sCut_enc : ∀ l H n i ls, sCut.dec l H = some (i, ls) → l = renL (rho ls n) (sCut.args i) ∧ givenHp H ls = renH (rho ls n) (sCut.hp i) := by
  intro l H n i ls h
  simp only [sCut] at h
  repeat' split at h
  all_goals first
    | (cases h; done)
    | (cases h; exact ⟨rfl, rfl⟩)
def sGather : Spec where
  ι := List (List Int)
  dec l H := match l with
    | [.dat (.lists t)] => some (t, [])
    | _ => none
  args := fun t => [.dat (.lists t)]
  pre := fun t => [⟨t.length ≤ 65536, inferInstance⟩, ⟨t.flatten.length ≤ 65536, inferInstance⟩]
  out := fun t => .leaf (.o 2000) [(2000, .row 3 (.ints .i64 t.flatten))]
theorem sGather_enc : ∀ l H n i ls, sGather.dec l H = some (i, ls) → l = renL (rho ls n) (sGather.args i) ∧ givenHp H ls = renH (rho ls n) (sGather.hp i) := by
  intro l H n i ls h
  simp only [sGather] at h
  repeat' split at h
  all_goals first
    | (cases h; done)
    | (cases h; exact ⟨rfl, rfl⟩)
def sSortI : Spec where
  ι := List Int
  own := true
  dec l H := match l with
    | [.o l0] => match H l0 with
      | some (.row 3 (.ints .i64 xs)) => some (xs, [l0])
      | _ => none
    | _ => none
  args := fun xs => [.o 0]
  hp := fun xs => [(0, .row 3 (.ints .i64 xs))]
  pre := fun xs => [⟨xs.length ≤ 4294967296, inferInstance⟩]
  out := fun xs => .leaf (.tu []) [(0, .row 3 (.ints .i64 (srtI xs)))]
theorem sSortI_enc : ∀ l H n i ls, sSortI.dec l H = some (i, ls) → l = renL (rho ls n) (sSortI.args i) ∧ givenHp H ls = renH (rho ls n) (sSortI.hp i) := by
  intro l H n i ls h
  simp only [sSortI] at h
  repeat' split at h
  all_goals first
    | (cases h; done)
    | (cases h; exact ⟨rfl, rfl⟩)
    | (cases h; refine ⟨rfl, ?_⟩; simp only [givenHp, List.filterMap_cons, List.filterMap_nil, Option.map, *]; rfl)
def sLen : Spec where
  ι := Int
  dec l H := match l with
    | [.v (.int .u64 x)] => some (x, [])
    | _ => none
  args := fun x => [.v (.int .u64 x)]
  pre := fun x => [⟨0 ≤ x, inferInstance⟩, ⟨x ≤ 9223372036854775807, inferInstance⟩]
  out := fun x => .leaf (.v (.int .i64 (hiI x + 1))) []
theorem sLen_enc : ∀ l H n i ls, sLen.dec l H = some (i, ls) → l = renL (rho ls n) (sLen.args i) ∧ givenHp H ls = renH (rho ls n) (sLen.hp i) := by
  intro l H n i ls h
  simp only [sLen] at h
  repeat' split at h
  all_goals first
    | (cases h; done)
    | (cases h; exact ⟨rfl, rfl⟩)
def sChkT : Spec where
  ι := Int × List (List Int)
  dec l H := match l with
    | [.ag [.v (.int .i64 g), .dat (.lists t)]] => some ((g, t), [])
    | _ => none
  args := fun (g, t) => [.ag [.v (.int .i64 g), .dat (.lists t)]]
  pre := fun (g, t) => [⟨t.length ≤ 4294967296, inferInstance⟩, ⟨litT g t = true, inferInstance⟩]
  out := fun (g, t) => .leaf (.v (.int .i64 (echk g t))) []
theorem sChkT_enc : ∀ l H n i ls, sChkT.dec l H = some (i, ls) → l = renL (rho ls n) (sChkT.args i) ∧ givenHp H ls = renH (rho ls n) (sChkT.hp i) := by
  intro l H n i ls h
  simp only [sChkT] at h
  repeat' split at h
  all_goals first
    | (cases h; done)
    | (cases h; exact ⟨rfl, rfl⟩)
def sCells : Spec where
  ι := Int × List (List Int) × Int
  dec l H := match l with
    | [.ag [.v (.int .i64 g), .dat (.lists t)], .v (.int .i64 s)] => some ((g, t, s), [])
    | _ => none
  args := fun (g, t, s) => [.ag [.v (.int .i64 g), .dat (.lists t)], .v (.int .i64 s)]
  pre := fun (g, t, s) => [⟨t.length ≤ 4294967296, inferInstance⟩]
  out := fun (g, t, s) => .leaf (.dat (.ints .i64 (celT t s))) []
theorem sCells_enc : ∀ l H n i ls, sCells.dec l H = some (i, ls) → l = renL (rho ls n) (sCells.args i) ∧ givenHp H ls = renH (rho ls n) (sCells.hp i) := by
  intro l H n i ls h
  simp only [sCells] at h
  repeat' split at h
  all_goals first
    | (cases h; done)
    | (cases h; exact ⟨rfl, rfl⟩)
def sPut : Spec where
  ι := Int × List (List Int) × Int × Int
  dec l H := match l with
    | [.ag [.v (.int .i64 g), .dat (.lists t)], .v (.int .i64 x), .v (.int .i64 s)] => some ((g, t, x, s), [])
    | _ => none
  args := fun (g, t, x, s) => [.ag [.v (.int .i64 g), .dat (.lists t)], .v (.int .i64 x), .v (.int .i64 s)]
  pre := fun (g, t, x, s) => [⟨0 ≤ g, inferInstance⟩, ⟨g ≤ 12, inferInstance⟩, ⟨t.length ≤ 4294967296, inferInstance⟩, ⟨0 ≤ x, inferInstance⟩, ⟨x < (szN g : Int), inferInstance⟩, ⟨noC t s = false, inferInstance⟩, ⟨(celT t s).length ≤ szN g, inferInstance⟩]
  out := fun (g, t, x, s) => .leaf (.tu [.v (.int .i64 (putS g t x s)), .v (.int .i64 (putN g t x s)), .v (.int .i64 (putV g t x s))]) []
theorem sPut_enc : ∀ l H n i ls, sPut.dec l H = some (i, ls) → l = renL (rho ls n) (sPut.args i) ∧ givenHp H ls = renH (rho ls n) (sPut.hp i) := by
  intro l H n i ls h
  simp only [sPut] at h
  repeat' split at h
  all_goals first
    | (cases h; done)
    | (cases h; exact ⟨rfl, rfl⟩)
def sFirst : Spec where
  ι := Int × List (List Int) × Int
  dec l H := match l with
    | [.ag [.v (.int .i64 g), .dat (.lists t)], .v (.int .i64 s)] => some ((g, t, s), [])
    | _ => none
  args := fun (g, t, s) => [.ag [.v (.int .i64 g), .dat (.lists t)], .v (.int .i64 s)]
  pre := fun (g, t, s) => [⟨t.length ≤ 4294967296, inferInstance⟩, ⟨litT g t = true, inferInstance⟩]
  out := fun (g, t, s) => .leaf (.tu [.v (.int .i64 (frI g t s)), .v (.int .i64 (frE g t s))]) []
theorem sFirst_enc : ∀ l H n i ls, sFirst.dec l H = some (i, ls) → l = renL (rho ls n) (sFirst.args i) ∧ givenHp H ls = renH (rho ls n) (sFirst.hp i) := by
  intro l H n i ls h
  simp only [sFirst] at h
  repeat' split at h
  all_goals first
    | (cases h; done)
    | (cases h; exact ⟨rfl, rfl⟩)
def sPutE : Spec where
  ι := Int × List (List Int) × Int × Int
  dec l H := match l with
    | [.ag [.v (.int .i64 g), .dat (.lists t)], .v (.int .i64 x), .v (.int .i64 s)] => some ((g, t, x, s), [])
    | _ => none
  args := fun (g, t, x, s) => [.ag [.v (.int .i64 g), .dat (.lists t)], .v (.int .i64 x), .v (.int .i64 s)]
  pre := fun (g, t, x, s) => [⟨t.length ≤ 4294967296, inferInstance⟩, ⟨litT g t = true, inferInstance⟩]
  out := fun (g, t, x, s) => .leaf (.tu [.v (.int .i64 (puS g t x s)), .v (.int .i64 (puB g t x s)), .v (.int .i64 (puV g t x s)), .v (.int .i64 (puE g t x s))]) []
theorem sPutE_enc : ∀ l H n i ls, sPutE.dec l H = some (i, ls) → l = renL (rho ls n) (sPutE.args i) ∧ givenHp H ls = renH (rho ls n) (sPutE.hp i) := by
  intro l H n i ls h
  simp only [sPutE] at h
  repeat' split at h
  all_goals first
    | (cases h; done)
    | (cases h; exact ⟨rfl, rfl⟩)
def sRun : Spec where
  ι := Int × List (List Int) × List Int
  dec l H := match l with
    | [.ag [.v (.int .i64 g), .dat (.lists t)], .dat (.ints .i64 l)] => some ((g, t, l), [])
    | _ => none
  args := fun (g, t, l) => [.ag [.v (.int .i64 g), .dat (.lists t)], .dat (.ints .i64 l)]
  pre := fun (g, t, l) => [⟨t.length ≤ 4294967296, inferInstance⟩, ⟨litT g t = true, inferInstance⟩, ⟨l.length ≤ 4294967296, inferInstance⟩]
  out := fun (g, t, l) => .leaf (.tu [.v (.int .i64 (ruS g t l)), .v (.int .i64 (ruN g t l)), .v (.int .i64 (ruE g t l))]) []
theorem sRun_enc : ∀ l H n i ls, sRun.dec l H = some (i, ls) → l = renL (rho ls n) (sRun.args i) ∧ givenHp H ls = renH (rho ls n) (sRun.hp i) := by
  intro l H n i ls h
  simp only [sRun] at h
  repeat' split at h
  all_goals first
    | (cases h; done)
    | (cases h; exact ⟨rfl, rfl⟩)
def two (x y : LoopInv) : Nat → Option LoopFam := fun k => cond (Nat.beq k 0) (some (.one x)) (cond (Nat.beq k 1) (some (.one y)) none)
def eB (k : Nat) (g : Int) (t : List (List Int)) : Nat × SBlk := (k, .cells 28 [.v (.int .i64 g), .dat (.lists t)])
def oEnc (g : Int) (l : List Int) : LoopInv := { ι := Nat, p := fun i => i ≤ szN g ∧ dchk g l = 0, tm := fun i => [(2, .p 1001 0 0), (3, .v (.int .i64 0)), (7, .p 1002 0 0), (33, .dat (.ints .i64 (sprO g l))), (34, .v (.int .i64 (szN g : Nat))), (35, .v (.int .i64 (i : Nat)))], hp := fun i => [(1001, .cells 28 [.v (.int .i64 0), .v (.slice none 0 0)]), (1002, .cells 28 [.v (.int .i64 g), .o 1003]), (1003, .row 22 (.lists (statesP l.length (sprO g l) i)))], μ := fun i => szN g - i }
def oSorted (l : List Int) : LoopInv := { ι := Nat, p := fun k => k ≤ l.length ∧ srtFrom l k, tm := fun k => [(0, .dat (.ints .i64 l)), (3, .v (.int .i64 ((l.length : Int) - 1 - (k : Nat))))], hp := fun k => [], μ := fun k => l.length - k }
def oCut (t : List (List Int)) : LoopInv := { ι := Nat, p := fun i => i ≤ t.length, tm := fun i => [(3, .o 5000), (9, .dat (.lists t)), (10, .v (.int .i64 t.length)), (11, .v (.int .i64 (i : Nat)))], hp := fun i => [(5000, .row 22 (.lists (cutP t i)))], μ := fun i => t.length - i }
def oGather (t : List (List Int)) : LoopInv := { ι := Nat, p := fun i => i ≤ t.length, tm := fun i => [(3, .o 5000), (6, .dat (.lists t)), (7, .v (.int .i64 t.length)), (8, .v (.int .i64 (i : Nat)))], hp := fun i => [(5000, .row 3 (.ints .i64 (flatP t i)))], μ := fun i => t.length - i }
def oChkA (g : Int) (t : List (List Int)) : LoopInv := { ι := Nat, p := fun i => i ≤ t.length ∧ ebad g t = false ∧ (t.take i).all sorted = true, tm := fun i => [(1, .p 1000 0 0), (23, .dat (.lists t)), (24, .v (.int .i64 t.length)), (25, .v (.int .i64 (i : Nat)))], hp := fun i => [eB 1000 g t], μ := fun i => t.length - i }
def oChkB (g : Int) (t : List (List Int)) : LoopInv := { ι := Nat, p := fun i => i ≤ szN g ∧ ebad g t = false ∧ t.all sorted = true ∧ t.flatten.length = szN g ∧ ∀ k, k < i → (srtI t.flatten).getD k 0 = k, tm := fun i => [(46, .o 5000), (47, .v (.int .i64 (szN g : Nat))), (48, .v (.int .i64 (i : Nat)))], hp := fun i => [(5000, .row 3 (.ints .i64 (srtI t.flatten)))], μ := fun i => szN g - i }
def oIdxE (g : Int) (t : List (List Int)) (l : List Int) : LoopInv := { ι := Nat, p := fun i => i ≤ l.length ∧ (l.take i).any (noC t) = false, tm := fun i => [(0, .dat (.ints .i64 l)), (1, .fn (.func 64) [] [.p 0 0 0]), (7, .v (.int .i64 l.length)), (8, .v (.int .i64 (i : Nat)))], hp := fun i => [(0, .cells 83 [.v (.int .i64 g), .dat (.lists t)])], μ := fun i => l.length - i }
def oBack (l0 : Nat) (l : List Int) : LoopInvI := { ι := Nat, p := fun k => k ≤ l.length, tm := fun k => [(0, .v (.func (.yield l0) #[] #[])), (1, .p 0 0 0), (3, .v (.int .i64 ((l.length : Int) - 1 - (k : Nat))))], hp := fun k => [(0, .cells 22 [.dat (.ints .i64 l)])], μ := fun k => l.length - k, y := fun k => k }
def oBackF (l0 : Nat) (l : List Int) : Nat → Option LoopFamI := fun k => cond (Nat.beq k 0) (some ⟨Unit, fun _ => oBack l0 l⟩) none
def rRun (g : Int) (t : List (List Int)) (l : List Int) : RngInv := { f := 100, cap := [.p 1200040 0 0], hpI := [(1200040, .cells 22 [.dat (.ints .i64 l.dropLast)])], xs := l.dropLast.reverse.map fun x => [.int .i64 x], it := fun i => [.int .i64 (l.getD (l.length - 2 - i) 0)], tm := [(4, .p 1001 0 0), (5, .p 1002 0 0), (6, .v (.int .i64 0)), (8, .p 1003 0 0), (9, .p 1004 0 0)], hp := fun i => [(1001, .cells 3 [.v (.int .i64 (runL g t (l.drop (l.length - 1 - i))).1)]), (1002, .cells 3 [.v (.int .i64 (runL g t (l.drop (l.length - 1 - i))).2)]), (1003, .cells 83 [.v (.int .i64 g), .dat (.lists t)]), (1004, .cells 87 [.fn (.func 66) [.ag [.v (.int .i64 g), .dat (.lists t)]] []])], p := fun i => ruE g t l = 0 }
def oPutC (g : Int) (t : List (List Int)) (x s : Int) : LoopInv := { ι := Unit, p := fun _ => True, tm := fun _ => [(7, .v (.int .i64 (putN g t x s))), (9, .dat (.ints .i64 (celT t s))), (10, .v (.int .u64 (putX g x))), (11, .v (.int .u64 (celT t s).length))], hp := fun _ => [], μ := fun _ => 0 }
def oPutK (g : Int) (t : List (List Int)) (x s : Int) : Nat → Option LoopFam := fun k => cond (Nat.beq k 1006) (some (.one (oPutC g t x s))) none
def GEe : List (Nat × Ctr) := (16, sEnc.ctr) :: (68, sSorted.ctr) :: (70, sCut.ctr) :: (69, sGather.ctr) :: (71, sSortI.ctr) :: (99, sLen.ctr) :: (65, sCells.ctr) :: GEd
def GEf : List (Nat × Ctr) := (26, sChkT.ctr) :: (66, sPut.ctr) :: GEe
def GEg : List (Nat × Ctr) := (25, sFirst.ctr) :: (24, sPutE.ctr) :: GEf
end Go.Proofs.Ytbdgknebimdjoaa
namespace Go.Proofs.Ytbdgknebimdjoaa
open Go Go.RowKit
set_option linter.unusedVariables false
set_option maxRecDepth 100000
def encE_t (g : Int) (l : List Int) : Prop :=
 List.length l ≤ (4294967296 : Nat) ∧
 ((dchk g l != (0 : Int)) = true → (0 : Int) = encG g l ∧ List.length (encL g l) = (0 : Nat) ∧ dchk g l = dchk g l) ∧
 ((dchk g l != (0 : Int)) = false →
 List.length l ≤ (4294967296 : Nat) ∧
 ((dchk g l != (0 : Int)) = true → (0 : Int) = encG g l ∧ List.length (encL g l) = (0 : Nat) ∧ dchk g l = dchk g l) ∧
 ((dchk g l != (0 : Int)) = false →
 (0 : Int) ≤ (↑(List.length l) : Int) ∧
 (↑(List.length l) : Int) ≤ (↑(List.length l) : Int) ∧
 (↑((24 : Nat)) : Int) * (↑(List.length l) : Int) ≤ (281474976710656 : Int) ∧
 (↑(List.length l) : Int) ≤ (9223372036854775807 : Int) ∧
 (∃ (x0 : Nat),
 (x0 ≤ szN g ∧ dchk g l = (0 : Int)) ∧
 (0 : Int) = (0 : Int) ∧
 sprO g l = sprO g l ∧
 (↑(List.length (sprO g l)) : Int) = (↑(szN g) : Int) ∧
 (0 : Int) = (↑x0 : Int) ∧
 (0 : Int) = (0 : Int) ∧
 Value.slice none (0 : Nat) (0 : Nat) = Value.slice none (0 : Nat) (0 : Nat) ∧
 g = g ∧ List.replicate (Int.toNat (↑(List.length l) : Int)) nilI = statesP (List.length l) (sprO g l) x0) ∧
 ∀ (x1 : Nat),
 x1 ≤ szN g ∧ dchk g l = (0 : Int) →
 (decide ((↑x1 : Int) < (↑(szN g) : Int)) = true →
 (0 : Int) ≤ (↑x1 : Int) ∧
 (↑x1 : Int) < (↑(List.length (sprO g l)) : Int) ∧
 (0 : Int) ≤ List.getD (sprO g l) (Int.toNat (↑x1 : Int)) (0 : Int) ∧
 List.getD (sprO g l) (Int.toNat (↑x1 : Int)) (0 : Int) < (↑(List.length (statesP (List.length l) (sprO g l) x1)) : Int) ∧
 Int.toNat (List.getD (sprO g l) (Int.toNat (↑x1 : Int)) (0 : Int)) < List.length (statesP (List.length l) (sprO g l) x1) ∧
 (0 : Int) ≤ (0 : Int) ∧
 (0 : Int) ≤
 (↑(List.length (List.getD (statesP (List.length l) (sprO g l) x1) (Int.toNat (List.getD (sprO g l) (Int.toNat (↑x1 : Int)) (0 : Int))) [])) : Int) ∧
 (↑(List.length (List.getD (statesP (List.length l) (sprO g l) x1) (Int.toNat (List.getD (sprO g l) (Int.toNat (↑x1 : Int)) (0 : Int))) [])) : Int) ≤
 (↑(List.length (List.getD (statesP (List.length l) (sprO g l) x1) (Int.toNat (List.getD (sprO g l) (Int.toNat (↑x1 : Int)) (0 : Int))) [])) : Int) ∧
 (↑(List.length (List.getD (statesP (List.length l) (sprO g l) x1) (Int.toNat (List.getD (sprO g l) (Int.toNat (↑x1 : Int)) (0 : Int))) [])) : Int) =
 (↑(List.length (List.getD (statesP (List.length l) (sprO g l) x1) (Int.toNat (List.getD (sprO g l) (Int.toNat (↑x1 : Int)) (0 : Int))) [])) : Int) ∧
 (List.length
 (List.take
 (Int.toNat
 (↑(List.length
 (List.getD (statesP (List.length l) (sprO g l) x1) (Int.toNat (List.getD (sprO g l) (Int.toNat (↑x1 : Int)) (0 : Int))) [])) :
 Int) -
 Int.toNat (0 : Int))
 (List.drop (Int.toNat (0 : Int))
 (List.getD (statesP (List.length l) (sprO g l) x1) (Int.toNat (List.getD (sprO g l) (Int.toNat (↑x1 : Int)) (0 : Int))) []))) +
 (1 : Nat)) *
 (8 : Nat) ≤
 (140737488355328 : Nat) ∧
 (0 : Int) ≤ List.getD (sprO g l) (Int.toNat (↑x1 : Int)) (0 : Int) ∧
 List.getD (sprO g l) (Int.toNat (↑x1 : Int)) (0 : Int) < (↑(List.length (statesP (List.length l) (sprO g l) x1)) : Int) ∧
 Int.toNat (List.getD (sprO g l) (Int.toNat (↑x1 : Int)) (0 : Int)) < List.length (statesP (List.length l) (sprO g l) x1) ∧
 ∃ (y2 : Nat),
 (y2 ≤ szN g ∧ dchk g l = (0 : Int)) ∧
 Nat.sub (szN g) y2 < Nat.sub (szN g) x1 ∧
 (0 : Int) = (0 : Int) ∧
 sprO g l = sprO g l ∧
 (↑(szN g) : Int) = (↑(szN g) : Int) ∧
 IntKind.wrap IntKind.i64 ((↑x1 : Int) + (1 : Int)) = (↑y2 : Int) ∧
 (0 : Int) = (0 : Int) ∧
 Value.slice none (0 : Nat) (0 : Nat) = Value.slice none (0 : Nat) (0 : Nat) ∧
 g = g ∧
 List.set (statesP (List.length l) (sprO g l) x1) (Int.toNat (List.getD (sprO g l) (Int.toNat (↑x1 : Int)) (0 : Int)))
 (List.take
 (Int.toNat
 (↑(List.length
 (List.getD (statesP (List.length l) (sprO g l) x1)
 (Int.toNat (List.getD (sprO g l) (Int.toNat (↑x1 : Int)) (0 : Int))) [])) :
 Int) -
 Int.toNat (0 : Int))
 (List.drop (Int.toNat (0 : Int))
 (List.getD (statesP (List.length l) (sprO g l) x1)
 (Int.toNat (List.getD (sprO g l) (Int.toNat (↑x1 : Int)) (0 : Int))) [])) ++
 [(↑x1 : Int)]) =
 statesP (List.length l) (sprO g l) y2) ∧
 (decide ((↑x1 : Int) < (↑(szN g) : Int)) = false → g = encG g l ∧ statesP (List.length l) (sprO g l) x1 = encL g l ∧ (0 : Int) = dchk g l)))
theorem encE_e (g : Int) (l : List Int) : encE_t g l = vcG Try.prog (Gof GEd) (one (oEnc g l)) Try.f16 [.ag [.v (.int .i64 g), .dat (.ints .i64 l)]] [] (.leaf ((.tu [.ag [.v (.int .i64 (encG g l)), .dat (.lists (encL g l))], .v (.int .i64 (dchk g l))])) ([])) := by kernel_rfl
def sortedE_t (l : List Int) : Prop :=
 (∃ (x0 : Nat), (x0 ≤ List.length l ∧ srtFrom l x0) ∧ l = l ∧ IntKind.wrap IntKind.i64 ((↑(List.length l) : Int) - (1 : Int)) = (↑(List.length l) : Int) - (1 : Int) - (↑x0 : Int)) ∧
 ∀ (x1 : Nat),
 x1 ≤ List.length l ∧ srtFrom l x1 →
 (decide ((↑(List.length l) : Int) - (1 : Int) - (↑x1 : Int) > (0 : Int)) = true →
 (0 : Int) ≤ (↑(List.length l) : Int) - (1 : Int) - (↑x1 : Int) ∧
 (↑(List.length l) : Int) - (1 : Int) - (↑x1 : Int) < (↑(List.length l) : Int) ∧
 (0 : Int) ≤ IntKind.wrap IntKind.i64 ((↑(List.length l) : Int) - (1 : Int) - (↑x1 : Int) - (1 : Int)) ∧
 IntKind.wrap IntKind.i64 ((↑(List.length l) : Int) - (1 : Int) - (↑x1 : Int) - (1 : Int)) < (↑(List.length l) : Int) ∧
 (decide
 (List.getD l (Int.toNat ((↑(List.length l) : Int) - (1 : Int) - (↑x1 : Int))) (0 : Int) <
 List.getD l (Int.toNat (IntKind.wrap IntKind.i64 ((↑(List.length l) : Int) - (1 : Int) - (↑x1 : Int) - (1 : Int)))) (0 : Int)) =
 true →
 false = sorted l) ∧
 (decide
 (List.getD l (Int.toNat ((↑(List.length l) : Int) - (1 : Int) - (↑x1 : Int))) (0 : Int) <
 List.getD l (Int.toNat (IntKind.wrap IntKind.i64 ((↑(List.length l) : Int) - (1 : Int) - (↑x1 : Int) - (1 : Int)))) (0 : Int)) =
 false →
 ∃ (y2 : Nat),
 (y2 ≤ List.length l ∧ srtFrom l y2) ∧
 Nat.sub (List.length l) y2 < Nat.sub (List.length l) x1 ∧
 l = l ∧ IntKind.wrap IntKind.i64 ((↑(List.length l) : Int) - (1 : Int) - (↑x1 : Int) - (1 : Int)) = (↑(List.length l) : Int) - (1 : Int) - (↑y2 : Int))) ∧
 (decide ((↑(List.length l) : Int) - (1 : Int) - (↑x1 : Int) > (0 : Int)) = false → true = sorted l)
theorem sortedE_e (l : List Int) : sortedE_t l = vcG Try.prog (Gof GEd) (one (oSorted l)) Try.f68 [.dat (.ints .i64 l)] [] (.leaf ((.v (.bool (sorted l)))) ([])) := by kernel_rfl
def cutE_t (t : List (List Int)) : Prop :=
 (0 : Int) ≤ (↑(List.length t) : Int) ∧
 (↑(List.length t) : Int) ≤ (↑(List.length t) : Int) ∧
 (↑((24 : Nat)) : Int) * (↑(List.length t) : Int) ≤ (281474976710656 : Int) ∧
 (↑(List.length t) : Int) ≤ (9223372036854775807 : Int) ∧
 (∃ (x0 : Nat),
 Nat.le x0 (List.length t) ∧ t = t ∧ (↑(List.length t) : Int) = (↑(List.length t) : Int) ∧ (0 : Int) = (↑x0 : Int) ∧ List.replicate (Int.toNat (↑(List.length t) : Int)) nilI = cutP t x0) ∧
 ∀ (x1 : Nat),
 Nat.le x1 (List.length t) →
 (decide ((↑x1 : Int) < (↑(List.length t) : Int)) = true →
 (0 : Int) ≤ (↑x1 : Int) ∧
 (↑x1 : Int) < (↑(List.length t) : Int) ∧
 (0 : Int) ≤ (0 : Int) ∧
 (0 : Int) ≤ (0 : Int) ∧
 (0 : Int) ≤ (↑(List.length (List.getD t (Int.toNat (↑x1 : Int)) [])) : Int) ∧
 (0 : Int) = (0 : Int) ∧
 (List.length (List.take (Int.toNat (0 : Int) - Int.toNat (0 : Int)) (List.drop (Int.toNat (0 : Int)) (List.getD t (Int.toNat (↑x1 : Int)) []))) +
 List.length (List.getD t (Int.toNat (↑x1 : Int)) [])) *
 (8 : Nat) ≤
 (140737488355328 : Nat) ∧
 (0 : Int) ≤ (↑x1 : Int) ∧
 (↑x1 : Int) < (↑(List.length (cutP t x1)) : Int) ∧
 Int.toNat (↑x1 : Int) < List.length (cutP t x1) ∧
 ∃ (y2 : Nat),
 Nat.le y2 (List.length t) ∧
 Nat.sub (List.length t) y2 < Nat.sub (List.length t) x1 ∧
 t = t ∧
 (↑(List.length t) : Int) = (↑(List.length t) : Int) ∧
 IntKind.wrap IntKind.i64 ((↑x1 : Int) + (1 : Int)) = (↑y2 : Int) ∧
 List.set (cutP t x1) (Int.toNat (↑x1 : Int))
 (List.take (Int.toNat (0 : Int) - Int.toNat (0 : Int)) (List.drop (Int.toNat (0 : Int)) (List.getD t (Int.toNat (↑x1 : Int)) [])) ++
 List.getD t (Int.toNat (↑x1 : Int)) []) =
 cutP t y2) ∧
 (decide ((↑x1 : Int) < (↑(List.length t) : Int)) = false → cutP t x1 = t)
theorem cutE_e (t : List (List Int)) : cutE_t t = vcG Try.prog (Gof GEd) (one (oCut t)) Try.f70 [.dat (.lists t)] [] (.leaf ((.dat (.lists t))) ([])) := by kernel_rfl
def gatherE_t (t : List (List Int)) : Prop :=
 (∃ (x0 : Nat), Nat.le x0 (List.length t) ∧ t = t ∧ (↑(List.length t) : Int) = (↑(List.length t) : Int) ∧ (0 : Int) = (↑x0 : Int) ∧ List.length (flatP t x0) = (0 : Nat)) ∧
 ∀ (x1 : Nat),
 Nat.le x1 (List.length t) →
 (decide ((↑x1 : Int) < (↑(List.length t) : Int)) = true →
 (0 : Int) ≤ (↑x1 : Int) ∧
 (↑x1 : Int) < (↑(List.length t) : Int) ∧
 (List.length (flatP t x1) + List.length (List.getD t (Int.toNat (↑x1 : Int)) [])) * (8 : Nat) ≤ (140737488355328 : Nat) ∧
 ∃ (y2 : Nat),
 Nat.le y2 (List.length t) ∧
 Nat.sub (List.length t) y2 < Nat.sub (List.length t) x1 ∧
 t = t ∧
 (↑(List.length t) : Int) = (↑(List.length t) : Int) ∧
 IntKind.wrap IntKind.i64 ((↑x1 : Int) + (1 : Int)) = (↑y2 : Int) ∧ flatP t x1 ++ List.getD t (Int.toNat (↑x1 : Int)) [] = flatP t y2) ∧
 (decide ((↑x1 : Int) < (↑(List.length t) : Int)) = false → flatP t x1 = List.flatten t)
theorem gatherE_e (t : List (List Int)) : gatherE_t t = vcG Try.prog (Gof GEd) (one (oGather t)) Try.f69 [.dat (.lists t)] [] (.leaf ((.o 2000)) ([(2000, .row 3 (.ints .i64 t.flatten))])) := by kernel_rfl
def chkE_t (g : Int) (t : List (List Int)) : Prop :=
 (decide (g < (0 : Int)) = true → (2 : Int) = echk g t) ∧
 (decide (g < (0 : Int)) = false →
 (decide (g > (12 : Int)) = true → (2 : Int) = echk g t) ∧
 (decide (g > (12 : Int)) = false →
 (decide ((↑(List.length t) : Int) > (256 : Int)) = true → (2 : Int) = echk g t) ∧
 (decide ((↑(List.length t) : Int) > (256 : Int)) = false →
 (∃ (x0 : Nat),
 (x0 ≤ List.length t ∧ ebad g t = false ∧ List.all (List.take x0 t) sorted = true) ∧
 t = t ∧ (↑(List.length t) : Int) = (↑(List.length t) : Int) ∧ (0 : Int) = (↑x0 : Int) ∧ g = g ∧ t = t) ∧
 ∀ (x1 : Nat),
 x1 ≤ List.length t ∧ ebad g t = false ∧ List.all (List.take x1 t) sorted = true →
 (decide ((↑x1 : Int) < (↑(List.length t) : Int)) = true →
 (0 : Int) ≤ (↑x1 : Int) ∧
 (↑x1 : Int) < (↑(List.length t) : Int) ∧
 List.length (List.getD t (Int.toNat (↑x1 : Int)) []) ≤ (4294967296 : Nat) ∧
 ((!sorted (List.getD t (Int.toNat (↑x1 : Int)) [])) = true → (3 : Int) = echk g t) ∧
 ((!sorted (List.getD t (Int.toNat (↑x1 : Int)) [])) = false →
 ∃ (y2 : Nat),
 (y2 ≤ List.length t ∧ ebad g t = false ∧ List.all (List.take y2 t) sorted = true) ∧
 Nat.sub (List.length t) y2 < Nat.sub (List.length t) x1 ∧
 t = t ∧ (↑(List.length t) : Int) = (↑(List.length t) : Int) ∧ IntKind.wrap IntKind.i64 ((↑x1 : Int) + (1 : Int)) = (↑y2 : Int) ∧ g = g ∧ t = t)) ∧
 (decide ((↑x1 : Int) < (↑(List.length t) : Int)) = false →
 List.length t ≤ (65536 : Nat) ∧
 List.length (List.flatten t) ≤ (65536 : Nat) ∧
 List.length t ≤ (65536 : Nat) ∧
 List.length (List.flatten t) ≤ (65536 : Nat) ∧
 List.length (List.flatten t) ≤ (4294967296 : Nat) ∧
 (0 : Int) ≤ IntKind.wrap IntKind.u64 g ∧
 (((↑(List.length (srtI (List.flatten t))) : Int) !=
 IntKind.wrap IntKind.i64 ((1 : Int) * (2 : Int) ^ min (Int.toNat (IntKind.wrap IntKind.u64 g)) (IntKind.bits IntKind.i64))) =
 true →
 (3 : Int) = echk g t) ∧
 (((↑(List.length (srtI (List.flatten t))) : Int) !=
 IntKind.wrap IntKind.i64 ((1 : Int) * (2 : Int) ^ min (Int.toNat (IntKind.wrap IntKind.u64 g)) (IntKind.bits IntKind.i64))) =
 false →
 (∃ (x3 : Nat),
 (x3 ≤ szN g ∧
 ebad g t = false ∧
 List.all t sorted = true ∧
 List.length (List.flatten t) = szN g ∧ ∀ (k4 : Nat), k4 < x3 → List.getD (srtI (List.flatten t)) k4 (0 : Int) = (↑k4 : Int)) ∧
 (↑(List.length (srtI (List.flatten t))) : Int) = (↑(szN g) : Int) ∧ (0 : Int) = (↑x3 : Int) ∧ srtI (List.flatten t) = srtI (List.flatten t)) ∧
 ∀ (x5 : Nat),
 (x5 ≤ szN g ∧
 ebad g t = false ∧
 List.all t sorted = true ∧
 List.length (List.flatten t) = szN g ∧ ∀ (k6 : Nat), k6 < x5 → List.getD (srtI (List.flatten t)) k6 (0 : Int) = (↑k6 : Int)) →
 (decide ((↑x5 : Int) < (↑(szN g) : Int)) = true →
 (0 : Int) ≤ (↑x5 : Int) ∧
 (↑x5 : Int) < (↑(List.length (srtI (List.flatten t))) : Int) ∧
 Int.toNat (↑x5 : Int) < List.length (srtI (List.flatten t)) ∧
 (((↑x5 : Int) != List.getD (srtI (List.flatten t)) (Int.toNat (↑x5 : Int)) (0 : Int)) = true → (3 : Int) = echk g t) ∧
 (((↑x5 : Int) != List.getD (srtI (List.flatten t)) (Int.toNat (↑x5 : Int)) (0 : Int)) = false →
 ∃ (y7 : Nat),
 (y7 ≤ szN g ∧
 ebad g t = false ∧
 List.all t sorted = true ∧
 List.length (List.flatten t) = szN g ∧ ∀ (k8 : Nat), k8 < y7 → List.getD (srtI (List.flatten t)) k8 (0 : Int) = (↑k8 : Int)) ∧
 Nat.sub (szN g) y7 < Nat.sub (szN g) x5 ∧
 (↑(szN g) : Int) = (↑(szN g) : Int) ∧
 IntKind.wrap IntKind.i64 ((↑x5 : Int) + (1 : Int)) = (↑y7 : Int) ∧ srtI (List.flatten t) = srtI (List.flatten t))) ∧
 (decide ((↑x5 : Int) < (↑(szN g) : Int)) = false → (0 : Int) = echk g t))))))
theorem chkE_e (g : Int) (t : List (List Int)) : chkE_t g t = vcG Try.prog (Gof GEe) (two (oChkA g t) (oChkB g t)) Try.f26 [.ag [.v (.int .i64 g), .dat (.lists t)]] [] (.leaf ((.v (.int .i64 (echk g t)))) ([])) := by kernel_rfl
def celsE_t (g : Int) (t : List (List Int)) (s : Int) : Prop :=
 (decide (s < (0 : Int)) = true → List.length (celT t s) = (0 : Nat)) ∧
 (decide (s < (0 : Int)) = false →
 (decide (s ≥ (↑(List.length t) : Int)) = true → List.length (celT t s) = (0 : Nat)) ∧
 (decide (s ≥ (↑(List.length t) : Int)) = false → (0 : Int) ≤ s ∧ s < (↑(List.length t) : Int) ∧ List.getD t (Int.toNat s) [] = celT t s))
theorem celsE_e (g : Int) (t : List (List Int)) (s : Int) : celsE_t g t s = vcG Try.prog (Gof GEd) (fun _ => none) Try.f65 [.ag [.v (.int .i64 g), .dat (.lists t)], .v (.int .i64 s)] [] (.leaf ((.dat (.ints .i64 (celT t s)))) ([])) := by kernel_rfl
def putE_t (g : Int) (t : List (List Int)) (x s : Int) : Prop :=
 List.length t ≤ (4294967296 : Nat) ∧
 (0 : Int) ≤ IntKind.wrap IntKind.u64 g ∧
 (0 : Int) ≤ IntKind.wrap IntKind.u64 (IntKind.wrap IntKind.u64 x + IntKind.wrap IntKind.u64 ((1 : Int) * (2 : Int) ^ min (Int.toNat (IntKind.wrap IntKind.u64 g)) (IntKind.bits IntKind.u64))) ∧
 IntKind.wrap IntKind.u64 (IntKind.wrap IntKind.u64 x + IntKind.wrap IntKind.u64 ((1 : Int) * (2 : Int) ^ min (Int.toNat (IntKind.wrap IntKind.u64 g)) (IntKind.bits IntKind.u64))) ≤
 (9223372036854775807 : Int) ∧
 (0 : Int) ≤ IntKind.wrap IntKind.u64 (↑(List.length (celT t s)) : Int) ∧
 IntKind.wrap IntKind.u64 (↑(List.length (celT t s)) : Int) ≤ (9223372036854775807 : Int) ∧
 ((0 : Int) ≤
 IntKind.wrap IntKind.u64
 (IntKind.wrap IntKind.i64
 (hiI
 (IntKind.wrap IntKind.u64
 (IntKind.wrap IntKind.u64 x + IntKind.wrap IntKind.u64 ((1 : Int) * (2 : Int) ^ min (Int.toNat (IntKind.wrap IntKind.u64 g)) (IntKind.bits IntKind.u64)))) +
 (1 : Int) -
 (hiI (IntKind.wrap IntKind.u64 (↑(List.length (celT t s)) : Int)) + (1 : Int)))) ∧
 (decide
 (Int.fdiv
 (IntKind.wrap IntKind.u64
 (IntKind.wrap IntKind.u64 x + IntKind.wrap IntKind.u64 ((1 : Int) * (2 : Int) ^ min (Int.toNat (IntKind.wrap IntKind.u64 g)) (IntKind.bits IntKind.u64))))
 ((2 : Int) ^
 min
 (Int.toNat
 (IntKind.wrap IntKind.u64
 (IntKind.wrap IntKind.i64
 (hiI
 (IntKind.wrap IntKind.u64
 (IntKind.wrap IntKind.u64 x +
 IntKind.wrap IntKind.u64 ((1 : Int) * (2 : Int) ^ min (Int.toNat (IntKind.wrap IntKind.u64 g)) (IntKind.bits IntKind.u64)))) +
 (1 : Int) -
 (hiI (IntKind.wrap IntKind.u64 (↑(List.length (celT t s)) : Int)) + (1 : Int))))))
 (IntKind.bits IntKind.u64)) <
 IntKind.wrap IntKind.u64 (↑(List.length (celT t s)) : Int)) =
 true →
 ∃ (x0 : Unit),
 True ∧
 IntKind.wrap IntKind.i64
 (IntKind.wrap IntKind.i64
 (hiI
 (IntKind.wrap IntKind.u64
 (IntKind.wrap IntKind.u64 x + IntKind.wrap IntKind.u64 ((1 : Int) * (2 : Int) ^ min (Int.toNat (IntKind.wrap IntKind.u64 g)) (IntKind.bits IntKind.u64)))) +
 (1 : Int) -
 (hiI (IntKind.wrap IntKind.u64 (↑(List.length (celT t s)) : Int)) + (1 : Int))) -
 (1 : Int)) =
 putN g t x s ∧
 celT t s = celT t s ∧
 IntKind.wrap IntKind.u64
 (IntKind.wrap IntKind.u64 x + IntKind.wrap IntKind.u64 ((1 : Int) * (2 : Int) ^ min (Int.toNat (IntKind.wrap IntKind.u64 g)) (IntKind.bits IntKind.u64))) =
 putX g x ∧
 IntKind.wrap IntKind.u64 (↑(List.length (celT t s)) : Int) = (↑(List.length (celT t s)) : Int)) ∧
 (decide
 (Int.fdiv
 (IntKind.wrap IntKind.u64
 (IntKind.wrap IntKind.u64 x + IntKind.wrap IntKind.u64 ((1 : Int) * (2 : Int) ^ min (Int.toNat (IntKind.wrap IntKind.u64 g)) (IntKind.bits IntKind.u64))))
 ((2 : Int) ^
 min
 (Int.toNat
 (IntKind.wrap IntKind.u64
 (IntKind.wrap IntKind.i64
 (hiI
 (IntKind.wrap IntKind.u64
 (IntKind.wrap IntKind.u64 x +
 IntKind.wrap IntKind.u64 ((1 : Int) * (2 : Int) ^ min (Int.toNat (IntKind.wrap IntKind.u64 g)) (IntKind.bits IntKind.u64)))) +
 (1 : Int) -
 (hiI (IntKind.wrap IntKind.u64 (↑(List.length (celT t s)) : Int)) + (1 : Int))))))
 (IntKind.bits IntKind.u64)) <
 IntKind.wrap IntKind.u64 (↑(List.length (celT t s)) : Int)) =
 false →
 ∃ (x1 : Unit),
 True ∧
 IntKind.wrap IntKind.i64
 (hiI
 (IntKind.wrap IntKind.u64
 (IntKind.wrap IntKind.u64 x + IntKind.wrap IntKind.u64 ((1 : Int) * (2 : Int) ^ min (Int.toNat (IntKind.wrap IntKind.u64 g)) (IntKind.bits IntKind.u64)))) +
 (1 : Int) -
 (hiI (IntKind.wrap IntKind.u64 (↑(List.length (celT t s)) : Int)) + (1 : Int))) =
 putN g t x s ∧
 celT t s = celT t s ∧
 IntKind.wrap IntKind.u64
 (IntKind.wrap IntKind.u64 x + IntKind.wrap IntKind.u64 ((1 : Int) * (2 : Int) ^ min (Int.toNat (IntKind.wrap IntKind.u64 g)) (IntKind.bits IntKind.u64))) =
 putX g x ∧
 IntKind.wrap IntKind.u64 (↑(List.length (celT t s)) : Int) = (↑(List.length (celT t s)) : Int))) ∧
 ∀ (x2 : Unit),
 True →
 (0 : Int) ≤ IntKind.wrap IntKind.u64 (putN g t x s) ∧
 (0 : Int) ≤
 IntKind.wrap IntKind.i64
 (IntKind.wrap IntKind.u64
 (Int.fdiv (putX g x) ((2 : Int) ^ min (Int.toNat (IntKind.wrap IntKind.u64 (putN g t x s))) (IntKind.bits IntKind.u64)) - (↑(List.length (celT t s)) : Int))) ∧
 IntKind.wrap IntKind.i64
 (IntKind.wrap IntKind.u64
 (Int.fdiv (putX g x) ((2 : Int) ^ min (Int.toNat (IntKind.wrap IntKind.u64 (putN g t x s))) (IntKind.bits IntKind.u64)) - (↑(List.length (celT t s)) : Int))) <
 (↑(List.length (celT t s)) : Int) ∧
 (0 : Int) ≤ IntKind.wrap IntKind.u64 (putN g t x s) ∧
 List.getD (celT t s)
 (Int.toNat
 (IntKind.wrap IntKind.i64
 (IntKind.wrap IntKind.u64
 (Int.fdiv (putX g x) ((2 : Int) ^ min (Int.toNat (IntKind.wrap IntKind.u64 (putN g t x s))) (IntKind.bits IntKind.u64)) - (↑(List.length (celT t s)) : Int)))))
 (0 : Int) =
 putS g t x s ∧
 putN g t x s = putN g t x s ∧
 IntKind.wrap IntKind.i64
 (bits BinOp.and IntKind.u64 (putX g x)
 (IntKind.wrap IntKind.u64
 (IntKind.wrap IntKind.u64 ((1 : Int) * (2 : Int) ^ min (Int.toNat (IntKind.wrap IntKind.u64 (putN g t x s))) (IntKind.bits IntKind.u64)) - (1 : Int)))) =
 putV g t x s
theorem putE_e (g : Int) (t : List (List Int)) (x s : Int) : putE_t g t x s = vcG Try.prog (Gof GEe) (oPutK g t x s) Try.f66 [.ag [.v (.int .i64 g), .dat (.lists t)], .v (.int .i64 x), .v (.int .i64 s)] [] (.leaf ((.tu [.v (.int .i64 (putS g t x s)), .v (.int .i64 (putN g t x s)), .v (.int .i64 (putV g t x s))])) ([])) := by kernel_rfl
def firE_t (g : Int) (t : List (List Int)) (s : Int) : Prop :=
 List.length t ≤ (4294967296 : Nat) ∧
 litT g t = true ∧
 ((echk g t != (0 : Int)) = true → (0 : Int) = frI g t s ∧ echk g t = frE g t s) ∧
 ((echk g t != (0 : Int)) = false →
 List.length t ≤ (4294967296 : Nat) ∧
 (((↑(List.length (celT t s)) : Int) == (0 : Int)) = true → (0 : Int) = frI g t s ∧ (7 : Int) = frE g t s) ∧
 (((↑(List.length (celT t s)) : Int) == (0 : Int)) = false →
 (0 : Int) ≤ (0 : Int) ∧ (0 : Int) < (↑(List.length (celT t s)) : Int) ∧ List.getD (celT t s) (Int.toNat (0 : Int)) (0 : Int) = frI g t s ∧ (0 : Int) = frE g t s))
theorem firE_e (g : Int) (t : List (List Int)) (s : Int) : firE_t g t s = vcG Try.prog (Gof GEf) (fun _ => none) Try.f25 [.ag [.v (.int .i64 g), .dat (.lists t)], .v (.int .i64 s)] [] (.leaf ((.tu [.v (.int .i64 (frI g t s)), .v (.int .i64 (frE g t s))])) ([])) := by kernel_rfl
def putEE_t (g : Int) (t : List (List Int)) (x s : Int) : Prop :=
 List.length t ≤ (4294967296 : Nat) ∧
 litT g t = true ∧
 ((echk g t != (0 : Int)) = true → (0 : Int) = puS g t x s ∧ (0 : Int) = puB g t x s ∧ (0 : Int) = puV g t x s ∧ echk g t = puE g t x s) ∧
 ((echk g t != (0 : Int)) = false →
 (decide (x < (0 : Int)) = true → (0 : Int) = puS g t x s ∧ (0 : Int) = puB g t x s ∧ (0 : Int) = puV g t x s ∧ (2 : Int) = puE g t x s) ∧
 (decide (x < (0 : Int)) = false →
 (0 : Int) ≤ IntKind.wrap IntKind.u64 g ∧
 (decide (x ≥ IntKind.wrap IntKind.i64 ((1 : Int) * (2 : Int) ^ min (Int.toNat (IntKind.wrap IntKind.u64 g)) (IntKind.bits IntKind.i64))) = true →
 (0 : Int) = puS g t x s ∧ (0 : Int) = puB g t x s ∧ (0 : Int) = puV g t x s ∧ (2 : Int) = puE g t x s) ∧
 (decide (x ≥ IntKind.wrap IntKind.i64 ((1 : Int) * (2 : Int) ^ min (Int.toNat (IntKind.wrap IntKind.u64 g)) (IntKind.bits IntKind.i64))) = false →
 List.length t ≤ (4294967296 : Nat) ∧
 (((↑(List.length (celT t s)) : Int) == (0 : Int)) = true → (0 : Int) = puS g t x s ∧ (0 : Int) = puB g t x s ∧ (0 : Int) = puV g t x s ∧ (7 : Int) = puE g t x s) ∧
 (((↑(List.length (celT t s)) : Int) == (0 : Int)) = false →
 (0 : Int) ≤ g ∧
 g ≤ (12 : Int) ∧
 List.length t ≤ (4294967296 : Nat) ∧
 (0 : Int) ≤ x ∧
 x < (↑(szN g) : Int) ∧
 noC t s = false ∧ List.length (celT t s) ≤ szN g ∧ putS g t x s = puS g t x s ∧ putN g t x s = puB g t x s ∧ putV g t x s = puV g t x s ∧ (0 : Int) = puE g t x s))))
theorem putEE_e (g : Int) (t : List (List Int)) (x s : Int) : putEE_t g t x s = vcG Try.prog (Gof GEf) (fun _ => none) Try.f24 [.ag [.v (.int .i64 g), .dat (.lists t)], .v (.int .i64 x), .v (.int .i64 s)] [] (.leaf ((.tu [.v (.int .i64 (puS g t x s)), .v (.int .i64 (puB g t x s)), .v (.int .i64 (puV g t x s)), .v (.int .i64 (puE g t x s))])) ([])) := by kernel_rfl
def backE_t (l : List Int) (l0 : Nat) : Prop :=
 ∃ (g0 : Unit),
 ∃ (x1 : Nat),
 Nat.le x1 (List.length l) ∧
 ((0 : Nat), true) = (x1, true) ∧
 (Value.func (Fn.yield l0) #[] #[] = Value.func (Fn.yield l0) #[] #[] ∧
 IntKind.wrap IntKind.i64 ((↑(List.length l) : Int) - (1 : Int)) = (↑(List.length l) : Int) - (1 : Int) - (↑x1 : Int) ∧ l = l) ∧
 ∀ (x2 : Nat),
 Nat.le x2 (List.length l) →
 (decide ((↑(List.length l) : Int) - (1 : Int) - (↑x2 : Int) ≥ (0 : Int)) = true →
 (0 : Int) ≤ (↑(List.length l) : Int) - (1 : Int) - (↑x2 : Int) ∧
 (↑(List.length l) : Int) - (1 : Int) - (↑x2 : Int) < (↑(List.length l) : Int) ∧
 l0 = l0 ∧
 (List.map (fun (x : Int) => [Value.int IntKind.i64 x]) (List.reverse l))[x2]? =
 some [Value.int IntKind.i64 (List.getD l (Int.toNat ((↑(List.length l) : Int) - (1 : Int) - (↑x2 : Int))) (0 : Int))] ∧
 (∃ (y3 : Nat),
 Nat.le y3 (List.length l) ∧
 (x2 + (1 : Nat), true) = (y3, true) ∧
 Nat.sub (List.length l) y3 < Nat.sub (List.length l) x2 ∧
 Value.func (Fn.yield l0) #[] #[] = Value.func (Fn.yield l0) #[] #[] ∧
 IntKind.wrap IntKind.i64 ((↑(List.length l) : Int) - (1 : Int) - (↑x2 : Int) - (1 : Int)) = (↑(List.length l) : Int) - (1 : Int) - (↑y3 : Int) ∧ l = l) ∧
 True) ∧
 (decide ((↑(List.length l) : Int) - (1 : Int) - (↑x2 : Int) ≥ (0 : Int)) = false → x2 = List.length (List.map (fun (x : Int) => [Value.int IntKind.i64 x]) (List.reverse l)))
theorem backE_e (l : List Int) (l0 : Nat) : backE_t l l0 = vcFI Try.prog (Gof []) l0 (l.reverse.map fun x => [.int .i64 x]) (oBackF l0 l) Try.f100 [.p 0 0 0] [(0, .cells 22 [.dat (.ints .i64 l)])]  := by kernel_rfl
end Go.Proofs.Ytbdgknebimdjoaa
namespace Go.Proofs.Ytbdgknebimdjoaa
open Go Go.RowKit
set_option linter.unusedVariables false
set_option linter.unusedSimpArgs false
set_option maxRecDepth 100000
def posI (x : Int × Int) : Nat := x.1.toNat
theorem putCs_other : ∀ (xs : List (Int × Int)) (o : List Int) (p : Nat), p ∉ xs.map posI → (putCs o xs).getD p 0 = o.getD p 0
  | [], _, _, _ => rfl
  | x :: xs, o, p, h => by
    simp only [List.map_cons, List.mem_cons, not_or] at h
    show (putCs (putC o x) xs).getD p 0 = _
    rw [putCs_other xs _ p h.2]
    unfold putC
    simp only [List.getD_eq_getElem?_getD, List.getElem?_set]
    rw [if_neg (fun e => h.1 e.symm)]
theorem putCs_get : ∀ (xs : List (Int × Int)) (o : List Int) (x : Int × Int), (xs.map posI).Nodup → x ∈ xs → posI x < o.length → (putCs o xs).getD (posI x) 0 = x.2
  | y :: xs, o, x, hd, hx, hl => by
    simp only [List.map_cons, List.nodup_cons] at hd
    show (putCs (putC o y) xs).getD (posI x) 0 = _
    simp only [List.mem_cons] at hx
    rcases hx with rfl | hx
    · rw [putCs_other xs _ _ hd.1]
      unfold putC
      simp only [List.getD_eq_getElem?_getD, List.getElem?_set]
      have hl' : x.1.toNat < o.length := hl
      rw [if_pos (show x.1.toNat = posI x from rfl), if_pos hl']
      rfl
    · exact putCs_get xs _ x hd.2 hx (by rw [putC_len]; exact hl)
theorem tL_nodup (g : Int) (l : List Int) : (tL g l).Nodup := List.Pairwise.filter _ List.nodup_range
theorem tL_mem {g : Int} {l : List Int} {t : Nat} : t ∈ tL g l ↔ t < szN g ∧ okC g l (oN g t) = true := by
  unfold tL
  rw [List.mem_filter, List.mem_range]
theorem lowI_pos {g : Int} : ∀ (xs : List Int) (c : Nat), c + xs.length ≤ szN g → (lowI g c xs).map posI = (List.range' c xs.length).map fun k => szN g - 1 - k
  | [], _, _ => rfl
  | x :: r, c, h => by
    simp only [List.length_cons] at h
    simp only [lowI, List.map_cons, List.length_cons, List.range'_succ, lowI_pos (g := g) r (c + 1) (by omega)]
    congr 1
    simp only [posI]
    omega
theorem hiI2_pos {g : Int} {l : List Int} : ∀ (xs : List Int) (c : Nat), (hiI2 g l c xs).map posI = (List.range' c xs.length).map fun k => oN g ((tL g l).getD k 0)
  | [], _ => rfl
  | x :: r, c => by
    simp only [hiI2, List.map_cons, List.length_cons, List.range'_succ, hiI2_pos r (c + 1)]
    congr 1
theorem pos_perm {g : Int} {l : List Int} (h : DOk g l) : ((itC g l).map posI).Perm (List.range (szN g)) := by
  have htot := h.total
  have hlow : (itA g l).map posI = (List.range' 0 (nrN l)).map fun k => szN g - 1 - k := by
    unfold itA
    rw [lowI_pos _ _ (by rw [lowF_len]; omega), lowF_len]
  have hhi : (itB g l).map posI = (tL g l).map (oN g) := by
    unfold itB
    rw [hiI2_pos]
    apply List.ext_getElem?
    intro i
    rw [List.getElem?_map, List.getElem?_map, ← tL_len h]
    by_cases hi : i < (tL g l).length
    · rw [List.getElem?_range' hi, List.getElem?_eq_getElem hi]
      simp [List.getD_eq_getElem?_getD, List.getElem?_eq_getElem hi]
    · rw [List.getElem?_eq_none (by simp; omega), List.getElem?_eq_none (by omega)]
      rfl
  have hb : ∀ x ∈ (itC g l).map posI, x < szN g := by
    intro x hx
    simp only [List.mem_map] at hx
    obtain ⟨y, hy, rfl⟩ := hx
    obtain ⟨k, hk, hyk⟩ := List.mem_iff_getElem.1 hy
    have := itC_bd h (k := k) (x := y) (by rw [List.getElem?_eq_getElem hk, hyk])
    unfold posI
    omega
  refine perm_of_range ?_ (by rw [List.length_map, itC_len h]) hb
  unfold itC
  rw [List.map_append, hlow, hhi, List.nodup_append]
  refine ⟨?_, ?_, ?_⟩
  · unfold List.Nodup
    rw [List.pairwise_map]
    refine List.Pairwise.imp_of_mem ?_ (List.nodup_range' (s := 0) (n := nrN l))
    intro a b ha hb hab he
    simp only [List.mem_range'_1] at ha hb
    omega
  · unfold List.Nodup
    rw [List.pairwise_map]
    refine List.Pairwise.imp_of_mem ?_ (tL_nodup g l)
    intro a b ha hb hab he
    exact hab (oN_inj h.g5 (tL_mem.1 ha).1 (tL_mem.1 hb).1 he)
  · intro a ha b hb hab
    simp only [List.mem_map, List.mem_range'_1] at ha hb
    obtain ⟨k, hk, rfl⟩ := ha
    obtain ⟨t, ht, rfl⟩ := hb
    have := (tL_mem.1 ht).2
    unfold okC at this
    simp only [decide_eq_true_eq] at this
    omega
theorem spr_get {g : Int} {l : List Int} (h : DOk g l) {x : Int × Int} (hx : x ∈ itC g l) : (spr g l).getD (posI x) 0 = x.2 := by
  have hp := pos_perm h
  refine putCs_get _ _ x (hp.nodup_iff.2 List.nodup_range) hx ?_
  have := hp.mem_iff.1 (List.mem_map_of_mem hx)
  rw [List.mem_range] at this
  simpa [zL] using this
theorem it_of {g : Int} {l : List Int} (h : DOk g l) {c : Nat} (hc : c < szN g) : ∃ x ∈ itC g l, posI x = c ∧ (spr g l).getD c 0 = x.2 := by
  have hm : c ∈ (itC g l).map posI := (pos_perm h).mem_iff.2 (List.mem_range.2 hc)
  simp only [List.mem_map] at hm
  obtain ⟨x, hx, rfl⟩ := hm
  exact ⟨x, hx, rfl, spr_get h hx⟩
theorem lowF_mem : ∀ (l : List Int) (s x : Int), x ∈ lowF s l → ∃ i : Nat, i < l.length ∧ x = s + i ∧ isR (l.getD i 0) = true
  | p :: r, s, x, h => by
    cases hp : isR p
    · simp only [lowF, hp, cond_false] at h
      obtain ⟨i, h1, h2, h3⟩ := lowF_mem r (s + 1) x h
      exact ⟨i + 1, by simpa using h1, by push_cast; omega, by simpa using h3⟩
    · simp only [lowF, hp, cond_true, List.mem_cons] at h
      rcases h with rfl | h
      · exact ⟨0, by simp, by simp, by simpa using hp⟩
      · obtain ⟨i, h1, h2, h3⟩ := lowF_mem r (s + 1) x h
        exact ⟨i + 1, by simpa using h1, by push_cast; omega, by simpa using h3⟩
theorem hiF_mem : ∀ (l : List Int) (s x : Int), x ∈ hiF s l → ∃ i : Nat, i < l.length ∧ x = s + i ∧ 0 < l.getD i 0
  | p :: r, s, x, h => by
    simp only [hiF, List.mem_append, List.mem_replicate] at h
    rcases h with ⟨h1, rfl⟩ | h
    · exact ⟨0, by simp, by simp, by simp; omega⟩
    · obtain ⟨i, h1, h2, h3⟩ := hiF_mem r (s + 1) x h
      exact ⟨i + 1, by simpa using h1, by push_cast; omega, by simpa using h3⟩
theorem lowI_snd (g : Int) : ∀ (xs : List Int) (c : Nat), (lowI g c xs).map (·.2) = xs
  | [], _ => rfl
  | x :: r, c => by simp [lowI, lowI_snd g r]
theorem hiI2_snd (g : Int) (l : List Int) : ∀ (xs : List Int) (c : Nat), (hiI2 g l c xs).map (·.2) = xs
  | [], _ => rfl
  | x :: r, c => by simp [hiI2, hiI2_snd g l r]
theorem itC_snd (g : Int) (l : List Int) : (itC g l).map (·.2) = lowF 0 l ++ hiF 0 l := by
  unfold itC itA itB
  rw [List.map_append, lowI_snd, hiI2_snd]
theorem spr_sym {g : Int} {l : List Int} (h : DOk g l) {c : Nat} (hc : c < szN g) : ∃ s : Nat, s < l.length ∧ l.getD s 0 ≠ 0 ∧ (spr g l).getD c 0 = s := by
  obtain ⟨x, hx, _, e⟩ := it_of h hc
  have hm : x.2 ∈ lowF 0 l ++ hiF 0 l := by rw [← itC_snd]; exact List.mem_map_of_mem hx
  rw [List.mem_append] at hm
  rcases hm with hm | hm
  · obtain ⟨i, h1, h2, h3⟩ := lowF_mem l 0 _ hm
    refine ⟨i, h1, fun h0 => ?_, by rw [e, h2]; omega⟩
    rw [h0] at h3
    cases h3
  · obtain ⟨i, h1, h2, h3⟩ := hiF_mem l 0 _ hm
    exact ⟨i, h1, by omega, by rw [e, h2]; omega⟩
theorem spr_perm {g : Int} {l : List Int} (h : DOk g l) : (spr g l).Perm (lowF 0 l ++ hiF 0 l) := by
  rw [← itC_snd]
  have e : spr g l = (List.range (szN g)).map fun c => (spr g l).getD c 0 := by
    apply List.ext_getElem?
    intro i
    rw [List.getElem?_map]
    by_cases hi : i < szN g
    · rw [List.getElem?_range hi, List.getElem?_eq_getElem (by rw [spr_len]; exact hi)]
      simp [List.getD_eq_getElem?_getD, List.getElem?_eq_getElem (show i < (spr g l).length by rw [spr_len]; exact hi)]
    · rw [List.getElem?_eq_none (by rw [spr_len]; omega), List.getElem?_eq_none (by simp; omega)]
      rfl
  rw [e]
  refine ((pos_perm h).map fun c => (spr g l).getD c 0).symm.trans ?_
  rw [List.map_map]
  refine List.Perm.of_eq (List.map_congr_left fun x hx => ?_)
  exact spr_get h hx
theorem cellsF_app (s : Int) : ∀ (a b : List Int) (c : Int), cellsF s c (a ++ b) = cellsF s c a ++ cellsF s (c + a.length) b
  | [], b, c => by simp [cellsF]
  | x :: a, b, c => by
    have ih := cellsF_app s a b (c + 1)
    have e : c + 1 + (a.length : Int) = c + ((x :: a).length : Int) := by simp only [List.length_cons]; push_cast; omega
    simp only [List.cons_append, cellsF, ih, e]
    cases x == s <;> simp
theorem cellsP_succ {sp : List Int} {i : Nat} (h : i < sp.length) (s : Int) : cellsP sp s (i + 1) = cellsP sp s i ++ cond (sp.getD i 0 == s) [(i : Int)] [] := by
  unfold cellsP
  rw [take_succ sp 0 h, cellsF_app]
  congr 1
  simp only [cellsF, List.length_take]
  rw [Nat.min_eq_left (by omega), Int.zero_add]
theorem cellsP_all (sp : List Int) (s : Int) : cellsP sp s sp.length = cellsL sp s := by simp [cellsP, cellsL]
theorem cellsF_mem (s : Int) : ∀ (a : List Int) (c x : Int), x ∈ cellsF s c a ↔ ∃ i : Nat, i < a.length ∧ a.getD i 0 = s ∧ x = c + i
  | [], c, x => by simp [cellsF]
  | y :: a, c, x => by
    have ih := cellsF_mem s a (c + 1) x
    have key : (∃ i : Nat, i < (y :: a).length ∧ (y :: a).getD i 0 = s ∧ x = c + i) ↔ ((y = s ∧ x = c) ∨ ∃ i : Nat, i < a.length ∧ a.getD i 0 = s ∧ x = c + 1 + i) := by
      constructor
      · rintro ⟨i, h1, h2, h3⟩
        cases i with
        | zero => exact .inl ⟨by simpa using h2, by simpa using h3⟩
        | succ i => exact .inr ⟨i, by simpa using h1, by simpa using h2, by push_cast at h3; omega⟩
      · rintro (⟨h1, h2⟩ | ⟨i, h1, h2, h3⟩)
        · exact ⟨0, by simp, by simpa using h1, by simpa using h2⟩
        · exact ⟨i + 1, by simpa using h1, by simpa using h2, by push_cast; omega⟩
    rw [key]
    cases hy : y == s
    · have : y ≠ s := by simpa using hy
      simp only [cellsF, hy, cond_false, ih]
      constructor
      · exact .inr
      · rintro (⟨h, _⟩ | h)
        · exact absurd h this
        · exact h
    · have : y = s := by simpa using hy
      simp only [cellsF, hy, cond_true, List.mem_cons, ih]
      constructor
      · rintro (h | h)
        · exact .inl ⟨this, h⟩
        · exact .inr h
      · rintro (⟨_, h⟩ | h)
        · exact .inl h
        · exact .inr h
theorem cellsF_none {s : Int} {a : List Int} {c : Int} (h : ∀ i, i < a.length → a.getD i 0 ≠ s) : cellsF s c a = [] := by
  rw [List.eq_nil_iff_forall_not_mem]
  intro x hx
  obtain ⟨i, h1, h2, _⟩ := (cellsF_mem s a c x).1 hx
  exact h i h1 h2
theorem cellsL_mem {sp : List Int} {s x : Int} : x ∈ cellsL sp s ↔ ∃ i : Nat, i < sp.length ∧ sp.getD i 0 = s ∧ x = i := by
  unfold cellsL
  rw [cellsF_mem]
  constructor
  · rintro ⟨i, h1, h2, h3⟩; exact ⟨i, h1, h2, by omega⟩
  · rintro ⟨i, h1, h2, h3⟩; exact ⟨i, h1, h2, by omega⟩
theorem cellsF_len (s : Int) : ∀ (a : List Int) (c : Int), (cellsF s c a).length = a.count s
  | [], _ => rfl
  | x :: a, c => by
    rw [List.count_cons, ← cellsF_len s a (c + 1)]
    cases h : x == s <;> simp [cellsF, h]
theorem cells_zero {g : Int} {l : List Int} (h : DOk g l) {s : Nat} (hs : s < l.length) (h0 : l.getD s 0 = 0) : cellsL (spr g l) s = [] := by
  refine cellsF_none fun i hi e => ?_
  rw [spr_len] at hi
  obtain ⟨s', h1, h2, h3⟩ := spr_sym h hi
  rw [e] at h3
  have : s' = s := by omega
  subst this
  exact h2 h0
theorem states_len (n : Nat) (sp : List Int) (i : Nat) : (statesP n sp i).length = n := by simp [statesP]
theorem states_get {n : Nat} {sp : List Int} {i s : Nat} (hs : s < n) : (statesP n sp i).getD s [] = cellsP sp s i := by
  simp [statesP, List.getD_eq_getElem?_getD, List.getElem?_range hs]
theorem states_succ {n : Nat} {sp : List Int} {i s : Nat} (hi : i < sp.length) (hs : s < n) (e : sp.getD i 0 = s) : (statesP n sp i).set s (cellsP sp s i ++ [(i : Int)]) = statesP n sp (i + 1) := by
  apply List.ext_getElem?
  intro k
  rw [List.getElem?_set, states_len]
  by_cases hk : k < n
  · have at_ : ∀ i, (statesP n sp i)[k]? = some (cellsP sp k i) := fun i => by simp [statesP, List.getElem?_range hk]
    rw [at_, at_, cellsP_succ hi, e]
    by_cases h : s = k
    · subst h
      rw [if_pos rfl, if_pos hk]
      simp
    · rw [if_neg h]
      have : ((s : Int) == (k : Int)) = false := by simp; omega
      rw [this]
      simp
  · rw [List.getElem?_eq_none (by rw [states_len]; omega), List.getElem?_eq_none (by rw [states_len]; omega)]
    by_cases h : s = k
    · rw [if_pos h, if_neg (by omega)]
    · rw [if_neg h]
theorem states_zero (n : Nat) (sp : List Int) : statesP n sp 0 = List.replicate n [] := by
  apply List.ext_getElem?
  intro k
  by_cases hk : k < n
  · simp [statesP, List.getElem?_range hk, cellsP, cellsF, List.getElem?_replicate, hk]
  · rw [List.getElem?_eq_none (by rw [states_len]; omega), List.getElem?_eq_none (by simp; omega)]
theorem states_all (n : Nat) (sp : List Int) : statesP n sp sp.length = statesL n sp := by simp [statesP, statesL, cellsP_all]
end Go.Proofs.Ytbdgknebimdjoaa
namespace Go.Proofs.Ytbdgknebimdjoaa
open Go Go.RowKit
set_option linter.unusedVariables false
set_option linter.unusedSimpArgs false
set_option maxRecDepth 100000
theorem sorted_iff {l : List Int} : sorted l = true ↔ ∀ i, i + 1 < l.length → l.getD i 0 ≤ l.getD (i + 1) 0 := by
  unfold sorted
  rw [List.all_eq_true]
  constructor
  · intro h i hi
    simpa using h i (List.mem_range.2 (by omega))
  · intro h i hi
    rw [List.mem_range] at hi
    simpa using h i (by omega)
theorem insI_perm (a : Int) : ∀ l, (insI a l).Perm (a :: l)
  | [] => List.Perm.refl _
  | b :: r => by
    unfold insI
    cases decide (a ≤ b)
    · exact ((insI_perm a r).cons b).trans (List.Perm.swap a b r)
    · exact List.Perm.refl _
theorem srtI_perm : ∀ l, (srtI l).Perm l
  | [] => List.Perm.refl _
  | a :: r => (insI_perm a (srtI r)).trans ((srtI_perm r).cons a)
theorem srtI_len (l : List Int) : (srtI l).length = l.length := (srtI_perm l).length_eq
theorem insI_sorted (a : Int) : ∀ l, l.Pairwise (fun x y : Int => x ≤ y) → (insI a l).Pairwise (fun x y : Int => x ≤ y)
  | [], _ => by simp [insI]
  | b :: r, h => by
    unfold insI
    obtain ⟨h1, h2⟩ := List.pairwise_cons.1 h
    cases hab : decide (a ≤ b)
    · have hab : ¬ a ≤ b := by simpa using hab
      refine List.pairwise_cons.2 ⟨fun y hy => ?_, insI_sorted a r h2⟩
      have := (insI_perm a r).mem_iff.1 hy
      simp only [List.mem_cons] at this
      rcases this with rfl | hy
      · omega
      · exact h1 y hy
    · have hab : a ≤ b := by simpa using hab
      refine List.pairwise_cons.2 ⟨fun y hy => ?_, h⟩
      simp only [List.mem_cons] at hy
      rcases hy with rfl | hy
      · exact hab
      · have := h1 y hy; omega
theorem srtI_sorted : ∀ l, (srtI l).Pairwise (fun x y : Int => x ≤ y)
  | [] => List.Pairwise.nil
  | a :: r => insI_sorted a _ (srtI_sorted r)
theorem srtI_unique {l d : List Int} (hp : d.Perm l) (hs : d.Pairwise (fun x y : Int => x ≤ y)) : d = srtI l := by
  refine List.Perm.eq_of_pairwise ?_ hs (srtI_sorted l) (hp.trans (srtI_perm l).symm)
  intro a b _ _ h k
  omega
def upL (n : Nat) : List Int := (List.range n).map fun (i : Nat) => (i : Int)
theorem upL_sorted (n : Nat) : (upL n).Pairwise (fun x y : Int => x ≤ y) := by
  unfold upL
  rw [List.pairwise_map]
  refine List.Pairwise.imp ?_ (List.pairwise_lt_range (n := n))
  intro a b h
  omega
theorem upL_nodup (n : Nat) : (upL n).Nodup := by
  unfold upL List.Nodup
  rw [List.pairwise_map]
  refine List.Pairwise.imp ?_ (List.pairwise_lt_range (n := n))
  intro a b h e
  omega
theorem upL_mem {n : Nat} {x : Int} : x ∈ upL n ↔ 0 ≤ x ∧ x < n := by
  unfold upL
  simp only [List.mem_map, List.mem_range]
  constructor
  · rintro ⟨i, h, rfl⟩; omega
  · rintro ⟨h1, h2⟩; exact ⟨x.toNat, by omega, by omega⟩
theorem upTo_iff {l : List Int} : upTo l = true ↔ l = upL l.length := by
  unfold upTo
  rw [List.all_eq_true]
  constructor
  · intro h
    apply List.ext_getElem?
    intro i
    by_cases hi : i < l.length
    · have := h i (List.mem_range.2 hi)
      simp only [beq_iff_eq, List.getD_eq_getElem?_getD, List.getElem?_eq_getElem hi, Option.getD_some] at this
      simp [upL, List.getElem?_range hi, List.getElem?_eq_getElem hi, this]
    · rw [List.getElem?_eq_none (by omega), List.getElem?_eq_none (by simp [upL]; omega)]
  · intro h i hi
    rw [List.mem_range] at hi
    rw [beq_iff_eq]
    conv => lhs; rw [h]
    simp [upL, List.getD_eq_getElem?_getD, List.getElem?_range hi]
structure Whole (g : Int) (xs : List Int) : Prop where
  nodup : xs.Nodup
  rng : ∀ c ∈ xs, 0 ≤ c ∧ c < (szN g : Int)
  len : xs.length = szN g
theorem whole_srt {g : Int} {xs : List Int} (h : Whole g xs) : srtI xs = upL (szN g) := by
  refine (srtI_unique ?_ (upL_sorted _)).symm
  rw [List.perm_ext_iff_of_nodup (upL_nodup _) h.nodup]
  intro a
  rw [upL_mem]
  constructor
  · intro ha
    by_cases hm : a ∈ xs
    · exact hm
    · exfalso
      have h1 : (a :: xs).Nodup := List.nodup_cons.2 ⟨hm, h.nodup⟩
      have h2 : (a :: xs) ⊆ upL (szN g) := by
        intro x hx
        rw [upL_mem]
        simp only [List.mem_cons] at hx
        rcases hx with rfl | hx
        · exact ha
        · exact h.rng x hx
      have := List.Nodup.length_le_of_subset h1 h2
      have hl := h.len
      simp only [List.length_cons, upL, List.length_map, List.length_range] at this
      omega
  · exact h.rng a
theorem srt_whole {g : Int} {xs : List Int} (h : srtI xs = upL (szN g)) : Whole g xs := by
  have hp := srtI_perm xs
  rw [h] at hp
  exact ⟨hp.nodup_iff.1 (upL_nodup _), fun c hc => upL_mem.1 (hp.mem_iff.2 hc), by rw [← hp.length_eq]; simp [upL]⟩
theorem eform_iff {g : Int} {t : List (List Int)} : eform g t = true ↔ t.all sorted = true ∧ Whole g t.flatten := by
  unfold eform
  simp only [Bool.and_eq_true, beq_iff_eq]
  constructor
  · rintro ⟨⟨h1, h2⟩, h3⟩
    refine ⟨h1, srt_whole ?_⟩
    rw [upTo_iff, srtI_len, h2] at h3
    exact h3
  · rintro ⟨h1, h2⟩
    refine ⟨⟨h1, h2.len⟩, ?_⟩
    rw [upTo_iff, srtI_len, h2.len]
    exact whole_srt h2
theorem echk_bad {g : Int} {t : List (List Int)} (h : ebad g t = true) : echk g t = 2 := by unfold echk; rw [h]; rfl
theorem echk_form {g : Int} {t : List (List Int)} (h : ebad g t = false) (h2 : ¬ (t.all sorted = true ∧ Whole g t.flatten)) : echk g t = 3 := by
  have : eform g t = false := by
    cases hf : eform g t
    · rfl
    · exact absurd (eform_iff.1 hf) h2
  unfold echk
  rw [h, this]
  rfl
theorem echk_good {g : Int} {t : List (List Int)} (h : ebad g t = false) (h2 : t.all sorted = true) (h3 : Whole g t.flatten) : echk g t = 0 := by
  unfold echk
  rw [h, eform_iff.2 ⟨h2, h3⟩]
  rfl
theorem ebad_iff {g : Int} {t : List (List Int)} : ebad g t = false ↔ 0 ≤ g ∧ g ≤ 12 ∧ t.length ≤ 256 := by
  unfold ebad
  simp only [Bool.or_eq_false_iff, decide_eq_false_iff_not]
  constructor
  · rintro ⟨⟨h1, h2⟩, h3⟩; exact ⟨by omega, by omega, by omega⟩
  · rintro ⟨h1, h2, h3⟩; exact ⟨⟨by omega, by omega⟩, by omega⟩
structure TOk (g : Int) (t : List (List Int)) : Prop where
  g0 : 0 ≤ g
  g12 : g ≤ 12
  n : t.length ≤ 256
  srt : t.all sorted = true
  w : Whole g t.flatten
theorem echk0 {g : Int} {t : List (List Int)} (h : echk g t = 0) : TOk g t := by
  unfold echk at h
  cases h1 : ebad g t
  · rw [h1, cond_false] at h
    cases h2 : eform g t
    · rw [h2] at h; cases h
    · obtain ⟨k1, k2⟩ := eform_iff.1 h2
      obtain ⟨j1, j2, j3⟩ := ebad_iff.1 h1
      exact ⟨j1, j2, j3, k1, k2⟩
  · rw [h1] at h; cases h
theorem echk0' {g : Int} {t : List (List Int)} (h : TOk g t) : echk g t = 0 := echk_good (ebad_iff.2 ⟨h.g0, h.g12, h.n⟩) h.srt h.w
theorem sz0 {g : Int} (h1 : 0 ≤ g) (h2 : g ≤ 12) : 1 ≤ szN g ∧ szN g ≤ 4096 := by
  have := szN_pos g
  have b := Nat.pow_le_pow_right (show 0 < 2 by omega) (show g.toNat ≤ 12 by omega)
  exact ⟨this, b⟩
theorem getD_row {t : List (List Int)} {i : Nat} (h : i < t.length) : t.getD i [] ∈ t := by
  rw [List.getD_eq_getElem?_getD, List.getElem?_eq_getElem h]
  exact List.getElem_mem h
theorem flat_split {t : List (List Int)} {s : Nat} (h : s < t.length) : t.flatten = flatP t s ++ (t.getD s [] ++ (t.drop (s + 1)).flatten) := by
  have e : t = t.take s ++ t.getD s [] :: t.drop (s + 1) := by
    have : t.getD s [] = t[s] := by rw [List.getD_eq_getElem?_getD, List.getElem?_eq_getElem h]; rfl
    rw [this, List.getElem_cons_drop, List.take_append_drop]
  conv => lhs; rw [e]
  rw [List.flatten_append, List.flatten_cons]
  rfl
theorem row_le (t : List (List Int)) (i : Nat) : (t.getD i []).length ≤ t.flatten.length := by
  by_cases h : i < t.length
  · rw [flat_split h]
    simp only [List.length_append]
    omega
  · rw [List.getD_eq_getElem?_getD, List.getElem?_eq_none (by omega)]
    simp
theorem flatP_succ {t : List (List Int)} {i : Nat} (h : i < t.length) : flatP t (i + 1) = flatP t i ++ t.getD i [] := by
  unfold flatP
  rw [take_succ t [] h]
  simp
theorem flatP_all (t : List (List Int)) : flatP t t.length = t.flatten := by simp [flatP]
theorem flatP_le (t : List (List Int)) (i : Nat) : (flatP t i).length ≤ t.flatten.length := by
  conv => rhs; rw [← List.take_append_drop i t]
  unfold flatP
  rw [List.flatten_append, List.length_append]
  omega
theorem preF_succ {t : List (List Int)} {s i : Nat} (h : i < (t.getD s []).length) : preF t s (i + 1) = preF t s i ++ [(t.getD s []).getD i 0] := by
  unfold preF
  rw [take_succ (t.getD s []) 0 h, List.append_assoc]
theorem cutP_len {t : List (List Int)} {i : Nat} (h : i ≤ t.length) : (cutP t i).length = t.length := by
  unfold cutP
  simp
  omega
theorem cutP_succ {t : List (List Int)} {i : Nat} (h : i < t.length) : (cutP t i).set i (t.getD i []) = cutP t (i + 1) := by
  unfold cutP
  rw [List.set_append_right _ _ (by simp; omega)]
  have e : i - (List.take i t).length = 0 := by simp; omega
  rw [e]
  have e2 : t.length - i = (t.length - (i + 1)) + 1 := by omega
  rw [e2, List.replicate_succ, List.set_cons_zero, take_succ t [] h, List.append_assoc]
  rfl
theorem cutP_zero (t : List (List Int)) : cutP t 0 = List.replicate t.length [] := by simp [cutP]
theorem cutP_all (t : List (List Int)) : cutP t t.length = t := by simp [cutP]
theorem nb_nat {X p : Nat} (hp : 1 ≤ p) (hX : p ≤ X) : Nat.log2 p ≤ Nat.log2 X ∧ X / 2 ^ (Nat.log2 X - Nat.log2 p) < 2 ^ (Nat.log2 p + 1) ∧ 2 ^ Nat.log2 p ≤ X / 2 ^ (Nat.log2 X - Nat.log2 p) := by
  have hlp := Nat.log2_self_le (n := p) (by omega)
  have hlX := Nat.log2_self_le (n := X) (by omega)
  have huX : X < 2 ^ (Nat.log2 X + 1) := Nat.lt_log2_self
  have h1 : Nat.log2 p ≤ Nat.log2 X := (Nat.le_log2 (by omega)).2 (Nat.le_trans hlp hX)
  refine ⟨h1, ?_, ?_⟩
  · rw [Nat.div_lt_iff_lt_mul (Nat.two_pow_pos _), ← Nat.pow_add]
    have : Nat.log2 p + 1 + (Nat.log2 X - Nat.log2 p) = Nat.log2 X + 1 := by omega
    rw [this]
    exact huX
  · rw [Nat.le_div_iff_mul_le (Nat.two_pow_pos _), ← Nat.pow_add]
    have : Nat.log2 p + (Nat.log2 X - Nat.log2 p) = Nat.log2 X := by omega
    rw [this]
    exact hlX
theorem hiI_pos {n : Int} (h : 0 < n) : hiI n = (Nat.log2 n.toNat : Nat) := by
  unfold hiI
  rw [decide_eq_false (by omega)]
  rfl
structure NbOk (X p : Int) : Prop where
  n0 : 0 ≤ nbI X p
  nle : nbI X p ≤ hiI X
  nd : hiI X - hiI p - 1 ≤ nbI X p
  nu : nbI X p ≤ hiI X - hiI p
  lo : p ≤ X / 2 ^ (nbI X p).toNat
  hi : X / 2 ^ (nbI X p).toNat < 2 * p
theorem nb_ok {X p : Int} (hp : 1 ≤ p) (hX : p ≤ X) : NbOk X p := by
  obtain ⟨X, rfl⟩ := Int.eq_ofNat_of_zero_le (show 0 ≤ X by omega)
  obtain ⟨p, rfl⟩ := Int.eq_ofNat_of_zero_le (show 0 ≤ p by omega)
  have hp' : 1 ≤ p := by omega
  have hX' : p ≤ X := by omega
  obtain ⟨h1, h2, h3⟩ := nb_nat hp' hX'
  have hlp := Nat.log2_self_le (n := p) (by omega)
  have e1 : hiI (X : Int) = (Nat.log2 X : Nat) := by rw [hiI_pos (by omega), Int.toNat_natCast]
  have e2 : hiI (p : Int) = (Nat.log2 p : Nat) := by rw [hiI_pos (by omega), Int.toNat_natCast]
  have e3 : (hiI (X : Int) - hiI (p : Int)).toNat = Nat.log2 X - Nat.log2 p := by rw [e1, e2]; omega
  have dv : ∀ n : Nat, (X : Int) / 2 ^ n = ((X / 2 ^ n : Nat) : Int) := fun n => by rw [pow_cast]; exact (Int.natCast_ediv X (2 ^ n)).symm
  have hpow : 2 ^ (Nat.log2 p + 1) = 2 * 2 ^ Nat.log2 p := by rw [Nat.pow_succ]; omega
  by_cases hc : (X : Int) / 2 ^ (Nat.log2 X - Nat.log2 p) < p
  · have hn : nbI (X : Int) p = hiI (X : Int) - hiI (p : Int) - 1 := by
      unfold nbI
      rw [e3, decide_eq_true hc]
      rfl
    rw [dv] at hc
    have hc' : X / 2 ^ (Nat.log2 X - Nat.log2 p) < p := by omega
    have hd : 1 ≤ Nat.log2 X - Nat.log2 p := by
      rcases Nat.eq_zero_or_pos (Nat.log2 X - Nat.log2 p) with h | h
      · rw [h] at hc'
        simp at hc'
        omega
      · exact h
    obtain ⟨m, hm⟩ : ∃ m, Nat.log2 X - Nat.log2 p = m + 1 := ⟨Nat.log2 X - Nat.log2 p - 1, by omega⟩
    have hn2 : (nbI (X : Int) p).toNat = m := by rw [hn, e1, e2]; omega
    have hs : X / 2 ^ (m + 1) = X / 2 ^ m / 2 := by rw [Nat.pow_succ, ← Nat.div_div_eq_div_mul]
    rw [hm, hs] at hc' h3
    refine ⟨by rw [hn, e1, e2]; omega, by rw [hn, e1, e2]; omega, by rw [hn]; omega, by rw [hn]; omega, ?_, ?_⟩
    · rw [hn2, dv]
      have hup : p < 2 ^ (Nat.log2 p + 1) := Nat.lt_log2_self
      omega
    · rw [hn2, dv]
      omega
  · have hn : nbI (X : Int) p = hiI (X : Int) - hiI (p : Int) := by
      unfold nbI
      rw [e3, decide_eq_false hc]
      rfl
    have hn2 : (nbI (X : Int) p).toNat = Nat.log2 X - Nat.log2 p := by rw [hn, e3]
    refine ⟨by rw [hn, e1, e2]; omega, by rw [hn, e1, e2]; omega, by rw [hn]; omega, by rw [hn]; omega, ?_, ?_⟩
    · rw [hn2]; omega
    · rw [hn2, dv]
      omega
theorem celT_in {t : List (List Int)} {s : Int} (h0 : 0 ≤ s) (h1 : s < t.length) : celT t s = t.getD s.toNat [] := by
  unfold celT
  rw [decide_eq_false (by omega), decide_eq_false (by omega)]
  rfl
theorem celT_out {t : List (List Int)} {s : Int} (h : s < 0 ∨ (t.length : Int) ≤ s) : celT t s = [] := by
  unfold celT
  have : (decide (s < 0) || decide ((t.length : Int) ≤ s)) = true := by simpa using h
  rw [this]
  rfl
theorem noC_iff {t : List (List Int)} {s : Int} : noC t s = true ↔ (celT t s).length = 0 := by
  unfold noC
  constructor
  · exact Nat.eq_of_beq_eq_true
  · intro h; rw [h]; rfl
theorem celT_le (t : List (List Int)) (s : Int) : (celT t s).length ≤ t.flatten.length := by
  unfold celT
  cases decide (s < 0) || decide ((t.length : Int) ≤ s)
  · exact row_le t _
  · simp
theorem celT_mem {t : List (List Int)} {s c : Int} (h : c ∈ celT t s) : c ∈ t.flatten := by
  unfold celT at h
  cases hb : decide (s < 0) || decide ((t.length : Int) ≤ s)
  · rw [hb, cond_false] at h
    simp only [Bool.or_eq_false_iff, decide_eq_false_iff_not] at hb
    rw [List.mem_flatten]
    exact ⟨_, getD_row (show s.toNat < t.length by omega), h⟩
  · rw [hb] at h
    simp at h
theorem TOk.cel_le {g : Int} {t : List (List Int)} (h : TOk g t) (s : Int) : (celT t s).length ≤ szN g := by
  rw [← h.w.len]
  exact celT_le t s
theorem TOk.cel_rng {g : Int} {t : List (List Int)} (h : TOk g t) {s : Int} {k : Nat} (hk : k < (celT t s).length) : 0 ≤ (celT t s).getD k 0 ∧ (celT t s).getD k 0 < (szN g : Int) :=
  h.w.rng _ (celT_mem (getD_mem' hk))
end Go.Proofs.Ytbdgknebimdjoaa
namespace Go.Proofs
open Go.Shelf
def Try.lays125_ren : Go.Shelf.Ren := ⟨fun | 125 => 99 | 128 => 128 | 129 => 129 | n => n, fun | 46 => 65 | 3 => 3 | 51 => 163 | 53 => 106 | 4 => 4 | 5 => 5 | 9 => 9 | n => n, fun | n => n⟩
theorem Try.lays125 : Go.Proofs.Lays.n125 Try.prog Try.lays125_ren := {
  mixed := by kernel_rfl
  f125 := Try.func99.trans (congrArg some (by kernel_rfl))
  f128 := Try.func128.trans (congrArg some (by kernel_rfl))
  f129 := Try.func129.trans (congrArg some (by kernel_rfl))
  t3 := Try.underlying3
  a3 := Try.isAgg3
  z3 := Try.sizeOf3
  v3 := Try.zeroValue3
  t4 := Try.underlying4
  a4 := Try.isAgg4
  z4 := Try.sizeOf4
  v4 := Try.zeroValue4
  t5 := Try.underlying5
  a5 := Try.isAgg5
  z5 := Try.sizeOf5
  v5 := Try.zeroValue5
  t9 := Try.underlying9
  a9 := Try.isAgg9
  z9 := Try.sizeOf9
  v9 := Try.zeroValue9
  t46 := Try.underlying65
  a46 := Try.isAgg65
  z46 := Try.sizeOf65
  v46 := Try.zeroValue65
  t51 := Try.underlying163
  a51 := Try.isAgg163
  z51 := Try.sizeOf163
  v51 := Try.zeroValue163
  t53 := Try.underlying106
  a53 := Try.isAgg106
  z53 := Try.sizeOf106
  v53 := Try.zeroValue106 }
theorem Try.bits_Len (x : Int) (w : World) (h0 : 0 ≤ x) (h1 : x ≤ 18446744073709551615) :
    Calls Try.prog 99 #[.int .u64 x] w fun e w' => e = .returned (.int .i64 (Lib.bitLen x.toNat)) ∧ w' = w := Any.bits_Len Try.lays125 x w h0 h1
def Try.lays189_ren : Go.Shelf.Ren := ⟨fun | 189 => 71 | 125 => 99 | 257 => 102 | 128 => 128 | 129 => 129 | 294 => 131 | 295 => 132 | 296 => 133 | 297 => 134 | 298 => 135 | 299 => 136 | 216 => 101 | 300 => 137 | 301 => 138 | 328 => 148 | 329 => 149 | 330 => 150 | 331 => 151 | 332 => 152 | 215 => 130 | 343 => 160 | n => n, fun | 28 => 22 | 3 => 3 | 46 => 65 | 0 => 0 | 51 => 163 | 53 => 106 | 4 => 4 | 183 => 167 | 182 => 166 | 131 => 125 | 5 => 5 | 9 => 9 | 218 => 176 | 222 => 180 | 228 => 189 | 229 => 190 | n => n, fun | n => n⟩
theorem Try.lays189 : Go.Proofs.Lays.n189 Try.prog Try.lays189_ren := {
  mixed := by kernel_rfl
  f125 := Try.func99.trans (congrArg some (by kernel_rfl))
  f128 := Try.func128.trans (congrArg some (by kernel_rfl))
  f129 := Try.func129.trans (congrArg some (by kernel_rfl))
  f189 := Try.func71.trans (congrArg some (by kernel_rfl))
  f215 := Try.func130.trans (congrArg some (by kernel_rfl))
  f216 := Try.func101.trans (congrArg some (by kernel_rfl))
  f257 := Try.func102.trans (congrArg some (by kernel_rfl))
  f294 := Try.func131.trans (congrArg some (by kernel_rfl))
  f295 := Try.func132.trans (congrArg some (by kernel_rfl))
  f296 := Try.func133.trans (congrArg some (by kernel_rfl))
  f297 := Try.func134.trans (congrArg some (by kernel_rfl))
  f298 := Try.func135.trans (congrArg some (by kernel_rfl))
  f299 := Try.func136.trans (congrArg some (by kernel_rfl))
  f300 := Try.func137.trans (congrArg some (by kernel_rfl))
  f301 := Try.func138.trans (congrArg some (by kernel_rfl))
  f328 := Try.func148.trans (congrArg some (by kernel_rfl))
  f329 := Try.func149.trans (congrArg some (by kernel_rfl))
  f330 := Try.func150.trans (congrArg some (by kernel_rfl))
  f331 := Try.func151.trans (congrArg some (by kernel_rfl))
  f332 := Try.func152.trans (congrArg some (by kernel_rfl))
  f343 := Try.func160.trans (congrArg some (by kernel_rfl))
  t0 := Try.underlying0
  a0 := Try.isAgg0
  z0 := Try.sizeOf0
  v0 := Try.zeroValue0
  t3 := Try.underlying3
  a3 := Try.isAgg3
  z3 := Try.sizeOf3
  v3 := Try.zeroValue3
  t4 := Try.underlying4
  a4 := Try.isAgg4
  z4 := Try.sizeOf4
  v4 := Try.zeroValue4
  t5 := Try.underlying5
  a5 := Try.isAgg5
  z5 := Try.sizeOf5
  v5 := Try.zeroValue5
  t9 := Try.underlying9
  a9 := Try.isAgg9
  z9 := Try.sizeOf9
  v9 := Try.zeroValue9
  t28 := Try.underlying22
  a28 := Try.isAgg22
  z28 := Try.sizeOf22
  v28 := Try.zeroValue22
  t46 := Try.underlying65
  a46 := Try.isAgg65
  z46 := Try.sizeOf65
  v46 := Try.zeroValue65
  t51 := Try.underlying163
  a51 := Try.isAgg163
  z51 := Try.sizeOf163
  v51 := Try.zeroValue163
  t53 := Try.underlying106
  a53 := Try.isAgg106
  z53 := Try.sizeOf106
  v53 := Try.zeroValue106
  t131 := Try.underlying125
  a131 := Try.isAgg125
  z131 := Try.sizeOf125
  v131 := Try.zeroValue125
  t182 := Try.underlying166
  a182 := Try.isAgg166
  z182 := Try.sizeOf166
  v182 := Try.zeroValue166
  t183 := Try.underlying167
  a183 := Try.isAgg167
  z183 := Try.sizeOf167
  v183 := Try.zeroValue167
  t218 := Try.underlying176
  a218 := Try.isAgg176
  z218 := Try.sizeOf176
  v218 := Try.zeroValue176
  t222 := Try.underlying180
  a222 := Try.isAgg180
  z222 := Try.sizeOf180
  v222 := Try.zeroValue180
  t228 := Try.underlying189
  a228 := Try.isAgg189
  z228 := Try.sizeOf189
  v228 := Try.zeroValue189
  t229 := Try.underlying190
  a229 := Try.isAgg190
  z229 := Try.sizeOf190
  v229 := Try.zeroValue190 }
open Go.Sort Go.RowKit in
theorem Try.slices_Sort_int (blk off cap : Nat) (zs : List Int) (w : World) (hH : Holds (Value.int .i64) w blk off zs.toArray) (hblk : blk < w.heap.size) (hsz : zs.length < 4611686018427387904) :
    Calls Try.prog 71 #[.slice (some ⟨blk, off, none⟩) zs.length cap] w fun e w' =>
      e = .returned (.tuple #[]) ∧ ∃ n os, w' = grow (putRow (Value.int .i64) (Sort.ahead w n) blk off (zs.mergeSort fun x y => decide (x ≤ y)).toArray) os := Any.slices_Sort_int Try.lays189 blk off cap zs w hH hblk hsz
end Go.Proofs
namespace Go.Proofs.Ytbdgknebimdjoaa
open Go Go.Shelf Go.RowKit Go.Lib Go.Sort
set_option linter.unusedVariables false
set_option linter.unusedSimpArgs false
set_option maxRecDepth 100000
theorem bitLen_eq : ∀ (f x : Nat), x < 2 ^ f → bitLenAux f x = if x = 0 then 0 else Nat.log2 x + 1
  | 0, x, h => by
    have : x = 0 := by omega
    subst this; rfl
  | f + 1, x, h => by
    unfold bitLenAux
    by_cases h0 : x = 0
    · rw [if_pos h0, if_pos h0]
    · rw [if_neg h0, if_neg h0, bitLen_eq f (x / 2) (by rw [Nat.pow_succ] at h; omega), Nat.log2_def x]
      by_cases h1 : x / 2 = 0
      · rw [if_pos h1, if_neg (by omega)]
      · rw [if_neg h1, if_pos (by omega)]; omega
theorem bitLen_hi {x : Int} (h0 : 0 ≤ x) (h1 : x ≤ 9223372036854775807) : ((Lib.bitLen x.toNat : Nat) : Int) = hiI x + 1 := by
  show ((bitLenAux 64 x.toNat : Nat) : Int) = _
  rw [bitLen_eq 64 _ (by omega)]
  unfold hiI
  by_cases h : x = 0
  · subst h; rfl
  · rw [if_neg (by omega), decide_eq_false (by omega)]
    push_cast
    rfl
theorem len_sat (x : Int) (h0 : 0 ≤ x) (h1 : x ≤ 9223372036854775807) : Sat Try.prog 99 [.v (.int .u64 x)] [] (.v (.int .i64 (hiI x + 1))) [] := by
  refine sat_of_calls (fun w => ?_) rfl rfl
  refine (Go.Proofs.Try.bits_Len x w h0 (by omega)).mono ?_
  rintro e w' ⟨rfl, rfl⟩
  refine ⟨?_, Below.refl _ _⟩
  show Ending.returned (Value.int .i64 _) = .returned (Value.int .i64 (hiI x + 1))
  rw [bitLen_hi h0 h1]
theorem len_sound : Sound Try.prog 99 sLen.ctr := sLen.sound (by kernel_rfl) sLen_enc fun x hc => len_sat x (hc _ (.head _)) (hc _ (.tail _ (.head _)))
theorem merge_srt (xs : List Int) : (xs.mergeSort fun x y => decide (x ≤ y)) = srtI xs := by
  refine srtI_unique (List.mergeSort_perm _ _) ?_
  have := List.pairwise_mergeSort (le := fun x y : Int => decide (x ≤ y)) (fun a b c h k => by simp at h k ⊢; omega) (fun a b => by simp; omega) xs
  exact this.imp fun h => by simpa using h
theorem sortI_sat (xs : List Int) (h1 : xs.length ≤ 4294967296) :
    Sat Try.prog 71 [.o 0] [(0, .row 3 (.ints .i64 xs))] (.tu []) [(0, .row 3 (.ints .i64 (srtI xs)))] := by
  intro D β w us hargs hhp hD hβ
  simp only [Reps, Rep] at hargs
  obtain ⟨u0, r0, rfl, ⟨L, hL, rfl⟩, rfl⟩ := hargs
  obtain ⟨L', hL', hB, hdis⟩ := hhp.1 0 (SBlk.row 3 (.ints .i64 xs)) (by simp)
  rw [hL] at hL'
  cases hL'
  obtain ⟨hw, hlen, hB⟩ := hB
  simp only [Dat.wd, Dat.len] at hw hlen hB
  have hgiven : ∀ g, Given β [(0, SBlk.row 3 (.ints .i64 xs))] g ↔ L.nil = false ∧ g = L.g := by
    intro g
    constructor
    · rintro ⟨l, b, L2, h1, h2, h3, h4⟩
      simp only [List.mem_singleton, Prod.mk.injEq] at h1
      obtain ⟨rfl, rfl⟩ := h1
      rw [hL] at h2
      cases h2
      exact ⟨h3, h4.symm⟩
    · rintro ⟨hn, rfl⟩
      exact ⟨0, SBlk.row 3 (.ints .i64 xs), L, by simp, hL, hn, rfl⟩
  have hsrtlen : (srtI xs).length = xs.length := srtI_len xs
  have fin : ∀ w' : World, w'.os = w.os → w'.tape = w.tape → w'.output = w.output → w.heap.size ≤ w'.heap.size → (∀ k, k < w.heap.size → ¬ (L.nil = false ∧ k = L.g) → w'.heap[k]? = w.heap[k]?) →
      (Grows D w β D w' β → BlkRep D w' β L (.row 3 (.ints .i64 (srtI xs)))) → ∃ v D' β', Ending.returned (Value.tuple #[]) = .returned v ∧ After D β w [(0, .row 3 (.ints .i64 xs))] (.tu []) [(0, .row 3 (.ints .i64 (srtI xs)))] v D' β' w' := by
    intro w' e1 e2 e3 e4 e5 e6
    have G : Grows D w β D w' β := ⟨fun _ h => h, fun g hgD => e5 g (hD g hgD) (fun ⟨hn, e⟩ => (hdis hn).1 (e ▸ hgD)), fun _ _ h => h⟩
    refine ⟨_, D, β, rfl, ?_⟩
    exact {
      grows := G
      ret := by simp only [Rep, Reps]; exact ⟨[], rfl, rfl⟩
      hps := by
        refine ⟨fun l b hl => ?_, fun l l' b b' L1 L2 hl hl' _ _ _ _ _ => ?_⟩
        · simp only [List.mem_singleton, Prod.mk.injEq] at hl
          obtain ⟨rfl, rfl⟩ := hl
          exact ⟨L, hL, e6 G, fun hn => ⟨(hdis hn).1, Nat.lt_of_lt_of_le (hdis hn).2 e4⟩⟩
        · simp only [List.mem_singleton, Prod.mk.injEq] at hl hl'
          rw [hl.1, hl'.1]
      d := fun g hgD => ⟨.inl hgD, Nat.lt_of_lt_of_le (hD g hgD) e4⟩
      dom := fun l L hL => .inl hL
      own := fun l b L2 hl hL2 hn2 => by
        simp only [List.mem_singleton, Prod.mk.injEq] at hl
        obtain ⟨rfl, rfl⟩ := hl
        rw [hL] at hL2
        cases hL2
        exact .inr ((hgiven _).2 ⟨hn2, rfl⟩)
      os := e1, tape := e2, output := e3, size := e4
      block := fun g hg1 hg2 => e5 g hg1 fun e => hg2 ((hgiven g).2 e) }
  rcases hB with ⟨hni, hz⟩ | ⟨hni, hcap, hmax, cs, ty', fr, hcs, hfr, hcl, hval⟩
  · have hx : xs = [] := List.eq_nil_of_length_eq_zero hz
    subst hx
    have hv : L.val = .slice none 0 0 := by simp [Loc.val, hni]
    have e : [L.val].toArray = #[.slice none 0 0] := by rw [hv]
    rw [e]
    refine Calls.mono (show Calls Try.prog 71 _ _ _ from Go.Proofs.Any.slices_Sort_int_none Go.Proofs.Try.lays189 none 0 w) ?_
    rintro e w' ⟨rfl, rfl⟩
    exact fin w' rfl rfl rfl (Nat.le_refl _) (fun _ _ _ => rfl) (fun _ => ⟨hw, hlen, .inl ⟨hni, rfl⟩⟩)
  obtain ⟨hnD, hlt⟩ := hdis hni
  have hH : Holds (Value.int .i64) w L.g 0 xs.toArray := by
    intro j hj
    have hj' : j < xs.length := by simpa using hj
    obtain ⟨x, hx1, hx2⟩ := hval j 0 hj' (by simp [Dat.wd])
    simp only [Dat.wd, Nat.mul_one, Nat.add_zero, Dat.ok] at hx1 hx2
    subst hx2
    have e : xs.toArray[j]! = xs.getD j 0 := by
      rw [getElem!_pos xs.toArray j hj]
      simp [List.getD_eq_getElem?_getD, List.getElem?_eq_getElem hj']
    rw [e, Nat.zero_add]
    refine ⟨?_, ?_⟩
    · simp [World.cell?, hcs, hx1]
    · simp only [World.frozen?, hcs]
      exact hfr _ (by have := (List.getElem?_eq_some_iff.1 hx1).1; omega)
  have hval2 : L.val = .slice (some ⟨L.g, 0, none⟩) xs.length L.cap := by
    unfold Loc.val
    rw [hni, hlen]
    rfl
  have key := Go.Proofs.Try.slices_Sort_int L.g 0 L.cap xs w hH hlt (by omega)
  have e : [L.val].toArray = #[.slice (some ⟨L.g, 0, none⟩) xs.length L.cap] := by rw [hval2]
  rw [e]
  refine Calls.mono (show Calls Try.prog 71 _ _ _ from key) ?_
  rintro e w' ⟨rfl, n, os, rfl⟩
  rw [merge_srt]
  have hgr := grownBy_sortedI (w := w) (g := L.g) (n := n) (os := os) (srtI xs).toArray
  refine fin _ rfl rfl rfl hgr.size (fun k hk hne => hgr.block k hk (fun e => by
    simp only [Option.some.injEq] at e
    exact hne ⟨hni, e⟩)) (fun G => ⟨hw, by simp only [Dat.len]; omega, .inr ⟨hni, by simp only [Dat.len]; omega, hmax, (putCells (Value.int .i64) 0 (srtI xs).toArray cs.toArray).toList, ty', fr, by simpa using heap_sortedI (srtI xs).toArray hcs, by simpa [putCells] using hfr, ?_, ?_⟩⟩)
  · simp only [putCells, Array.length_toList, Array.size_mapIdx, List.size_toArray, Dat.wd]
    exact hcl
  · intro i j hi hj
    simp only [Dat.len, Dat.wd] at hi hj hcl
    have j0 : j = 0 := by omega
    subst j0
    refine ⟨.int .i64 ((srtI xs).getD i 0), ?_, rfl⟩
    have hlt2 : i < cs.length := by omega
    simp only [Dat.wd, Nat.mul_one, Nat.add_zero, putCells, Array.getElem?_toList, Array.getElem?_mapIdx, List.getElem?_toArray, List.getElem?_eq_getElem hlt2, Option.map_some, Nat.zero_add, Nat.sub_zero, List.size_toArray]
    rw [if_pos ⟨Nat.zero_le _, by omega⟩, getElem!_pos (srtI xs).toArray i (by simpa using hi)]
    simp [List.getD_eq_getElem?_getD, List.getElem?_eq_getElem hi]
theorem sortI_sound : Sound Try.prog 71 sSortI.ctr := sSortI.sound (by kernel_rfl) sSortI_enc fun xs hc => sortI_sat xs (hc _ (.head _))
end Go.Proofs.Ytbdgknebimdjoaa
namespace Go.Proofs.Ytbdgknebimdjoaa
open Go Go.RowKit
set_option linter.unusedVariables false
set_option linter.unusedSimpArgs false
set_option maxRecDepth 100000
theorem gt_nat {n : Nat} (h : (256 : Int) < (n : Int)) : 256 < n := by omega
theorem ne0 {a : Int} (h : (a != (0 : Int)) = true) : (a == 0) = false := by
  cases hb : a == 0
  · rfl
  · have : a = 0 := by simpa using hb
    subst this
    cases h
theorem eq0 {a : Int} (h : (a != (0 : Int)) = false) : a = 0 := by simpa using h
theorem beq0 {a : Int} (h : a = 0) : (a == 0) = true := by rw [h]; rfl
theorem enc_bad {g : Int} {l : List Int} (h : (dchk g l != (0 : Int)) = true) : encG g l = 0 ∧ encL g l = [] := by
  have : okE g l = false := ne0 h
  unfold encG encL
  rw [this]
  exact ⟨rfl, rfl⟩
theorem enc_good {g : Int} {l : List Int} (h : dchk g l = 0) : encG g l = g ∧ encL g l = statesL l.length (spr g l) := by
  have : okE g l = true := beq0 h
  unfold encG encL
  rw [this]
  exact ⟨rfl, rfl⟩
theorem cellsP_le (sp : List Int) (s : Int) (i : Nat) : (cellsP sp s i).length ≤ sp.length := by
  unfold cellsP
  rw [cellsF_len]
  refine Nat.le_trans List.count_le_length ?_
  rw [List.length_take]
  exact Nat.min_le_right _ _
theorem encE_v (g : Int) (l : List Int) (h0 : l.length ≤ 4294967296) : encE_t g l := by
  unfold encE_t
  refine ⟨h0, fun h => ⟨(enc_bad h).1.symm, by rw [(enc_bad h).2]; rfl, rfl⟩, fun h => ⟨h0, fun h => ⟨(enc_bad h).1.symm, by rw [(enc_bad h).2]; rfl, rfl⟩, fun _ => ?_⟩⟩
  have h := eq0 h
  have hd := dchk0 h
  have hsz := szN_bd hd.g5 hd.g12
  have hn2 := hd.n2
  have hspr : (sprO g l).length = szN g := by rw [sprO1 h, spr_len]
  refine ⟨by omega, Int.le_refl _, by omega, by omega, ⟨0, ⟨Nat.zero_le _, h⟩, rfl, rfl, by rw [hspr], rfl, rfl, rfl, rfl, by rw [toNat_cast, states_zero]; rfl⟩, fun i hi => ⟨fun hlt => ?_, fun hge => ?_⟩⟩
  · have hlt : i < szN g := by simpa using hlt
    obtain ⟨s, k1, k2, k3⟩ := spr_sym hd hlt
    rw [← sprO1 h] at k3
    simp only [toNat_cast, k3, states_len, states_get k1]
    have etk : ∀ X : List Int, List.take (X.length - Int.toNat (0 : Int)) (List.drop (Int.toNat (0 : Int)) X) = X := fun X => by simp
    simp only [etk]
    have hle := cellsP_le (sprO g l) s i
    refine ⟨by omega, by rw [hspr]; omega, by omega, by omega, by omega, by omega, by omega, Int.le_refl _, (by first | rfl | trivial), by omega, by omega, by omega, by omega, i + 1, ⟨by omega, h⟩, by rw [Nat.sub_eq, Nat.sub_eq]; omega, (by first | rfl | trivial), (by first | rfl | trivial), (by first | rfl | trivial), cnt_wrap (by omega), (by first | rfl | trivial), (by first | rfl | trivial), (by first | rfl | trivial), states_succ (by rw [hspr]; exact hlt) k1 k3⟩
  · have hge : i = szN g := by simp at hge; omega
    subst hge
    refine ⟨(enc_good h).1.symm, ?_, h.symm⟩
    rw [(enc_good h).2, ← hspr, states_all, sprO1 h]
theorem sortedE_v (l : List Int) (h0 : l.length ≤ 4294967296) : sortedE_t l := by
  unfold sortedE_t
  refine ⟨⟨0, ⟨Nat.zero_le _, fun m h1 h2 => by omega⟩, rfl, by rw [wr (by omega) (by omega)]; simp⟩, fun k hk => ⟨fun hlt => ?_, fun hge => ?_⟩⟩
  · have hlt : (l.length : Int) - 1 - k > 0 := by simpa using hlt
    have e1 : ((l.length : Int) - 1 - k).toNat = l.length - 1 - k := by omega
    have e2 : IntKind.wrap IntKind.i64 ((l.length : Int) - 1 - k - 1) = (l.length : Int) - 1 - k - 1 := wr (by omega) (by omega)
    have e3 : ((l.length : Int) - 1 - k - 1).toNat = l.length - 1 - k - 1 := by omega
    rw [e2, e1, e3]
    refine ⟨by omega, by omega, by omega, by omega, fun h => ?_, fun h => ⟨k + 1, ⟨by omega, fun m h1 h2 => ?_⟩, by rw [Nat.sub_eq, Nat.sub_eq]; omega, rfl, by push_cast; omega⟩⟩
    · have h : l.getD (l.length - 1 - k) 0 < l.getD (l.length - 1 - k - 1) 0 := by simpa using h
      symm
      rw [Bool.eq_false_iff]
      intro hs
      have := sorted_iff.1 hs (l.length - 1 - k - 1) (by omega)
      rw [show l.length - 1 - k - 1 + 1 = l.length - 1 - k by omega] at this
      omega
    · have h : ¬ l.getD (l.length - 1 - k) 0 < l.getD (l.length - 1 - k - 1) 0 := by simpa using h
      rcases Nat.lt_or_ge (m + k) l.length with h3 | h3
      · have : m = l.length - 1 - k := by omega
        subst this
        omega
      · exact hk.2 m h3 h2
  · have hge : ¬ (l.length : Int) - 1 - k > 0 := by simpa using hge
    symm
    rw [sorted_iff]
    intro i hi
    have := hk.2 (i + 1) (by omega) hi
    simpa using this
theorem cutE_v (t : List (List Int)) (h0 : t.length ≤ 65536) (h1 : t.flatten.length ≤ 65536) : cutE_t t := by
  unfold cutE_t
  refine ⟨by omega, Int.le_refl _, by omega, by omega, ⟨0, Nat.zero_le _, rfl, rfl, rfl, by rw [toNat_cast, cutP_zero]; rfl⟩, fun i hi => ⟨fun hlt => ?_, fun hge => ?_⟩⟩
  · have hlt : i < t.length := by simpa using hlt
    rw [nle] at hi
    have hrow := row_le t i
    have e : ∀ X : List Int, List.take (Int.toNat (0 : Int) - Int.toNat (0 : Int)) X = [] := fun X => by simp
    rw [toNat_cast, cutP_len hi, e, List.nil_append]
    exact ⟨by omega, by omega, by omega, by omega, by omega, rfl, by rw [List.length_nil, Nat.zero_add]; omega, by omega, by omega, by omega, i + 1, by rw [nle]; omega, by rw [Nat.sub_eq, Nat.sub_eq]; omega, rfl, rfl, cnt_wrap (by omega), cutP_succ hlt⟩
  · have hge : i = t.length := by rw [nle] at hi; simp at hge; omega
    subst hge
    exact cutP_all t
theorem gatherE_v (t : List (List Int)) (h0 : t.length ≤ 65536) (h1 : t.flatten.length ≤ 65536) : gatherE_t t := by
  unfold gatherE_t
  refine ⟨⟨0, Nat.zero_le _, rfl, rfl, rfl, rfl⟩, fun i hi => ⟨fun hlt => ?_, fun hge => ?_⟩⟩
  · have hlt : i < t.length := by simpa using hlt
    have hrow := row_le t i
    have hf := flatP_le t i
    rw [toNat_cast]
    exact ⟨by omega, by omega, by omega, i + 1, by rw [nle]; omega, by rw [Nat.sub_eq, Nat.sub_eq]; omega, rfl, rfl, cnt_wrap (by omega), (flatP_succ hlt).symm⟩
  · have hge : i = t.length := by rw [nle] at hi; simp at hge; omega
    subst hge
    exact flatP_all t
theorem wu0 {g : Int} (h1 : 0 ≤ g) (h2 : g ≤ 12) : IntKind.wrap IntKind.u64 g = g := wru (by omega) (by omega)
theorem sz_wrap0 {g : Int} (h1 : 0 ≤ g) (h2 : g ≤ 12) : IntKind.wrap IntKind.i64 ((1 : Int) * (2 : Int) ^ min (Int.toNat g) (IntKind.bits IntKind.i64)) = (szN g : Int) := by
  rw [shl1 (by omega) (by omega), szI]
theorem ebad_of {g : Int} {t : List (List Int)} (h : g < 0 ∨ 12 < g ∨ 256 < t.length) : ebad g t = true := by
  cases hb : ebad g t
  · have := ebad_iff.1 hb; omega
  · rfl
theorem litT_of {g : Int} {t : List (List Int)} (h : litT g t = true) (hb : ebad g t = false) : t.flatten.length ≤ 65536 := by
  unfold litT at h
  rw [hb] at h
  simpa using h
theorem chkE_v (g : Int) (t : List (List Int)) (h0 : t.length ≤ 4294967296) (h1 : litT g t = true) : chkE_t g t := by
  unfold chkE_t
  refine ⟨fun h => (echk_bad (ebad_of (.inl (by simpa using h)))).symm, fun h => ⟨fun h2 => (echk_bad (ebad_of (.inr (.inl (by simpa using h2))))).symm, fun h2 => ⟨fun h3 => (echk_bad (ebad_of (.inr (.inr (gt_nat (by simpa using h3)))))).symm, fun h3 => ?_⟩⟩⟩
  have hg0 : ¬ g < 0 := by simpa using h
  have hg12 : ¬ g > 12 := by simpa using h2
  have hn : ¬ (t.length : Int) > 256 := by simpa using h3
  have hb : ebad g t = false := ebad_iff.2 ⟨by omega, by omega, by omega⟩
  have hf := litT_of h1 hb
  have hsz := sz0 (g := g) (by omega) (by omega)
  have e1 := wu0 (g := g) (by omega) (by omega)
  refine ⟨⟨0, ⟨Nat.zero_le _, hb, rfl⟩, rfl, rfl, rfl, rfl, rfl⟩, fun i hi => ⟨fun hlt => ?_, fun hge => ?_⟩⟩
  · have hlt : i < t.length := by simpa using hlt
    have hrow := row_le t i
    rw [toNat_cast]
    refine ⟨by omega, by omega, by omega, fun hs => ?_, fun hs => ⟨i + 1, ⟨by omega, hb, ?_⟩, by rw [Nat.sub_eq, Nat.sub_eq]; omega, rfl, rfl, cnt_wrap (by omega), rfl, rfl⟩⟩
    · refine (echk_form hb fun hx => ?_).symm
      have := List.all_eq_true.1 hx.1 _ (getD_row hlt)
      rw [this] at hs
      cases hs
    · rw [take_succ t [] hlt, List.all_append, hi.2.2]
      simpa using hs
  · have hge : i = t.length := by simp at hge; omega
    subst hge
    have hall : t.all sorted = true := by have := hi.2.2; rwa [List.take_length] at this
    rw [e1, srtI_len, sz_wrap0 (by omega) (by omega)]
    refine ⟨by omega, by omega, by omega, by omega, by omega, by omega, fun hl => ?_, fun hl => ?_⟩
    · refine (echk_form hb fun hx => ?_).symm
      rw [hx.2.len] at hl
      simp at hl
    · have hlen : t.flatten.length = szN g := by have : (t.flatten.length : Int) = szN g := by simpa using hl
                                                 omega
      refine ⟨⟨0, ⟨Nat.zero_le _, hb, hall, hlen, fun k hk => by omega⟩, by rw [hlen], rfl, rfl⟩, fun j hj => ⟨fun hlt => ?_, fun hge => ?_⟩⟩
      · have hlt : j < szN g := by simpa using hlt
        rw [toNat_cast, hlen]
        refine ⟨by omega, by omega, by omega, fun hne => ?_, fun he => ⟨j + 1, ⟨by omega, hb, hall, by first | rfl | exact hlen, fun k hk => ?_⟩, by rw [Nat.sub_eq, Nat.sub_eq]; omega, rfl, cnt_wrap (by omega), rfl⟩⟩
        · refine (echk_form hb fun hx => ?_).symm
          rw [whole_srt hx.2] at hne
          simp [upL, List.getD_eq_getElem?_getD, List.getElem?_range hlt] at hne
        · rcases Nat.lt_or_ge k j with h5 | h5
          · exact hj.2.2.2.2 k h5
          · have : k = j := by omega
            subst this
            have he : (k : Int) = (srtI t.flatten).getD k 0 := by simpa using he
            exact he.symm
      · have hge : j = szN g := by simp at hge; omega
        subst hge
        refine (echk_good hb hall (srt_whole ?_)).symm
        apply List.ext_getElem?
        intro k
        by_cases hk : k < szN g
        · have := hj.2.2.2.2 k hk
          rw [List.getD_eq_getElem?_getD, List.getElem?_eq_getElem (by rw [srtI_len, hlen]; exact hk)] at this
          rw [List.getElem?_eq_getElem (by rw [srtI_len, hlen]; exact hk)]
          simp only [Option.getD_some] at this
          rw [this]
          simp [upL, List.getElem?_range hk]
        · rw [List.getElem?_eq_none (by rw [srtI_len]; omega), List.getElem?_eq_none (by simp [upL]; omega)]
theorem ChkOk.zero (g : Int) (t : List (List Int)) : ChkOk g t 0 0 := ⟨fun c hc => by simp [preF, flatP] at hc, by simp [preF, flatP], fun k hk => by omega, by simp [sorted]⟩
theorem sorted_snoc {l : List Int} {c : Int} (h : sorted l = true) (hc : ∀ k, l.length = k + 1 → l.getD k 0 ≤ c) : sorted (l ++ [c]) = true := by
  rw [sorted_iff] at h ⊢
  intro i hi
  simp only [List.length_append, List.length_singleton] at hi
  by_cases h1 : i + 1 < l.length
  · have := h i h1
    simp only [List.getD_eq_getElem?_getD] at this ⊢
    rw [List.getElem?_append_left (by omega), List.getElem?_append_left h1]
    exact this
  · have e : l.length = i + 1 := by omega
    have := hc i e
    simp only [List.getD_eq_getElem?_getD] at this ⊢
    rw [List.getElem?_append_left (by omega), List.getElem?_append_right (by omega)]
    simpa [e] using this
theorem ChkOk.succ {g : Int} {t : List (List Int)} {s i : Nat} (h : ChkOk g t s i) (hi : i < (t.getD s []).length) (h0 : 0 ≤ (t.getD s []).getD i 0) (h1 : (t.getD s []).getD i 0 < (szN g : Int)) (hm : (t.getD s []).getD i 0 ∉ preF t s i)
    (hle : ∀ k, i = k + 1 → (t.getD s []).getD k 0 ≤ (t.getD s []).getD i 0) : ChkOk g t s (i + 1) := by
  refine ⟨fun c hc => ?_, ?_, h.srt, ?_⟩
  · rw [preF_succ hi, List.mem_append, List.mem_singleton] at hc
    rcases hc with hc | rfl
    · exact h.rng c hc
    · exact ⟨h0, h1⟩
  · rw [preF_succ hi, List.nodup_append]
    refine ⟨h.nodup, by simp, fun a ha b hb => ?_⟩
    simp only [List.mem_singleton] at hb
    rintro rfl
    exact hm (hb ▸ ha)
  · rw [take_succ (t.getD s []) 0 hi]
    refine sorted_snoc h.cur fun k hk => ?_
    rw [List.length_take] at hk
    have := hle k (by omega)
    simp only [List.getD_eq_getElem?_getD] at this ⊢
    rw [List.getElem?_take, if_pos (by omega)]
    exact this
end Go.Proofs.Ytbdgknebimdjoaa
namespace Go.Proofs.Ytbdgknebimdjoaa
open Go Go.RowKit
set_option linter.unusedVariables false
set_option linter.unusedSimpArgs false
set_option maxRecDepth 100000
theorem and_powu (a n : Nat) (ha : a ≤ 100000) (hn : n ≤ 20) : bits .and .u64 (a : Int) ((2 : Int) ^ n - 1) = ((a % 2 ^ n : Nat) : Int) := by
  have hx : ∀ a : Nat, a ≤ 4294967295 → (BitVec.ofInt 64 (a : Int)).toNat = a := fun a ha => by
    rw [BitVec.ofInt_natCast, BitVec.toNat_ofNat]; exact Nat.mod_eq_of_lt (by omega)
  have h1 := Nat.two_pow_pos n
  have h2 := Nat.pow_le_pow_right (show 0 < 2 by omega) hn
  have e : (2 : Int) ^ n - 1 = ((2 ^ n - 1 : Nat) : Int) := by rw [pow_cast]; omega
  rw [e]
  show IntKind.u64.wrap ((BitVec.ofInt 64 (a : Int) &&& BitVec.ofInt 64 ((2 ^ n - 1 : Nat) : Int)).toNat : Int) = _
  rw [BitVec.toNat_and, hx a (by omega), hx _ (by omega), Nat.and_two_pow_sub_one_eq_mod, IntKind.wrap_u64]
  have h3 : a % 2 ^ n ≤ a := Nat.mod_le _ _
  omega
structure StpN (g : Int) (t : List (List Int)) (x s : Int) : Prop where
  p1 : 1 ≤ ((celT t s).length : Int)
  X1 : (szN g : Int) ≤ putX g x
  X2 : putX g x < 2 * (szN g : Int)
  sz : (szN g : Int) ≤ 4096
  nb : NbOk (putX g x) (celT t s).length
  h0 : 0 ≤ hiI (celT t s).length
  hX : hiI (putX g x) ≤ 13
theorem log2_le {n k : Nat} (h : n < 2 ^ (k + 1)) (h0 : n ≠ 0) : Nat.log2 n ≤ k := by
  have := (Nat.log2_lt h0 (k := k + 1)).2 h
  omega
theorem stpN {g : Int} {t : List (List Int)} {x s : Int} (h0 : 0 ≤ g) (h1 : g ≤ 12) (hx0 : 0 ≤ x) (hx1 : x < (szN g : Int)) (hn : noC t s = false) (hl : (celT t s).length ≤ szN g) : StpN g t x s := by
  have hsz := sz0 h0 h1
  have hp : 1 ≤ ((celT t s).length : Int) := by
    rcases Nat.eq_zero_or_pos (celT t s).length with h | h
    · rw [noC_iff.2 h] at hn; cases hn
    · omega
  have hX : putX g x = x + (szN g : Int) := rfl
  refine ⟨hp, by omega, by omega, by omega, nb_ok hp (by omega), ?_, ?_⟩
  · rw [hiI_pos (by omega)]; omega
  · rw [hiI_pos (by omega)]
    have := log2_le (n := (putX g x).toNat) (k := 13) (by omega) (by omega)
    omega
theorem celsE_v (g : Int) (t : List (List Int)) (s : Int) : celsE_t g t s := by
  unfold celsE_t
  refine ⟨fun h => ?_, fun h => ⟨fun h2 => ?_, fun h2 => ?_⟩⟩
  · rw [celT_out (.inl (by simpa using h))]; rfl
  · rw [celT_out (.inr (by simpa using h2))]; rfl
  · have h : ¬ s < 0 := by simpa using h
    have h2 : ¬ s ≥ (t.length : Int) := by simpa using h2
    exact ⟨by omega, by omega, (celT_in (by omega) (by omega)).symm⟩
theorem celM_out {t : List (List Int)} {s : Int} (h : (celT t s).length = 0) : celM t s = 7 := by unfold celM; rw [noC_iff.2 h]; rfl
theorem celM_in {t : List (List Int)} {s : Int} (h : (celT t s).length ≠ 0) : celM t s = 0 := by
  have : noC t s = false := by
    cases hb : noC t s
    · rfl
    · exact absurd (noC_iff.1 hb) h
  unfold celM; rw [this]; rfl
theorem pow_n {n : Int} (h0 : 0 ≤ n) (h1 : n ≤ 13) : (2 : Int) ^ n.toNat ≤ 8192 := by
  have := pow_mono (show n.toNat ≤ 13 by omega)
  simpa using this
theorem putE_v (g : Int) (t : List (List Int)) (x s : Int) (h0 : 0 ≤ g) (h1 : g ≤ 12) (ht : t.length ≤ 4294967296) (hx0 : 0 ≤ x) (hx1 : x < (szN g : Int)) (hn : noC t s = false) (hl : (celT t s).length ≤ szN g) : putE_t g t x s := by
  have hs := stpN h0 h1 hx0 hx1 hn hl
  obtain ⟨k1, k2, k3, k4, k5, k6, k7⟩ := hs
  have hX : putX g x = x + (szN g : Int) := rfl
  have hn0 := k5.n0
  have hnle := k5.nle
  have hlo := k5.lo
  have hhi := k5.hi
  have hnu := k5.nu
  have e1 : IntKind.wrap IntKind.u64 x = x := wru (by omega) (by omega)
  have e2 : IntKind.wrap IntKind.u64 ((1 : Int) * (2 : Int) ^ min (Int.toNat (IntKind.wrap IntKind.u64 g)) (IntKind.bits IntKind.u64)) = (szN g : Int) := by
    rw [wu0 h0 h1, bu64, Nat.min_eq_left (by omega), Int.one_mul, ← szI]
    exact wru (by omega) (by omega)
  have e3 : IntKind.wrap IntKind.u64 ((celT t s).length : Int) = ((celT t s).length : Int) := wru (by omega) (by omega)
  have e4 : IntKind.wrap IntKind.u64 (x + (szN g : Int)) = putX g x := by rw [← hX]; exact wru (by omega) (by omega)
  have e5 : IntKind.wrap IntKind.i64 (hiI (putX g x) + 1 - (hiI ((celT t s).length : Int) + 1)) = hiI (putX g x) - hiI ((celT t s).length : Int) := by
    rw [wr (by omega) (by omega)]; omega
  have e6 : IntKind.wrap IntKind.u64 (hiI (putX g x) - hiI ((celT t s).length : Int)) = hiI (putX g x) - hiI ((celT t s).length : Int) := wru (by omega) (by omega)
  have en : IntKind.wrap IntKind.u64 (putN g t x s) = putN g t x s := wru (by unfold putN; omega) (by unfold putN; omega)
  have em : ∀ n : Int, 0 ≤ n → n ≤ 13 → min n.toNat (IntKind.bits IntKind.u64) = n.toNat := fun n _ _ => by rw [bu64]; omega
  have ed : ∀ n : Int, 0 ≤ n → n ≤ 13 → Int.fdiv (putX g x) ((2 : Int) ^ n.toNat) = putX g x / 2 ^ n.toNat := fun n _ _ => fdivp (by have := pow_pos' n.toNat; omega)
  have hpn : putN g t x s = nbI (putX g x) ((celT t s).length : Int) := rfl
  unfold putE_t
  simp only [e2]
  simp only [e1, e3, e4, e5, e6, en, wu0 h0 h1]
  rw [em _ (by omega) (by omega), ed _ (by omega) (by omega), em (putN g t x s) (by omega) (by omega), ed (putN g t x s) (by omega) (by omega)]
  have hpow := pow_n (n := putN g t x s) (by omega) (by omega)
  have hpp := pow_pos' (putN g t x s).toNat
  have e7 : IntKind.wrap IntKind.u64 ((1 : Int) * (2 : Int) ^ (putN g t x s).toNat) = 2 ^ (putN g t x s).toNat := by rw [Int.one_mul]; exact wru (by omega) (by omega)
  have e8 : IntKind.wrap IntKind.u64 ((2 : Int) ^ (putN g t x s).toNat - 1) = 2 ^ (putN g t x s).toNat - 1 := wru (by omega) (by omega)
  have e9 : IntKind.wrap IntKind.u64 (putX g x / 2 ^ (putN g t x s).toNat - ((celT t s).length : Int)) = putX g x / 2 ^ (putN g t x s).toNat - ((celT t s).length : Int) := wru (by rw [hpn]; omega) (by rw [hpn]; omega)
  have e10 : IntKind.wrap IntKind.i64 (putX g x / 2 ^ (putN g t x s).toNat - ((celT t s).length : Int)) = putX g x / 2 ^ (putN g t x s).toNat - ((celT t s).length : Int) := wr (by rw [hpn]; omega) (by rw [hpn]; omega)
  have e11 : IntKind.wrap IntKind.i64 (bits BinOp.and IntKind.u64 (putX g x) ((2 : Int) ^ (putN g t x s).toNat - 1)) = putV g t x s := by
    obtain ⟨a, ha⟩ := Int.eq_ofNat_of_zero_le (show 0 ≤ putX g x by omega)
    rw [ha, and_powu a _ (by omega) (by omega), wr (by omega) (by have := Nat.mod_le a (2 ^ (putN g t x s).toNat); omega)]
    unfold putV
    rw [ha]
    push_cast
    rfl
  simp only [e7, e8, e9, e10, e11]
  refine ⟨ht, h0, by omega, by omega, by omega, by omega, ?_⟩
  refine ⟨⟨by omega, fun hc => ⟨(), trivial, ?_, (by first | rfl | trivial), (by first | rfl | trivial), (by first | rfl | trivial)⟩, fun hc => ⟨(), trivial, ?_, (by first | rfl | trivial), (by first | rfl | trivial), (by first | rfl | trivial)⟩⟩, fun _ _ => ?_⟩
  · rw [wr (by omega) (by omega)]
    show _ = nbI _ _
    unfold nbI
    rw [hc]; rfl
  · show _ = nbI _ _
    unfold nbI
    rw [hc]; rfl
  · refine ⟨by omega, by rw [hpn]; omega, by rw [hpn]; omega, by omega, rfl, (by first | rfl | trivial), (by first | rfl | trivial)⟩
theorem stE_out {g : Int} {t : List (List Int)} {x s : Int} (h : x < 0 ∨ (szN g : Int) ≤ x) : stE g t x s = 2 := by
  unfold stE
  have : (decide (x < 0) || decide ((szN g : Int) ≤ x)) = true := by simpa using h
  rw [this]; rfl
theorem stE_in {g : Int} {t : List (List Int)} {x s : Int} (h0 : 0 ≤ x) (h1 : x < (szN g : Int)) : stE g t x s = celM t s := by
  unfold stE
  rw [decide_eq_false (by omega), decide_eq_false (by omega)]
  rfl
theorem fr_bad {g : Int} {t : List (List Int)} {s : Int} (h : (echk g t != (0 : Int)) = true) : frE g t s = echk g t ∧ frI g t s = 0 := by
  have e : frE g t s = echk g t := by unfold frE; rw [ne0 h]; rfl
  refine ⟨e, ?_⟩
  unfold frI
  rw [e, ne0 h]; rfl
theorem fr_none {g : Int} {t : List (List Int)} {s : Int} (h : echk g t = 0) (h2 : (celT t s).length = 0) : frE g t s = 7 ∧ frI g t s = 0 := by
  have e : frE g t s = 7 := by unfold frE; rw [beq0 h, cond_true, celM_out h2]
  refine ⟨e, ?_⟩
  unfold frI
  rw [e]; rfl
theorem fr_good {g : Int} {t : List (List Int)} {s : Int} (h : echk g t = 0) (h2 : (celT t s).length ≠ 0) : frE g t s = 0 ∧ frI g t s = (celT t s).getD 0 0 := by
  have e : frE g t s = 0 := by unfold frE; rw [beq0 h, cond_true, celM_in h2]
  refine ⟨e, ?_⟩
  unfold frI
  rw [beq0 e]; rfl
theorem len0 {n : Nat} (h : ((n : Int) == 0) = true) : n = 0 := by
  have : (n : Int) = 0 := by simpa using h
  omega
theorem len1 {n : Nat} (h : ((n : Int) == 0) = false) : n ≠ 0 := by
  intro e
  subst e
  cases h
theorem firE_v (g : Int) (t : List (List Int)) (s : Int) (ht : t.length ≤ 4294967296) (hl : litT g t = true) : firE_t g t s := by
  unfold firE_t
  refine ⟨ht, hl, fun h => ⟨(fr_bad h).2.symm, (fr_bad h).1.symm⟩, fun h => ⟨ht, fun h2 => ?_, fun h2 => ?_⟩⟩
  · exact ⟨(fr_none (eq0 h) (len0 h2)).2.symm, (fr_none (eq0 h) (len0 h2)).1.symm⟩
  · have hp := len1 h2
    exact ⟨by omega, by omega, (fr_good (eq0 h) hp).2.symm, (fr_good (eq0 h) hp).1.symm⟩
theorem pu_bad {g : Int} {t : List (List Int)} {x s : Int} (h : puE g t x s ≠ 0) : puS g t x s = 0 ∧ puB g t x s = 0 ∧ puV g t x s = 0 := by
  have : (puE g t x s == 0) = false := by simpa using h
  unfold puS puB puV
  rw [this]
  exact ⟨rfl, rfl, rfl⟩
theorem pu_good {g : Int} {t : List (List Int)} {x s : Int} (h : puE g t x s = 0) : puS g t x s = putS g t x s ∧ puB g t x s = putN g t x s ∧ puV g t x s = putV g t x s := by
  unfold puS puB puV
  rw [beq0 h]
  exact ⟨rfl, rfl, rfl⟩
theorem puE_chk {g : Int} {t : List (List Int)} {x s : Int} (h : (echk g t != (0 : Int)) = true) : puE g t x s = echk g t := by unfold puE; rw [ne0 h]; rfl
theorem puE_st {g : Int} {t : List (List Int)} {x s : Int} (h : echk g t = 0) : puE g t x s = stE g t x s := by unfold puE; rw [beq0 h]; rfl
theorem putEE_v (g : Int) (t : List (List Int)) (x s : Int) (ht : t.length ≤ 4294967296) (hl : litT g t = true) : putEE_t g t x s := by
  unfold putEE_t
  refine ⟨ht, hl, fun h => ?_, fun h => ?_⟩
  · have e := puE_chk (x := x) (s := s) h
    obtain ⟨k1, k2, k3⟩ := pu_bad (g := g) (t := t) (x := x) (s := s) (by rw [e]; simpa using h)
    exact ⟨k1.symm, k2.symm, k3.symm, e.symm⟩
  have h := eq0 h
  have ht0 := echk0 h
  have hg0 := ht0.g0
  have hg12 := ht0.g12
  have e := puE_st (x := x) (s := s) h
  simp only [wu0 hg0 hg12, sz_wrap0 hg0 hg12]
  refine ⟨fun h2 => ?_, fun h2 => ⟨hg0, fun h3 => ?_, fun h3 => ⟨ht, fun h4 => ?_, fun h4 => ?_⟩⟩⟩
  · rw [stE_out (.inl (show x < 0 by simpa using h2))] at e
    obtain ⟨k1, k2, k3⟩ := pu_bad (g := g) (t := t) (x := x) (s := s) (by rw [e]; decide)
    exact ⟨k1.symm, k2.symm, k3.symm, e.symm⟩
  · rw [stE_out (.inr (show (szN g : Int) ≤ x by simpa using h3))] at e
    obtain ⟨k1, k2, k3⟩ := pu_bad (g := g) (t := t) (x := x) (s := s) (by rw [e]; decide)
    exact ⟨k1.symm, k2.symm, k3.symm, e.symm⟩
  · have h2 : ¬ x < 0 := by simpa using h2
    have h3 : ¬ x ≥ (szN g : Int) := by simpa using h3
    rw [stE_in (by omega) (by omega), celM_out (len0 h4)] at e
    obtain ⟨k1, k2, k3⟩ := pu_bad (g := g) (t := t) (x := x) (s := s) (by rw [e]; decide)
    exact ⟨k1.symm, k2.symm, k3.symm, e.symm⟩
  · have h2 : ¬ x < 0 := by simpa using h2
    have h3 : ¬ x ≥ (szN g : Int) := by simpa using h3
    have hp := len1 h4
    rw [stE_in (by omega) (by omega), celM_in hp] at e
    obtain ⟨k1, k2, k3⟩ := pu_good (g := g) (t := t) (x := x) (s := s) e
    refine ⟨hg0, hg12, ht, by omega, by omega, ?_, ht0.cel_le s, k1.symm, k2.symm, k3.symm, e.symm⟩
    cases hb : noC t s
    · rfl
    · exact absurd (noC_iff.1 hb) hp
theorem backE_v (l : List Int) (h0 : l.length ≤ 4294967296) (l0 : Nat) : backE_t l l0 := by
  unfold backE_t
  refine ⟨(), 0, Nat.zero_le _, rfl, ⟨rfl, by rw [wr (by omega) (by omega)]; simp, rfl⟩, fun k hk => ⟨fun hlt => ?_, fun hge => ?_⟩⟩
  · have hlt : (l.length : Int) - 1 - k ≥ 0 := by simpa using hlt
    have e1 : ((l.length : Int) - 1 - k).toNat = l.length - 1 - k := by omega
    rw [nle] at hk
    refine ⟨by omega, by omega, rfl, ?_, ⟨k + 1, by rw [nle]; omega, rfl, by rw [Nat.sub_eq, Nat.sub_eq]; omega, rfl, ?_, rfl⟩, trivial⟩
    · rw [e1, List.getElem?_map, List.getElem?_reverse (by omega), List.getD_eq_getElem?_getD, List.getElem?_eq_getElem (by omega)]
      rfl
    · rw [wr (by omega) (by omega)]; push_cast; omega
  · have hge : ¬ (l.length : Int) - 1 - k ≥ 0 := by simpa using hge
    rw [nle] at hk
    simp
    omega
end Go.Proofs.Ytbdgknebimdjoaa
namespace Go.Proofs.Ytbdgknebimdjoaa
open Go
set_option linter.unusedVariables false
set_option maxRecDepth 100000
def exD : List Int := [16, 8, 8]
def exT : List (List Int) := encL 5 exD
def bitB (x s w : Int) : Bool := cond (puE 5 exT x s == 0) (puB 5 exT x s == w) false
def bkV (l : List Int) : List (List Value) := l.reverse.map fun x => [.int .i64 x]
end Go.Proofs.Ytbdgknebimdjoaa
namespace Go.Proofs.Ytbdgknebimdjoaa
open Go Go.RowKit
set_option linter.unusedVariables false
set_option linter.unusedSimpArgs false
set_option maxRecDepth 100000
def sNo : Spec where
  ι := Int × Int × List (List Int)
  dec l H := match l with
    | [.v (.int .i64 s), .p l0 0 0] => match H l0 with
      | some (.cells 83 [.v (.int .i64 g), .dat (.lists t)]) => some ((s, g, t), [l0])
      | _ => none
    | _ => none
  args := fun (s, g, t) => [.v (.int .i64 s), .p 0 0 0]
  hp := fun (s, g, t) => [(0, .cells 83 [.v (.int .i64 g), .dat (.lists t)])]
  pre := fun (s, g, t) => [⟨t.length ≤ 4294967296, inferInstance⟩]
  out := fun (s, g, t) => .leaf (.v (.bool (noC t s))) [(0, .cells 83 [.v (.int .i64 g), .dat (.lists t)])]
theorem sNo_enc : ∀ l H n i ls, sNo.dec l H = some (i, ls) → l = renL (rho ls n) (sNo.args i) ∧ givenHp H ls = renH (rho ls n) (sNo.hp i) := by
  intro l H n i ls h
  simp only [sNo] at h
  repeat' split at h
  all_goals first
    | (cases h; done)
    | (cases h; exact ⟨rfl, rfl⟩)
    | (cases h; refine ⟨rfl, ?_⟩; simp only [givenHp, List.filterMap_cons, List.filterMap_nil, Option.map, *]; rfl)
def sIdxE : Spec where
  ι := List Int × Int × List (List Int)
  dec l H := match l with
    | [.dat (.ints .i64 l), .fn (.func 64) [] [.p l0 0 0]] => match H l0 with
      | some (.cells 83 [.v (.int .i64 g), .dat (.lists t)]) => some ((l, g, t), [l0])
      | _ => none
    | _ => none
  args := fun (l, g, t) => [.dat (.ints .i64 l), .fn (.func 64) [] [.p 0 0 0]]
  hp := fun (l, g, t) => [(0, .cells 83 [.v (.int .i64 g), .dat (.lists t)])]
  pre := fun (l, g, t) => [⟨l.length ≤ 4294967296, inferInstance⟩, ⟨t.length ≤ 4294967296, inferInstance⟩]
  out := fun (l, g, t) => .leaf (.v (.int .i64 (cond (l.any (noC t)) ((l.findIdx (noC t) : Nat) : Int) (-1)))) [(0, .cells 83 [.v (.int .i64 g), .dat (.lists t)])]
theorem sIdxE_enc : ∀ l H n i ls, sIdxE.dec l H = some (i, ls) → l = renL (rho ls n) (sIdxE.args i) ∧ givenHp H ls = renH (rho ls n) (sIdxE.hp i) := by
  intro l H n i ls h
  simp only [sIdxE] at h
  repeat' split at h
  all_goals first
    | (cases h; done)
    | (cases h; exact ⟨rfl, rfl⟩)
    | (cases h; refine ⟨rfl, ?_⟩; simp only [givenHp, List.filterMap_cons, List.filterMap_nil, Option.map, *]; rfl)
def sHasE : Spec where
  ι := List Int × Int × List (List Int)
  dec l H := match l with
    | [.dat (.ints .i64 l), .fn (.func 64) [] [.p l0 0 0]] => match H l0 with
      | some (.cells 83 [.v (.int .i64 g), .dat (.lists t)]) => some ((l, g, t), [l0])
      | _ => none
    | _ => none
  args := fun (l, g, t) => [.dat (.ints .i64 l), .fn (.func 64) [] [.p 0 0 0]]
  hp := fun (l, g, t) => [(0, .cells 83 [.v (.int .i64 g), .dat (.lists t)])]
  pre := fun (l, g, t) => [⟨l.length ≤ 4294967296, inferInstance⟩, ⟨t.length ≤ 4294967296, inferInstance⟩]
  out := fun (l, g, t) => .leaf (.v (.bool (l.any (noC t)))) [(0, .cells 83 [.v (.int .i64 g), .dat (.lists t)])]
theorem sHasE_enc : ∀ l H n i ls, sHasE.dec l H = some (i, ls) → l = renL (rho ls n) (sHasE.args i) ∧ givenHp H ls = renH (rho ls n) (sHasE.hp i) := by
  intro l H n i ls h
  simp only [sHasE] at h
  repeat' split at h
  all_goals first
    | (cases h; done)
    | (cases h; exact ⟨rfl, rfl⟩)
    | (cases h; refine ⟨rfl, ?_⟩; simp only [givenHp, List.filterMap_cons, List.filterMap_nil, Option.map, *]; rfl)
def sBack : Spec where
  ι := List Int
  dec l H := match l with
    | [.dat (.ints .i64 l)] => some (l, [])
    | _ => none
  args := fun l => [.dat (.ints .i64 l)]
  out := fun l => .leaf (.fn (.func 100) [] [.p 2000 0 0]) [(2000, .cells 22 [.dat (.ints .i64 l)])]
theorem sBack_enc : ∀ l H n i ls, sBack.dec l H = some (i, ls) → l = renL (rho ls n) (sBack.args i) ∧ givenHp H ls = renH (rho ls n) (sBack.hp i) := by
  intro l H n i ls h
  simp only [sBack] at h
  repeat' split at h
  all_goals first
    | (cases h; done)
    | (cases h; exact ⟨rfl, rfl⟩)
def sEx : Spec where
  ι := Unit
  dec l H := match l with
    | [] => some ((), [])
    | _ => none
  args := fun _ => []
  out := fun _ => .leaf (.tu [.ag [.v (.int .i64 5), .dat (.lists exT)], .v (.int .i64 0)]) []
theorem sEx_enc : ∀ l H n i ls, sEx.dec l H = some (i, ls) → l = renL (rho ls n) (sEx.args i) ∧ givenHp H ls = renH (rho ls n) (sEx.hp i) := by
  intro l H n i ls h
  simp only [sEx] at h
  repeat' split at h
  all_goals first
    | (cases h; done)
    | (cases h; exact ⟨rfl, rfl⟩)
def sBitB : Spec where
  ι := Int × Int × Int
  dec l H := match l with
    | [.v (.int .i64 x), .v (.int .i64 s), .v (.int .i64 w)] => some ((x, s, w), [])
    | _ => none
  args := fun (x, s, w) => [.v (.int .i64 x), .v (.int .i64 s), .v (.int .i64 w)]
  out := fun (x, s, w) => .leaf (.v (.bool (bitB x s w))) []
theorem sBitB_enc : ∀ l H n i ls, sBitB.dec l H = some (i, ls) → l = renL (rho ls n) (sBitB.args i) ∧ givenHp H ls = renH (rho ls n) (sBitB.hp i) := by
  intro l H n i ls h
  simp only [sBitB] at h
  repeat' split at h
  all_goals first
    | (cases h; done)
    | (cases h; exact ⟨rfl, rfl⟩)
def sAwake : Spec where
  ι := Unit
  dec l H := match l with
    | [] => some ((), [])
    | _ => none
  args := fun _ => []
  out := fun _ => .leaf (.v (.bool true)) []
theorem sAwake_enc : ∀ l H n i ls, sAwake.dec l H = some (i, ls) → l = renL (rho ls n) (sAwake.args i) ∧ givenHp H ls = renH (rho ls n) (sAwake.hp i) := by
  intro l H n i ls h
  simp only [sAwake] at h
  repeat' split at h
  all_goals first
    | (cases h; done)
    | (cases h; exact ⟨rfl, rfl⟩)
def rRun2 (g : Int) (t : List (List Int)) (l : List Int) : RngInv := { rRun g t l with xs := bkV l.dropLast }
def oRunP (g : Int) (t : List (List Int)) (l : List Int) : Nat → Option LoopFam := fun k => cond (Nat.beq k 0) (some (.rng Nat fun _ => rRun2 g t l)) none
def GEh : List (Nat × Ctr) := (64, sNo.ctr) :: (67, sBack.ctr) :: (21, sEx.ctr) :: GEg
def GEi : List (Nat × Ctr) := (98, sIdxE.ctr) :: (22, sBitB.ctr) :: GEh
def GEj : List (Nat × Ctr) := (63, sHasE.ctr) :: (15, sAwake.ctr) :: GEi
def GEk : List (Nat × Ctr) := (23, sRun.ctr) :: GEj
end Go.Proofs.Ytbdgknebimdjoaa
namespace Go.Proofs.Ytbdgknebimdjoaa
open Go Go.RowKit
set_option linter.unusedVariables false
set_option maxRecDepth 100000
def noE_t (s g : Int) (t : List (List Int)) : Prop :=
 List.length t ≤ (4294967296 : Nat) ∧ ((↑(List.length (celT t s)) : Int) == (0 : Int)) = noC t s ∧ g = g ∧ t = t
theorem noE_e (s g : Int) (t : List (List Int)) : noE_t s g t = vcG Try.prog (Gof GEg) (fun _ => none) Try.f64 [.v (.int .i64 s), .p 0 0 0] [(0, .cells 83 [.v (.int .i64 g), .dat (.lists t)])] (.leaf ((.v (.bool (noC t s)))) ([(0, .cells 83 [.v (.int .i64 g), .dat (.lists t)])])) := by kernel_rfl
def bckE_t (l : List Int) : Prop :=
 l = l
theorem bckE_e (l : List Int) : bckE_t l = vcG Try.prog (Gof GEg) (fun _ => none) Try.f67 [.dat (.ints .i64 l)] [] (.leaf ((.fn (.func 100) [] [.p 2000 0 0])) ([(2000, .cells 22 [.dat (.ints .i64 l)])])) := by kernel_rfl
def exE_t  : Prop :=
 List.length [(16 : Int), (8 : Int), (8 : Int)] ≤ (4294967296 : Nat) ∧
 encG (5 : Int) [(16 : Int), (8 : Int), (8 : Int)] = (5 : Int) ∧ encL (5 : Int) [(16 : Int), (8 : Int), (8 : Int)] = exT ∧ dchk (5 : Int) [(16 : Int), (8 : Int), (8 : Int)] = (0 : Int)
theorem exE_e  : exE_t  = vcG Try.prog (Gof GEg) (fun _ => none) Try.f21 [] [] (.leaf ((.tu [.ag [.v (.int .i64 5), .dat (.lists exT)], .v (.int .i64 0)])) ([])) := by kernel_rfl
def idxE_t (l : List Int) (g : Int) (t : List (List Int)) : Prop :=
 (∃ (x0 : Nat), (x0 ≤ List.length l ∧ List.any (List.take x0 l) (noC t) = false) ∧ l = l ∧ (↑(List.length l) : Int) = (↑(List.length l) : Int) ∧ (0 : Int) = (↑x0 : Int) ∧ g = g ∧ t = t) ∧
 ∀ (x1 : Nat),
 x1 ≤ List.length l ∧ List.any (List.take x1 l) (noC t) = false →
 (decide ((↑x1 : Int) < (↑(List.length l) : Int)) = true →
 (0 : Int) ≤ (↑x1 : Int) ∧
 (↑x1 : Int) < (↑(List.length l) : Int) ∧
 List.length t ≤ (4294967296 : Nat) ∧
 (noC t (List.getD l (Int.toNat (↑x1 : Int)) (0 : Int)) = true → ((↑x1 : Int) = bif List.any l (noC t) then (↑(List.findIdx (noC t) l) : Int) else (-1 : Int)) ∧ g = g ∧ t = t) ∧
 (noC t (List.getD l (Int.toNat (↑x1 : Int)) (0 : Int)) = false →
 ∃ (y2 : Nat),
 (y2 ≤ List.length l ∧ List.any (List.take y2 l) (noC t) = false) ∧
 Nat.sub (List.length l) y2 < Nat.sub (List.length l) x1 ∧
 l = l ∧ (↑(List.length l) : Int) = (↑(List.length l) : Int) ∧ IntKind.wrap IntKind.i64 ((↑x1 : Int) + (1 : Int)) = (↑y2 : Int) ∧ g = g ∧ t = t)) ∧
 (decide ((↑x1 : Int) < (↑(List.length l) : Int)) = false → ((-1 : Int) = bif List.any l (noC t) then (↑(List.findIdx (noC t) l) : Int) else (-1 : Int)) ∧ g = g ∧ t = t)
theorem idxE_e (l : List Int) (g : Int) (t : List (List Int)) : idxE_t l g t = vcG Try.prog (Gof GEh) (one (oIdxE g t l)) Try.f98 [.dat (.ints .i64 l), .fn (.func 64) [] [.p 0 0 0]] [(0, .cells 83 [.v (.int .i64 g), .dat (.lists t)])] (.leaf ((.v (.int .i64 (cond (l.any (noC t)) ((l.findIdx (noC t) : Nat) : Int) (-1))))) ([(0, .cells 83 [.v (.int .i64 g), .dat (.lists t)])])) := by kernel_rfl
def bitE_t (x s w : Int) : Prop :=
 List.length exT ≤ (4294967296 : Nat) ∧
 litT (5 : Int) exT = true ∧
 (((0 : Int) == (0 : Int)) = true →
 ((puE (5 : Int) exT x s == (0 : Int)) = true → (puB (5 : Int) exT x s == w) = bitB x s w) ∧ ((puE (5 : Int) exT x s == (0 : Int)) = false → false = bitB x s w)) ∧
 (((0 : Int) == (0 : Int)) = false → false = bitB x s w)
theorem bitE_e (x s w : Int) : bitE_t x s w = vcG Try.prog (Gof GEh) (fun _ => none) Try.f22 [.v (.int .i64 x), .v (.int .i64 s), .v (.int .i64 w)] [] (.leaf ((.v (.bool (bitB x s w)))) ([])) := by kernel_rfl
def hasE_t (l : List Int) (g : Int) (t : List (List Int)) : Prop :=
 List.length l ≤ (4294967296 : Nat) ∧
 List.length t ≤ (4294967296 : Nat) ∧ decide ((bif List.any l (noC t) then (↑(List.findIdx (noC t) l) : Int) else (-1 : Int)) ≥ (0 : Int)) = List.any l (noC t) ∧ g = g ∧ t = t
theorem hasE_e (l : List Int) (g : Int) (t : List (List Int)) : hasE_t l g t = vcG Try.prog (Gof GEi) (fun _ => none) Try.f63 [.dat (.ints .i64 l), .fn (.func 64) [] [.p 0 0 0]] [(0, .cells 83 [.v (.int .i64 g), .dat (.lists t)])] (.leaf ((.v (.bool (l.any (noC t))))) ([(0, .cells 83 [.v (.int .i64 g), .dat (.lists t)])])) := by kernel_rfl
def awkE_t  : Prop :=
 (((0 : Int) == (0 : Int)) = true →
 (((5 : Int) == (5 : Int)) = true →
 (((↑(List.length exT) : Int) == (3 : Int)) = true →
 (0 : Int) ≤ (0 : Int) ∧
 (0 : Int) < (↑(List.length exT) : Int) ∧
 (((↑(List.length (List.getD exT (Int.toNat (0 : Int)) [])) : Int) == (16 : Int)) = true →
 (0 : Int) ≤ (1 : Int) ∧
 (1 : Int) < (↑(List.length exT) : Int) ∧
 (((↑(List.length (List.getD exT (Int.toNat (1 : Int)) [])) : Int) == (8 : Int)) = true →
 (0 : Int) ≤ (2 : Int) ∧
 (2 : Int) < (↑(List.length exT) : Int) ∧
 (((↑(List.length (List.getD exT (Int.toNat (2 : Int)) [])) : Int) == (8 : Int)) = true →
 (bitB (0 : Int) (0 : Int) (1 : Int) = true → bitB (0 : Int) (1 : Int) (2 : Int) = true) ∧ (bitB (0 : Int) (0 : Int) (1 : Int) = false → false = true)) ∧
 (((↑(List.length (List.getD exT (Int.toNat (2 : Int)) [])) : Int) == (8 : Int)) = false → false = true)) ∧
 (((↑(List.length (List.getD exT (Int.toNat (1 : Int)) [])) : Int) == (8 : Int)) = false → false = true)) ∧
 (((↑(List.length (List.getD exT (Int.toNat (0 : Int)) [])) : Int) == (16 : Int)) = false → false = true)) ∧
 (((↑(List.length exT) : Int) == (3 : Int)) = false → false = true)) ∧
 (((5 : Int) == (5 : Int)) = false → false = true)) ∧
 (((0 : Int) == (0 : Int)) = false → false = true)
theorem awkE_e  : awkE_t  = vcG Try.prog (Gof GEi) (fun _ => none) Try.f15 [] [] (.leaf ((.v (.bool true))) ([])) := by kernel_rfl
def runE_t (g : Int) (t : List (List Int)) (l : List Int) : Prop :=
 List.length t ≤ (4294967296 : Nat) ∧
 litT g t = true ∧
 ((echk g t != (0 : Int)) = true → (0 : Int) = ruS g t l ∧ (0 : Int) = ruN g t l ∧ echk g t = ruE g t l) ∧
 ((echk g t != (0 : Int)) = false →
 (decide ((↑(List.length l) : Int) > (100000 : Int)) = true → (0 : Int) = ruS g t l ∧ (0 : Int) = ruN g t l ∧ (2 : Int) = ruE g t l) ∧
 (decide ((↑(List.length l) : Int) > (100000 : Int)) = false →
 (((↑(List.length l) : Int) == (0 : Int)) = true → (0 : Int) = ruS g t l ∧ (0 : Int) = ruN g t l ∧ (7 : Int) = ruE g t l) ∧
 (((↑(List.length l) : Int) == (0 : Int)) = false →
 List.length l ≤ (4294967296 : Nat) ∧
 List.length t ≤ (4294967296 : Nat) ∧
 (List.any l (noC t) = true → (0 : Int) = ruS g t l ∧ (0 : Int) = ruN g t l ∧ (7 : Int) = ruE g t l) ∧
 (List.any l (noC t) = false →
 (0 : Int) ≤ IntKind.wrap IntKind.i64 ((↑(List.length l) : Int) - (1 : Int)) ∧
 IntKind.wrap IntKind.i64 ((↑(List.length l) : Int) - (1 : Int)) < (↑(List.length l) : Int) ∧
 List.length t ≤ (4294967296 : Nat) ∧
 (0 : Int) ≤ (0 : Int) ∧
 (0 : Int) < (↑(List.length (celT t (List.getD l (Int.toNat (IntKind.wrap IntKind.i64 ((↑(List.length l) : Int) - (1 : Int)))) (0 : Int)))) : Int) ∧
 (0 : Int) ≤ (0 : Int) ∧
 (0 : Int) ≤ IntKind.wrap IntKind.i64 ((↑(List.length l) : Int) - (1 : Int)) ∧
 IntKind.wrap IntKind.i64 ((↑(List.length l) : Int) - (1 : Int)) ≤ (↑(List.length l) : Int) ∧
 ∃ (y0 : Nat),
 ISat Try.prog ((100 : Nat)) [SV.p (1200040 : Nat) (0 : Nat) (0 : Nat)]
 [((1200040 : Nat), SBlk.cells (22 : TypeId) [SV.dat (Dat.ints IntKind.i64 (List.dropLast l))])]
 (List.map (fun (x : Int) => [Value.int IntKind.i64 x]) (List.reverse (List.dropLast l))) ∧
 List.take (Int.toNat (IntKind.wrap IntKind.i64 ((↑(List.length l) : Int) - (1 : Int))) - Int.toNat (0 : Int)) (List.drop (Int.toNat (0 : Int)) l) =
 List.dropLast l ∧
 ruE g t l = (0 : Int) ∧
 ((0 : Int) = (0 : Int) ∧
 List.getD (celT t (List.getD l (Int.toNat (IntKind.wrap IntKind.i64 ((↑(List.length l) : Int) - (1 : Int)))) (0 : Int))) (Int.toNat (0 : Int))
 (0 : Int) =
 (runL g t (List.drop (List.length l - (1 : Nat) - (0 : Nat)) l)).fst ∧
 (0 : Int) = (runL g t (List.drop (List.length l - (1 : Nat) - (0 : Nat)) l)).snd ∧ g = g ∧ t = t ∧ g = g ∧ t = t) ∧
 (∀ (i1 : Nat),
 i1 < List.length (List.map (fun (x : Int) => [Value.int IntKind.i64 x]) (List.reverse (List.dropLast l))) →
 ruE g t l = (0 : Int) →
 (List.map (fun (x : Int) => [Value.int IntKind.i64 x]) (List.reverse (List.dropLast l)))[i1]? =
 some [Value.int IntKind.i64 (List.getD l (List.length l - (2 : Nat) - i1) (0 : Int))] ∧
 List.length [Value.int IntKind.i64 (List.getD l (List.length l - (2 : Nat) - i1) (0 : Int))] = List.length #[(50 : Nat)].toList ∧
 (0 : Int) ≤ g ∧
 g ≤ (12 : Int) ∧
 List.length t ≤ (4294967296 : Nat) ∧
 (0 : Int) ≤ (runL g t (List.drop (List.length l - (1 : Nat) - i1) l)).fst ∧
 (runL g t (List.drop (List.length l - (1 : Nat) - i1) l)).fst < (↑(szN g) : Int) ∧
 noC t (List.getD l (List.length l - (2 : Nat) - i1) (0 : Int)) = false ∧
 List.length (celT t (List.getD l (List.length l - (2 : Nat) - i1) (0 : Int))) ≤ szN g ∧
 ruE g t l = (0 : Int) ∧
 putS g t (runL g t (List.drop (List.length l - (1 : Nat) - i1) l)).fst
 (List.getD l (List.length l - (2 : Nat) - i1) (0 : Int)) =
 (runL g t (List.drop (List.length l - (1 : Nat) - (i1 + (1 : Nat))) l)).fst ∧
 IntKind.wrap IntKind.i64
 ((runL g t (List.drop (List.length l - (1 : Nat) - i1) l)).snd +
 putN g t (runL g t (List.drop (List.length l - (1 : Nat) - i1) l)).fst
 (List.getD l (List.length l - (2 : Nat) - i1) (0 : Int))) =
 (runL g t (List.drop (List.length l - (1 : Nat) - (i1 + (1 : Nat))) l)).snd ∧
 g = g ∧ t = t ∧ g = g ∧ t = t) ∧
 (ruE g t l = (0 : Int) →
 (runL g t
 (List.drop
 (List.length l - (1 : Nat) - List.length (List.map (fun (x : Int) => [Value.int IntKind.i64 x]) (List.reverse (List.dropLast l))))
 l)).fst =
 ruS g t l ∧
 (runL g t
 (List.drop
 (List.length l - (1 : Nat) - List.length (List.map (fun (x : Int) => [Value.int IntKind.i64 x]) (List.reverse (List.dropLast l))))
 l)).snd =
 ruN g t l ∧
 (0 : Int) = ruE g t l)))))
theorem runE_e (g : Int) (t : List (List Int)) (l : List Int) : runE_t g t l = vcG Try.prog (Gof GEj) (oRunP g t l) Try.f23 [.ag [.v (.int .i64 g), .dat (.lists t)], .dat (.ints .i64 l)] [] (.leaf ((.tu [.v (.int .i64 (ruS g t l)), .v (.int .i64 (ruN g t l)), .v (.int .i64 (ruE g t l))])) ([])) := by kernel_rfl
end Go.Proofs.Ytbdgknebimdjoaa
namespace Go.Proofs.Ytbdgknebimdjoaa
open Go Go.RowKit
set_option linter.unusedVariables false
set_option linter.unusedSimpArgs false
set_option maxRecDepth 100000
theorem encE_sound : Sound Try.prog 16 sEnc.ctr := sEnc.sound (by kernel_rfl) sEnc_enc fun ⟨g, l⟩ hc => by
  have h0 := hc _ (.head _)
  exact satG GEd_ok mixed Try.func16 (encE_e g l) (encE_v g l h0)
theorem sortedE_sound : Sound Try.prog 68 sSorted.ctr := sSorted.sound (by kernel_rfl) sSorted_enc fun l hc => by
  have h0 := hc _ (.head _)
  exact satG GEd_ok mixed Try.func68 (sortedE_e l) (sortedE_v l h0)
theorem cutE_sound : Sound Try.prog 70 sCut.ctr := sCut.sound (by kernel_rfl) sCut_enc fun t hc => by
  have h0 := hc _ (.head _)
  have h1 := hc _ (.tail _ (.head _))
  exact satG GEd_ok mixed Try.func70 (cutE_e t) (cutE_v t h0 h1)
theorem gatherE_sound : Sound Try.prog 69 sGather.ctr := sGather.sound (by kernel_rfl) sGather_enc fun t hc => by
  have h0 := hc _ (.head _)
  have h1 := hc _ (.tail _ (.head _))
  exact satG GEd_ok mixed Try.func69 (gatherE_e t) (gatherE_v t h0 h1)
theorem celsE_sound : Sound Try.prog 65 sCells.ctr := sCells.sound (by kernel_rfl) sCells_enc fun ⟨g, t, s⟩ hc => by
  have h0 := hc _ (.head _)
  exact satG GEd_ok mixed Try.func65 (celsE_e g t s) (celsE_v g t s)
theorem GEe_ok : AllOk Try.prog GEe := .cons encE_sound <| .cons sortedE_sound <| .cons cutE_sound <| .cons gatherE_sound <| .cons sortI_sound <| .cons len_sound <| .cons celsE_sound <| GEd_ok
theorem chkE_sound : Sound Try.prog 26 sChkT.ctr := sChkT.sound (by kernel_rfl) sChkT_enc fun ⟨g, t⟩ hc => by
  have h0 := hc _ (.head _)
  have h1 := hc _ (.tail _ (.head _))
  exact satG GEe_ok mixed Try.func26 (chkE_e g t) (chkE_v g t h0 h1)
theorem putE_sound : Sound Try.prog 66 sPut.ctr := sPut.sound (by kernel_rfl) sPut_enc fun ⟨g, t, x, s⟩ hc => by
  have h0 := hc _ (.head _)
  have h1 := hc _ (.tail _ (.head _))
  have h2 := hc _ (.tail _ (.tail _ (.head _)))
  have h3 := hc _ (.tail _ (.tail _ (.tail _ (.head _))))
  have h4 := hc _ (.tail _ (.tail _ (.tail _ (.tail _ (.head _)))))
  have h5 := hc _ (.tail _ (.tail _ (.tail _ (.tail _ (.tail _ (.head _))))))
  have h6 := hc _ (.tail _ (.tail _ (.tail _ (.tail _ (.tail _ (.tail _ (.head _)))))))
  exact satG GEe_ok mixed Try.func66 (putE_e g t x s) (putE_v g t x s h0 h1 h2 h3 h4 h5 h6)
theorem GEf_ok : AllOk Try.prog GEf := .cons chkE_sound <| .cons putE_sound <| GEe_ok
theorem firE_sound : Sound Try.prog 25 sFirst.ctr := sFirst.sound (by kernel_rfl) sFirst_enc fun ⟨g, t, s⟩ hc => by
  have h0 := hc _ (.head _)
  have h1 := hc _ (.tail _ (.head _))
  exact satG GEf_ok mixed Try.func25 (firE_e g t s) (firE_v g t s h0 h1)
theorem putEE_sound : Sound Try.prog 24 sPutE.ctr := sPutE.sound (by kernel_rfl) sPutE_enc fun ⟨g, t, x, s⟩ hc => by
  have h0 := hc _ (.head _)
  have h1 := hc _ (.tail _ (.head _))
  exact satG GEf_ok mixed Try.func24 (putEE_e g t x s) (putEE_v g t x s h0 h1)
theorem GEg_ok : AllOk Try.prog GEg := .cons firE_sound <| .cons putEE_sound <| GEf_ok
theorem int_nat0 (n : Nat) : ((n : Int) == 0) = Nat.beq n 0 := by
  cases n with
  | zero => rfl
  | succ n => exact beq_eq_false_iff_ne.2 (by omega)
theorem noE_v (s g : Int) (t : List (List Int)) (h : t.length ≤ 4294967296) : noE_t s g t := by
  exact ⟨h, int_nat0 _, rfl, rfl⟩
theorem bckE_v (l : List Int) : bckE_t l := rfl
theorem exE_v : exE_t := by
  unfold exE_t
  decide +kernel
theorem findIdx_at (p : Int → Bool) : ∀ (l : List Int) (i : Nat), i < l.length → (l.take i).any p = false → p (l.getD i 0) = true → l.any p = true ∧ l.findIdx p = i
  | [], i, h, _, _ => by simp at h
  | x :: r, 0, _, _, hp => by
    have hp : p x = true := hp
    exact ⟨by simp [hp], by rw [List.findIdx_cons, hp]; rfl⟩
  | x :: r, i + 1, h, ht, hp => by
    simp only [List.take_succ_cons, List.any_cons, Bool.or_eq_false_iff] at ht
    obtain ⟨h1, h2⟩ := findIdx_at p r i (by simpa using h) ht.2 (by simpa using hp)
    exact ⟨by simp [h1], by rw [List.findIdx_cons, ht.1, h2]; rfl⟩
theorem idxE_v (l : List Int) (g : Int) (t : List (List Int)) (h0 : l.length ≤ 4294967296) (h1 : t.length ≤ 4294967296) : idxE_t l g t := by
  unfold idxE_t
  refine ⟨⟨0, ⟨by omega, rfl⟩, rfl, rfl, rfl, rfl, rfl⟩, fun i ⟨hi, ha⟩ => ⟨fun hlt => ?_, fun hge => ?_⟩⟩
  · have hlt : i < l.length := by simpa using hlt
    simp only [toNat_cast]
    refine ⟨by omega, by omega, h1, fun hn => ?_, fun hn => ?_⟩
    · obtain ⟨k1, k2⟩ := findIdx_at (noC t) l i hlt ha hn
      rw [k1, k2]
      exact ⟨rfl, (by first | rfl | trivial), (by first | rfl | trivial)⟩
    · refine ⟨i + 1, ⟨by omega, ?_⟩, by rw [Nat.sub_eq, Nat.sub_eq]; omega, (by first | rfl | trivial), (by first | rfl | trivial), by rw [wr (by omega) (by omega)]; rfl, (by first | rfl | trivial), (by first | rfl | trivial)⟩
      rw [take_succ l 0 hlt, List.any_append, ha]
      simp only [List.any_cons, List.any_nil, hn]
      rfl
  · have : i = l.length := by simp only [decide_eq_false_iff_not] at hge; omega
    subst this
    rw [List.take_length] at ha
    rw [ha]
    exact ⟨rfl, rfl, rfl⟩
theorem hasE_v (l : List Int) (g : Int) (t : List (List Int)) (h0 : l.length ≤ 4294967296) (h1 : t.length ≤ 4294967296) : hasE_t l g t := by
  unfold hasE_t
  refine ⟨h0, h1, ?_, rfl, rfl⟩
  cases l.any (noC t)
  · rfl
  · rw [cond_true]; exact decide_eq_true (by omega)
theorem bitE_v (x s w : Int) : bitE_t x s w := by
  unfold bitE_t
  refine ⟨by decide +kernel, by decide +kernel, fun _ => ⟨fun h => ?_, fun h => ?_⟩, fun h => by cases h⟩
  · unfold bitB; rw [h]; rfl
  · unfold bitB; rw [h]; rfl
theorem awkE_v : awkE_t := by
  unfold awkE_t
  decide +kernel
theorem noE_sound : Sound Try.prog 64 sNo.ctr := sNo.sound (by kernel_rfl) sNo_enc fun ⟨s, g, t⟩ hc => by
  have h0 := hc _ (.head _)
  exact satG GEg_ok mixed Try.func64 (noE_e s g t) (noE_v s g t h0)
theorem bckE_sound : Sound Try.prog 67 sBack.ctr := sBack.sound (by kernel_rfl) sBack_enc fun l hc => by
  exact satG GEg_ok mixed Try.func67 (bckE_e l) (bckE_v l)
theorem exE_sound : Sound Try.prog 21 sEx.ctr := sEx.sound (by kernel_rfl) sEx_enc fun _ hc => by
  exact satG GEg_ok mixed Try.func21 (exE_e ) (exE_v)
theorem GEh_ok : AllOk Try.prog GEh := .cons noE_sound <| .cons bckE_sound <| .cons exE_sound <| GEg_ok
theorem idxE_sound : Sound Try.prog 98 sIdxE.ctr := sIdxE.sound (by kernel_rfl) sIdxE_enc fun ⟨l, g, t⟩ hc => by
  have h0 := hc _ (.head _)
  have h1 := hc _ (.tail _ (.head _))
  exact satG GEh_ok mixed Try.func98 (idxE_e l g t) (idxE_v l g t h0 h1)
theorem bitE_sound : Sound Try.prog 22 sBitB.ctr := sBitB.sound (by kernel_rfl) sBitB_enc fun ⟨x, s, w⟩ hc => by
  exact satG GEh_ok mixed Try.func22 (bitE_e x s w) (bitE_v x s w)
theorem GEi_ok : AllOk Try.prog GEi := .cons idxE_sound <| .cons bitE_sound <| GEh_ok
theorem hasE_sound : Sound Try.prog 63 sHasE.ctr := sHasE.sound (by kernel_rfl) sHasE_enc fun ⟨l, g, t⟩ hc => by
  have h0 := hc _ (.head _)
  have h1 := hc _ (.tail _ (.head _))
  exact satG GEi_ok mixed Try.func63 (hasE_e l g t) (hasE_v l g t h0 h1)
theorem awkE_sound : Sound Try.prog 15 sAwake.ctr := sAwake.sound (by kernel_rfl) sAwake_enc fun _ hc => by
  exact satG GEi_ok mixed Try.func15 (awkE_e ) (awkE_v)
theorem GEj_ok : AllOk Try.prog GEj := .cons hasE_sound <| .cons awkE_sound <| GEi_ok
theorem back_isat (k : Nat) (l : List Int) (h0 : l.length ≤ 4294967296) : ISat Try.prog 100 [.p k 0 0] [(k, .cells 22 [.dat (.ints .i64 l)])] (l.reverse.map fun x => [.int .i64 x]) := by
  have h0 : ISat Try.prog 100 [.p 0 0 0] [(0, .cells 22 [.dat (.ints .i64 l)])] (l.reverse.map fun x => [.int .i64 x]) :=
    isat_of_vcI (Ωi := fun l0 => oBackF l0 l) AllOk.nil mixed Try.func100 (by kernel_rfl) fun l0 => by
      have := backE_v l h0 l0
      rw [backE_e] at this
      exact this
  exact h0.ren (fun i => k + i) (by intro a b _ _ e; omega) rfl rfl
theorem cel_any {g : Int} {t : List (List Int)} (h : TOk g t) (s : Int) (k : Nat) : 0 ≤ (celT t s).getD k 0 ∧ (celT t s).getD k 0 < (szN g : Int) := by
  by_cases hk : k < (celT t s).length
  · exact h.cel_rng hk
  · rw [List.getD_eq_getElem?_getD, List.getElem?_eq_none (by omega)]
    have := szN_pos g
    exact ⟨Int.le_refl _, by simp only [Option.getD_none]; omega⟩
theorem put_bd {g : Int} {t : List (List Int)} (h : TOk g t) {x s : Int} (hx0 : 0 ≤ x) (hx1 : x < (szN g : Int)) (hn : noC t s = false) : 0 ≤ putN g t x s ∧ putN g t x s ≤ 13 := by
  have hs := stpN h.g0 h.g12 hx0 hx1 hn (h.cel_le s)
  have h1 := hs.nb.n0
  have h2 := hs.nb.nle
  have h3 := hs.h0
  have h4 := hs.hX
  unfold putN
  omega
theorem run_one (g : Int) (t : List (List Int)) (s : Int) : runL g t [s] = ((celT t s).getD 0 0, 0) := rfl
theorem run_cons (g : Int) (t : List (List Int)) (s : Int) {r : List Int} (h : r ≠ []) : runL g t (s :: r) = (putS g t (runL g t r).1 s, (runL g t r).2 + putN g t (runL g t r).1 s) := by
  cases r with
  | nil => exact absurd rfl h
  | cons y r => rfl
structure RunB (g : Int) (t : List (List Int)) (l : List Int) : Prop where
  x0 : 0 ≤ (runL g t l).1
  x1 : (runL g t l).1 < (szN g : Int)
  n0 : 0 ≤ (runL g t l).2
  n1 : (runL g t l).2 ≤ 13 * (l.length : Int)
theorem run_bd {g : Int} {t : List (List Int)} (h : TOk g t) : ∀ l : List Int, l.any (noC t) = false → RunB g t l
  | [], _ => ⟨Int.le_refl _, by have := szN_pos g; show (0 : Int) < _; omega, Int.le_refl _, by show (0 : Int) ≤ _; omega⟩
  | s :: r, ha => by
    simp only [List.any_cons, Bool.or_eq_false_iff] at ha
    have ih := run_bd h r ha.2
    by_cases hr : r = []
    · subst hr
      rw [show RunB g t [s] ↔ _ from Iff.rfl]
      have := cel_any h s 0
      exact ⟨by rw [run_one]; exact this.1, by rw [run_one]; exact this.2, by rw [run_one]; exact Int.le_refl _, by rw [run_one]; simp⟩
    · have := cel_any h s (putX g (runL g t r).1 / 2 ^ (putN g t (runL g t r).1 s).toNat - (celT t s).length).toNat
      have hb := put_bd h ih.x0 ih.x1 ha.1
      have n0 := ih.n0
      have n1 := ih.n1
      exact ⟨by rw [run_cons g t s hr]; exact this.1, by rw [run_cons g t s hr]; exact this.2, by rw [run_cons g t s hr]; simp only; omega, by rw [run_cons g t s hr]; simp only [List.length_cons]; push_cast; omega⟩
theorem any_drop {p : Int → Bool} {l : List Int} (h : l.any p = false) (k : Nat) : (l.drop k).any p = false := by
  rw [← List.take_append_drop k l, List.any_append, Bool.or_eq_false_iff] at h
  exact h.2
theorem any_get {p : Int → Bool} {l : List Int} (h : l.any p = false) {k : Nat} (hk : k < l.length) : p (l.getD k 0) = false := by
  cases hb : p (l.getD k 0)
  · rfl
  · rw [List.any_eq_true.2 ⟨_, getD_mem' hk, hb⟩] at h; cases h
theorem drop_at {l : List Int} {k : Nat} (hk : k < l.length) : l.drop k = l.getD k 0 :: l.drop (k + 1) := by
  rw [List.drop_eq_getElem_cons hk, List.getD_eq_getElem?_getD, List.getElem?_eq_getElem hk]
  rfl
theorem run_step {g : Int} {t : List (List Int)} {l : List Int} {k : Nat} (hk : k + 1 < l.length) : runL g t (l.drop k) = (putS g t (runL g t (l.drop (k + 1))).1 (l.getD k 0), (runL g t (l.drop (k + 1))).2 + putN g t (runL g t (l.drop (k + 1))).1 (l.getD k 0)) := by
  rw [drop_at (show k < l.length by omega)]
  exact run_cons g t _ fun h => by
    have := congrArg List.length h
    simp at this
    omega
theorem run_last {g : Int} {t : List (List Int)} {l : List Int} (h : l.length ≠ 0) : runL g t (l.drop (l.length - 1)) = ((celT t (l.getD (l.length - 1) 0)).getD 0 0, 0) := by
  rw [drop_at (show l.length - 1 < l.length by omega), show l.length - 1 + 1 = l.length by omega, List.drop_length]
  rfl
theorem ru_bad {g : Int} {t : List (List Int)} {l : List Int} {e : Int} (h : ruE g t l = e) (he : e ≠ 0) : 0 = ruS g t l ∧ 0 = ruN g t l ∧ e = ruE g t l := by
  have hb : (ruE g t l == 0) = false := by simpa using fun h' => he (h ▸ h')
  refine ⟨?_, ?_, h.symm⟩
  · unfold ruS; rw [hb]; rfl
  · unfold ruN; rw [hb]; rfl
theorem ru_chk {g : Int} {t : List (List Int)} {l : List Int} (h : (echk g t != (0 : Int)) = true) : ruE g t l = echk g t := by unfold ruE; rw [ne0 h]; rfl
theorem ru_long {g : Int} {t : List (List Int)} {l : List Int} (h : echk g t = 0) (h2 : 100000 < l.length) : ruE g t l = 2 := by unfold ruE; rw [beq0 h, decide_eq_true h2]; rfl
theorem ru_empty {g : Int} {t : List (List Int)} {l : List Int} (h : echk g t = 0) (h2 : ¬ 100000 < l.length) (h3 : l.length = 0) : ruE g t l = 7 := by unfold ruE; rw [beq0 h, decide_eq_false h2, h3]; rfl
theorem ru_none {g : Int} {t : List (List Int)} {l : List Int} (h : echk g t = 0) (h2 : ¬ 100000 < l.length) (h3 : l.any (noC t) = true) : ruE g t l = 7 := by unfold ruE; rw [beq0 h, decide_eq_false h2, h3, Bool.or_true]; rfl
theorem nbeq0 {n : Nat} (h : n ≠ 0) : Nat.beq n 0 = false := by
  cases n with
  | zero => exact absurd rfl h
  | succ n => rfl
theorem ru_good {g : Int} {t : List (List Int)} {l : List Int} (h : echk g t = 0) (h2 : ¬ 100000 < l.length) (h3 : l.length ≠ 0) (h4 : l.any (noC t) = false) : ruE g t l = 0 := by unfold ruE; rw [beq0 h, decide_eq_false h2, nbeq0 h3, h4]; rfl
theorem ru_vals {g : Int} {t : List (List Int)} {l : List Int} (h : ruE g t l = 0) : (runL g t l).1 = ruS g t l ∧ (runL g t l).2 = ruN g t l ∧ 0 = ruE g t l := by
  refine ⟨?_, ?_, h.symm⟩
  · unfold ruS; rw [beq0 h]; rfl
  · unfold ruN; rw [beq0 h]; rfl
theorem nz {a : Int} (h : (a != (0 : Int)) = true) : a ≠ 0 := by simpa using h
theorem runE_v (g : Int) (t : List (List Int)) (l : List Int) (h0 : t.length ≤ 4294967296) (h1 : litT g t = true) (h2 : l.length ≤ 4294967296) : runE_t g t l := by
  unfold runE_t
  refine ⟨h0, h1, fun h => ru_bad (ru_chk h) (nz h), fun h => ?_⟩
  have hc := eq0 h
  have hT := echk0 hc
  refine ⟨fun hl => ru_bad (ru_long hc (by simp only [gt_iff_lt, decide_eq_true_eq] at hl; omega)) (by decide), fun hl => ?_⟩
  have hl : ¬ 100000 < l.length := by simp only [gt_iff_lt, decide_eq_false_iff_not] at hl; omega
  refine ⟨fun he => ru_bad (ru_empty hc hl (len0 he)) (by decide), fun he => ?_⟩
  have he := len1 he
  refine ⟨h2, h0, fun ha => ru_bad (ru_none hc hl ha) (by decide), fun ha => ?_⟩
  have hr := ru_good hc hl he ha
  have ew : IntKind.wrap IntKind.i64 ((l.length : Int) - 1) = ((l.length - 1 : Nat) : Int) := by rw [wr (by omega) (by omega)]; omega
  have hN : ∀ k, k < l.length → noC t (l.getD k 0) = false := fun k hk => any_get ha hk
  have hb : ∀ k, RunB g t (l.drop k) := fun k => run_bd hT _ (any_drop ha k)
  rw [ew, toNat_cast]
  have hcl : (celT t (l.getD (l.length - 1) 0)).length ≠ 0 := by
    intro h'
    have := hN (l.length - 1) (by omega)
    rw [noC_iff.2 h'] at this
    cases this
  have hlen : ((l.dropLast.reverse).map fun x => [Value.int IntKind.i64 x]).length = l.length - 1 := by simp
  refine ⟨by omega, by omega, h0, Int.le_refl _, by omega, Int.le_refl _, by omega, by omega, 0, back_isat _ _ (by simp; omega), ?_, hr, ⟨rfl, ?_, ?_, rfl, rfl, rfl, rfl⟩, fun i hi hr => ?_, fun hr => ?_⟩
  · rw [List.dropLast_eq_take]; rfl
  · rw [Nat.sub_zero, run_last he]; rfl
  · rw [Nat.sub_zero, run_last he]
  · rw [hlen] at hi
    have hk : l.length - 1 - (i + 1) = l.length - 2 - i := by omega
    have hk1 : l.length - 1 - i = l.length - 2 - i + 1 := by omega
    have st := run_step (g := g) (t := t) (l := l) (k := l.length - 2 - i) (by omega)
    have b := hb (l.length - 2 - i + 1)
    have hn := hN (l.length - 2 - i) (by omega)
    have pb := put_bd hT b.x0 b.x1 hn
    have b0 := b.n0
    have b1 := b.n1
    rw [List.length_drop] at b1
    rw [hk, hk1, st]
    refine ⟨?_, rfl, hT.g0, hT.g12, h0, b.x0, b.x1, hn, hT.cel_le _, hr, rfl, ?_, rfl, rfl, rfl, rfl⟩
    · rw [List.getElem?_map, List.getElem?_reverse (by simp; omega), List.length_dropLast]
      rw [List.getElem?_dropLast, if_pos (by omega), List.getD_eq_getElem?_getD, show l.length - 1 - 1 - i = l.length - 2 - i by omega, List.getElem?_eq_getElem (by omega)]
      rfl
    · rw [wr (by omega) (by omega)]
  · rw [hlen, Nat.sub_self, List.drop_zero]
    exact ru_vals hr
theorem runE_sound : Sound Try.prog 23 sRun.ctr := sRun.sound (by kernel_rfl) sRun_enc fun ⟨g, t, l⟩ hc => by
  have h0 := hc _ (.head _)
  have h1 := hc _ (.tail _ (.head _))
  have h2 := hc _ (.tail _ (.tail _ (.head _)))
  exact satG GEj_ok mixed Try.func23 (runE_e g t l) (runE_v g t l h0 h1 h2)
theorem GEk_ok : AllOk Try.prog GEk := .cons runE_sound <| GEj_ok
end Go.Proofs.Ytbdgknebimdjoaa
namespace Go.Proofs.Ytbdgknebimdjoaa
open Go
set_option linter.unusedVariables false
set_option maxRecDepth 100000
def lowB : Nat → Int → List Int
  | 0, _ => []
  | m + 1, x => x % 256 :: lowB m (x / 256)
def wX (p n v : Int) : Int := p + v * 2 ^ n.toNat
def wM (n k : Int) : Nat := ((n + k) / 8).toNat
def wS (s : ByteArray) (p n k v : Int) : ByteArray := s ++ strOfNums (lowB (wM n k) (wX p n v))
def wP (p n k v : Int) : Int := wX p n v / 256 ^ wM n k
def wN (n k : Int) : Int := (n + k) % 8
def lowV (v : Int) (i : Nat) : Int := v % 2 ^ i
def noD (l : List Int) (x : Int) : Bool := decide (x < 0) || decide ((l.length : Int) ≤ x) || l.getD x.toNat 0 == 0
def putWr (w : ByteArray × Int × Int) (k v : Int) : ByteArray × Int × Int := (wS w.1 w.2.1 w.2.2 k v, wP w.2.1 w.2.2 k v, wN w.2.2 k)
def nthI (l : List Int) (k : Nat) : Nat := l.length - 1 - k
def nthS (l : List Int) (k : Nat) : Int := l.getD (nthI l k) 0
def fwR (g : Int) (t : List (List Int)) (l : List Int) (c : Nat) : Nat → List Int × (ByteArray × Int × Int)
  | 0 => ([0, 0], (ByteArray.empty, 0, 0))
  | k + 1 => cond (Nat.blt k c)
    ((fwR g t l c k).1.set (nthI l k % c) ((celT t (nthS l k)).getD 0 0), (fwR g t l c k).2)
    ((fwR g t l c k).1.set (nthI l k % c) (putS g t ((fwR g t l c k).1.getD (nthI l k % c) 0) (nthS l k)),
      putWr (fwR g t l c k).2 (putN g t ((fwR g t l c k).1.getD (nthI l k % c) 0) (nthS l k)) (putV g t ((fwR g t l c k).1.getD (nthI l k % c) 0) (nthS l k)))
def fwS (g : Int) (t : List (List Int)) (l : List Int) (c k : Nat) : ByteArray := (fwR g t l c k).2.1
def fwP (g : Int) (t : List (List Int)) (l : List Int) (c k : Nat) : Int := (fwR g t l c k).2.2.1
def fwN (g : Int) (t : List (List Int)) (l : List Int) (c k : Nat) : Int := (fwR g t l c k).2.2.2
end Go.Proofs.Ytbdgknebimdjoaa
namespace Go.Proofs.Ytbdgknebimdjoaa
open Go Go.RowKit
set_option linter.unusedVariables false
set_option linter.unusedSimpArgs false
set_option maxRecDepth 100000
def GFa : List (Nat × Ctr) := []
def GFb : List (Nat × Ctr) := GFa
def GFc : List (Nat × Ctr) := GFb
end Go.Proofs.Ytbdgknebimdjoaa
namespace Go.Proofs.Ytbdgknebimdjoaa
open Go Go.RowKit
set_option linter.unusedVariables false
set_option linter.unusedSimpArgs false
set_option maxRecDepth 100000
theorem str_data (xs : List Int) : (strOfNums xs).data = (xs.map fun n => UInt8.ofNat n.toNat).toArray := rfl
theorem app_size (a b : ByteArray) : (a ++ b).size = a.size + b.size := by
  show (a ++ b).data.size = _
  rw [ByteArray.data_append, Array.size_append]
  rfl
theorem nn7 {n : Int} (h0 : 0 ≤ n) (h1 : n ≤ 7) : (2 : Int) ^ n.toNat ≤ 128 := by
  have := pow_mono (show n.toNat ≤ 7 by omega)
  simpa using this
end Go.Proofs.Ytbdgknebimdjoaa
namespace Go.Proofs.Ytbdgknebimdjoaa
open Go Go.RowKit
set_option linter.unusedVariables false
set_option linter.unusedSimpArgs false
set_option maxRecDepth 100000
structure PutN (p n k v : Int) : Prop where
  n0 : 0 ≤ n
  n7 : n ≤ 7
  p0 : 0 ≤ p
  p1 : p < 2 ^ n.toNat
  k0 : 0 ≤ k
  k1 : k ≤ 32
  v0 : 0 ≤ v
  v1 : v < 2 ^ k.toNat
theorem pow256 (m : Nat) : (256 : Int) ^ m = 2 ^ (8 * m) := by
  rw [Int.pow_mul]; rfl
theorem PutN.X {p n k v : Int} (h : PutN p n k v) : 0 ≤ wX p n v ∧ wX p n v < 2 ^ (n + k).toNat ∧ wX p n v < 1099511627776 := by
  obtain ⟨n0, n7, p0, p1, k0, k1, v0, v1⟩ := h
  have h1 := nn7 n0 n7
  have h2 := pow_pos' n.toNat
  have h3 : (2 : Int) ^ k.toNat ≤ 4294967296 := by
    have := pow_mono (show k.toNat ≤ 32 by omega)
    simpa using this
  have e : (n + k).toNat = n.toNat + k.toNat := by omega
  have h4 : 0 ≤ v * 2 ^ n.toNat := Int.mul_nonneg v0 (by omega)
  have h5 : (v + 1) * 2 ^ n.toNat ≤ 2 ^ k.toNat * 2 ^ n.toNat := Int.mul_le_mul_of_nonneg_right (by omega) (by omega)
  have h6 : (2 : Int) ^ k.toNat * 2 ^ n.toNat ≤ 4294967296 * 128 := Int.mul_le_mul h3 h1 (by omega) (by omega)
  rw [Int.add_mul, Int.one_mul] at h5
  unfold wX
  rw [e, Int.pow_add, Int.mul_comm ((2 : Int) ^ n.toNat)]
  exact ⟨by omega, by omega, by omega⟩
theorem wM_eq {n k : Int} (h0 : 0 ≤ n) (h1 : 0 ≤ k) : n + k = 8 * (wM n k : Int) + wN n k ∧ 0 ≤ wN n k ∧ wN n k ≤ 7 := by
  unfold wM wN
  omega
theorem PutN.P {p n k v : Int} (h : PutN p n k v) : 0 ≤ wP p n k v ∧ wP p n k v < 2 ^ (wN n k).toNat := by
  obtain ⟨x0, x1, _⟩ := h.X
  obtain ⟨e, r0, r1⟩ := wM_eq h.n0 h.k0
  unfold wP
  have hp : (0 : Int) < 256 ^ wM n k := by rw [pow256]; exact pow_pos' _
  refine ⟨Int.ediv_nonneg x0 (by omega), Int.ediv_lt_of_lt_mul hp ?_⟩
  rw [pow256, ← Int.pow_add]
  have : (wN n k).toNat + 8 * wM n k = (n + k).toNat := by omega
  rw [this]
  exact x1
theorem bytes_len (s : ByteArray) : (bytesN s).length = s.size := by unfold bytesN; rw [List.length_map]; rfl
theorem GFa_ok : AllOk Try.prog GFa := AllOk.nil
end Go.Proofs.Ytbdgknebimdjoaa
namespace Go.Proofs.Ytbdgknebimdjoaa
open Go Go.RowKit
set_option linter.unusedVariables false
set_option linter.unusedSimpArgs false
set_option maxRecDepth 100000
theorem PutN.part {p n k v : Int} (h : PutN p n k v) {i : Nat} (hi : (i : Int) ≤ k) : PutN p n i (lowV v i) :=
  ⟨h.n0, h.n7, h.p0, h.p1, by omega, by have := h.k1; omega, Int.emod_nonneg _ (by have := pow_pos' i; omega), by rw [toNat_cast]; exact Int.emod_lt_of_pos _ (pow_pos' i)⟩
theorem GFb_ok : AllOk Try.prog GFb := GFa_ok
theorem GFc_ok : AllOk Try.prog GFc := GFb_ok
end Go.Proofs.Ytbdgknebimdjoaa
namespace Go.Proofs.Ytbdgknebimdjoaa
open Go Go.RowKit
set_option linter.unusedVariables false
set_option linter.unusedSimpArgs false
set_option maxRecDepth 100000
def dF (k : Nat) (g : Int) (p : List Int) : Nat × SBlk := (k, .cells 24 [.v (.int .i64 g), .dat (.ints .i64 p)])
def GFd : List (Nat × Ctr) := (GFc ++ GEk)
def GFe : List (Nat × Ctr) := GFd
def GFf : List (Nat × Ctr) := GFe
def GFg : List (Nat × Ctr) := GFf
def GFh : List (Nat × Ctr) := GFg
end Go.Proofs.Ytbdgknebimdjoaa
namespace Go.Proofs.Ytbdgknebimdjoaa
open Go Go.RowKit
set_option linter.unusedVariables false
set_option linter.unusedSimpArgs false
set_option maxRecDepth 100000
theorem cellsF_asc (s : Int) : ∀ (a : List Int) (c : Int), (cellsF s c a).Pairwise (fun x y : Int => x < y)
  | [], _ => List.Pairwise.nil
  | x :: r, c => by
    show (cond (x == s) (c :: cellsF s (c + 1) r) (cellsF s (c + 1) r)).Pairwise _
    cases x == s
    · exact cellsF_asc s r (c + 1)
    · refine List.Pairwise.cons (fun y hy => ?_) (cellsF_asc s r (c + 1))
      obtain ⟨i, _, _, rfl⟩ := (cellsF_mem s r (c + 1) y).1 hy
      omega
theorem asc_sorted {l : List Int} (h : l.Pairwise (fun x y : Int => x < y)) : sorted l = true := by
  rw [sorted_iff]
  intro i hi
  have := List.pairwise_iff_getElem.1 h i (i + 1) (by omega) hi (by omega)
  rw [List.getD_eq_getElem?_getD, List.getElem?_eq_getElem (by omega), List.getD_eq_getElem?_getD, List.getElem?_eq_getElem hi]
  simp only [Option.getD_some]
  omega
theorem filt_succ (n : Nat) : ∀ sp : List Int, (sp.filter fun x => decide (0 ≤ x) && decide (x < ((n + 1 : Nat) : Int))).length = (sp.filter fun x => decide (0 ≤ x) && decide (x < (n : Int))).length + sp.count (n : Int)
  | [] => rfl
  | x :: r => by
    have ih := filt_succ n r
    by_cases hx : x = (n : Int)
    · subst hx
      rw [List.filter_cons_of_pos (by simp; omega), List.filter_cons_of_neg (by simp), List.count_cons_self, List.length_cons, ih]
      omega
    · have hc : (x :: r).count (n : Int) = r.count (n : Int) := List.count_cons_of_ne hx
      rw [hc]
      by_cases hy : 0 ≤ x ∧ x < (n : Int)
      · rw [List.filter_cons_of_pos (by simp; omega), List.filter_cons_of_pos (by simp; omega), List.length_cons, List.length_cons, ih]
        omega
      · rw [List.filter_cons_of_neg (by simp; omega), List.filter_cons_of_neg (by simp; omega), ih]
theorem states_flat (sp : List Int) : ∀ n : Nat, (statesL n sp).flatten.length = (sp.filter fun x => decide (0 ≤ x) && decide (x < (n : Int))).length
  | 0 => by
    have : sp.filter (fun x => decide (0 ≤ x) && decide (x < ((0 : Nat) : Int))) = [] := List.filter_eq_nil_iff.2 fun x _ => by simp
    rw [this]
    rfl
  | n + 1 => by
    have e : statesL (n + 1) sp = statesL n sp ++ [cellsL sp (n : Int)] := by unfold statesL; rw [List.range_succ, List.map_append]; rfl
    rw [e, List.flatten_append, List.length_append, states_flat sp n, filt_succ]
    have : [cellsL sp (n : Int)].flatten.length = sp.count (n : Int) := by simp [cellsL, cellsF_len]
    rw [this]
theorem enc_tok {g : Int} {l : List Int} (h : dchk g l = 0) : TOk g (encL g l) := by
  have hd := dchk0 h
  have hsz := szN_bd hd.g5 hd.g12
  rw [(enc_good h).2]
  refine ⟨by have := hd.g5; omega, hd.g12, by rw [← states_all, states_len]; exact hd.n2, List.all_eq_true.2 fun r hr => ?_, ?_, ?_, ?_⟩
  · unfold statesL at hr
    obtain ⟨k, _, rfl⟩ := List.mem_map.1 hr
    exact asc_sorted (cellsF_asc _ _ _)
  · show List.Pairwise _ _
    rw [List.pairwise_flatten]
    refine ⟨fun r hr => ?_, ?_⟩
    · unfold statesL at hr
      obtain ⟨k, _, rfl⟩ := List.mem_map.1 hr
      exact (cellsF_asc _ _ _).imp fun h => by omega
    · unfold statesL
      rw [List.pairwise_map]
      refine List.pairwise_lt_range.imp fun {a b} hab x hx y hy e => ?_
      subst e
      obtain ⟨i, _, h1, h2⟩ := cellsL_mem.1 hx
      obtain ⟨j, _, h3, h4⟩ := cellsL_mem.1 hy
      have : i = j := by omega
      subst this
      omega
  · intro c hc
    obtain ⟨r, hr, hc⟩ := List.mem_flatten.1 hc
    unfold statesL at hr
    obtain ⟨k, _, rfl⟩ := List.mem_map.1 hr
    obtain ⟨i, hi, _, rfl⟩ := cellsL_mem.1 hc
    rw [spr_len] at hi
    omega
  · rw [states_flat]
    have : (spr g l).filter (fun x => decide (0 ≤ x) && decide (x < (l.length : Int))) = spr g l := List.filter_eq_self.2 fun x hx => by
      obtain ⟨i, hi, rfl⟩ := List.getElem_of_mem hx
      rw [spr_len] at hi
      obtain ⟨s, h1, _, h2⟩ := spr_sym hd hi
      rw [List.getD_eq_getElem?_getD, List.getElem?_eq_getElem (by rw [spr_len]; exact hi)] at h2
      simp only [Option.getD_some] at h2
      rw [h2]
      simp
      omega
    rw [this, spr_len]
end Go.Proofs.Ytbdgknebimdjoaa
namespace Go.Proofs.Ytbdgknebimdjoaa
open Go Go.RowKit
set_option linter.unusedVariables false
set_option linter.unusedSimpArgs false
set_option maxRecDepth 100000
theorem noD_neg {p : List Int} {x : Int} (h : decide (x < 0) = true) : noD p x = true := by unfold noD; rw [h]; rfl
theorem noD_big {p : List Int} {x : Int} (h : decide (x ≥ (p.length : Int)) = true) : noD p x = true := by
  unfold noD
  have : decide ((p.length : Int) ≤ x) = true := h
  rw [this, Bool.or_true]
  rfl
theorem noD_in {p : List Int} {x : Int} (h : decide (x < 0) = false) (h2 : decide (x ≥ (p.length : Int)) = false) : (p.getD x.toNat 0 == 0) = noD p x := by
  unfold noD
  have : decide ((p.length : Int) ≤ x) = false := h2
  rw [h, this]
  rfl
theorem look_app {c : Ctr} : ∀ (A B : List (Nat × Ctr)) (f : Nat), lookupL (A ++ B) f = some c → lookupL A f = some c ∨ lookupL B f = some c
  | [], _, _, h => .inr h
  | (i, y) :: r, B, f, h => by
    simp only [List.cons_append, lookupL] at h ⊢
    cases hb : Nat.beq f i
    · rw [hb] at h; exact look_app r B f h
    · rw [hb] at h; exact .inl h
theorem all_app {P : Program} {A B : List (Nat × Ctr)} (hA : AllOk P A) (hB : AllOk P B) : AllOk P (A ++ B) := fun f c h => (look_app A B f h).elim (hA f c) (hB f c)
theorem GFd_ok : AllOk Try.prog GFd := all_app GFc_ok GEk_ok
theorem GFe_ok : AllOk Try.prog GFe := GFd_ok
theorem GFf_ok : AllOk Try.prog GFf := GFe_ok
end Go.Proofs.Ytbdgknebimdjoaa
namespace Go.Proofs.Ytbdgknebimdjoaa
open Go Go.RowKit
set_option linter.unusedVariables false
set_option linter.unusedSimpArgs false
set_option maxRecDepth 100000
theorem spr_has {g : Int} {l : List Int} (h : DOk g l) {s : Nat} (hs : s < l.length) (hne : l.getD s 0 ≠ 0) : (s : Int) ∈ spr g l := by
  rw [(spr_perm h).mem_iff, List.mem_append]
  by_cases hr : isR (l.getD s 0) = true
  · left
    have := lowF_at l 0 s hs hr
    rw [Int.zero_add] at this
    exact List.mem_of_getElem? this
  · right
    have hp : 0 < (l.getD s 0).toNat := by
      have := h.lo _ (getD_mem' hs)
      unfold isR at hr
      simp only [beq_iff_eq, decide_eq_true_eq, Bool.not_eq_true] at hr
      first | omega | (simp at hr; omega)
    have := hiF_at hs hp
    exact List.mem_of_getElem? this
theorem noC_enc {g : Int} {l : List Int} (h : dchk g l = 0) (s : Int) : noC (encL g l) s = noD l s := by
  have hd := dchk0 h
  have hlen : (statesL l.length (spr g l)).length = l.length := by rw [← states_all, states_len]
  rw [(enc_good h).2]
  by_cases hs : s < 0 ∨ (l.length : Int) ≤ s
  · have e : noD l s = true := by
      rcases hs with hs | hs
      · exact noD_neg (decide_eq_true hs)
      · exact noD_big (decide_eq_true hs)
    rw [e]
    exact noC_iff.2 (by rw [celT_out (by rw [hlen]; exact hs)]; rfl)
  · have h0 : 0 ≤ s := by omega
    have h1 : s < l.length := by omega
    obtain ⟨k, rfl⟩ := Int.eq_ofNat_of_zero_le h0
    have hk : k < l.length := by omega
    have ec : celT (statesL l.length (spr g l)) (k : Int) = cellsL (spr g l) (k : Int) := by
      rw [celT_in (by omega) (by rw [hlen]; exact h1), toNat_cast, ← states_all, states_get hk, cellsP_all]
    have en := noD_in (p := l) (x := (k : Int)) (decide_eq_false (by omega)) (decide_eq_false (by omega))
    rw [toNat_cast] at en
    rw [← en]
    by_cases hz : l.getD k 0 = 0
    · rw [hz]
      exact noC_iff.2 (by rw [ec, cells_zero hd hk hz]; rfl)
    · have e2 : (l.getD k 0 == 0) = false := beq_eq_false_iff_ne.2 hz
      rw [e2]
      cases hb : noC (statesL l.length (spr g l)) (k : Int)
      · rfl
      · have hl := noC_iff.1 hb
        rw [ec] at hl
        have hc : (cellsL (spr g l) (k : Int)).length = (spr g l).count (k : Int) := cellsF_len _ _ _
        have := List.count_pos_iff.2 (spr_has hd hk hz)
        omega
theorem enc_echk {g : Int} {l : List Int} (h : dchk g l = 0) : echk g (encL g l) = 0 := echk0' (enc_tok h)
theorem enc_lit {g : Int} {l : List Int} (h : dchk g l = 0) : litT g (encL g l) = true := by
  have ht := enc_tok h
  have hs := sz0 ht.g0 ht.g12
  unfold litT
  rw [decide_eq_true (show (encL g l).flatten.length ≤ 65536 by rw [ht.w.len]; omega), Bool.or_true]
end Go.Proofs.Ytbdgknebimdjoaa
namespace Go.Proofs.Ytbdgknebimdjoaa
open Go Go.RowKit
set_option linter.unusedVariables false
set_option linter.unusedSimpArgs false
set_option maxRecDepth 100000
theorem getD_set' {l : List Int} {i j : Nat} {x : Int} (P : Int → Prop) (h0 : P 0) (hx : P x) (hl : ∀ j, P (l.getD j 0)) : P ((l.set i x).getD j 0) := by
  rw [List.getD_eq_getElem?_getD, List.getElem?_set]
  split
  · split
    · exact hx
    · exact h0
  · have := hl j
    rw [List.getD_eq_getElem?_getD] at this
    exact this
end Go.Proofs.Ytbdgknebimdjoaa
namespace Go.Proofs.Ytbdgknebimdjoaa
open Go Go.RowKit
set_option linter.unusedVariables false
set_option linter.unusedSimpArgs false
set_option maxRecDepth 100000
structure AskOk (g : Int) (p l : List Int) (c : Nat) : Prop where
  d : dchk g p = 0
  hi : l.length ≤ 100000
  lo : c ≤ l.length
  no : l.any (noD p) = false
theorem AskOk.T {g : Int} {p l : List Int} {c : Nat} (h : AskOk g p l c) : TOk g (encL g p) := enc_tok h.d
theorem AskOk.len {g : Int} {p l : List Int} {c : Nat} (h : AskOk g p l c) : (encL g p).length ≤ 4294967296 := by
  have := h.T.n
  omega
theorem pu_ok {g : Int} {t : List (List Int)} {x s : Int} (hc : echk g t = 0) (h0 : 0 ≤ x) (h1 : x < (szN g : Int)) (hn : noC t s = false) : puS g t x s = putS g t x s ∧ puB g t x s = putN g t x s ∧ puV g t x s = putV g t x s := by
  refine pu_good ?_
  rw [puE_st hc, stE_in h0 h1]
  unfold celM
  rw [hn]
  rfl
theorem noC_ne {t : List (List Int)} {s : Int} (hn : noC t s = false) : (celT t s).length ≠ 0 := by
  intro h
  unfold noC at hn
  rw [h] at hn
  cases hn
end Go.Proofs.Ytbdgknebimdjoaa
namespace Go.Proofs.Ytbdgknebimdjoaa
open Go Go.RowKit
set_option linter.unusedVariables false
set_option linter.unusedSimpArgs false
set_option maxRecDepth 100000
theorem GFg_ok : AllOk Try.prog GFg := GFf_ok
theorem GFh_ok : AllOk Try.prog GFh := GFg_ok
end Go.Proofs.Ytbdgknebimdjoaa
namespace Go.Proofs.Ytbdgknebimdjoaa
open Go Go.RowKit
set_option linter.unusedVariables false
set_option linter.unusedSimpArgs false
set_option maxRecDepth 100000
def GFi : List (Nat × Ctr) := GFh
theorem GFi_ok : AllOk Try.prog GFi := GFh_ok
end Go.Proofs.Ytbdgknebimdjoaa
namespace Go.Proofs.Ytbdgknebimdjoaa
open Go Go.RowKit
set_option linter.unusedVariables false
set_option linter.unusedSimpArgs false
set_option maxRecDepth 100000
def GFj : List (Nat × Ctr) := GFi
def GFk : List (Nat × Ctr) := GFj
end Go.Proofs.Ytbdgknebimdjoaa
namespace Go.Proofs.Ytbdgknebimdjoaa
open Go Go.RowKit
set_option linter.unusedVariables false
set_option linter.unusedSimpArgs false
set_option maxRecDepth 100000
theorem GFj_ok : AllOk Try.prog GFj := GFi_ok
theorem GFk_ok : AllOk Try.prog GFk := GFj_ok
end Go.Proofs.Ytbdgknebimdjoaa
namespace Go.Proofs.Ytbdgknebimdjoaa
open Go Go.RowKit
set_option linter.unusedVariables false
set_option linter.unusedSimpArgs false
set_option maxRecDepth 100000
def GFl : List (Nat × Ctr) := GFk
def GFm : List (Nat × Ctr) := GFl
end Go.Proofs.Ytbdgknebimdjoaa
namespace Go.Proofs.Ytbdgknebimdjoaa
open Go
set_option linter.unusedVariables false
set_option maxRecDepth 100000
def lastB (s : ByteArray) : Int := ((s.data.toList.getD (s.size - 1) 0).toNat : Int)
def noB (s : ByteArray) : Bool := Nat.beq s.size 0 || lastB s == 0
def bkN (s : ByteArray) : Int := cond (noB s) (-1) (8 * ((s.size : Int) - 1) + hiI (lastB s))
def bkE (s : ByteArray) : Int := cond (decide (1048576 < s.size)) 4 (cond (noB s) 22 0)
def bkR (s : ByteArray) : Int := cond (bkE s == 0) (bkN s) 0
def bkS (s : ByteArray) : ByteArray := cond (bkE s == 0) s ByteArray.empty
def rgE (s : ByteArray) (left : Int) : Int := cond (bkE s == 0) (cond (decide (left < 0) || decide (bkN s < left)) 10 0) 10
def pkE (s : ByteArray) (left n : Int) : Int := cond (rgE s left == 0) (cond (decide (n < 0) || decide (32 < n)) 2 0) (rgE s left)
def byI (s : ByteArray) (i : Nat) : Int := ((s.data.toList.getD i 0).toNat : Int)
def bitS (s : ByteArray) (k : Int) : Int := cond (decide (k < 0)) 0 (byI s (k / 8).toNat / 2 ^ (k % 8).toNat % 2)
def pkF (s : ByteArray) (left : Int) : Nat → Int
  | 0 => 0
  | i + 1 => 2 * pkF s left i + bitS s (left - 1 - (i : Nat))
def tkE (s : ByteArray) (left n : Int) : Int := cond (pkE s left n == 0) (cond (decide (left < n)) 5 0) (pkE s left n)
def tkS (s : ByteArray) (left n : Int) : ByteArray := cond (tkE s left n == 0) s ByteArray.empty
def tkL (s : ByteArray) (left n : Int) : Int := cond (tkE s left n == 0) (left - n) 0
def tkV (s : ByteArray) (left n : Int) : Int := cond (tkE s left n == 0) (pkF s left n.toNat) 0
def tkO (s : ByteArray) (left n : Int) : Bool := tkE s left n == 0
def nxL (s : ByteArray) (left n : Int) : Int := cond (tkE s left n == 0) (left - n) left
def celX (p sy : List Int) (i : Nat) : Int := pt (p.getD (sy.getD i 0).toNat 0) + ((sy.take i).count (sy.getD i 0) : Nat)
def celN (g : Int) (p sy : List Int) (i : Nat) : Int := g - hiI (celX p sy i)
def celR (g : Int) (p sy : List Int) (i : Nat) : List Int := [sy.getD i 0, celN g p sy i, celX p sy i * 2 ^ (celN g p sy i).toNat - 2 ^ g.toNat]
def celA (g : Int) (p sy : List Int) (i : Nat) : List (List Int) := (List.range i).map (celR g p sy)
def decL (g : Int) (p : List Int) : List (List Int) := celA g p (spr g p) (spr g p).length
def decO (g : Int) (p : List Int) : List (List Int) := cond (okE g p) (decL g p) []
def nxM (p sy : List Int) : Nat → List (List Int × List Int)
  | 0 => []
  | i + 1 => ([sy.getD i 0], [celX p sy i + 1]) :: nxM p sy i
def cS (c : List (List Int)) (x : Int) : Int := (c.getD x.toNat []).getD 0 0
def cB (c : List (List Int)) (x : Int) : Int := (c.getD x.toNat []).getD 1 0
def cA (c : List (List Int)) (x : Int) : Int := (c.getD x.toNat []).getD 2 0
abbrev RSt : Type := Int × Int × Bool
def rd0 (s : ByteArray) (L g : Int) : RSt := (tkV s L g, nxL s L g, tkO s L g)
def rdN (s : ByteArray) (c : List (List Int)) (r : RSt) : RSt := (cA c r.1 + tkV s r.2.1 (cB c r.1), nxL s r.2.1 (cB c r.1), tkO s r.2.1 (cB c r.1))
def rdI (s : ByteArray) (L g : Int) (c : List (List Int)) : Nat → RSt
  | 0 => rd0 s L g
  | i + 1 => rdN s c (rdI s L g c i)
def rX (s : ByteArray) (L g : Int) (c : List (List Int)) (i : Nat) : Int := (rdI s L g c i).1
def rL (s : ByteArray) (L g : Int) (c : List (List Int)) (i : Nat) : Int := (rdI s L g c i).2.1
def rO (s : ByteArray) (L g : Int) (c : List (List Int)) (i : Nat) : Bool := (rdI s L g c i).2.2
structure CelOk (g : Int) (c : List (List Int)) : Prop where
  g0 : 0 ≤ g
  g12 : g ≤ 12
  len : c.length = szN g
  b0 : ∀ x : Int, 0 ≤ x → x < c.length → 0 ≤ cB c x ∧ cB c x ≤ g
  a0 : ∀ x : Int, 0 ≤ x → x < c.length → 0 ≤ cA c x ∧ cA c x + 2 ^ (cB c x).toNat ≤ c.length
end Go.Proofs.Ytbdgknebimdjoaa
namespace Go.Proofs.Ytbdgknebimdjoaa
open Go Go.RowKit
set_option linter.unusedVariables false
set_option linter.unusedSimpArgs false
set_option maxRecDepth 100000
def sPt : Spec where
  ι := Int
  dec l H := match l with
    | [.v (.int .i64 x)] => some (x, [])
    | _ => none
  args := fun x => [.v (.int .i64 x)]
  out := fun x => .leaf (.v (.int .i64 (pt x))) []
theorem sPt_enc : ∀ l H n i ls, sPt.dec l H = some (i, ls) → l = renL (rho ls n) (sPt.args i) ∧ givenHp H ls = renH (rho ls n) (sPt.hp i) := by
  intro l H n i ls h
  simp only [sPt] at h
  repeat' split at h
  all_goals first
    | (cases h; done)
    | (cases h; exact ⟨rfl, rfl⟩)
def sPrb : Spec where
  ι := Int × Int × List Int
  dec l H := match l with
    | [.v (.int .i64 x), .p l0 0 0] => match H l0 with
      | some (.cells 24 [.v (.int .i64 g), .dat (.ints .i64 p)]) => some ((x, g, p), [l0])
      | _ => none
    | _ => none
  args := fun (x, g, p) => [.v (.int .i64 x), .p 0 0 0]
  hp := fun (x, g, p) => [(0, .cells 24 [.v (.int .i64 g), .dat (.ints .i64 p)])]
  pre := fun (x, g, p) => [⟨0 ≤ x, inferInstance⟩, ⟨x < p.length, inferInstance⟩]
  out := fun (x, g, p) => .leaf (.v (.int .i64 (pt (p.getD x.toNat 0)))) [(0, .cells 24 [.v (.int .i64 g), .dat (.ints .i64 p)])]
theorem sPrb_enc : ∀ l H n i ls, sPrb.dec l H = some (i, ls) → l = renL (rho ls n) (sPrb.args i) ∧ givenHp H ls = renH (rho ls n) (sPrb.hp i) := by
  intro l H n i ls h
  simp only [sPrb] at h
  repeat' split at h
  all_goals first
    | (cases h; done)
    | (cases h; exact ⟨rfl, rfl⟩)
    | (cases h; refine ⟨rfl, ?_⟩; simp only [givenHp, List.filterMap_cons, List.filterMap_nil, Option.map, *]; rfl)
def sDecA : Spec where
  ι := Int × List Int × Int × List Int
  dec l H := match l with
    | [.v (.int .i64 y), .fn (.func 85) [] [.p l0 0 0], .dat (.ints .i64 q)] => match H l0 with
      | some (.cells 24 [.v (.int .i64 g), .dat (.ints .i64 p)]) => some ((y, q, g, p), [l0])
      | _ => none
    | _ => none
  args := fun (y, q, g, p) => [.v (.int .i64 y), .fn (.func 85) [] [.p 0 0 0], .dat (.ints .i64 q)]
  hp := fun (y, q, g, p) => [(0, .cells 24 [.v (.int .i64 g), .dat (.ints .i64 p)])]
  pre := fun (y, q, g, p) => [⟨dchk g p = 0, inferInstance⟩, ⟨y = g, inferInstance⟩, ⟨q = spr g p, inferInstance⟩]
  out := fun (y, q, g, p) => .leaf (.dat (.recs 3 (decL g p))) [(0, .cells 24 [.v (.int .i64 g), .dat (.ints .i64 p)])]
theorem sDecA_enc : ∀ l H n i ls, sDecA.dec l H = some (i, ls) → l = renL (rho ls n) (sDecA.args i) ∧ givenHp H ls = renH (rho ls n) (sDecA.hp i) := by
  intro l H n i ls h
  simp only [sDecA] at h
  repeat' split at h
  all_goals first
    | (cases h; done)
    | (cases h; exact ⟨rfl, rfl⟩)
    | (cases h; refine ⟨rfl, ?_⟩; simp only [givenHp, List.filterMap_cons, List.filterMap_nil, Option.map, *]; rfl)
def sDec : Spec where
  ι := Int × List Int
  dec l H := match l with
    | [.ag [.v (.int .i64 g), .dat (.ints .i64 p)]] => some ((g, p), [])
    | _ => none
  args := fun (g, p) => [.ag [.v (.int .i64 g), .dat (.ints .i64 p)]]
  pre := fun (g, p) => [⟨p.length ≤ 4294967296, inferInstance⟩]
  out := fun (g, p) => .leaf (.tu [.dat (.recs 3 (decO g p)), .v (.int .i64 (dchk g p))]) []
theorem sDec_enc : ∀ l H n i ls, sDec.dec l H = some (i, ls) → l = renL (rho ls n) (sDec.args i) ∧ givenHp H ls = renH (rho ls n) (sDec.hp i) := by
  intro l H n i ls h
  simp only [sDec] at h
  repeat' split at h
  all_goals first
    | (cases h; done)
    | (cases h; exact ⟨rfl, rfl⟩)
def oDecA (g : Int) (p : List Int) : LoopInv := { ι := Nat, p := fun i => i ≤ (spr g p).length, tm := fun i => [(0, .v (.int .i64 g)), (1, .fn (.func 85) [] [.p 0 0 0]), (8, .o 5000), (9, .m 5001), (18, .dat (.ints .i64 (spr g p))), (19, .v (.int .i64 (spr g p).length)), (20, .v (.int .i64 (i : Nat)))], hp := fun i => [dF 0 g p, (5000, .row 68 (.recs 3 (celA g p (spr g p) i))), (5001, .mp (.one (.i .i64)) (.one (.i .i64)) (nxM p (spr g p) i))], μ := fun i => (spr g p).length - i }
def oDecZ (g : Int) (p : List Int) (i : Nat) : LoopInv := { ι := Unit, p := fun _ => i < (spr g p).length, tm := fun _ => [(0, .v (.int .i64 g)), (1, .fn (.func 85) [] [.p 0 0 0]), (8, .o 5000), (9, .m 5001), (11, .v (.int .i64 ((spr g p).getD i 0))), (18, .dat (.ints .i64 (spr g p))), (19, .v (.int .i64 (spr g p).length)), (20, .v (.int .i64 (i : Nat)))], hp := fun _ => [dF 0 g p, (5000, .row 68 (.recs 3 (celA g p (spr g p) i))), (5001, .mp (.one (.i .i64)) (.one (.i .i64)) (([(spr g p).getD i 0], [celX p (spr g p) i]) :: nxM p (spr g p) i))], μ := fun _ => 0 }
def oDecB (g : Int) (p : List Int) (i : Nat) : LoopInv := { ι := Unit, p := fun _ => i < (spr g p).length, tm := fun _ => [(0, .v (.int .i64 g)), (1, .fn (.func 85) [] [.p 0 0 0]), (8, .o 5000), (9, .m 5001), (11, .v (.int .i64 ((spr g p).getD i 0))), (14, .v (.int .i64 (celX p (spr g p) i))), (18, .dat (.ints .i64 (spr g p))), (19, .v (.int .i64 (spr g p).length)), (20, .v (.int .i64 (i : Nat)))], hp := fun _ => [dF 0 g p, (5000, .row 68 (.recs 3 (celA g p (spr g p) i))), (5001, .mp (.one (.i .i64)) (.one (.i .i64)) (nxM p (spr g p) (i + 1)))], μ := fun _ => 0 }
def oDecC (g : Int) (p : List Int) (i : Nat) : LoopInv := { ι := Unit, p := fun _ => i < (spr g p).length, tm := fun _ => [(0, .v (.int .i64 g)), (1, .fn (.func 85) [] [.p 0 0 0]), (8, .o 5000), (9, .m 5001), (11, .v (.int .i64 ((spr g p).getD i 0))), (14, .v (.int .i64 (celX p (spr g p) i))), (15, .v (.int .i64 (celN g p (spr g p) i))), (18, .dat (.ints .i64 (spr g p))), (19, .v (.int .i64 (spr g p).length)), (20, .v (.int .i64 (i : Nat)))], hp := fun _ => [dF 0 g p, (5000, .row 68 (.recs 3 (celA g p (spr g p) i))), (5001, .mp (.one (.i .i64)) (.one (.i .i64)) (nxM p (spr g p) (i + 1)))], μ := fun _ => 0 }
def oDec (g : Int) (p : List Int) : Nat → Option LoopFam := fun k => cond (Nat.beq k 0) (some (.one (oDecA g p))) (cond (Nat.beq k 1010) (some (.fam Nat fun i => oDecZ g p i)) <| cond (Nat.beq k 1012) (some (.fam Nat fun i => oDecB g p i)) (cond (Nat.beq k 1013) (some (.fam Nat fun i => oDecC g p i)) none))
def GHa : List (Nat × Ctr) := (86, sPt.ctr) :: GFm
def GHb : List (Nat × Ctr) := (85, sPrb.ctr) :: GHa
def GHc : List (Nat × Ctr) := (84, sDecA.ctr) :: GHb
def GHd : List (Nat × Ctr) := (50, sDec.ctr) :: GHc
def GHe : List (Nat × Ctr) := GHd
def GHf : List (Nat × Ctr) := GHe
end Go.Proofs.Ytbdgknebimdjoaa
namespace Go.Proofs.Ytbdgknebimdjoaa
open Go Go.RowKit
set_option linter.unusedVariables false
set_option maxRecDepth 100000
def ptH_t (x : Int) : Prop :=
 (decide (x < (0 : Int)) = true → (1 : Int) = pt x) ∧ (decide (x < (0 : Int)) = false → x = pt x)
theorem ptH_e (x : Int) : ptH_t x = vcG Try.prog (Gof []) (fun _ => none) Try.f86 [.v (.int .i64 x)] [] (.leaf ((.v (.int .i64 (pt x)))) ([])) := by kernel_rfl
def prbH_t (x g : Int) (p : List Int) : Prop :=
 (0 : Int) ≤ x ∧ x < (↑(List.length p) : Int) ∧ pt (List.getD p (Int.toNat x) (0 : Int)) = pt (List.getD p (Int.toNat x) (0 : Int)) ∧ g = g ∧ p = p
theorem prbH_e (x g : Int) (p : List Int) : prbH_t x g p = vcG Try.prog (Gof GHa) (fun _ => none) Try.f85 [.v (.int .i64 x), .p 0 0 0] [dF 0 g p] (.leaf ((.v (.int .i64 (pt (p.getD x.toNat 0))))) ([dF 0 g p])) := by kernel_rfl
def decAH_t (g : Int) (p : List Int) : Prop :=
 (0 : Int) = (0 : Int) ∧
 (0 : Int) ≤ (0 : Int) ∧
 (0 : Int) ≤ (512 : Int) ∧
 (0 : Int) < (512 : Int) ∧
 (512 : Int) ≤ (↑(512 : Nat) : Int) ∧
 (512 : Nat) = (512 : Nat) ∧
 (512 : Nat) ≤ (4294967296 : Nat) ∧
 (∃ (x0 : Nat),
 Nat.le x0 (List.length (spr g p)) ∧
 g = g ∧
 spr g p = spr g p ∧
 (↑(List.length (spr g p)) : Int) = (↑(List.length (spr g p)) : Int) ∧
 (0 : Int) = (↑x0 : Int) ∧
 g = g ∧
 p = p ∧
 List.take (Int.toNat (0 : Int)) (List.drop (0 : Nat) (List.replicate (512 : Nat) (List.replicate ((3 : Nat)) (0 : Int)))) = celA g p (spr g p) x0 ∧
 ∀ (q1 : List Int), mget [] q1 = mget (nxM p (spr g p) x0) q1) ∧
 ∀ (x2 : Nat),
 Nat.le x2 (List.length (spr g p)) →
 (decide ((↑x2 : Int) < (↑(List.length (spr g p)) : Int)) = true →
 (0 : Int) ≤ (↑x2 : Int) ∧
 (↑x2 : Int) < (↑(List.length (spr g p)) : Int) ∧
 ∃ (g3 : Nat),
 (((!mhas (nxM p (spr g p) x2) [List.getD (spr g p) (Int.toNat (↑x2 : Int)) (0 : Int)]) = true →
 (0 : Int) ≤ List.getD (spr g p) (Int.toNat (↑x2 : Int)) (0 : Int) ∧
 List.getD (spr g p) (Int.toNat (↑x2 : Int)) (0 : Int) < (↑(List.length p) : Int) ∧
 ∃ (x4 : Unit),
 Nat.le (Nat.succ g3) (List.length (spr g p)) ∧
 g = g ∧
 List.getD (spr g p) (Int.toNat (↑x2 : Int)) (0 : Int) = List.getD (spr g p) g3 (0 : Int) ∧
 spr g p = spr g p ∧
 (↑(List.length (spr g p)) : Int) = (↑(List.length (spr g p)) : Int) ∧
 (↑x2 : Int) = (↑g3 : Int) ∧
 g = g ∧
 p = p ∧
 celA g p (spr g p) x2 = celA g p (spr g p) g3 ∧
 ∀ (q5 : List Int),
 mget
 (([List.getD (spr g p) (Int.toNat (↑x2 : Int)) (0 : Int)],
 [pt (List.getD p (Int.toNat (List.getD (spr g p) (Int.toNat (↑x2 : Int)) (0 : Int))) (0 : Int))]) ::
 nxM p (spr g p) x2)
 q5 =
 mget (([List.getD (spr g p) g3 (0 : Int)], [celX p (spr g p) g3]) :: nxM p (spr g p) g3) q5) ∧
 ((!mhas (nxM p (spr g p) x2) [List.getD (spr g p) (Int.toNat (↑x2 : Int)) (0 : Int)]) = false →
 ∃ (x6 : Unit),
 Nat.le (Nat.succ g3) (List.length (spr g p)) ∧
 g = g ∧
 List.getD (spr g p) (Int.toNat (↑x2 : Int)) (0 : Int) = List.getD (spr g p) g3 (0 : Int) ∧
 spr g p = spr g p ∧
 (↑(List.length (spr g p)) : Int) = (↑(List.length (spr g p)) : Int) ∧
 (↑x2 : Int) = (↑g3 : Int) ∧
 g = g ∧
 p = p ∧
 celA g p (spr g p) x2 = celA g p (spr g p) g3 ∧
 ∀ (q7 : List Int),
 mget (nxM p (spr g p) x2) q7 = mget (([List.getD (spr g p) g3 (0 : Int)], [celX p (spr g p) g3]) :: nxM p (spr g p) g3) q7)) ∧
 ∀ (x8 : Unit),
 Nat.le (Nat.succ g3) (List.length (spr g p)) →
 ∃ (g9 : Nat),
 (∃ (x10 : Unit),
 Nat.le (Nat.succ g9) (List.length (spr g p)) ∧
 g = g ∧
 List.getD (spr g p) g3 (0 : Int) = List.getD (spr g p) g9 (0 : Int) ∧
 List.headD (mval ((1 : Nat)) (([List.getD (spr g p) g3 (0 : Int)], [celX p (spr g p) g3]) :: nxM p (spr g p) g3) [List.getD (spr g p) g3 (0 : Int)])
 (0 : Int) =
 celX p (spr g p) g9 ∧
 spr g p = spr g p ∧
 (↑(List.length (spr g p)) : Int) = (↑(List.length (spr g p)) : Int) ∧
 (↑g3 : Int) = (↑g9 : Int) ∧
 g = g ∧
 p = p ∧
 celA g p (spr g p) g3 = celA g p (spr g p) g9 ∧
 ∀ (q11 : List Int),
 mget
 (([List.getD (spr g p) g3 (0 : Int)],
 [IntKind.wrap IntKind.i64
 (List.headD
 (mval ((1 : Nat)) (([List.getD (spr g p) g3 (0 : Int)], [celX p (spr g p) g3]) :: nxM p (spr g p) g3)
 [List.getD (spr g p) g3 (0 : Int)])
 (0 : Int) +
 (1 : Int))]) ::
 ([List.getD (spr g p) g3 (0 : Int)], [celX p (spr g p) g3]) :: nxM p (spr g p) g3)
 q11 =
 mget (nxM p (spr g p) (g9 + (1 : Nat))) q11) ∧
 ∀ (x12 : Unit),
 Nat.le (Nat.succ g9) (List.length (spr g p)) →
 ∃ (g13 : Nat),
 (celX p (spr g p) g9 ≤ (9223372036854775807 : Int) ∧
 ∃ (x14 : Unit),
 Nat.le (Nat.succ g13) (List.length (spr g p)) ∧
 g = g ∧
 List.getD (spr g p) g9 (0 : Int) = List.getD (spr g p) g13 (0 : Int) ∧
 celX p (spr g p) g9 = celX p (spr g p) g13 ∧
 IntKind.wrap IntKind.i64 (g - hiI (celX p (spr g p) g9)) = celN g p (spr g p) g13 ∧
 spr g p = spr g p ∧
 (↑(List.length (spr g p)) : Int) = (↑(List.length (spr g p)) : Int) ∧
 (↑g9 : Int) = (↑g13 : Int) ∧
 g = g ∧
 p = p ∧
 celA g p (spr g p) g9 = celA g p (spr g p) g13 ∧
 ∀ (q15 : List Int), mget (nxM p (spr g p) (g9 + (1 : Nat))) q15 = mget (nxM p (spr g p) (g13 + (1 : Nat))) q15) ∧
 ∀ (x16 : Unit),
 Nat.le (Nat.succ g13) (List.length (spr g p)) →
 (0 : Int) ≤ IntKind.wrap IntKind.u64 (celN g p (spr g p) g13) ∧
 (0 : Int) ≤ IntKind.wrap IntKind.u64 g ∧
 (List.length (celA g p (spr g p) g13) +
 Nat.succ
 (Nat.add
 (List.length
 (List.map
 (fun (i : Nat) =>
 List.take ((3 : Nat))
 (List.drop (i * (3 : Nat))
 [List.getD (spr g p) g13 (0 : Int), celN g p (spr g p) g13,
 IntKind.wrap IntKind.i64
 (IntKind.wrap IntKind.i64
 (celX p (spr g p) g13 *
 (2 : Int) ^ min (Int.toNat (IntKind.wrap IntKind.u64 (celN g p (spr g p) g13))) (IntKind.bits IntKind.i64)) -
 IntKind.wrap IntKind.i64
 ((1 : Int) * (2 : Int) ^ min (Int.toNat (IntKind.wrap IntKind.u64 g)) (IntKind.bits IntKind.i64)))]))
 []))
 ((0 : Nat)))) *
 (24 : Nat) ≤
 (140737488355328 : Nat) ∧
 ∃ (y17 : Nat),
 Nat.le y17 (List.length (spr g p)) ∧
 Nat.sub (List.length (spr g p)) y17 < Nat.sub (List.length (spr g p)) x2 ∧
 g = g ∧
 spr g p = spr g p ∧
 (↑(List.length (spr g p)) : Int) = (↑(List.length (spr g p)) : Int) ∧
 IntKind.wrap IntKind.i64 ((↑g13 : Int) + (1 : Int)) = (↑y17 : Int) ∧
 g = g ∧
 p = p ∧
 celA g p (spr g p) g13 ++
 List.map
 (fun (i : Nat) =>
 List.take ((3 : Nat))
 (List.drop (i * (3 : Nat))
 [List.getD (spr g p) g13 (0 : Int), celN g p (spr g p) g13,
 IntKind.wrap IntKind.i64
 (IntKind.wrap IntKind.i64
 (celX p (spr g p) g13 *
 (2 : Int) ^
 min (Int.toNat (IntKind.wrap IntKind.u64 (celN g p (spr g p) g13))) (IntKind.bits IntKind.i64)) -
 IntKind.wrap IntKind.i64
 ((1 : Int) * (2 : Int) ^ min (Int.toNat (IntKind.wrap IntKind.u64 g)) (IntKind.bits IntKind.i64)))]))
 (List.range (1 : Nat)) =
 celA g p (spr g p) y17 ∧
 ∀ (q18 : List Int), mget (nxM p (spr g p) (g13 + (1 : Nat))) q18 = mget (nxM p (spr g p) y17) q18) ∧
 (decide ((↑x2 : Int) < (↑(List.length (spr g p)) : Int)) = false → celA g p (spr g p) x2 = decL g p ∧ g = g ∧ p = p)
theorem decAH_e (g : Int) (p : List Int) : decAH_t g p = vcG Try.prog (Gof GHb) (oDec g p) Try.f84 [.v (.int .i64 g), .fn (.func 85) [] [.p 0 0 0], .dat (.ints .i64 (spr g p))] [dF 0 g p] (.leaf ((.dat (.recs 3 (decL g p)))) ([dF 0 g p])) := by kernel_rfl
def decH_t (g : Int) (p : List Int) : Prop :=
 List.length p ≤ (4294967296 : Nat) ∧
 ((dchk g p != (0 : Int)) = true → List.length (decO g p) = (0 : Nat) ∧ dchk g p = dchk g p) ∧
 ((dchk g p != (0 : Int)) = false →
 List.length p ≤ (4294967296 : Nat) ∧
 ((dchk g p != (0 : Int)) = true → List.length (decO g p) = (0 : Nat) ∧ dchk g p = dchk g p) ∧
 ((dchk g p != (0 : Int)) = false → dchk g p = (0 : Int) ∧ g = g ∧ sprO g p = spr g p ∧ decL g p = decO g p ∧ (0 : Int) = dchk g p))
theorem decH_e (g : Int) (p : List Int) : decH_t g p = vcG Try.prog (Gof GHc) (fun _ => none) Try.f50 [.ag [.v (.int .i64 g), .dat (.ints .i64 p)]] [] (.leaf ((.tu [.dat (.recs 3 (decO g p)), .v (.int .i64 (dchk g p))])) ([])) := by kernel_rfl
end Go.Proofs.Ytbdgknebimdjoaa
namespace Go.Proofs.Ytbdgknebimdjoaa
open Go Go.RowKit
set_option linter.unusedVariables false
set_option linter.unusedSimpArgs false
set_option maxRecDepth 100000
theorem pts_cons (p : Int) (r : List Int) : pts (p :: r) = pt p + pts r := by
  have := pts_app [p] r
  have h5 : pts [p] = pt p := by simp [pts]
  rw [h5] at this
  exact this
end Go.Proofs.Ytbdgknebimdjoaa
namespace Go.Proofs.Ytbdgknebimdjoaa
open Go Go.RowKit
set_option linter.unusedVariables false
set_option linter.unusedSimpArgs false
set_option maxRecDepth 100000
theorem modI_pos {x m : Int} (h : 1 ≤ m) : 0 ≤ modI x m ∧ modI x m < m := by
  unfold modI
  rw [decide_eq_false (by omega)]
  exact ⟨Int.emod_nonneg _ (by omega), Int.emod_lt_of_pos _ (by omega)⟩
theorem lowF_cnt : ∀ (l : List Int) (s : Int) (k : Nat), k < l.length → (lowF s l).count (s + k) = cond (isR (l.getD k 0)) 1 0 ∧ ∀ z, z < s → (lowF s l).count z = 0
  | [], _, _, h => by simp at h
  | x :: r, s, k, h => by
    have low : ∀ (l : List Int) (s z : Int), z < s → (lowF s l).count z = 0 := by
      intro l
      induction l with
      | nil => intro s z _; rfl
      | cons y t ih =>
        intro s z hz
        show (cond (isR y) (s :: lowF (s + 1) t) (lowF (s + 1) t)).count z = 0
        cases isR y
        · exact ih _ _ (by omega)
        · simp only [cond_true]
          rw [List.count_cons_of_ne (by omega)]
          exact ih _ _ (by omega)
    refine ⟨?_, low _ _⟩
    show (cond (isR x) (s :: lowF (s + 1) r) (lowF (s + 1) r)).count (s + k) = _
    cases k with
    | zero =>
      have e : s + ((0 : Nat) : Int) = s := by omega
      rw [e]
      show _ = cond (isR x) 1 0
      cases isR x
      · exact low _ _ _ (by omega)
      · simp only [cond_true]
        rw [List.count_cons_self, low _ _ _ (by omega)]
    | succ k =>
      have e : s + ((k + 1 : Nat) : Int) = s + 1 + (k : Int) := by omega
      rw [e]
      have ih := (lowF_cnt r (s + 1) k (by simpa using h)).1
      show _ = cond (isR (r.getD k 0)) 1 0
      rw [← ih]
      cases isR x
      · rfl
      · simp only [cond_true]
        rw [List.count_cons_of_ne (by omega)]
theorem hiF_cnt : ∀ (l : List Int) (s : Int) (k : Nat), k < l.length → (hiF s l).count (s + k) = (l.getD k 0).toNat
  | [], _, _, h => by simp at h
  | x :: r, s, k, h => by
    have low : ∀ (l : List Int) (s z : Int), z < s → (hiF s l).count z = 0 := by
      intro l
      induction l with
      | nil => intro s z _; rfl
      | cons y t ih =>
        intro s z hz
        show (List.replicate y.toNat s ++ hiF (s + 1) t).count z = 0
        rw [List.count_append, ih _ _ (by omega), List.count_replicate]
        have : (s == z) = false := by simp; omega
        rw [this]
        rfl
    show (List.replicate x.toNat s ++ hiF (s + 1) r).count (s + k) = _
    rw [List.count_append]
    cases k with
    | zero =>
      have e : s + ((0 : Nat) : Int) = s := by omega
      rw [e, low _ _ _ (by omega), List.count_replicate_self]
      rfl
    | succ k =>
      have e : s + ((k + 1 : Nat) : Int) = s + 1 + (k : Int) := by omega
      rw [e, hiF_cnt r (s + 1) k (by simpa using h), List.count_replicate]
      have : (s == s + 1 + (k : Int)) = false := by simp; omega
      rw [this]
      simp
theorem spr_cnt {g : Int} {l : List Int} (h : DOk g l) {k : Nat} (hk : k < l.length) : ((spr g l).count (k : Int) : Int) = pt (l.getD k 0) := by
  rw [(spr_perm h).count_eq, List.count_append]
  have e1 := (lowF_cnt l 0 k hk).1
  have e2 := hiF_cnt l 0 k hk
  rw [Int.zero_add] at e1 e2
  rw [e1, e2]
  have lo := h.lo _ (getD_mem' hk)
  unfold pt isR
  by_cases hm : l.getD k 0 = -1
  · rw [hm]; decide
  · have : (l.getD k 0 == -1) = false := beq_eq_false_iff_ne.2 hm
    rw [this, decide_eq_false (by omega)]
    simp only [cond_false]
    omega
theorem cel_pt {g : Int} {p : List Int} (h : dchk g p = 0) {s : Int} (hn : noD p s = false) : ((celT (encL g p) s).length : Int) = pt (p.getD s.toNat 0) := by
  have hd := dchk0 h
  have h0 : 0 ≤ s := by
    rcases Int.lt_or_le s 0 with hs | hs
    · rw [noD_neg (decide_eq_true hs)] at hn; cases hn
    · exact hs
  have h1 : s < p.length := by
    rcases Int.lt_or_le s p.length with hs | hs
    · exact hs
    · rw [noD_big (decide_eq_true hs)] at hn; cases hn
  obtain ⟨k, rfl⟩ := Int.eq_ofNat_of_zero_le h0
  have hk : k < p.length := by omega
  have hlen : (statesL p.length (spr g p)).length = p.length := by rw [← states_all, states_len]
  rw [(enc_good h).2, celT_in (by omega) (by rw [hlen]; exact h1), toNat_cast, ← states_all, states_get hk, cellsP_all]
  rw [show (cellsL (spr g p) (k : Int)).length = (spr g p).count (k : Int) from cellsF_len _ _ _]
  exact spr_cnt hd hk
theorem hi_X {g x : Int} (h0 : 0 ≤ g) (hx0 : 0 ≤ x) (hx1 : x < (szN g : Int)) : hiI (putX g x) = g := by
  have hp := szN_pos g
  unfold putX
  rw [hiI_pos (by omega)]
  have e : (x + (szN g : Int)).toNat = x.toNat + szN g := by omega
  rw [e]
  have : Nat.log2 (x.toNat + szN g) = g.toNat := by
    unfold szN at *
    refine (Nat.log2_eq_iff (by omega)).2 ⟨by omega, ?_⟩
    rw [Nat.pow_succ]
    omega
  rw [this]
  omega
end Go.Proofs.Ytbdgknebimdjoaa
namespace Go.Proofs.Ytbdgknebimdjoaa
open Go Go.RowKit
set_option linter.unusedVariables false
set_option linter.unusedSimpArgs false
set_option maxRecDepth 100000
theorem GFl_ok : AllOk Try.prog GFl := GFk_ok
theorem GFm_ok : AllOk Try.prog GFm := GFl_ok
theorem ints_inW {w : World} {A : Option Addr} {n cap : Nat} {zs : List Int} (h : IntsIn w A n cap zs) : (zs.take n).all inW = true := by
  rw [List.all_eq_true]
  intro x hx
  have := h.rng x (List.mem_of_mem_take hx)
  simp [inW]
  omega
end Go.Proofs.Ytbdgknebimdjoaa
namespace Go.Proofs.Ytbdgknebimdjoaa
open Go Go.RowKit
set_option linter.unusedVariables false
set_option linter.unusedSimpArgs false
set_option maxRecDepth 100000
theorem byI_rng (s : ByteArray) (i : Nat) : 0 ≤ byI s i ∧ byI s i < 256 := by
  unfold byI
  have := (s.data.toList.getD i 0).toNat_lt
  omega
theorem hi_8 : ∀ b : Fin 256, b.val ≠ 0 → 0 ≤ hiI (b.val : Int) ∧ hiI (b.val : Int) ≤ 7 := by decide +kernel
theorem noB_size {s : ByteArray} (h : noB s = false) : 0 < s.size ∧ lastB s ≠ 0 := by
  unfold noB at h
  simp only [Bool.or_eq_false_iff, beq_eq_false_iff_ne] at h
  refine ⟨?_, h.2⟩
  rcases Nat.eq_zero_or_pos s.size with h0 | h0
  · rw [h0] at h; cases h.1
  · exact h0
theorem lastB_rng (s : ByteArray) : 0 ≤ lastB s ∧ lastB s < 256 := byI_rng s _
theorem bkN_rng {s : ByteArray} (h : noB s = false) : 8 * ((s.size : Int) - 1) ≤ bkN s ∧ bkN s < 8 * s.size ∧ 0 ≤ bkN s := by
  obtain ⟨h0, h1⟩ := noB_size h
  obtain ⟨b0, b1⟩ := lastB_rng s
  have hh := hi_8 ⟨(lastB s).toNat, by omega⟩ (by simp only; omega)
  simp only at hh
  rw [show (((lastB s).toNat : Nat) : Int) = lastB s by omega] at hh
  unfold bkN
  rw [h]
  simp only [cond_false]
  omega
theorem bk_no {s : ByteArray} (h : noB s = true) (hl : ¬ 1048576 < s.size) : (0 : Int) = bkR s ∧ (22 : Int) = bkE s := by
  have : bkE s = 22 := by unfold bkE; rw [decide_eq_false hl, h]; rfl
  exact ⟨by unfold bkR; rw [this]; rfl, this.symm⟩
theorem bk_long {s : ByteArray} (hl : 1048576 < s.size) : (0 : Int) = bkR s ∧ (4 : Int) = bkE s := by
  have : bkE s = 4 := by unfold bkE; rw [decide_eq_true hl]; rfl
  exact ⟨by unfold bkR; rw [this]; rfl, this.symm⟩
theorem bk_yes {s : ByteArray} (h : noB s = false) (hl : ¬ 1048576 < s.size) : bkN s = bkR s ∧ (0 : Int) = bkE s := by
  have : bkE s = 0 := by unfold bkE; rw [decide_eq_false hl, h]; rfl
  exact ⟨by unfold bkR; rw [this]; rfl, this.symm⟩
theorem bkE_0 {s : ByteArray} (h : bkE s = 0) : noB s = false ∧ ¬ 1048576 < s.size ∧ bkR s = bkN s ∧ bkS s = s := by
  have hl : ¬ 1048576 < s.size := fun hl => by have := (bk_long hl).2; omega
  have hn : noB s = false := by
    cases hn : noB s
    · rfl
    · have := (bk_no hn hl).2; omega
  exact ⟨hn, hl, (bk_yes hn hl).1.symm, by unfold bkS; rw [h]; rfl⟩
theorem ptH_v (x : Int) : ptH_t x := ⟨fun h => (pt_neg h).symm, fun h => (pt_pos h).symm⟩
theorem ptH_sound : Sound Try.prog 86 sPt.ctr := sPt.sound (by kernel_rfl) sPt_enc fun x hc => by
  exact satG AllOk.nil mixed Try.func86 (ptH_e x) (ptH_v x)
theorem GHa_ok : AllOk Try.prog GHa := .cons ptH_sound <| GFm_ok
end Go.Proofs.Ytbdgknebimdjoaa

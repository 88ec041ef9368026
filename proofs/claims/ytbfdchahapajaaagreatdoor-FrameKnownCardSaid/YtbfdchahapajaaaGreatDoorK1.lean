/-
  Texts joined: Mg, SxA, SxBa, SxB, SxC, SxD, SxE, SxF, SxG, SxH, SxJ, SxK, SxL. Conditions: each theorem's own.
-/
import Derived.WalkKit
import Derived.Laws.CopyRow
import Derived.Maps.AppendAt
import Derived.RangeFuncSeq
import Derived.Laws.IdiomStrings
import Derived.Laws.BytesString
import Derived.Lib.AppendZerosOnto
namespace Go.Proofs.YtbfdchahapajaaaGreatDoor
def nilI : List Int := []
def mget (es : List (List Int × List Int)) (k : List Int) : Option (List Int) := (es.find? fun e => e.1 == k).map (·.2)
def mhas (es : List (List Int × List Int)) (k : List Int) : Bool := es.any fun e => e.1 == k
def mval (n : Nat) (es : List (List Int × List Int)) (k : List Int) : List Int := (mget es k).getD (List.replicate n 0)
end Go.Proofs.YtbfdchahapajaaaGreatDoor
namespace Go.Proofs.YtbfdchahapajaaaGreatDoor
open Go.RowKit
set_option linter.unusedVariables false
inductive Sh where
  | i
  | b
  | l
inductive CK where
  | i (k : IntKind)
  | b
inductive VK where
  | one (c : CK)
  | st (cs : List CK)
inductive Dat where
  | ints (k : IntKind) (xs : List Int)
  | recs (w : Nat) (xs : List (List Int))
  | lists (xss : List (List Int))
  | strs (xs : List ByteArray)
  | bools (xs : List Bool)
  | mix (sh : List Sh) (xs : List (List (List Int)))
inductive SV where
  | v (x : Value)
  | bl (b : Bool)
  | p (l i j : Nat)
  | o (l : Nat)
  | s (l off len : Nat) (cap : Option Nat)
  | dat (d : Dat)
  | dc (d : Dat)
  | m (l : Nat)
  | dp (d : Dat) (i j : Nat)
  | av (d : Dat)
  | fn (f : Fn) (first captured : List SV)
  | ag (cs : List SV)
  | tu (vs : List SV)
  | ifc (t : TypeId) (x : SV)
  | any
def Dat.wd : Dat → Nat
  | .recs w _ => w
  | .mix sh _ => sh.length
  | _ => 1
def isInts : Dat → Bool
  | .ints _ _ => true
  | _ => false
def Dat.len : Dat → Nat
  | .ints _ xs => xs.length
  | .recs _ xs => xs.length
  | .lists xs => xs.length
  | .strs xs => xs.length
  | .bools xs => xs.length
  | .mix _ xs => xs.length
def mixGet (sh : List Sh) (r : List (List Int)) (j : Nat) : SV := match sh[j]? with
  | some .i => .v (.int .i64 ((r.getD j []).getD 0 0))
  | some .b => .v (.bool ((r.getD j []).getD 0 0 == 1))
  | some .l => .dat (.ints .i64 (r.getD j []))
  | none => .any
def Dat.get : Dat → Nat → Nat → SV
  | .ints k xs, i, _ => .v (.int k (xs.getD i 0))
  | .recs _ xs, i, j => .v (.int .i64 ((xs.getD i []).getD j 0))
  | .lists xs, i, _ => .dat (.ints .i64 (xs.getD i []))
  | .strs xs, i, _ => .v (.string (xs.getD i ByteArray.empty))
  | .bools xs, i, _ => .v (.bool (xs.getD i false))
  | .mix sh xs, i, j => mixGet sh (xs.getD i []) j
def Dat.rw_ (d : Dat) (i : Nat) : List SV := (List.range d.wd).map (d.get i)
def Dat.sub (d : Dat) (a n : Nat) : Dat :=
  match d with
  | .ints k xs => .ints k ((xs.drop a).take n)
  | .recs w xs => .recs w ((xs.drop a).take n)
  | .lists xs => .lists ((xs.drop a).take n)
  | .strs xs => .strs ((xs.drop a).take n)
  | .bools xs => .bools ((xs.drop a).take n)
  | .mix sh xs => .mix sh ((xs.drop a).take n)
def ikN : IntKind → Nat
  | .i8 => 0 | .i16 => 1 | .i32 => 2 | .i64 => 3 | .u8 => 4 | .u16 => 5 | .u32 => 6 | .u64 => 7
def ikEq (a b : IntKind) : Bool := Nat.beq (ikN a) (ikN b)
def shN : Sh → Nat
  | .i => 0 | .b => 1 | .l => 2
def shsEq : List Sh → List Sh → Bool
  | [], [] => true
  | a :: r, c :: s => Nat.beq (shN a) (shN c) && shsEq r s
  | _, _ => false
def Dat.app : Dat → Dat → Option Dat
  | .ints k xs, .ints k' ys => cond (ikEq k k') (some (.ints k (xs ++ ys))) none
  | .recs w xs, .recs w' ys => cond (Nat.beq w w') (some (.recs w (xs ++ ys))) none
  | .lists xs, .lists ys => some (.lists (xs ++ ys))
  | .strs xs, .strs ys => some (.strs (xs ++ ys))
  | .bools xs, .bools ys => some (.bools (xs ++ ys))
  | .mix sh xs, .mix sh' ys => cond (shsEq sh sh') (some (.mix sh (xs ++ ys))) none
  | _, _ => none
def SV.asB : SV → Option Bool
  | .bl b => some b
  | .v (.bool b) => some b
  | _ => none
def SV.asL : SV → Option (IntKind × List Int)
  | .dat (.ints k l) => some (k, l)
  | .v (.slice none 0 0) => some (.i64, [])
  | _ => none
def SV.asI : SV → Option (IntKind × Int)
  | .v (.int k x) => some (k, x)
  | _ => none
def intsOf (k : IntKind) : List SV → Option (List Int)
  | [] => some []
  | c :: cs => match c.asI, intsOf k cs with
    | some (k', x), some xs => cond (ikEq k k') (some (x :: xs)) none
    | _, _ => none
def mixOf : List Sh → List SV → Option (List (List Int))
  | [], [] => some []
  | .i :: sh, c :: cs => match c.asI, mixOf sh cs with
    | some (k, x), some r => cond (ikEq k .i64) (some ([x] :: r)) none
    | _, _ => none
  | .b :: sh, c :: cs => match c.asB, mixOf sh cs with
    | some b, some r => some ([cond b 1 0] :: r)
    | _, _ => none
  | .l :: sh, c :: cs => match c.asL, mixOf sh cs with
    | some (k, l), some r => cond (ikEq k .i64) (some (l :: r)) none
    | _, _ => none
  | _, _ => none
def Dat.setAll (d : Dat) (i j : Nat) (cs : List SV) : Option Dat :=
  match d, cs with
  | .recs w xs, cs => match intsOf .i64 cs with
    | some row => cond (Nat.beq j 0 && Nat.beq cs.length w) (some (.recs w (xs.set i row))) none
    | none => none
  | .ints k xs, [.v (.int k' x)] => cond (ikEq k k' && Nat.beq j 0) (some (.ints k (xs.set i x))) none
  | .lists xs, [.dat (.ints k x)] => cond (ikEq k .i64 && Nat.beq j 0) (some (.lists (xs.set i x))) none
  | .strs xs, [.v (.string x)] => cond (Nat.beq j 0) (some (.strs (xs.set i x))) none
  | .bools xs, [.v (.bool x)] => cond (Nat.beq j 0) (some (.bools (xs.set i x))) none
  | .bools xs, [.bl x] => cond (Nat.beq j 0) (some (.bools (xs.set i x))) none
  | .mix sh xs, cs => match mixOf sh cs with
    | some row => cond (Nat.beq j 0) (some (.mix sh (xs.set i row))) none
    | none => none
  | _, _ => none
inductive SBlk where
  | cells (ty : TypeId) (cs : List SV)
  | arr (ty : TypeId) (d : Dat)
  | row (ty : TypeId) (d : Dat)
  | mp (kk vk : VK) (es : List (List Int × List Int))
  | rc (ty : TypeId) (wd n : Nat) (cs : List SV)
def SV.ofV : Value → SV
  | .bool b => .bl b
  | x => .v x
def SV.ofZ : Value → SV
  | .agg cs => .ag (cs.toList.map SV.ofV)
  | x => SV.ofV x
def SV.cellsOf : SV → List SV
  | .ag cs => cs
  | x => [x]
def SV.one : SV → Bool
  | .v (.agg _) => false
  | .v (.tuple _) => false
  | .ag _ => false
  | .tu _ => false
  | .av _ => false
  | .any => false
  | _ => true
structure Sst where
  n : Nat
  T : Nat → SV
  H : Nat → Option SBlk
  U : Nat → Bool
def upd {α : Type} (f : Nat → α) (k : Nat) (x : α) : Nat → α := fun i => cond (Nat.beq i k) x (f i)
def upds {α : Type} (f : Nat → α) : List (Nat × α) → Nat → α
  | [] => f
  | (k, x) :: r => upds (upd f k x) r
def Sst.ev (S : Sst) : Operand → SV
  | .tmp t => S.T t
  | .const x => SV.ofV x
  | .global g => .v (.pointer (some ⟨g, 0, none⟩))
  | .func f => .fn (.func f) [] []
def Sst.put (S : Sst) (d : Option Nat) (x : SV) : Sst :=
  match d with
  | some d => { S with T := upd S.T d x }
  | none => S
structure Cnd where
  p : Prop
  d : Decidable p
structure Res where
  vc : List Cnd
  val : SV
  rds : List Nat := []
  ups : List (Nat × Option SBlk) := []
  news : List Nat := []
def Res.fail : Res := { vc := [⟨False, inferInstance⟩], val := .any }
def Res.ret (x : SV) : Res := { vc := [], val := x }
def Sst.app (S : Sst) (d : Option Nat) (r : Res) : Sst :=
  { n := S.n
    T := match d with | some d => upd S.T d r.val | none => S.T
    H := upds S.H r.ups
    U := upds S.U (r.news.map fun k => (k, true)) }
structure CRes where
  pre : List Cnd
  uses : List Nat := []
  ret : SV
  hp : List (Nat × SBlk) := []
abbrev CFun : Type := List SV → (Nat → Option SBlk) → Nat → CRes
inductive CT where
  | leaf (r : CRes)
  | ite (c : Cnd) (a b : CT)
def CT.get : CT → CRes
  | .leaf r => r
  | .ite c a b => cond (@decide c.p c.d) a.get b.get
structure Ctr where
  own : Bool := false
  tr : List SV → (Nat → Option SBlk) → Nat → CT
def Ctr.fn (c : Ctr) : CFun := fun l H n => (c.tr l H n).get
def CRes.none : CRes := { pre := [⟨False, inferInstance⟩], ret := .any }
section
variable (P : Program)
def tyU (t : TypeId) : TypeDesc := (P.underlying t).getD .invalid
def tyAgg (t : TypeId) : Bool := match tyU P t with
  | .struct _ => true
  | .array _ _ => true
  | _ => false
def tyOk (t : TypeId) : Bool := match tyU P t with
  | .invalid => false
  | _ => true
def tySize (t : TypeId) : Nat := match P.info? t with
  | some i => i.size
  | none => 0
def tyBytes (t : TypeId) : Nat := match P.info? t with
  | some i => i.bytes
  | none => 0
def tyZero (t : TypeId) : Option Value := match P.info? t with
  | some i => i.zero
  | none => none
def intFields (fs : List Field) : Bool := fs.all fun f => match tyU P f.type with
  | .int .i64 => true
  | _ => false
def shapeF : List Field → Option (List Sh)
  | [] => some []
  | f :: fs => match tyU P f.type, shapeF fs with
    | .int .i64, some r => some (.i :: r)
    | .bool, some r => some (.b :: r)
    | .slice e, some r => match tyU P e with
      | .int .i64 => some (.l :: r)
      | _ => none
    | _, _ => none
def emptyDat (e : TypeId) : Option Dat := match tyU P e with
  | .int k => some (.ints k [])
  | .string => some (.strs [])
  | .bool => some (.bools [])
  | .slice e' => match tyU P e' with
    | .int .i64 => some (.lists [])
    | _ => none
  | .struct fs => cond (intFields P fs.toList) (some (.recs (tySize P e) [])) ((shapeF P fs.toList).map fun sh => .mix sh [])
  | _ => none
def zintsB (k : IntKind) : List Value → Bool
  | [] => true
  | .int k' x :: r => ikEq k k' && decide (x = 0) && zintsB k r
  | _ :: _ => false
def zeroDat (e : TypeId) (n : Nat) : Option Dat := match tyU P e, tyZero P e with
  | .int k, some z => cond (zintsB k z.cells.toList && Nat.beq z.cells.toList.length 1) (some (.ints k (List.replicate n 0))) none
  | .string, some (.string s) => cond (Nat.beq s.size 0) (some (.strs (List.replicate n ByteArray.empty))) none
  | .bool, some (.bool b) => cond b none (some (.bools (List.replicate n false)))
  | .slice e', some (.slice none 0 0) => match tyU P e' with
    | .int .i64 => some (.lists (List.replicate n nilI))
    | _ => none
  | .struct fs, some (.agg cs) => cond (zintsB .i64 cs.toList && Nat.beq cs.toList.length (tySize P e)) (some (.recs (tySize P e) (List.replicate n (List.replicate (tySize P e) 0)))) none
  | _, _ => none
def strsOf : List SV → Option (List ByteArray)
  | [] => some []
  | .v (.string s) :: cs => (strsOf cs).map (s :: ·)
  | _ :: _ => none
def listsOf : List SV → Option (List (List Int))
  | [] => some []
  | c :: cs => match c.asL, listsOf cs with
    | some (k, l), some r => cond (ikEq k .i64) (some (l :: r)) none
    | _, _ => none
def mixN (sh : List Sh) : Nat → List SV → Option (List (List (List Int)))
  | 0, _ => some []
  | n + 1, cs => match mixOf sh (cs.take sh.length), mixN sh n (cs.drop sh.length) with
    | some r, some rs => some (r :: rs)
    | _, _ => none
def datOf (e : TypeId) (cs : List SV) (n : Nat) : Option Dat := match tyU P e with
  | .int k => (intsOf k cs).map (.ints k)
  | .string => (strsOf cs).map .strs
  | .struct fs => cond (intFields P fs.toList) ((intsOf .i64 cs).map fun xs => .recs (tySize P e) ((List.range n).map fun i => (xs.drop (i * tySize P e)).take (tySize P e)))
      (match shapeF P fs.toList with
      | some sh => cond (Nat.beq sh.length (tySize P e)) ((mixN sh n cs).map (.mix sh)) none
      | none => none)
  | .slice e' => match tyU P e' with
    | .int .i64 => (listsOf cs).map .lists
    | _ => none
  | _ => none
def agInts (e : TypeId) (cs : List SV) : Option (IntKind × List Int) := match tyU P e with
  | .int k => match intsOf k cs with
    | some xs => some (k, xs)
    | none => none
  | _ => none
def convL (H : Nat → Option SBlk) : SV → SV × List Nat
  | .o l => match H l with
    | some (.row _ d) => (.dat d, [l])
    | _ => (.any, [])
  | .s l off len _ => match H l with
    | some (.row _ d) => (.dat (d.sub off len), [l])
    | some (.arr _ d) => (.dat (d.sub off len), [l])
    | _ => (.any, [])
  | x => (x, [])
def frzV (H : Nat → Option SBlk) (cs : List SV) : List SV := cs.map fun c => (convL H c).1
def frzN (H : Nat → Option SBlk) (cs : List SV) : List Nat := (cs.map fun c => (convL H c).2).flatten
def cnv1 (H : Nat → Option SBlk) : SV → SV × List Nat
  | .bl b => (.v (.bool b), [])
  | .ag cs => (.ag (cs.map fun c => (convL H c).1), (cs.map fun c => (convL H c).2).flatten)
  | x => convL H x
def convs (H : Nat → Option SBlk) : List SV → List SV × List Nat
  | [] => ([], [])
  | x :: xs => match cnv1 H x, convs H xs with
    | (y, b), (ys, bs) => (y :: ys, b ++ bs)
def hasN' (l : List Nat) (k : Nat) : Bool := l.any fun i => Nat.beq i k
def inL (l r : List Nat) : Bool := r.all (hasN' l)
def meetN (l r : List Nat) : Bool := l.any (hasN' r)
def nodupN : List Nat → Bool
  | [] => true
  | k :: r => !hasN' r k && nodupN r
def isNil {α : Type} : List α → Bool
  | [] => true
  | _ => false
mutual
def ids : SV → List Nat
  | .p l _ _ => [l]
  | .o l => [l]
  | .s l _ _ _ => [l]
  | .m l => [l]
  | .fn _ a c => idsL a ++ idsL c
  | .ag cs => idsL cs
  | .tu cs => idsL cs
  | .ifc _ x => ids x
  | _ => []
def idsL : List SV → List Nat
  | [] => []
  | c :: cs => ids c ++ idsL cs
end
mutual
def dfree : SV → Bool
  | .dat _ => false
  | .dc _ => false
  | .dp _ _ _ => false
  | .fn _ a c => dfreeL a && dfreeL c
  | .ag cs => dfreeL cs
  | .tu cs => dfreeL cs
  | .ifc _ x => dfree x
  | _ => true
def dfreeL : List SV → Bool
  | [] => true
  | c :: cs => dfree c && dfreeL cs
end
def idsB : SBlk → List Nat
  | .cells _ cs => idsL cs
  | .rc _ _ _ cs => idsL cs
  | _ => []
def dfreeD : Dat → Bool
  | .lists _ => false
  | .mix _ _ => false
  | _ => true
def dfreeB : SBlk → Bool
  | .cells _ cs => dfreeL cs
  | .arr _ d => dfreeD d
  | .row _ d => dfreeD d
  | .mp _ _ _ => true
  | .rc _ _ _ cs => dfreeL cs
def usesOk (H : Nat → Option SBlk) (uses : List Nat) : List Nat → Bool
  | [] => true
  | l :: r => (match H l with
    | some b => inL uses (idsB b)
    | none => false) && usesOk H uses r
def lookupL {α : Type} : List (Nat × α) → Nat → Option α
  | [], _ => none
  | (k, x) :: r, i => cond (Nat.beq i k) (some x) (lookupL r i)
def fillS (place : Nat → Option (Nat × Nat)) (cells : List SV) : List (Nat × SV) → Option (List SV)
  | [] => some cells
  | (i, x) :: rest => match place i with
    | none => none
    | some (off, size) =>
      cond (Nat.beq x.cellsOf.length size && x.cellsOf.all SV.one && Nat.ble (off + size) cells.length) (fillS place (cells.take off ++ x.cellsOf ++ cells.drop (off + size)) rest) none
def loadS (t : TypeId) (b : SBlk) (i j : Nat) : Res :=
  match b with
  | .cells _ cs =>
    cond (Nat.beq i 0)
      (cond (tyAgg P t) (cond (Nat.ble (j + tySize P t) cs.length) (.ret (.ag ((cs.drop j).take (tySize P t)))) .fail)
        (match cs[j]? with
        | some c => .ret c
        | none => .fail)) .fail
  | .arr _ d =>
    cond (tyAgg P t)
      (match tyU P t with
      | .struct _ => cond (Nat.beq j 0 && Nat.beq (tySize P t) d.wd) { vc := [⟨i < d.len, inferInstance⟩], val := .ag (d.rw_ i) } .fail
      | .array _ _ => cond (Nat.beq i 0 && Nat.beq j 0 && isInts d) { vc := [⟨tySize P t = d.len, inferInstance⟩], val := .av d } .fail
      | _ => .fail)
      (cond (Nat.blt j d.wd) { vc := [⟨i < d.len, inferInstance⟩], val := d.get i j } .fail)
  | .row _ d =>
    cond (tyAgg P t)
      (match tyU P t with
      | .struct _ => cond (Nat.beq j 0 && Nat.beq (tySize P t) d.wd) { vc := [⟨i < d.len, inferInstance⟩], val := .ag (d.rw_ i) } .fail
      | _ => .fail)
      (cond (Nat.blt j d.wd) { vc := [⟨i < d.len, inferInstance⟩], val := d.get i j } .fail)
  | .mp _ _ _ => .fail
  | .rc _ wd n cs =>
    cond (Nat.blt i n && Nat.blt j wd)
      (cond (tyAgg P t) (cond (Nat.ble (j + tySize P t) wd) (.ret (.ag ((cs.drop (i * wd + j)).take (tySize P t)))) .fail)
        (match cs[i * wd + j]? with
        | some c => .ret c
        | none => .fail)) .fail
def storeAv (l : Nat) (b : SBlk) (t : TypeId) (i j : Nat) (x : SV) : Res :=
  match b, x with
  | .arr ty (.ints k xs), .av (.ints k' ys) => cond (ikEq k k' && Nat.beq i 0 && Nat.beq j 0)
      { vc := [⟨ys.length = tySize P t, inferInstance⟩, ⟨ys.length = xs.length, inferInstance⟩], val := .v undef, rds := [l], ups := [(l, some (.arr ty (.ints k ys)))] } .fail
  | _, _ => .fail
def storeS (H : Nat → Option SBlk) (l : Nat) (b : SBlk) (t : TypeId) (i j : Nat) (x : SV) : Res :=
  cond (Nat.beq x.cellsOf.length (tySize P t))
  (match b with
  | .cells ty cs =>
    cond (Nat.beq i 0 && x.cellsOf.all SV.one && Nat.ble (j + tySize P t) cs.length)
      { vc := [], val := .v undef, rds := [l], ups := [(l, some (.cells ty (cs.take j ++ x.cellsOf ++ cs.drop (j + tySize P t))))] } .fail
  | .arr ty d => match d.setAll i j x.cellsOf with
      | some d' => cond (Nat.ble (j + tySize P t) d.wd) { vc := [⟨i < d.len, inferInstance⟩], val := .v undef, rds := [l], ups := [(l, some (.arr ty d'))] } .fail
      | none => match d with
        | .ints k xs => match intsOf k x.cellsOf with
          | some ys => cond (Nat.beq i 0 && Nat.beq j 0) { vc := [⟨ys.length = xs.length, inferInstance⟩], val := .v undef, rds := [l], ups := [(l, some (.arr ty (.ints k ys)))] } .fail
          | none => .fail
        | _ => .fail
  | .row ty d => match d.setAll i j (frzV H x.cellsOf) with
      | some d' => cond (Nat.ble (j + tySize P t) d.wd && x.cellsOf.all SV.one && !hasN' (frzN H x.cellsOf) l) { vc := [⟨i < d.len, inferInstance⟩], val := .v undef, rds := l :: frzN H x.cellsOf, ups := (frzN H x.cellsOf).map (fun k => (k, none)) ++ [(l, some (.row ty d'))] } .fail
      | none => .fail
  | .mp _ _ _ => .fail
  | .rc _ _ _ _ => .fail) (storeAv P l b t i j x)
def isSliceT (t : TypeId) : Bool := match tyU P t with
  | .slice _ => true
  | _ => false
def isStr (t : TypeId) : Bool := match tyU P t with
  | .string => true
  | _ => false
def lenS (H : Nat → Option SBlk) (t : TypeId) : SV → Res
  | .dat d => cond (isSliceT P t) (.ret (.v (.int .i64 d.len))) .fail
  | .dc d => cond (isSliceT P t) (.ret (.v (.int .i64 d.len))) .fail
  | .o l => match H l with
    | some (.row _ d) => cond (isSliceT P t) { vc := [], val := .v (.int .i64 d.len), rds := [l] } .fail
    | some (.rc _ _ k _) => cond (isSliceT P t) { vc := [], val := .v (.int .i64 k), rds := [l] } .fail
    | _ => .fail
  | .s _ _ len _ => cond (isSliceT P t) (.ret (.v (.int .i64 len))) .fail
  | .v (.string s) => cond (isStr P t) (.ret (.v (.int .i64 s.size))) .fail
  | .v (.slice none 0 0) => cond (isSliceT P t) (.ret (.v (.int .i64 0))) .fail
  | _ => .fail
def srcS (H : Nat → Option SBlk) (e : TypeId) : SV → Option (Dat × List Nat)
  | .dat d => some (d, [])
  | .o l => match H l with
    | some (.row _ d) => some (d, [l])
    | _ => none
  | .s l off len _ => match H l with
    | some (.row _ d) => some (d.sub off len, [l])
    | some (.arr _ d) => some (d.sub off len, [l])
    | _ => none
  | .v (.slice none 0 0) => (emptyDat P e).map fun d => (d, [])
  | _ => none
def isIntT (t : TypeId) : Bool := match tyU P t with
  | .int _ => true
  | _ => false
def appendD (H : Nat → Option SBlk) (e : TypeId) (s : SV) (d2 : Dat) (r2 : List Nat) (n : Nat) : Res :=
  match s with
  | .o l => match H l with
    | some (.row ty d) => match d.app d2 with
      | some d' => cond (Nat.beq ty e) { vc := [⟨(d.len + d2.len) * tyBytes P e ≤ 140737488355328, inferInstance⟩], val := .o n, rds := l :: r2, ups := [(l, none), (n, some (.row e d'))], news := [n] } .fail
      | none => .fail
    | _ => .fail
  | .v (.slice none 0 0) => { vc := [⟨d2.len * tyBytes P e ≤ 140737488355328, inferInstance⟩], val := .o n, rds := r2, ups := [(n, some (.row e d2))], news := [n] }
  | .dc d => match d.app d2 with
    | some d' => { vc := [⟨(d.len + d2.len) * tyBytes P e ≤ 140737488355328, inferInstance⟩], val := .dat d', rds := r2, ups := [(n, none)], news := [n] }
    | none => .fail
  | _ => .fail
def elOk (e : TypeId) (wd : Nat) : Bool := tyOk P e && Nat.beq (tySize P e) wd && Nat.blt 0 wd && Nat.blt 0 (tyBytes P e) && (match tyZero P e with
  | some z => Nat.beq z.cells.size wd && z.cells.toList.all Value.oneCell'
  | none => false)
def appendC (H : Nat → Option SBlk) (e : TypeId) (s x : SV) (n : Nat) : Res :=
  match x with
  | .s l off m _ => match H l with
    | some (.cells _ cs2) => cond (elOk P e (tySize P e) && Nat.beq off 0 && Nat.beq cs2.length (m * tySize P e))
      (match s with
      | .v (.slice none 0 0) => { vc := [⟨m * tyBytes P e ≤ 140737488355328, inferInstance⟩], val := .o n, rds := [l], ups := [(n, some (.rc e (tySize P e) m cs2))], news := [n] }
      | .o k => match H k with
        | some (.rc ty wd k0 cs) => cond (Nat.beq ty e && Nat.beq wd (tySize P e)) { vc := [⟨(k0 + m) * tyBytes P e ≤ 140737488355328, inferInstance⟩], val := .o n, rds := [k, l], ups := [(k, none), (n, some (.rc e (tySize P e) (k0 + m) (cs ++ cs2)))], news := [n] } .fail
        | _ => .fail
      | _ => .fail) .fail
    | _ => .fail
  | _ => .fail
def appendS (H : Nat → Option SBlk) (ts : TypeId) (tx : TypeId) (s x : SV) (n : Nat) : Res :=
  match tyU P ts with
  | .slice e =>
    match x with
    | .v (.int _ m) => match zeroDat P e m.toNat with
      | some d2 => cond (elOk P e d2.wd && isIntT P tx) (match appendD P H e s d2 [] n with
        | ⟨c, v, rds, ups, news⟩ => ⟨⟨0 ≤ m, inferInstance⟩ :: ⟨m ≤ 4294967296, inferInstance⟩ :: c, v, rds, ups, news⟩) .fail
      | none => .fail
    | x => match srcS P H e x with
      | some (d2, r2) => cond (elOk P e d2.wd && Nat.beq tx ts) (appendD P H e s d2 r2 n) .fail
      | none => cond (Nat.beq tx ts) (appendC P H e s x n) .fail
  | _ => .fail
def indexAddrS (H : Nat → Option SBlk) (t : TypeId) (x : SV) (i : Int) : Res :=
  match tyU P t with
  | .array len e => cond (tyOk P e) (match x with
    | .p l a j => match H l with
      | some (.cells _ _) => { vc := [⟨0 ≤ i, inferInstance⟩, ⟨i < len, inferInstance⟩], val := .p l a (j + i.toNat * tySize P e), rds := [l] }
      | some (.arr _ d) => cond (Nat.beq a 0 && Nat.beq j 0 && Nat.beq (tySize P e) d.wd) { vc := [⟨0 ≤ i, inferInstance⟩, ⟨i < len, inferInstance⟩], val := .p l i.toNat 0, rds := [l] } .fail
      | _ => .fail
    | _ => .fail) .fail
  | .slice e => cond (tyOk P e) (match x with
    | .dat d => cond (Nat.beq (tySize P e) d.wd) { vc := [⟨0 ≤ i, inferInstance⟩, ⟨i < d.len, inferInstance⟩], val := .dp d i.toNat 0 } .fail
    | .o l => match H l with
      | some (.row _ d) => cond (Nat.beq (tySize P e) d.wd) { vc := [⟨0 ≤ i, inferInstance⟩, ⟨i < d.len, inferInstance⟩], val := .p l i.toNat 0, rds := [l] } .fail
      | some (.rc _ wd k _) => cond (Nat.beq (tySize P e) wd) { vc := [⟨0 ≤ i, inferInstance⟩, ⟨i < k, inferInstance⟩], val := .p l i.toNat 0, rds := [l] } .fail
      | _ => .fail
    | .s l off len _ => match H l with
      | some (.cells _ _) => cond (Nat.beq off 0) { vc := [⟨0 ≤ i, inferInstance⟩, ⟨i < len, inferInstance⟩], val := .p l 0 (i.toNat * tySize P e), rds := [l] } .fail
      | some (.arr _ d) => cond (Nat.beq (tySize P e) d.wd) { vc := [⟨0 ≤ i, inferInstance⟩, ⟨i < len, inferInstance⟩], val := .p l (off + i.toNat) 0, rds := [l] } .fail
      | some (.row _ d) => cond (Nat.beq (tySize P e) d.wd) { vc := [⟨0 ≤ i, inferInstance⟩, ⟨i < len, inferInstance⟩], val := .p l (off + i.toNat) 0, rds := [l] } .fail
      | _ => .fail
    | _ => .fail) .fail
  | _ => .fail
def isBoolT (t : TypeId) : Bool := match tyU P t with
  | .bool => true
  | _ => false
def isIfcT (t : TypeId) : Bool := match tyU P t with
  | .interface _ => true
  | _ => false
def cmpS (op : BinOp) (x y : Int) : SV :=
  match op with
  | .eql => .v (.bool (x == y))
  | .neq => .v (.bool (x != y))
  | .lss => .v (.bool (decide (x < y)))
  | .leq => .v (.bool (decide (x ≤ y)))
  | .gtr => .v (.bool (decide (x > y)))
  | .geq => .v (.bool (decide (x ≥ y)))
  | _ => .any
def isNilS : SV → Option Bool
  | .v .nilIface => some true
  | .v (.slice none 0 0) => some true
  | .v (.pointer none) => some true
  | .v .nilFunc => some true
  | .ifc _ _ => some false
  | .fn _ _ _ => some false
  | .p _ _ _ => some false
  | .dp _ _ _ => some false
  | _ => none
def nilIf : SV → Bool
  | .v .nilIface => true
  | .ifc _ _ => true
  | _ => false
def eq1 (T : TypeDesc) (c d : SV) : Option Bool := match T, c, d with
  | .int _, .v (.int k a), .v (.int k' b) => cond (ikEq k k') (some (a == b)) none
  | .string, .v (.string a), .v (.string b) => some (a == b)
  | .bool, x, y => match x.asB, y.asB with
    | some a, some b => some (a == b)
    | _, _ => none
  | _, _, _ => none
def eqFs (cs ds : List SV) : List Field → Option Bool
  | [] => some true
  | f :: fs => cond (tyOk P f.type && !(f.name == "_")) (match cs[f.offset]?, ds[f.offset]? with
    | some c, some d => match eq1 (tyU P f.type) c d, eqFs cs ds fs with
      | some a, some b => some (a && b)
      | _, _ => none
    | _, _ => none) none
def eqAg (t : TypeId) (cs ds : List SV) : Option Bool := match tyU P t with
  | .struct fs => cond (!P.stoodInHeld t && !P.eqGuardType P.depth t) (eqFs P cs ds fs.toList) none
  | _ => none
def eqAv (t : TypeId) (d e : Dat) : Option (Nat × List Int × List Int) := match tyU P t, d, e with
  | .array n el, .ints k xs, .ints k' ys => match tyU P el with
    | .int _ => cond (ikEq k k' && tyOk P el && Nat.beq (tySize P el) 1 && !P.eqGuardType P.depth t) (some (n, xs, ys)) none
    | _ => none
  | _, _, _ => none
def agDat : Dat → List SV → Option Dat
  | .ints k _, cs => (intsOf k cs).map (.ints k)
  | _, _ => none
def nlS : SV → Bool
  | .v (.slice none 0 0) => true
  | _ => false
def isC : Operand → Bool
  | .const _ => true
  | _ => false
def binS (op : BinOp) (t : TypeId) (yc : Bool) (x y : SV) : Res :=
  match op, x, y with
  | .shl, .v (.int k a), .v (.int _ b) => { vc := [⟨0 ≤ b, inferInstance⟩], val := .v (.int k (k.wrap (a * 2 ^ (min b.toNat k.bits)))) }
  | .shr, .v (.int k a), .v (.int _ b) => { vc := [⟨0 ≤ b, inferInstance⟩], val := .v (.int k (a.fdiv (2 ^ (min b.toNat k.bits)))) }
  | _, .v (.int k a), .v (.int k' b) =>
    cond (ikEq k k')
      (match op with
      | .add => .ret (.v (.int k (k.wrap (a + b))))
      | .sub => .ret (.v (.int k (k.wrap (a - b))))
      | .mul => .ret (.v (.int k (k.wrap (a * b))))
      | .quo => { vc := [⟨b ≠ 0, inferInstance⟩], val := .v (.int k (k.wrap (a.tdiv b))) }
      | .rem => { vc := [⟨b ≠ 0, inferInstance⟩], val := .v (.int k (a.tmod b)) }
      | .and | .or | .xor | .andNot => .ret (.v (.int k (bits op k a b)))
      | _ => .ret (cmpS op a b)) .fail
  | .add, .v (.string a), .v (.string b) => { vc := [⟨a.size + b.size ≤ 9223372036854775807, inferInstance⟩], val := .v (.string (a ++ b)) }
  | .eql, .v (.string a), .v (.string b) => .ret (.v (.bool (a.toList == b.toList)))
  | .neq, .v (.string a), .v (.string b) => .ret (.v (.bool (!(a.toList == b.toList))))
  | .eql, .ag cs, .ag ds => match eqAg P t cs ds with
    | some b => .ret (.v (.bool b))
    | none => .fail
  | .neq, .ag cs, .ag ds => match eqAg P t cs ds with
    | some b => .ret (.v (.bool (!b)))
    | none => .fail
  | .eql, .av d, .av e => match eqAv P t d e with
    | some (n, xs, ys) => { vc := [⟨n = xs.length, inferInstance⟩, ⟨n = ys.length, inferInstance⟩], val := .v (.bool (xs == ys)) }
    | none => .fail
  | .neq, .av d, .av e => match eqAv P t d e with
    | some (n, xs, ys) => { vc := [⟨n = xs.length, inferInstance⟩, ⟨n = ys.length, inferInstance⟩], val := .v (.bool (!(xs == ys))) }
    | none => .fail
  | .eql, .av d, .ag cs => match (agDat d cs).bind (eqAv P t d) with
    | some (n, xs, ys) => { vc := [⟨n = xs.length, inferInstance⟩, ⟨n = ys.length, inferInstance⟩], val := .v (.bool (xs == ys)) }
    | none => .fail
  | .eql, x, y => match x.asB, y.asB with
    | some a, some b => cond (isBoolT P t) (.ret (.v (.bool (a == b)))) .fail
    | _, _ => match y, isNilS x with
      | .v .nilIface, some b => cond (yc && nilIf x && isIfcT P t) (.ret (.bl b)) .fail
      | .v (.slice none 0 0), some _ => cond (yc && nlS x && isSliceT P t) (.ret (.bl true)) .fail
      | _, _ => .fail
  | .neq, x, y => match x.asB, y.asB with
    | some a, some b => cond (isBoolT P t) (.ret (.v (.bool (!(a == b))))) .fail
    | _, _ => match y, isNilS x with
      | .v .nilIface, some b => cond (yc && nilIf x && isIfcT P t) (.ret (.bl (!b))) .fail
      | _, _ => .fail
  | _, _, _ => .fail
def boundS (x : Option SV) (d : Int) : Option Int :=
  match x with
  | none => some d
  | some (.v (.int _ i)) => some i
  | _ => none
def slWd (t : TypeId) (d : Dat) : Bool := match tyU P t with
  | .slice e => tyOk P e && Nat.beq (tySize P e) d.wd
  | _ => false
def wdIn (b : Option SBlk) (t : TypeId) : Bool := match b with
  | some (.row _ d) => slWd P t d
  | some (.arr _ d) => slWd P t d
  | _ => false
def arWd (t : TypeId) (d : Dat) : Bool := match tyU P t with
  | .array _ e => tyOk P e && Nat.beq (tySize P e) d.wd
  | _ => false
def sliceS (H : Nat → Option SBlk) (t : TypeId) (x : SV) (lo hi mx : Option SV) (n' : Nat) : Res :=
  match x with
  | .v (.string s) => match boundS lo 0, boundS hi s.size, isStr P t, mx with
    | some a, some b, true, none => { vc := [⟨0 ≤ a, inferInstance⟩, ⟨a ≤ b, inferInstance⟩, ⟨b ≤ s.size, inferInstance⟩], val := .v (.string (s.extract a.toNat b.toNat)) }
    | _, _, _, _ => .fail
  | .dat d => match boundS lo 0, boundS hi d.len, mx, slWd P t d with
    | some a, some b, none, true => { vc := [⟨0 ≤ a, inferInstance⟩, ⟨a ≤ b, inferInstance⟩, ⟨b ≤ d.len, inferInstance⟩], val := .dat (d.sub a.toNat (b.toNat - a.toNat)) }
    | some a, some b, some (.v (.int _ c)), true => cond hi.isSome { vc := [⟨0 ≤ a, inferInstance⟩, ⟨a ≤ b, inferInstance⟩, ⟨b ≤ d.len, inferInstance⟩, ⟨c = b, inferInstance⟩], val := .dc (d.sub a.toNat (b.toNat - a.toNat)) } .fail
    | _, _, _, _ => .fail
  | .o l => match H l with
    | some (.row _ d) => match boundS lo 0, boundS hi d.len, mx, slWd P t d with
      | some a, some b, none, true => { vc := [⟨0 ≤ a, inferInstance⟩, ⟨a ≤ b, inferInstance⟩, ⟨b ≤ d.len, inferInstance⟩], val := .s l a.toNat (b.toNat - a.toNat) none, rds := [l] }
      | _, _, _, _ => .fail
    | _ => .fail
  | .s l off len _ => cond (wdIn P (H l) t) (match boundS lo 0, boundS hi len, mx with
    | some a, some b, none => { vc := [⟨0 ≤ a, inferInstance⟩, ⟨a ≤ b, inferInstance⟩, ⟨b ≤ len, inferInstance⟩], val := .s l (off + a.toNat) (b.toNat - a.toNat) none, rds := [l] }
    | _, _, _ => .fail) .fail
  | .p l 0 0 => match tyU P t, H l with
    | .array n e, some (.arr _ d) => match boundS lo 0, boundS hi n, mx, arWd P t d with
      | some a, some b, none, true => { vc := [⟨0 ≤ a, inferInstance⟩, ⟨a ≤ b, inferInstance⟩, ⟨b ≤ n, inferInstance⟩, ⟨n = d.len, inferInstance⟩], val := .s l a.toNat (b.toNat - a.toNat) (some (n - a.toNat)), rds := [l] }
      | some a, some b, some (.v (.int _ c)), true => cond hi.isSome { vc := [⟨a = 0, inferInstance⟩, ⟨0 ≤ b, inferInstance⟩, ⟨b ≤ c, inferInstance⟩, ⟨0 < c, inferInstance⟩, ⟨c ≤ n, inferInstance⟩, ⟨n = d.len, inferInstance⟩, ⟨n ≤ 4294967296, inferInstance⟩], val := .o n', rds := [l], ups := [(l, none), (n', some (.row e (d.sub 0 b.toNat)))], news := [n'] } .fail
      | _, _, _, _ => .fail
    | _, _ => .fail
  | _ => .fail
def bytesN (s : ByteArray) : List Int := s.data.toList.map fun b => (b.toNat : Int)
def convS (H : Nat → Option SBlk) (src dst : TypeId) (x : SV) (n : Nat) : Res :=
  cond (tyOk P src) (match tyU P dst, x with
  | .int k, .v (.int _ a) => .ret (.v (.int k (k.wrap a)))
  | .string, .v (.string s) => cond (isStr P src) (.ret (.v (.string s))) .fail
  | .string, x => match tyU P src with
    | .slice e => match tyU P e, srcS P H e x with
      | .int .u8, some (.ints .u8 xs, r) => { vc := [], val := .v (.string (strOfNums xs)), rds := r }
      | _, _ => .fail
    | _ => .fail
  | .slice e, .v (.string s) => match tyU P e with
    | .int .u8 => cond (isStr P src) { vc := [⟨s.size ≤ 9223372036854775807, inferInstance⟩], val := .o n, ups := [(n, some (.row e (.ints .u8 (bytesN s))))], news := [n] } .fail
    | _ => .fail
  | .slice e, .o l => cond (Nat.beq src dst) (match tyU P e, H l with
    | .int .u8, some (.row e' (.ints .u8 xs)) => cond (Nat.blt 0 xs.length) { vc := [], val := .o l, ups := [(l, some (.row e' (.ints .u8 xs)))] } .fail
    | _, _ => .fail) .fail
  | _, _ => .fail) .fail
def makeS (t : TypeId) (len cap : Int) (n : Nat) : Res :=
  match tyU P t with
  | .slice e => match zeroDat P e len.toNat with
    | some d => cond (tyOk P e && Nat.beq (tySize P e) d.wd) { vc := [⟨0 ≤ len, inferInstance⟩, ⟨len ≤ cap, inferInstance⟩, ⟨tyBytes P e * cap ≤ 281474976710656, inferInstance⟩, ⟨cap ≤ 9223372036854775807, inferInstance⟩], val := .o n, ups := [(n, some (.row e d))], news := [n] } .fail
    | none => .fail
  | _ => .fail
def zboolsB : List Value → Bool
  | [] => true
  | .bool b :: r => (!b) && zboolsB r
  | _ :: _ => false
def newBlk (t : TypeId) (z : Value) : Option SBlk :=
  cond (z.cells.toList.all Value.oneCell')
    (match tyU P t with
    | .array len e => match tyU P e with
      | .int k => cond ((Nat.blt 4 len || (ikEq k .i64 && Nat.blt 1 len)) && zintsB k z.cells.toList && Nat.beq z.cells.toList.length len) (some (.arr t (.ints k (List.replicate len 0)))) (some (.cells t (z.cells.toList.map SV.ofV)))
      | .bool => cond (Nat.blt 1 len && zboolsB z.cells.toList && Nat.beq z.cells.toList.length len) (some (.arr t (.bools (List.replicate len false)))) (some (.cells t (z.cells.toList.map SV.ofV)))
      | .struct fs => cond (Nat.blt 4 len && intFields P fs.toList && zintsB .i64 z.cells.toList && Nat.beq z.cells.toList.length (len * tySize P e)) (some (.arr t (.recs (tySize P e) (List.replicate len (List.replicate (tySize P e) 0))))) (some (.cells t (z.cells.toList.map SV.ofV)))
      | _ => some (.cells t (z.cells.toList.map SV.ofV))
    | _ => some (.cells t (z.cells.toList.map SV.ofV))) none
def ckOf (t : TypeId) : Option CK := match tyU P t with
  | .int k => some (.i k)
  | .bool => some .b
  | _ => none
def cksOf : List Field → Option (List CK)
  | [] => some []
  | f :: fs => match ckOf P f.type, cksOf fs with
    | some c, some cs => some (c :: cs)
    | _, _ => none
def vkOf (t : TypeId) : Option VK := match tyU P t with
  | .struct fs => (cksOf P fs.toList).map .st
  | _ => (ckOf P t).map .one
def ckS : CK → Int → SV
  | .i k, x => .v (.int k x)
  | .b, x => .v (.bool (x == 1))
def cksS : List CK → List Int → List SV
  | [], _ => []
  | c :: cs, xs => ckS c (xs.headD 0) :: cksS cs xs.tail
def vkS : VK → List Int → SV
  | .one c, xs => ckS c (xs.headD 0)
  | .st cs, xs => .ag (cksS cs xs)
def ckR : CK → SV → Option Int
  | .i k, .v (.int k' x) => cond (ikEq k k') (some x) none
  | .b, x => x.asB.map fun b => cond b 1 0
  | _, _ => none
def cksR : List CK → List SV → Option (List Int)
  | [], [] => some []
  | c :: cs, x :: xs => match ckR c x, cksR cs xs with
    | some a, some r => some (a :: r)
    | _, _ => none
  | _, _ => none
def vkR : VK → SV → Option (List Int)
  | .one c, x => (ckR c x).map fun a => [a]
  | .st cs, .ag xs => cksR cs xs
  | _, _ => none
def ckZ : CK → Value → Bool
  | .i k, .int k' x => ikEq k k' && decide (x = 0)
  | .b, .bool b => !b
  | _, _ => false
def cksZ : List CK → List Value → Bool
  | [], [] => true
  | c :: cs, x :: xs => ckZ c x && cksZ cs xs
  | _, _ => false
def vkZ : VK → Value → Bool
  | .one c, x => ckZ c x
  | .st cs, .agg xs => cksZ cs xs.toList
  | _, _ => false
def vkLen : VK → Nat
  | .one _ => 1
  | .st cs => cs.length
def keyFs : List Field → Nat → List CK → Bool
  | [], _, [] => true
  | f :: fs, j, .i k :: cs => Nat.beq f.offset j && tyOk P f.type && !(f.name == "_") && (match tyU P f.type with
    | .int k' => ikEq k k'
    | _ => false) && keyFs fs (j + 1) cs
  | _, _, _ => false
def keyFit (kt : TypeId) (kk : VK) : Bool := match kk with
  | .one (.i k) => (match tyU P kt with
    | .int k' => ikEq k k'
    | _ => false)
  | .one .b => false
  | .st cs => (match tyU P kt with
    | .struct fs => !P.stoodInHeld kt && !P.eqGuardType P.depth kt && keyFs P fs.toList 0 cs
    | _ => false)
def makeMapS (t : TypeId) (n : Nat) : Res := match tyU P t with
  | .map kt vt => match vkOf P kt, vkOf P vt with
    | some kk, some vk => cond (tyOk P kt && tyOk P vt && keyFit P kt kk) { vc := [], val := .m n, ups := [(n, some (.mp kk vk []))], news := [n] } .fail
    | _, _ => .fail
  | _ => .fail
def ckSame (x y : CK) : Bool := match x, y with
  | .i k, .i k' => ikEq k k'
  | .b, .b => true
  | _, _ => false
def cksSame : List CK → List CK → Bool
  | [], [] => true
  | c :: cs, d :: ds => ckSame c d && cksSame cs ds
  | _, _ => false
def vkSame (a b : VK) : Bool := match a, b with
  | .one c, .one d => ckSame c d
  | .st cs, .st ds => cksSame cs ds
  | _, _ => false
def lookupS (H : Nat → Option SBlk) (t : TypeId) (m k : SV) (ok : Bool) : Res := match tyU P t, m with
  | .map kt vt, .m l => match H l, tyZero P vt with
    | some (.mp kk vk es), some z => match vkR kk k with
      | some key => cond (keyFit P kt kk && vkZ vk z && tyOk P vt) { vc := [], val := cond ok (.tu [vkS vk (mval (vkLen vk) es key), .v (.bool (mhas es key))]) (vkS vk (mval (vkLen vk) es key)), rds := [l] } .fail
      | none => .fail
    | _, _ => .fail
  | _, _ => .fail
def mapUpdateS (H : Nat → Option SBlk) (t : TypeId) (m k v : SV) : Res := match tyU P t, m with
  | .map kt vt, .m l => match H l with
    | some (.mp kk vk es) => match vkR kk k, vkR vk v with
      | some key, some x => cond (keyFit P kt kk) { vc := [], val := .v undef, rds := [l], ups := [(l, some (.mp kk vk ((key, x) :: es)))] } .fail
      | _, _ => .fail
    | _ => .fail
  | _, _ => .fail
def mmStep (mx : Bool) : Option SV → SV → Option SV
  | some (.v (.int k a)), .v (.int _ b) => some (.v (.int k (cond mx (max a b) (min a b))))
  | _, _ => none
def minS (l : List SV) (mx : Bool) : Option SV := match l with
  | [] => none
  | x :: r => match x with
    | .v (.int k p) => r.foldl (mmStep mx) (some (.v (.int k p)))
    | _ => none
def callChk (H : Nat → Option SBlk) (cs : List SV) (br uses : List Nat) (ret : SV) (hp : List (Nat × SBlk)) : Bool :=
  inL uses (idsL cs) && (usesOk H uses uses && (!meetN br uses && (nodupN (hp.map (·.1)) && (hp.all (fun x => inL (hp.map (·.1)) (idsB x.2)) && inL (hp.map (·.1)) (ids ret)))))
def frozenC (br : List Nat) (ret : SV) (hp : List (Nat × SBlk)) : List Nat := cond (isNil br || (dfree ret && hp.all (fun x => dfreeB x.2))) [] br
variable (Γ : FuncId → Option Ctr)
def cutH (H : Nat → Option SBlk) (R : List Nat) : Nat → Option SBlk := fun l => cond (hasN' R l) (H l) none
def blkIds : Option SBlk → List Nat
  | some b => idsB b
  | none => []
def newIds (H : Nat → Option SBlk) (seen fr : List Nat) : List Nat := ((fr.map fun l => blkIds (H l)).flatten).filter fun k => !hasN' seen k
def grow (H : Nat → Option SBlk) : Nat → List Nat → List Nat → List Nat
  | 0, seen, fr => seen ++ fr
  | k + 1, seen, fr => cond (isNil fr) seen (grow H k (seen ++ fr) (newIds H (seen ++ fr) fr))
def reachC (H : Nat → Option SBlk) (args : List SV) : List Nat := grow H 4 [] (idsL args)
def convsC (own : Bool) (H : Nat → Option SBlk) (args : List SV) : List SV × List Nat := cond own (args, []) (convs H args)
def resC (H : Nat → Option SBlk) (args cs : List SV) (br : List Nat) : CRes → Res
  | ⟨pre, uses, ret, hp⟩ =>
        cond (inL (reachC H args) uses && callChk H cs br uses ret hp)
          { vc := pre, val := ret, rds := br ++ uses, ups := (frozenC br ret hp).map (fun l => (l, none)) ++ (uses.map (fun l => (l, none)) ++ hp.map (fun x => (x.1, some x.2))), news := (hp.map (·.1)).filter fun l => !hasN' uses l } .fail
def callS (H : Nat → Option SBlk) (f : FuncId) (args : List SV) (n : Nat) : Res :=
  match Γ f with
  | some c => match convsC c.own H args with
    | (cs, br) => resC H args cs br (c.fn cs (cutH H (reachC H args)) n)
  | none => .fail
def treeC (o : Oper) (ρ : Operand → SV) (H : Nat → Option SBlk) (n : Nat) : Option (CT × (CRes → Res)) :=
  match o.op with
  | .call c => match c.callee with
    | .value f => match ρ f with
      | .fn (.func f) first captured => match Γ f with
        | some c' => match convsC c'.own H (first ++ c.args.toList.map ρ ++ captured) with
          | (cs, br) => some (c'.tr cs (cutH H (reachC H (first ++ c.args.toList.map ρ ++ captured))) n, resC H (first ++ c.args.toList.map ρ ++ captured) cs br)
        | none => none
      | _ => none
    | _ => none
  | _ => none
def methS (T : TypeId) (name : String) : Option FuncId := match P.info? T with
  | some i => match i.methods.find? (·.name == name) with
    | some m => match m.path.toList, m.func, tyU P T with
      | [], some (f, false), .struct _ => some f
      | _, _, _ => none
    | none => none
  | none => none
def step (o : Oper) (ρ : Operand → SV) (H : Nat → Option SBlk) (n : Nat) : Res :=
  match o.op with
  | .move x | .assign x => .ret (ρ x)
  | .pick c a b => match ρ c with
    | .bl true => .ret (ρ a)
    | .bl false => .ret (ρ b)
    | .v (.bool c') => match (ρ a).asB, (ρ b).asB with
      | some x, some y => .ret (.v (.bool (cond c' x y)))
      | _, _ => .fail
    | _ => .fail
  | .alloc t => match tyZero P t with
    | some z => match newBlk P t z with
      | some b => { vc := [], val := .p n 0 0, ups := [(n, some b)], news := [n] }
      | none => .fail
    | none => .fail
  | .box t x => match ρ x with
    | .av d => { vc := [], val := .p n 0 0, ups := [(n, some (.arr t d))], news := [n] }
    | x => cond (x.cellsOf.all SV.one) { vc := [], val := .p n 0 0, ups := [(n, some (.cells t x.cellsOf))], news := [n] } .fail
  | .build t parts => match tyZero P t, tyU P t with
    | some z, .struct fs => match fillS (fun i => (fs[i]?).map fun f => (f.offset, tySize P f.type)) (z.cells.toList.map SV.ofV) (parts.toList.map fun x => (x.1, ρ x.2)) with
      | some cs => cond (z.cells.toList.all Value.oneCell' && fs.toList.all (fun f => tyOk P f.type)) (.ret (.ag cs)) .fail
      | none => .fail
    | some z, .array _ e => match fillS (fun i => some (i * tySize P e, tySize P e)) (z.cells.toList.map SV.ofV) (parts.toList.map fun x => (x.1, ρ x.2)) with
      | some cs => cond (z.cells.toList.all Value.oneCell' && tyOk P e) (.ret (.ag cs)) .fail
      | none => .fail
    | _, _ => .fail
  | .buildSlice t len parts => match tyU P t with
    | .slice e => match tyZero P e with
      | some z => match fillS (fun i => some (i * tySize P e, tySize P e)) ((List.replicate len (z.cells.toList.map SV.ofV)).flatten) (parts.toList.map fun x => (x.1, ρ x.2)) with
        | some cs => cond (z.cells.toList.all Value.oneCell' && tyOk P e && Nat.beq z.cells.size (tySize P e) && Nat.ble (len * tySize P e) 16777216 && Nat.beq cs.length (len * tySize P e))
          (match datOf P e (frzV H cs) len with
          | some d => cond (Nat.beq d.wd (tySize P e) && Nat.beq d.len len && Nat.blt 0 (tySize P e)) { vc := [], val := .o n, ups := (frzN H cs).map (fun k => (k, none)) ++ [(n, some (.row e d))], news := [n] } .fail
          | none => { vc := [], val := .s n 0 len (some len), ups := [(n, some (.cells e cs))], news := [n] }) .fail
        | none => .fail
      | none => .fail
    | _ => .fail
  | .load t x => cond (tyOk P t) (match ρ x with
    | .p l i j => match H l with
      | some b => match loadS P t b i j with
        | ⟨c, x, _, _, _⟩ => ⟨c, x, [l], [], []⟩
      | none => .fail
    | .dp d i j => cond (tyAgg P t) (cond (Nat.beq j 0 && Nat.beq (tySize P t) d.wd) (.ret (.ag (d.rw_ i))) .fail)
      (cond (Nat.blt j d.wd) (.ret (d.get i j)) .fail)
    | _ => .fail) .fail
  | .store t a x => cond (tyOk P t) (match ρ a with
    | .p l i j => match H l with
      | some b => storeS P H l b t i j (ρ x)
      | none => .fail
    | _ => .fail) .fail
  | .nilCheck x => match ρ x with
    | .p l i j => .ret (.p l i j)
    | .dp d i j => .ret (.dp d i j)
    | .fn (.func f) a b => .ret (.fn (.func f) a b)
    | _ => .fail
  | .binOp op t x y _ => binS P op t (isC y) (ρ x) (ρ y)
  | .unOp op _ x => match op, ρ x with
    | .not, .bl b => .ret (.bl (!b))
    | .not, .v (.bool b) => .ret (.v (.bool (!b)))
    | .neg, .v (.int k a) => .ret (.v (.int k (k.wrap (0 - a))))
    | _, _ => .fail
  | .convert src dst x => convS P H src dst (ρ x) n
  | .makeInterface t x => match tyU P t with
    | .interface _ => .fail
    | .invalid => .fail
    | _ => .ret (.ifc t (ρ x))
  | .makeFunc f first captured => .ret (.fn f (first.toList.map ρ) (captured.toList.map ρ))
  | .makeMap t hint => match hint with
    | none => makeMapS P t n
    | some _ => .fail
  | .lookup t x i ok => lookupS P H t (ρ x) (ρ i) ok
  | .mapUpdate t m k v => mapUpdateS P H t (ρ m) (ρ k) (ρ v)
  | .makeSlice t len cap => match ρ len, ρ cap with
    | .v (.int _ a), .v (.int _ b) => makeS P t a b n
    | _, _ => .fail
  | .slice t x lo hi mx => sliceS P H t (ρ x) (lo.map ρ) (hi.map ρ) (mx.map ρ) n
  | .fieldAddr s x f => match tyU P s with
    | .struct fs => match fs[f]? with
      | some f => cond (Nat.beq (tySize P f.type) 0) .fail <| match ρ x with
        | .p l i j => .ret (.p l i (j + f.offset))
        | .dp d i j => .ret (.dp d i (j + f.offset))
        | _ => .fail
      | none => .fail
    | _ => .fail
  | .field s x f => match tyU P s, ρ x with
    | .struct fs, .ag cs => match fs[f]? with
      | some f => cond (tyOk P f.type) (cond (tyAgg P f.type) (cond (Nat.ble (f.offset + tySize P f.type) cs.length) (.ret (.ag ((cs.drop f.offset).take (tySize P f.type)))) .fail)
        (match cs[f.offset]? with
          | some c => .ret c
          | none => .fail)) .fail
      | none => .fail
    | _, _ => .fail
  | .indexAddr t x i => match ρ i with
    | .v (.int _ i) => indexAddrS P H t (ρ x) i
    | _ => .fail
  | .index t x i => match tyU P t, ρ x, ρ i with
    | .string, .v (.string s), .v (.int _ i) => { vc := [⟨0 ≤ i, inferInstance⟩, ⟨i < s.size, inferInstance⟩], val := .v (.int .u8 (s.data.toList.getD i.toNat 0).toNat) }
    | .array n e, .av (.ints k xs), .v (.int _ i) => cond (tyOk P e && !tyAgg P e && Nat.beq (tySize P e) 1) { vc := [⟨0 ≤ i, inferInstance⟩, ⟨i < n, inferInstance⟩, ⟨n = xs.length, inferInstance⟩], val := .v (.int k (xs.getD i.toNat 0)) } .fail
    | .array n e, .ag cs, .v (.int _ i) => match agInts P e cs with
      | some (k, xs) => cond (tyOk P e && !tyAgg P e && Nat.beq (tySize P e) 1 && Nat.beq n xs.length) { vc := [⟨0 ≤ i, inferInstance⟩, ⟨i < n, inferInstance⟩], val := .v (.int k (xs.getD i.toNat 0)) } .fail
      | none => cond (tyOk P e) (match (cond (tyAgg P e) (cond (Nat.ble (i.toNat * tySize P e + tySize P e) cs.length) (Res.ret (.ag ((cs.drop (i.toNat * tySize P e)).take (tySize P e)))) .fail)
        (match cs[i.toNat * tySize P e]? with
          | some c => .ret c
          | none => .fail)) with
        | ⟨c, x, _, _, _⟩ => ⟨⟨0 ≤ i, inferInstance⟩ :: ⟨i < n, inferInstance⟩ :: c, x, [], [], []⟩) .fail
    | _, _, _ => .fail
  | .extract x i => match ρ x with
    | .tu vs => match vs[i]? with
      | some c => .ret c
      | none => .fail
    | _ => .fail
  | .typeAssert x t t' ok => match tyU P t', ρ x with
    | .interface _, _ => .fail
    | .invalid, _ => .fail
    | _, .ifc tx y => cond (Nat.beq tx t') (.ret (cond ok (.tu [y, .bl true]) y))
        (cond ok (match tyZero P t' with
          | some z => .ret (.tu [SV.ofZ z, .bl false])
          | none => .fail) .fail)
    | _, _ => .fail
  | .call c => match c.callee with
    | .builtin b => match b, c.args.toList.map ρ, c.argTypes.toList with
      | .len, [x], [t] => lenS P H t x
      | .append, [s, x], [ts, tx] => appendS P H ts tx s x n
      | .min, l, _ => match minS l false with
        | some x => .ret x
        | none => .fail
      | .max, l, _ => match minS l true with
        | some x => .ret x
        | none => .fail
      | _, _, _ => .fail
    | .value f => match ρ f with
      | .fn (.func f) first captured => callS Γ H f (first ++ c.args.toList.map ρ ++ captured) n
      | _ => .fail
    | .invoke r name => match ρ r with
      | .ifc T x => match methS P T name with
        | some f => callS Γ H f (x :: c.args.toList.map ρ) n
        | none => .fail
      | _ => .fail
  | _ => .fail
def readsOf (o : Oper) (ρ : Operand → SV) (H : Nat → Option SBlk) : List Nat :=
  match o.op with
  | .load _ x => ids (ρ x)
  | .convert _ _ x => ids (ρ x)
  | .slice _ x _ _ _ => ids (ρ x)
  | .lookup _ x _ _ => ids (ρ x)
  | .mapUpdate _ x _ _ => ids (ρ x)
  | .indexAddr _ x _ => ids (ρ x)
  | .store _ a x => ids (ρ a) ++ (match ρ a with
    | .p l _ _ => match H l with
      | some (.row _ _) => idsL (ρ x).cellsOf
      | _ => []
    | _ => [])
  | .buildSlice _ _ parts => (parts.toList.map fun x => idsL (ρ x.2).cellsOf).flatten
  | .call c => match c.callee with
    | .builtin _ => idsL (c.args.toList.map ρ)
    | .value f => match ρ f with
      | .fn _ first captured => reachC H (first ++ c.args.toList.map ρ ++ captured)
      | _ => []
    | .invoke r _ => match ρ r with
      | .ifc _ x => reachC H (x :: c.args.toList.map ρ)
      | _ => []
  | _ => []
end
end Go.Proofs.YtbfdchahapajaaaGreatDoor
namespace Go.Proofs.YtbfdchahapajaaaGreatDoor
open Go.RowKit
set_option linter.unusedVariables false
structure Loc where
  g : Nat
  wd : Nat
  len : Nat
  cap : Nat
  nil : Bool
def Loc.val (L : Loc) : Value := if L.nil then .slice none 0 0 else .slice (some ⟨L.g, 0, none⟩) L.len L.cap
def SliceAt (D : Nat → Prop) (w : World) (n wd : Nat) (ok : Nat → Nat → Value → Prop) (u : Value) : Prop :=
  ∃ A c, u = .slice A n c ∧ n ≤ c ∧ (0 < n → ∃ g off, A = some ⟨g, off, none⟩ ∧ D g ∧ ∀ i j, i < n → j < wd → ∃ x, w.cell? ⟨g, off + (i * wd + j), none⟩ = some x ∧ ok i j x)
def mixOk (D : Nat → Prop) (w : World) (sh : List Sh) (r : List (List Int)) (j : Nat) (x : Value) : Prop := match sh[j]? with
  | some .i => x = .int .i64 ((r.getD j []).getD 0 0)
  | some .b => x = .bool ((r.getD j []).getD 0 0 == 1)
  | some .l => SliceAt D w (r.getD j []).length 1 (fun i' _ y => y = .int .i64 ((r.getD j []).getD i' 0)) x
  | none => False
def Dat.ok (D : Nat → Prop) (w : World) : Dat → Nat → Nat → Value → Prop
  | .ints k xs, i, _, x => x = .int k (xs.getD i 0)
  | .recs _ xs, i, j, x => x = .int .i64 ((xs.getD i []).getD j 0)
  | .lists xs, i, _, x => SliceAt D w (xs.getD i []).length 1 (fun i' _ y => y = .int .i64 ((xs.getD i []).getD i' 0)) x
  | .strs xs, i, _, x => x = .string (xs.getD i ByteArray.empty)
  | .bools xs, i, _, x => x = .bool (xs.getD i false)
  | .mix sh xs, i, j, x => mixOk D w sh (xs.getD i []) j x
def RepDat (D : Nat → Prop) (w : World) (d : Dat) (u : Value) : Prop := SliceAt D w d.len d.wd (d.ok D w) u
mutual
def Rep (D : Nat → Prop) (w : World) (β : Nat → Option Loc) : SV → Value → Prop
  | .v x, u => u = x
  | .bl b, u => u = .bool b
  | .p l i j, u => ∃ L, β l = some L ∧ L.nil = false ∧ u = .pointer (some ⟨L.g, i * L.wd + j, none⟩)
  | .o l, u => ∃ L, β l = some L ∧ u = L.val
  | .s l off n c, u => ∃ L, β l = some L ∧ ∃ A c', u = .slice A n c' ∧ n ≤ c' ∧ (0 < n → L.nil = false ∧ A = some ⟨L.g, off * L.wd, none⟩) ∧ (∀ k, c = some k → c' = k) ∧ off + n ≤ L.len
  | .dat d, u => RepDat D w d u
  | .dc d, u => RepDat D w d u ∧ ∃ A, u = .slice A d.len d.len
  | .m l, u => ∃ L, β l = some L ∧ L.nil = false ∧ u = .map (some L.g)
  | .dp d i j, u => ∃ g off, u = .pointer (some ⟨g, off + (i * d.wd + j), none⟩) ∧ D g ∧ ∀ j', j' < d.wd → ∃ x, w.cell? ⟨g, off + (i * d.wd + j'), none⟩ = some x ∧ d.ok D w i j' x
  | .av d, u => match d with
    | .ints k xs => u = .agg (xs.map (Value.int k)).toArray
    | _ => False
  | .fn f a c, u => ∃ us vs, u = .func f us.toArray vs.toArray ∧ Reps D w β a us ∧ Reps D w β c vs
  | .ag cs, u => ∃ us, u = .agg us.toArray ∧ Reps D w β cs us
  | .tu cs, u => ∃ us, u = .tuple us.toArray ∧ Reps D w β cs us
  | .ifc t x, u => ∃ y, u = .iface t y ∧ Rep D w β x y
  | .any, _ => True
def Reps (D : Nat → Prop) (w : World) (β : Nat → Option Loc) : List SV → List Value → Prop
  | [], us => us = []
  | c :: cs, us => ∃ x xs, us = x :: xs ∧ Rep D w β c x ∧ Reps D w β cs xs
end
def ckV : CK → Int → Value
  | .i k, x => .int k x
  | .b, x => .bool (x == 1)
def cksV : List CK → List Int → List Value
  | [], _ => []
  | c :: cs, xs => ckV c (xs.headD 0) :: cksV cs xs.tail
def vkV : VK → List Int → Value
  | .one c, xs => ckV c (xs.headD 0)
  | .st cs, xs => .agg (cksV cs xs).toArray
def MapRep (w : World) (g : Nat) (kk vk : VK) (es : List (List Int × List Int)) : Prop :=
  ∃ (us : Array MapEntry) (clock : Nat) (ps : List (List Int × List Int)), w.heap[g]? = some (.map us clock) ∧
    us.toList.map (fun e => (e.key, e.val)) = ps.map (fun p => (vkV kk p.1, vkV vk p.2)) ∧ (∀ p ∈ ps, p.1.length = vkLen kk ∧ p.2.length = vkLen vk) ∧ (∀ k, mget ps k = mget es k)
def noFr (fr : Nat × Nat) (n : Nat) : Prop := fr.1 = fr.2 ∨ n ≤ fr.1
def BlkRep (D : Nat → Prop) (w : World) (β : Nat → Option Loc) (L : Loc) : SBlk → Prop
  | .cells ty cs => L.nil = false ∧ ∃ us : List Value, w.heap[L.g]? = some (.cells us.toArray ty (0, 0)) ∧ Reps D w β cs us ∧ ∀ u ∈ us, u.oneCell' = true
  | .arr ty d => L.nil = false ∧ L.wd = d.wd ∧ ∃ us : List Value, w.heap[L.g]? = some (.cells us.toArray ty (0, 0)) ∧ us.length = d.len * d.wd ∧
      (∀ i j, i < d.len → j < d.wd → ∃ x, us[i * d.wd + j]? = some x ∧ d.ok D w i j x) ∧ L.len = d.len
  | .row ty d => L.wd = d.wd ∧ L.len = d.len ∧ ((L.nil = true ∧ d.len = 0) ∨ (L.nil = false ∧ d.len ≤ L.cap ∧ L.cap ≤ maxLen ∧
      ∃ (us : List Value) (ty' : TypeId) (fr : Nat × Nat), w.heap[L.g]? = some (.cells us.toArray ty' fr) ∧ noFr fr us.length ∧ L.cap * d.wd ≤ us.length ∧
      ∀ i j, i < d.len → j < d.wd → ∃ x, us[i * d.wd + j]? = some x ∧ d.ok D w i j x))
  | .mp kk vk es => L.nil = false ∧ MapRep w L.g kk vk es
  | .rc ty wd n cs => L.wd = wd ∧ L.len = n ∧ ∃ xs : List Value, xs.length = n * wd ∧ Reps D w β cs xs ∧ ((L.nil = true ∧ n = 0) ∨ (L.nil = false ∧ n ≤ L.cap ∧ L.cap ≤ maxLen ∧
      ∃ (us : List Value) (ty' : TypeId) (fr : Nat × Nat), w.heap[L.g]? = some (.cells us.toArray ty' fr) ∧ noFr fr us.length ∧ L.cap * wd ≤ us.length ∧ us.take (n * wd) = xs))
def HpOk (D : Nat → Prop) (w : World) (β : Nat → Option Loc) (hp : List (Nat × SBlk)) : Prop :=
  (∀ l b, (l, b) ∈ hp → ∃ L, β l = some L ∧ BlkRep D w β L b ∧ (L.nil = false → ¬ D L.g ∧ L.g < w.heap.size)) ∧
  (∀ l l' b b' L L', (l, b) ∈ hp → (l', b') ∈ hp → β l = some L → β l' = some L' → L.nil = false → L'.nil = false → L.g = L'.g → l = l')
def Given (β : Nat → Option Loc) (hp : List (Nat × SBlk)) (g : Nat) : Prop := ∃ l b L, (l, b) ∈ hp ∧ β l = some L ∧ L.nil = false ∧ L.g = g
def callable (P : Program) (f : FuncId) : Bool := match P.funcs[f]? with
  | some fn => !(fn.name == "runtime.NumGoroutine") && fn.body.isSome
  | none => false
def Tame (X : Nat → Prop) (W W' : World) : Prop :=
  W.heap.size ≤ W'.heap.size ∧ W'.os = W.os ∧ W'.tape = W.tape ∧ W'.output = W.output ∧ ∀ g, g < W.heap.size → ¬ X g → W'.heap[g]? = W.heap[g]?
def more (X : Nat → Prop) (W W' : World) : Nat → Prop := fun g => X g ∨ (W.heap.size ≤ g ∧ g < W'.heap.size)
def EndAt (β : Nat → Option Loc) (D X : Nat → Prop) (W : World) (h : List (Nat × SBlk)) : Prop :=
  ∃ D2 : Nat → Prop, (∀ g, D2 g → (D g ∨ X g) ∧ g < W.heap.size) ∧ ∀ l b, (l, b) ∈ h → ∃ L, β l = some L ∧ BlkRep D2 W (fun _ => none) L b ∧ (L.nil = false → ¬ D2 L.g ∧ X L.g ∧ L.g < W.heap.size)
def ISatE (P : Program) (f : FuncId) (cap : List SV) (hp : List (Nat × SBlk)) (xs : List (List Value)) (hpE : Nat → List (Nat × SBlk)) : Prop :=
  callable P f = true ∧ ∀ (l : Nat) (D : Nat → Prop) (β : Nat → Option Loc) (W : World) (us : List Value), Reps D W β cap us → HpOk D W β hp → (∀ g, D g → g < W.heap.size) → (∀ l, β l ≠ none → l ∈ hp.map (·.1)) →
    ∀ (J Jx : Nat → (Nat → Prop) → World → Prop),
      (∀ i X W1 W2, J i X W1 → Tame X W1 W2 → J i (more X W1 W2) W2) → (∀ i X W1 W2, Jx i X W1 → Tame X W1 W2 → Jx i (more X W1 W2) W2) →
      (∀ i X W1 x, xs[i]? = some x → J i X W1 → YieldAt Fence.wide 0 P l x.toArray W1 fun e W2 =>
        Tame (fun g => ¬ (X g ∨ D g)) W1 W2 ∧ ((e = .returned (.bool true) ∧ J (i + 1) X W2) ∨ (e = .returned (.bool false) ∧ Jx i X W2))) →
      J 0 (Given β hp) W →
      Calls P f (.func (.yield l) #[] #[] :: us).toArray W fun e W' => (∃ v, e = .returned v) ∧ ((∃ X, J xs.length X W' ∧ EndAt β D X W' (hpE xs.length)) ∨ (∃ X i, Jx i X W' ∧ EndAt β D X W' (hpE i)))
def noEnd : Nat → List (Nat × SBlk) := fun _ => []
def ISat (P : Program) (f : FuncId) (cap : List SV) (hp : List (Nat × SBlk)) (xs : List (List Value)) : Prop := ISatE P f cap hp xs noEnd
end Go.Proofs.YtbfdchahapajaaaGreatDoor
namespace Go.Proofs.YtbfdchahapajaaaGreatDoor
open Go.RowKit
set_option linter.unusedVariables false
structure FP where
  dst : List Nat
  looks : List Nat
  rds : List Nat
  wrs : List Nat
inductive Gd where
  | yes
  | no
  | bad
def gd (ops : Array Oper) (o : Oper) (S : Sst) : Gd :=
  match o.guard with
  | none => .yes
  | some (j, want) => match (ops[j]?).bind (·.dst) with
    | none => .no
    | some t => match S.T t with
      | .bl b => cond b (cond want .yes .no) (cond want .no .yes)
      | .v (.tuple _) => .no
      | _ => .bad
def isGuard (ops : Array Oper) (i : Nat) : Bool := ops.toList.any fun o => match o.guard with
  | some (j, _) => Nat.beq j i
  | none => false
def settle (g : Bool) (v : SV) : SV := cond g (match v with
  | .v (.bool b) => .bl b
  | v => v) v
def splitV (g : Bool) (v : SV) (K : SV → Prop) : Prop := cond g (match v with
  | .v (.bool b) => (b = true → K (.bl true)) ∧ (b = false → K (.bl false))
  | v => K v) (K v)
def forceV {α : Type} (x : Value) (K : Value → α) : α :=
  match x with
  | .int k n => K (.int k n)
  | .string s => K (.string s)
  | .bool b => K (.bool b)
  | .slice a n c => K (.slice a n c)
  | .tuple vs => K (.tuple vs)
  | .nilIface => K .nilIface
  | x => K x
def force {α : Type} (x : SV) (K : SV → α) : α :=
  match x with
  | .v x => forceV x fun x => K (.v x)
  | .bl b => K (.bl b)
  | .p l i j => K (.p l i j)
  | .o l => K (.o l)
  | .s l a n c => K (.s l a n c)
  | .dat d => K (.dat d)
  | .dc d => K (.dc d)
  | .m l => K (.m l)
  | .dp d i j => K (.dp d i j)
  | .av d => K (.av d)
  | .fn f a c => K (.fn f a c)
  | .ag cs => K (.ag cs)
  | .tu vs => K (.tu vs)
  | .ifc t x => K (.ifc t x)
  | .any => K .any
def forceL {α : Type} : List SV → (List SV → α) → α
  | [], K => K []
  | x :: xs, K => force x fun x => forceL xs fun xs => K (x :: xs)
def forceU {α : Type} : List (Nat × Option SBlk) → (List (Nat × Option SBlk) → α) → α
  | [], K => K []
  | (l, some (.cells t cs)) :: r, K => forceL cs fun cs => forceU r fun r => K ((l, some (.cells t cs)) :: r)
  | (l, some (.rc t wd n cs)) :: r, K => forceL cs fun cs => forceU r fun r => K ((l, some (.rc t wd n cs)) :: r)
  | (l, some b) :: r, K => forceU r fun r => K ((l, some b) :: r)
  | (l, none) :: r, K => forceU r fun r => K ((l, none) :: r)
def FP.of (ops : Array Oper) (o : Oper) (rds : List Nat) (ups : List (Nat × Option SBlk)) : FP :=
  { dst := o.dst.toList, looks := o.looksAt ops, rds := rds, wrs := ups.map (·.1) }
def FP.skip (ops : Array Oper) (o : Oper) : FP := { dst := o.dst.toList, looks := o.looksAt ops, rds := [], wrs := [] }
def hasN (l : List Nat) (k : Nat) : Bool := l.any fun i => Nat.beq i k
def meets (l r : List Nat) : Bool := l.any (hasN r)
def FP.clash (x y : FP) : Bool :=
  meets x.dst y.dst || meets x.dst y.looks || meets x.looks y.dst || meets x.wrs y.wrs || meets x.wrs y.rds || meets x.rds y.wrs
def forceN {α : Type} (n : Nat) (k : Nat → α) : α := match n with
  | 0 => k 0
  | m + 1 => k (m + 1)
def edgeBits (acc : List Nat) (l : List Edge) : Nat := l.foldl (fun s e => cond (Region.binds .any e) (s ||| 2 ^ e.on ||| acc.getD e.on 0) s) 0
def waitsL : List Oper → List Nat → List Nat
  | [], acc => acc
  | o :: r, acc => forceN (edgeBits acc o.after.toList) fun b => waitsL r (acc ++ [b])
def waits (ops : Array Oper) : List Nat := waitsL ops.toList []
def indepFrom (bf : List Nat) (x : FP) (i : Nat) : List FP → Nat → Bool
  | [], _ => true
  | y :: r, j => (!x.clash y || (bf.getD j 0).testBit i) && indepFrom bf x i r (j + 1)
def indepAll (bf : List Nat) : List FP → Nat → Bool
  | [], _ => true
  | x :: r, i => indepFrom bf x i r (i + 1) && indepAll bf r (i + 1)
def backL : List Oper → Nat → Bool
  | [], _ => true
  | o :: r, i => o.after.toList.all (fun e => !Region.binds .any e || Nat.blt e.on i) && backL r (i + 1)
def backOk (ops : Array Oper) : Bool := backL ops.toList 0
def indep (ops : Array Oper) (l : List FP) : Bool := backOk ops && indepAll (waits ops) l 0
section
variable (P : Program) (Γ : FuncId → Option Ctr)
def conds : List Cnd → Prop → Prop
  | [], k => k
  | c :: cs, k => c.p ∧ conds cs k
def isPanic : Op → Bool
  | .panic _ => true
  | _ => false
def exec0 (ops : Array Oper) (i : Nat) (o : Oper) (S : Sst) (K : Sst → FP → Prop) : Res → Prop
  | ⟨vc, val, rds, ups, news⟩ =>
    cond ((o.dst.all fun d => Nat.blt d S.n) && (news.all fun k => !S.U k) && !isPanic o.op)
      (conds vc (force val fun val => splitV (isGuard ops i) val fun val => forceU ups fun ups =>
        K (S.app o.dst ⟨vc, val, rds, ups, news⟩) (FP.of ops o (readsOf o S.ev S.H) ups))) False
def goT (k : CRes → Prop) : CT → Prop
  | .leaf r => k r
  | .ite c a b => (c.p → goT k a) ∧ (¬ c.p → goT k b)
def exec1 (ops : Array Oper) (i : Nat) (o : Oper) (S : Sst) (n : Nat) (K : Sst → FP → Prop) : Prop :=
  match treeC Γ o S.ev S.H n with
  | some (t, k) => goT (fun r => exec0 ops i o S K (k r)) t
  | none => exec0 ops i o S K (step P Γ o S.ev S.H n)
def runOps (ops : Array Oper) (base : Nat → Nat) : List Oper → Nat → Sst → List FP → (Sst → List FP → Prop) → Prop
  | [], _, S, acc, K => K S acc
  | o :: rest, i, S, acc, K =>
    match gd ops o S with
    | .yes => exec1 P Γ ops i o S (base i) fun S' f => runOps ops base rest (i + 1) S' (acc ++ [f]) K
    | .no => cond (o.dst.all fun d => Nat.blt d S.n) (runOps ops base rest (i + 1) (S.put o.dst (.v undef)) (acc ++ [.skip ops o]) K) False
    | .bad => False
inductive XE where
  | normal
  | exit (id : Nat)
  | ret
structure LoopInv where
  ι : Type
  p : ι → Prop
  tm : ι → List (Nat × SV)
  hp : ι → List (Nat × SBlk)
  μ : ι → Nat
structure RngInv where
  f : FuncId
  cap : List SV
  hpI : List (Nat × SBlk)
  xs : List (List Value)
  it : Nat → List Value
  tm : List (Nat × SV)
  hp : Nat → List (Nat × SBlk)
  p : Nat → Prop := fun _ => True
  hpE : Nat → List (Nat × SBlk) := noEnd
  tmE : List (Nat × SV) := []
inductive LoopFam where
  | one (I : LoopInv)
  | fam (G : Type) (I : G → LoopInv)
  | rng (G : Type) (R : G → RngInv)
  | unr (n : Nat)
  | unf (n : Nat) (ds : List Nat)
def un0 : SV → SV → List (Nat × Option Nat)
  | .p a _ _, .p b _ _ => [(a, some b)]
  | .o a, .o b => [(a, some b)]
  | .m a, .m b => [(a, some b)]
  | .s a _ _ _, .s b _ _ _ => [(a, some b)]
  | .o a, .v (.slice none 0 0) => [(a, none)]
  | _, _ => []
def unL : List SV → List SV → List (Nat × Option Nat)
  | x :: xs, y :: ys => un0 x y ++ unL xs ys
  | _, _ => []
def unA : SV → SV → List (Nat × Option Nat)
  | .ag a, .ag b => unL a b
  | x, y => un0 x y
def unF : List SV → List SV → List (Nat × Option Nat)
  | x :: xs, y :: ys => unA x y ++ unF xs ys
  | _, _ => []
def un1 : SV → SV → List (Nat × Option Nat)
  | .fn _ a c, .fn _ a' c' => unF a a' ++ unL c c'
  | .ag a, .ag b => unL a b
  | .tu a, .tu b => unL a b
  | .ifc _ (.ag a), .ifc _ (.ag b) => unL a b
  | .ifc _ a, .ifc _ b => un0 a b
  | x, y => un0 x y
def unT (S : Sst) : List (Nat × SV) → List (Nat × Option Nat)
  | [] => []
  | (t, x) :: r => un1 x (S.T t) ++ unT S r
def unC : List SV → List SV → List (Nat × Option Nat)
  | x :: xs, y :: ys => un1 x y ++ unC xs ys
  | _, _ => []
def unB : SBlk → SBlk → List (Nat × Option Nat)
  | .cells _ a, .cells _ b => unC a b
  | _, _ => []
def unH (S : Sst) : List (Nat × SBlk) → List (Nat × Option Nat) → List (Nat × Option Nat)
  | [], m => m
  | (l, b) :: r, m => match lookupL m l with
    | some (some a) => match S.H a with
      | some b' => unH S r (m ++ unB b b')
      | none => unH S r m
    | _ => unH S r m
def datEq : Dat → Dat → Prop
  | .ints k xs, .ints k' ys => cond (ikEq k k') (xs = ys) False
  | .recs w xs, .recs w' ys => cond (Nat.beq w w') (xs = ys) False
  | .lists xs, .lists ys => xs = ys
  | .strs xs, .strs ys => xs = ys
  | .bools xs, .bools ys => xs = ys
  | .mix sh xs, .mix sh' ys => cond (shsEq sh sh') (xs = ys) False
  | _, _ => False
def vEq : Value → Value → Prop
  | .int k x, .int k' y => cond (ikEq k k') (x = y) False
  | .string x, .string y => x = y
  | .bool x, .bool y => x = y
  | x, y => x = y
def okB (b : Bool) : List Prop := cond b [] [False]
def optN (x : Option (Option Nat)) (a : Nat) : Bool := match x with
  | some (some b) => Nat.beq a b
  | _ => false
def le0 (m : List (Nat × Option Nat)) : SV → SV → List Prop
  | _, .any => []
  | .v (.slice none 0 0), .o l => okB (match lookupL m l with
    | some none => true
    | _ => false)
  | .v (.slice none 0 0), .dat d => [d.len = 0]
  | .v (.bool a), .bl b => [a = b]
  | .bl a, .v (.bool b) => [a = b]
  | .bl a, .bl b => okB (cond a b (!b))
  | .v a, .v b => [vEq a b]
  | .p a i j, .p l i' j' => okB (optN (lookupL m l) a && Nat.beq j j') ++ (cond (Nat.beq i i') [] [i = i'])
  | .o a, .o l => okB (optN (lookupL m l) a)
  | .m a, .m l => okB (optN (lookupL m l) a)
  | .s a off n c, .s l off' n' c' => okB (optN (lookupL m l) a) ++ [off = off', n = n', c' = none ∨ c = c']
  | .dat a, .dat b => [datEq a b]
  | .dc a, .dat b => [datEq a b]
  | .dp a i j, .dp b i' j' => [datEq a b, i = i', j = j']
  | .av a, .av b => [datEq a b]
  | .ifc t (.v a), .ifc t' (.v b) => okB (Nat.beq t t') ++ [vEq a b]
  | _, _ => [False]
def leL (m : List (Nat × Option Nat)) : List SV → List SV → List Prop
  | [], [] => []
  | x :: xs, y :: ys => le0 m x y ++ leL m xs ys
  | _, _ => [False]
def leA (m : List (Nat × Option Nat)) : SV → SV → List Prop
  | .ag a, .ag b => leL m a b
  | x, y => le0 m x y
def leF (m : List (Nat × Option Nat)) : List SV → List SV → List Prop
  | [], [] => []
  | x :: xs, y :: ys => leA m x y ++ leF m xs ys
  | _, _ => [False]
def fnEq : Fn → Fn → Bool
  | .func f, .func g => Nat.beq f g
  | _, _ => false
def leAf (m : List (Nat × Option Nat)) : SV → SV → List Prop
  | .fn f a c, .fn f' a' c' => okB (fnEq f f') ++ leL m a a' ++ leL m c c'
  | x, y => le0 m x y
def leAg (m : List (Nat × Option Nat)) : List SV → List SV → List Prop
  | [], [] => []
  | x :: xs, y :: ys => leAf m x y ++ leAg m xs ys
  | _, _ => [False]
def le1 (m : List (Nat × Option Nat)) : SV → SV → List Prop
  | _, .any => []
  | .fn f a c, .fn f' a' c' => okB (fnEq f f') ++ leF m a a' ++ leL m c c'
  | .ag a, .ag b => leAg m a b
  | .tu a, .tu b => leL m a b
  | .ifc t (.ag a), .ifc t' (.ag b) => okB (Nat.beq t t') ++ leL m a b
  | .ifc t a, .ifc t' b => okB (Nat.beq t t') ++ le0 m a b
  | x, y => le0 m x y
def leT (m : List (Nat × Option Nat)) : List SV → List SV → List Prop
  | [], [] => []
  | x :: xs, y :: ys => le1 m x y ++ leT m xs ys
  | _, _ => [False]
def le2 (m : List (Nat × Option Nat)) : SV → SV → List Prop
  | .tu a, .tu b => leT m a b
  | x, y => le1 m x y
def leB (m : List (Nat × Option Nat)) : SBlk → SBlk → List Prop
  | .cells t a, .cells t' b => okB (Nat.beq t t') ++ leT m a b
  | .arr t a, .arr t' b => okB (Nat.beq t t') ++ [datEq a b]
  | .row t a, .row t' b => okB (Nat.beq t t') ++ [datEq a b]
  | .rc t w n a, .rc t' w' n' b => okB (Nat.beq t t' && Nat.beq w w' && Nat.beq n n') ++ leT m a b
  | .mp k v a, .mp k' v' b => okB (vkSame k k' && vkSame v v') ++ [∀ q, mget a q = mget b q]
  | _, _ => [False]
def leTm (m : List (Nat × Option Nat)) (S : Sst) : List (Nat × SV) → List Prop
  | [] => []
  | (t, x) :: r => le1 m (S.T t) x ++ leTm m S r
def leHp (m : List (Nat × Option Nat)) (S : Sst) : List (Nat × SBlk) → List Prop
  | [] => []
  | (l, b) :: r => (match lookupL m l with
    | some (some a) => match S.H a with
      | some b' => leB m b' b
      | none => [False]
    | some none => match b with
      | .row _ d => [d.len = 0]
      | _ => [False]
    | none => [False]) ++ leHp m S r
def andL : List Prop → Prop
  | [] => True
  | [c] => c
  | c :: cs => c ∧ andL cs
def nodupB : List Nat → Bool
  | [] => true
  | k :: r => !hasN r k && nodupB r
def idsOk (b : Nat) (m : List (Nat × Option Nat)) (hp : List (Nat × SBlk)) : Bool :=
  nodupB (hp.map (·.1)) && (nodupB (hp.filterMap fun x => (lookupL m x.1).join) && hp.all fun x => !Nat.blt x.1 b || optN (lookupL m x.1) x.1)
def avoids (m : List (Nat × Option Nat)) (br : List Nat) : Bool := m.all fun x => match x.2 with
  | some a => !hasN br a
  | none => true
def onlyIds (hp : List (Nat × SBlk)) (m : List (Nat × Option Nat)) : List (Nat × Option Nat) := m.filter fun x => hasN (hp.map (·.1)) x.1
def Sle (b : Nat) (S : Sst) (tm : List (Nat × SV)) (hp : List (Nat × SBlk)) (m0 : List (Nat × Option Nat)) (no : List Nat) : List Prop :=
  match onlyIds hp (unH S hp (m0 ++ unT S tm)) with
  | m => okB (idsOk b m hp && avoids m no) ++ leTm m S tm ++ leHp m S hp
def sstOf (b : Nat) (n : Nat) (tm : List (Nat × SV)) (hp : List (Nat × SBlk)) : Sst :=
  { n := n, T := fun t => (lookupL tm t).getD .any, H := lookupL hp, U := fun l => Nat.blt l b || hasN (hp.map (·.1)) l }
def keepB (b : Nat) (hp : List (Nat × SBlk)) : List (Nat × Option Nat) := hp.filterMap fun x => cond (Nat.blt x.1 b) (some (x.1, some x.1)) none
def SV.ofA : Value → SV
  | .agg cs => .ag (cs.toList.map SV.v)
  | x => .v x
def idsT : List (Nat × SV) → List Nat
  | [] => []
  | (_, x) :: r => ids x ++ idsT r
def keepA (hp : List (Nat × SBlk)) : List (Nat × Option Nat) := hp.map fun x => (x.1, some x.1)
def bindS : List Nat → List Value → (Nat → SV) → (Nat → SV)
  | p :: ps, x :: xs, T => bindS ps xs (upd T p (SV.ofA x))
  | _, _, T => T
def bindT (ps : List Nat) (xs : List Value) (S : Sst) : Sst := { S with T := bindS ps xs S.T }
def nloops : Code → Nat
  | .seq x y => nloops x + nloops y
  | .cond _ x y => nloops x + nloops y
  | .block _ c => nloops c
  | .loop c => nloops c + 1
  | .scope c => nloops c
  | .rangeFunc _ _ _ c => nloops c + 1
  | _ => 0
def loopV (b : Nat) (I : LoopInv) (S : Sst) (body : Sst → (XE → Sst → Prop) → Prop) (K : XE → Sst → Prop) : Prop :=
  (∃ x, I.p x ∧ andL (Sle b S (I.tm x) (I.hp x) [] [])) ∧
      ∀ x, I.p x → body (sstOf b S.n (I.tm x) (I.hp x)) fun e S' => match e with
        | .normal => cond (Nat.beq S'.n S.n) (∃ y, I.p y ∧ I.μ y < I.μ x ∧ andL (Sle b S' (I.tm y) (I.hp y) [] [])) False
        | e => K e S'
def unrV (body : Sst → (XE → Sst → Prop) → Prop) (K : XE → Sst → Prop) : Nat → Sst → Prop
  | 0, _ => False
  | n + 1, S => body S fun e S' => match e with
    | .normal => unrV body K n S'
    | e => K e S'
def forget (ds : List Nat) (S : Sst) : Sst :=
  { n := S.n, T := fun t => cond (meetN (ids (S.T t)) ds) .any (S.T t),
    H := fun l => cond (hasN' ds l) none (match S.H l with
      | some b => cond (meetN (idsB b) ds) none (some b)
      | none => none),
    U := fun l => cond (hasN' ds l) false (S.U l) }
def unfV (ds : List Nat) (body : Sst → (XE → Sst → Prop) → Prop) (K : XE → Sst → Prop) : Nat → Sst → Prop
  | 0, _ => False
  | n + 1, S => body S fun e S' => match e with
    | .normal => unfV ds body K n (forget ds S')
    | e => K e S'
def headId : Code → Option Nat
  | .region id _ _ => some id
  | .seq x _ => headId x
  | .block _ c => headId c
  | .scope c => headId c
  | .loop c => headId c
  | _ => none
def cutOf (Ω : Nat → Option LoopFam) (y : Code) : Option LoopFam := match headId y with
  | some r => Ω (1000 + r)
  | none => none
def cutV (b : Nat) (I : LoopInv) (S : Sst) (bx bz : Sst → (XE → Sst → Prop) → Prop) (K : XE → Sst → Prop) : Prop :=
  (bx S fun e S' => match e with
    | .normal => cond (Nat.beq S'.n S.n) (∃ x, I.p x ∧ andL (Sle b S' (I.tm x) (I.hp x) [] [])) False
    | e => K e S') ∧ ∀ x, I.p x → bz (sstOf b S.n (I.tm x) (I.hp x)) K
def isDefer : Op → Bool
  | .defer _ => true
  | _ => false
def noDefer (ops : Array Oper) : Bool := ops.toList.all fun o => !isDefer o.op
def hasAll (H : Nat → Option SBlk) (l : List Nat) : Bool := l.all fun k => match H k with
  | some _ => true
  | none => false
def over (H : Nat → Option SBlk) (h : List (Nat × SBlk)) : Nat → Option SBlk := fun l => match lookupL h l with
  | some b => some b
  | none => H l
def overU (U : Nat → Bool) (h : List (Nat × SBlk)) : Nat → Bool := fun l => U l || hasN (h.map (·.1)) l
def okEnd (hpI : List (Nat × SBlk)) (tmE : List (Nat × SV)) (U : Nat → Bool) (h : List (Nat × SBlk)) : Bool :=
  nodupB (h.map (·.1)) && inL (h.map (·.1)) (idsT tmE) && h.all fun x => isNil (idsB x.2) && hasN (hpI.map (·.1)) x.1 && !Nat.blt x.1 2000 && !U x.1
def behS (n : Nat) (tm : List (Nat × SV)) (H : Nat → Option SBlk) (U : Nat → Bool) (h : List (Nat × SBlk)) : Sst :=
  { n := n, T := fun t => (lookupL tm t).getD .any, H := over H h, U := overU U h }
def rngV (b : Nat) (R : RngInv) (S : Sst) (g : SV) (ps : List Nat) (az bd : Sst → (XE → Sst → Prop) → Prop) (K : XE → Sst → Prop) : Prop :=
  match g with
  | .fn (.func f) [] cap =>
    cond (Nat.beq f R.f && Nat.beq b 1000 && nodupB (R.hpI.map (·.1)) && inL (R.hpI.map (·.1)) (idsL R.cap) && inL (R.hpI.map (·.1)) (R.hpI.flatMap fun x => idsB x.2) && (ps.all fun p => Nat.blt p S.n) && hasAll (lookupL (R.hp 0)) (idsT R.tm) && (idsT R.tm).all fun l => Nat.blt l 2000)
      (ISatE P R.f R.cap R.hpI R.xs R.hpE ∧ andL (leL (keepA R.hpI) cap R.cap ++ leHp (keepA R.hpI) S R.hpI ++ leTm (keepA R.hpI) S R.tmE) ∧
        R.p 0 ∧ andL (Sle b S R.tm (R.hp 0) [] (R.hpI.map (·.1))) ∧
        (∀ i, i < R.xs.length → R.p i → R.xs[i]? = some (R.it i) ∧ (R.it i).length = ps.length ∧ az (bindT ps (R.it i) (sstOf 2000 S.n R.tm (R.hp i))) fun e S1 => match e with
          | .normal => bd S1 fun e S' => match e with
            | .normal => R.p (i + 1) ∧ cond (hasAll (lookupL (R.hp (i + 1))) (idsT R.tm)) (andL (Sle 2000 S' [] (R.hp (i + 1)) (keepB 2000 (R.hp (i + 1))) [])) False
            | e => cond (hasAll S'.H (idsT R.tm) && okEnd R.hpI R.tmE S'.U (R.hpE i)) (K e (behS S.n (R.tm ++ R.tmE) S'.H S'.U (R.hpE i))) False
          | _ => False) ∧
        (R.p R.xs.length → cond (okEnd R.hpI R.tmE (sstOf 2000 S.n [] (R.hp R.xs.length)).U (R.hpE R.xs.length)) (K .normal (behS S.n (R.tm ++ R.tmE) (lookupL (R.hp R.xs.length)) (sstOf 2000 S.n [] (R.hp R.xs.length)).U (R.hpE R.xs.length))) False)) False
  | _ => False
def vc (Ω : Nat → Option LoopFam) : Nat → Nat → Code → Sst → (XE → Sst → Prop) → Prop
  | _, _, .skip, S, K => K .normal S
  | _, _, .label _, S, K => K .normal S
  | _, _, .region id ops draw, S, K => cond (noDefer ops)
    (runOps P Γ ops (fun i => (id + 1) * 100000 + 8 * i) ops.toList 0 S [] fun S' acc => cond draw (cond (indep ops acc) (K .normal S') False) (K .normal S')) False
  | b, k, .seq x y, S, K => match cutOf Ω y with
    | none => vc Ω b k x S fun e S' => match e with
      | .normal => vc Ω b (k + nloops x) y S' K
      | e => K e S'
    | some (.one I) => cutV b I S (vc Ω b k x) (vc Ω b (k + nloops x) y) K
    | some (.fam _ I) => ∃ g, cutV b (I g) S (vc Ω b k x) (vc Ω b (k + nloops x) y) K
    | some (.rng _ _) => False
    | some (.unr _) => False
    | some (.unf _ _) => False
  | b, k, .cond c x y, S, K => match S.ev c with
    | .bl true => vc Ω b k x S K
    | .bl false => vc Ω b (k + nloops x) y S K
    | .v (.bool v) => (v = true → vc Ω b k x S K) ∧ (v = false → vc Ω b (k + nloops x) y S K)
    | _ => False
  | b, k, .block id c, S, K => vc Ω b k c S fun e S' => match e with
    | .exit id' => cond (Nat.beq id' id) (K .normal S') (K (.exit id') S')
    | e => K e S'
  | b, k, .loop c, S, K => match Ω k with
    | none => False
    | some (.one I) => loopV b I S (vc Ω b (k + 1) c) K
    | some (.fam _ I) => ∃ g, loopV b (I g) S (vc Ω b (k + 1) c) K
    | some (.rng _ _) => False
    | some (.unr n) => unrV (vc Ω b (k + 1) c) K n S
    | some (.unf n ds) => cond (ds.all fun l => !Nat.blt l b) (unfV ds (vc Ω b (k + 1) c) K n S) False
  | b, k, .rangeFunc g ps az c, S, K => match Ω k with
    | some (.rng _ R) => ∃ y, rngV P b (R y) S (S.ev g) ps.toList (vc Ω 2000 0 az) (vc Ω 2000 (k + 1) c) K
    | _ => False
  | b, k, .scope c, S, K => cond (Nat.beq b 1000) (vc Ω b k c S K) False
  | _, _, .exit id, S, K => K (.exit id) S
  | _, _, .ret, S, K => K .ret S
  | _, _, _, _, _ => False
def resS (S : Sst) : ResultVar → Res
  | .tmp t => .ret (S.T t)
  | .cell a t => cond (tyOk P t) (match S.T a with
    | .p l i j => match S.H l with
      | some b => loadS P t b i j
      | none => .fail
    | _ => .fail) .fail
def tupS : List SV → SV
  | [x] => x
  | l => .tu l
def initS (fn : Func) (args : List SV) (hp : List (Nat × SBlk)) : Sst :=
  { n := fn.ntmps, T := fun t => args.getD t (.v undef), H := lookupL hp, U := fun l => Nat.blt l 1000 || hasN (hp.map (·.1)) l }
end
end Go.Proofs.YtbfdchahapajaaaGreatDoor
namespace Go.Proofs.YtbfdchahapajaaaGreatDoor
open Go.RowKit
set_option linter.unusedVariables false
set_option linter.unusedSimpArgs false
theorem noFr_zero (n : Nat) : noFr (0, 0) n := .inl rfl
theorem noFr_past (n : Nat) : noFr (n, n + 1) n := .inr (Nat.le_refl n)
theorem noFr.at {fr : Nat × Nat} {n : Nat} (h : noFr fr n) (k : Nat) (hk : k < n) : (decide (fr.1 ≤ k) && decide (k < fr.2)) = false := by
  rcases h with h | h
  · simp; omega
  · simp; omega
def mkFr (fr : Nat × Nat) (n : Nat) : Nat × Nat := if fr.1 == fr.2 then (n, n + 1) else (min fr.1 n, max fr.2 (n + 1))
theorem noFr_mk {fr : Nat × Nat} {n : Nat} (h : noFr fr n) : noFr (mkFr fr n) n := by
  unfold mkFr
  by_cases e : fr.1 = fr.2
  · rw [if_pos (by simpa using e)]; exact noFr_past n
  · rw [if_neg (by simpa using e)]
    rcases h with h | h
    · exact absurd h e
    · exact .inr (by show n ≤ min fr.1 n; omega)
section
variable {D D' : Nat → Prop} {w w' : World} {β β' : Nat → Option Loc}
structure Grows (D : Nat → Prop) (w : World) (β : Nat → Option Loc) (D' : Nat → Prop) (w' : World) (β' : Nat → Option Loc) : Prop where
  d : ∀ g, D g → D' g
  h : ∀ g, D g → w'.heap[g]? = w.heap[g]?
  b : ∀ l L, β l = some L → β' l = some L
theorem Grows.refl (D : Nat → Prop) (w : World) (β : Nat → Option Loc) : Grows D w β D w β := ⟨fun _ h => h, fun _ _ => rfl, fun _ _ h => h⟩
theorem cell_same {g o : Nat} (h : w'.heap[g]? = w.heap[g]?) : w'.cell? ⟨g, o, none⟩ = w.cell? ⟨g, o, none⟩ := by simp [World.cell?, h]
theorem SliceAt.mono {n wd : Nat} {ok ok' : Nat → Nat → Value → Prop} {u : Value} (G : Grows D w β D' w' β') (hok : ∀ i j x, ok i j x → ok' i j x) (h : SliceAt D w n wd ok u) : SliceAt D' w' n wd ok' u := by
  obtain ⟨A, c, hu, hc, h⟩ := h
  refine ⟨A, c, hu, hc, fun hn => ?_⟩
  obtain ⟨g, off, hA, hD, hx⟩ := h hn
  refine ⟨g, off, hA, G.d g hD, fun i j hi hj => ?_⟩
  obtain ⟨x, h1, h2⟩ := hx i j hi hj
  exact ⟨x, (cell_same (G.h g hD)).trans h1, hok _ _ _ h2⟩
theorem Dat.ok_mono (G : Grows D w β D' w' β') (d : Dat) (i j : Nat) (x : Value) (h : d.ok D w i j x) : d.ok D' w' i j x := by
  cases d with
  | mix sh xs =>
    simp only [Dat.ok, mixOk] at h ⊢
    cases hs : sh[j]? with
    | none => rw [hs] at h; exact h.elim
    | some c => rw [hs] at h; cases c <;> first | exact SliceAt.mono G (fun _ _ _ h => h) h | exact h
  | _ => simp only [Dat.ok] at h ⊢ <;> first | exact h | exact SliceAt.mono G (fun _ _ _ h => h) h
theorem RepDat.mono (G : Grows D w β D' w' β') {d : Dat} {u : Value} (h : RepDat D w d u) : RepDat D' w' d u := SliceAt.mono G (Dat.ok_mono G d) h
mutual
theorem Rep.mono (G : Grows D w β D' w' β') : ∀ (x : SV) {u : Value}, Rep D w β x u → Rep D' w' β' x u
  | .v _, _, h => by simpa [Rep] using h
  | .bl _, _, h => by simpa [Rep] using h
  | .p l i j, _, h => by
    simp only [Rep] at h ⊢
    obtain ⟨L, h1, h2, h3⟩ := h
    exact ⟨L, G.b _ _ h1, h2, h3⟩
  | .o l, _, h => by
    simp only [Rep] at h ⊢
    obtain ⟨L, h1, h2⟩ := h
    exact ⟨L, G.b _ _ h1, h2⟩
  | .s l off n c, _, h => by
    simp only [Rep] at h ⊢
    obtain ⟨L, h1, h2⟩ := h
    exact ⟨L, G.b _ _ h1, h2⟩
  | .dat d, _, h => by
    simp only [Rep] at h ⊢
    exact h.mono G
  | .dc d, _, h => by
    simp only [Rep] at h ⊢
    exact ⟨h.1.mono G, h.2⟩
  | .m l, _, h => by
    simp only [Rep] at h ⊢
    obtain ⟨L, h1, h2⟩ := h
    exact ⟨L, G.b _ _ h1, h2⟩
  | .dp d i j, _, h => by
    simp only [Rep] at h ⊢
    obtain ⟨g, off, hu, hD, hx⟩ := h
    refine ⟨g, off, hu, G.d g hD, fun j' hj => ?_⟩
    obtain ⟨x, h1, h2⟩ := hx j' hj
    exact ⟨x, (cell_same (G.h g hD)).trans h1, Dat.ok_mono G _ _ _ _ h2⟩
  | .av d, _, h => by
    cases d <;> simp only [Rep] at h ⊢
    exact h
  | .fn f a c, _, h => by
    simp only [Rep] at h ⊢
    obtain ⟨us, vs, h1, h2, h3⟩ := h
    exact ⟨us, vs, h1, Reps.mono G a h2, Reps.mono G c h3⟩
  | .ag cs, _, h => by
    simp only [Rep] at h ⊢
    obtain ⟨us, h1, h2⟩ := h
    exact ⟨us, h1, Reps.mono G cs h2⟩
  | .tu cs, _, h => by
    simp only [Rep] at h ⊢
    obtain ⟨us, h1, h2⟩ := h
    exact ⟨us, h1, Reps.mono G cs h2⟩
  | .ifc t x, _, h => by
    simp only [Rep] at h ⊢
    obtain ⟨y, h1, h2⟩ := h
    exact ⟨y, h1, Rep.mono G x h2⟩
  | .any, _, _ => by simp only [Rep]
theorem Reps.mono (G : Grows D w β D' w' β') : ∀ (cs : List SV) {us : List Value}, Reps D w β cs us → Reps D' w' β' cs us
  | [], _, h => by simpa [Reps] using h
  | c :: cs, _, h => by
    simp only [Reps] at h ⊢
    obtain ⟨x, xs, h1, h2, h3⟩ := h
    exact ⟨x, xs, h1, Rep.mono G c h2, Reps.mono G cs h3⟩
end
theorem BlkRep.mono (G : Grows D w β D' w' β') {L : Loc} (b : SBlk) (hg : L.nil = false → w'.heap[L.g]? = w.heap[L.g]?) (h : BlkRep D w β L b) : BlkRep D' w' β' L b := by
  cases b with
  | cells ty cs =>
    obtain ⟨h1, us, h2, h3, h4⟩ := h
    exact ⟨h1, us, (hg h1).trans h2, Reps.mono G cs h3, h4⟩
  | arr ty d =>
    obtain ⟨h1, h2, us, h3, h4, h5, h6⟩ := h
    refine ⟨h1, h2, us, (hg h1).trans h3, h4, fun i j hi hj => ?_, h6⟩
    obtain ⟨x, hx, hok⟩ := h5 i j hi hj
    exact ⟨x, hx, Dat.ok_mono G _ _ _ _ hok⟩
  | row ty d =>
    obtain ⟨h1, h2, h3⟩ := h
    refine ⟨h1, h2, ?_⟩
    rcases h3 with h3 | ⟨h3, h4, h4', us, ty', fr, h5, hfr, h6, h7⟩
    · exact .inl h3
    · refine .inr ⟨h3, h4, h4', us, ty', fr, (hg h3).trans h5, hfr, h6, fun i j hi hj => ?_⟩
      obtain ⟨x, hx, hok⟩ := h7 i j hi hj
      exact ⟨x, hx, Dat.ok_mono G _ _ _ _ hok⟩
  | rc ty wd n cs =>
    obtain ⟨h1, h2, xs, h3, h4, h5⟩ := h
    refine ⟨h1, h2, xs, h3, Reps.mono G cs h4, ?_⟩
    rcases h5 with h5 | ⟨h5, h6, h7, us, ty', fr, h8, h9⟩
    · exact .inl h5
    · exact .inr ⟨h5, h6, h7, us, ty', fr, (hg h5).trans h8, h9⟩
  | mp kk vk es =>
    obtain ⟨h1, us, clock, ps, h2, h3⟩ := h
    exact ⟨h1, us, clock, ps, (hg h1).trans h2, h3⟩
theorem Reps.len : ∀ (cs : List SV) {us : List Value}, Reps D w β cs us → us.length = cs.length
  | [], _, h => by simp only [Reps] at h; simp [h]
  | c :: cs, _, h => by
    simp only [Reps] at h
    obtain ⟨x, xs, rfl, _, h3⟩ := h
    simp [Reps.len cs h3]
theorem Reps.get : ∀ (cs : List SV) {us : List Value} (i : Nat) (c : SV), Reps D w β cs us → cs[i]? = some c → ∃ u, us[i]? = some u ∧ Rep D w β c u
  | [], _, i, c, _, hc => by simp at hc
  | d :: cs, us, i, c, h, hc => by
    simp only [Reps] at h
    obtain ⟨x, xs, rfl, h2, h3⟩ := h
    cases i with
    | zero => simp at hc; subst hc; exact ⟨x, by simp, h2⟩
    | succ i => simp at hc; simpa using Reps.get cs i c h3 hc
theorem Reps.append : ∀ (cs : List SV) {us : List Value} {ds : List SV} {vs : List Value}, Reps D w β cs us → Reps D w β ds vs → Reps D w β (cs ++ ds) (us ++ vs)
  | [], us, ds, vs, h, k => by simp only [Reps] at h; subst h; simpa using k
  | c :: cs, us, ds, vs, h, k => by
    simp only [Reps] at h
    obtain ⟨x, xs, rfl, h2, h3⟩ := h
    simp only [List.cons_append, Reps]
    exact ⟨x, xs ++ vs, rfl, h2, Reps.append cs h3 k⟩
theorem Reps.drop : ∀ (cs : List SV) {us : List Value} (n : Nat), Reps D w β cs us → Reps D w β (cs.drop n) (us.drop n)
  | [], us, n, h => by simp only [Reps] at h; subst h; simp [Reps]
  | c :: cs, us, 0, h => by simpa using h
  | c :: cs, us, n + 1, h => by
    simp only [Reps] at h
    obtain ⟨x, xs, rfl, h2, h3⟩ := h
    simpa using Reps.drop cs n h3
theorem Reps.take : ∀ (cs : List SV) {us : List Value} (n : Nat), Reps D w β cs us → Reps D w β (cs.take n) (us.take n)
  | [], us, n, h => by simp only [Reps] at h; subst h; simp [Reps]
  | c :: cs, us, 0, h => by simp [Reps]
  | c :: cs, us, n + 1, h => by
    simp only [Reps] at h
    obtain ⟨x, xs, rfl, h2, h3⟩ := h
    simp only [List.take_succ_cons, Reps]
    exact ⟨x, xs.take n, rfl, h2, Reps.take cs n h3⟩
theorem Reps.map {α : Type} (f : α → SV) (g : α → Value) (h : ∀ x, Rep D w β (f x) (g x)) : ∀ l : List α, Reps D w β (l.map f) (l.map g)
  | [] => by simp [Reps]
  | x :: l => by
    simp only [List.map_cons, Reps]
    exact ⟨_, _, rfl, h x, Reps.map f g h l⟩
theorem Rep.ofV (x : Value) : Rep D w β (SV.ofV x) x := by
  unfold SV.ofV
  split <;> simp [Rep]
theorem Rep.cells {x : SV} {u : Value} (h : Rep D w β x u) (h1 : x.cellsOf.all SV.one = true) : Reps D w β x.cellsOf u.cells.toList ∧ ∀ c ∈ u.cells.toList, c.oneCell' = true := by
  have key : ∀ (c : SV) (u : Value), SV.one c = true → Rep D w β c u → u.oneCell' = true := by
    intro c u hc hr
    cases c with
    | v x => simp only [Rep] at hr; subst hr; cases u <;> simp_all [SV.one, Value.oneCell']
    | o l =>
      simp only [Rep] at hr
      obtain ⟨L, _, rfl⟩ := hr
      unfold Loc.val
      split <;> rfl
    | dat d =>
      simp only [Rep, RepDat, SliceAt] at hr
      obtain ⟨A, c, rfl, _⟩ := hr
      rfl
    | p l i j => simp only [Rep] at hr; obtain ⟨L, _, _, rfl⟩ := hr; rfl
    | dc d => simp only [Rep] at hr; obtain ⟨_, A, rfl⟩ := hr; rfl
    | m l => simp only [Rep] at hr; obtain ⟨L, _, _, rfl⟩ := hr; rfl
    | s l off n c => simp only [Rep] at hr; obtain ⟨L, _, A, c', rfl, _⟩ := hr; rfl
    | dp d i j => simp only [Rep] at hr; obtain ⟨g, off, rfl, _⟩ := hr; rfl
    | fn f a c => simp only [Rep] at hr; obtain ⟨us, vs, rfl, _⟩ := hr; rfl
    | ifc t x => simp only [Rep] at hr; obtain ⟨y, rfl, _⟩ := hr; rfl
    | bl b => simp only [Rep] at hr; subst hr; rfl
    | _ => simp [SV.one] at hc
  have single : ∀ (c : SV) (u : Value), SV.one c = true → Rep D w β c u → u.cells = #[u] := by
    intro c u hc hr
    have := key c u hc hr
    cases u <;> simp_all [Value.cells, Value.oneCell']
  cases x with
  | ag cs =>
    simp only [Rep] at h
    obtain ⟨us, rfl, hus⟩ := h
    refine ⟨by simpa [SV.cellsOf, Value.cells] using hus, ?_⟩
    have all : ∀ (cs : List SV) (us : List Value), cs.all SV.one = true → Reps D w β cs us → ∀ c ∈ us, c.oneCell' = true := by
      intro cs
      induction cs with
      | nil => intro us _ h; simp only [Reps] at h; simp [h]
      | cons c cs ih =>
        intro us ha h
        simp only [Reps] at h
        obtain ⟨x, xs, rfl, h2, h3⟩ := h
        simp only [List.all_cons, Bool.and_eq_true] at ha
        intro y hy
        simp only [List.mem_cons] at hy
        rcases hy with rfl | hy
        · exact key _ _ ha.1 h2
        · exact ih xs ha.2 h3 y hy
    simpa [Value.cells] using all cs us (by simpa [SV.cellsOf] using h1) hus
  | _ =>
    simp only [SV.cellsOf, List.all_cons, List.all_nil, Bool.and_true] at h1
    rw [single _ _ h1 h]
    simp only [SV.cellsOf, Reps]
    exact ⟨⟨u, [], rfl, h, rfl⟩, by simpa using key _ _ h1 h⟩
end
structure Env where
  w0 : World
  Wr : Nat → Prop
  D0 : Nat → Prop
  β0 : Nat → Option Loc
  G : Nat → Prop
  df : List Deferred := []
structure St (E : Env) (D : Nat → Prop) (β : Nat → Option Loc) (S : Sst) (a : Act) (w : World) : Prop where
  size : a.tmps.size = S.n
  tm : ∀ t, Rep D w β (S.T t) (a.tmps.getD t undef)
  hp : ∀ l b, S.H l = some b → ∃ L, β l = some L ∧ BlkRep D w β L b
  dis : ∀ l b L, S.H l = some b → β l = some L → L.nil = false → L.g < w.heap.size ∧ ¬ D L.g ∧ (E.w0.heap.size ≤ L.g ∨ E.Wr L.g)
  inj : ∀ l l' b b' L L', S.H l = some b → S.H l' = some b' → β l = some L → β l' = some L' → L.nil = false → L'.nil = false → L.g = L'.g → l = l'
  dlt : ∀ g, D g → g < w.heap.size
  d0 : ∀ g, E.D0 g → D g
  d1 : ∀ g, D g → E.D0 g ∨ E.w0.heap.size ≤ g ∨ E.Wr g
  dom : ∀ l, S.U l = false → β l = none
  os : w.os = E.w0.os
  tape : w.tape = E.w0.tape
  output : w.output = E.w0.output
  grow : E.w0.heap.size ≤ w.heap.size
  block : ∀ g, g < E.w0.heap.size → ¬ E.Wr g → w.heap[g]? = E.w0.heap[g]?
  df : a.defers = E.df
  low : ∀ l, E.G l → S.U l = true
  giv : ∀ l L, E.G l → β l = some L → E.β0 l = some L
theorem upd_same {α : Type} (f : Nat → α) (k : Nat) (x : α) : upd f k x k = x := by simp [upd]
theorem upd_ne {α : Type} (f : Nat → α) {k i : Nat} (x : α) (h : i ≠ k) : upd f k x i = f i := by
  have : Nat.beq i k = false := by
    cases hb : Nat.beq i k
    · rfl
    · exact absurd (Nat.eq_of_beq_eq_true hb) h
  simp [upd, this]
section
variable {E : Env} {D : Nat → Prop} {β : Nat → Option Loc} {S : Sst} {a : Act} {w : World}
theorem St.ev (h : St E D β S a w) (x : Operand) : Rep D w β (S.ev x) (a.eval x) := by
  cases x with
  | tmp t => exact h.tm t
  | const v => exact Rep.ofV v
  | global g => simp [Sst.ev, Act.eval, Rep]
  | func f => exact ⟨[], [], rfl, rfl, rfl⟩
theorem St.put (h : St E D β S a w) {dst : Option Nat} {x : SV} {u : Value} (hd : (dst.all fun d => Nat.blt d S.n) = true) (hx : Rep D w β x u) : St E D β (S.put dst x) (a.put dst u) w := by
  cases dst with
  | none => exact h
  | some d =>
    have hlt : d < S.n := by
      simp only [Option.all_some] at hd
      exact Nat.le_of_ble_eq_true hd
    exact { h with
      size := by simpa [Act.put, Sst.put] using h.size
      tm := fun t => by
        by_cases ht : t = d
        · subst ht
          simp only [Sst.put, upd_same, Act.put]
          rw [Array.getD_eq_getD_getElem?, Array.getElem?_setIfInBounds_self_of_lt (by rw [h.size]; exact hlt)]
          exact hx
        · simp only [Sst.put, upd_ne _ _ ht, Act.put]
          rw [Array.getD_eq_getD_getElem?, Array.getElem?_setIfInBounds_ne (Ne.symm ht), ← Array.getD_eq_getD_getElem?]
          exact h.tm t }
theorem St.drew (h : St E D β S a w) : St E D β S a { w with drawn := w.drawn + 1 } :=
  have G : Grows D w β D { w with drawn := w.drawn + 1 } β := ⟨fun _ h => h, fun _ _ => rfl, fun _ _ h => h⟩
  { h with
    tm := fun t => (h.tm t).mono G
    hp := fun l b hb => let ⟨L, h1, h2⟩ := h.hp l b hb; ⟨L, h1, h2.mono G b (fun _ => rfl)⟩ }
theorem St.change (h : St E D β S a w) {S' : Sst} {D' : Nat → Prop} {β' : Nat → Option Loc} {w' : World} (G : Grows D w β D' w' β')
    (hn : S'.n = S.n) (hT : S'.T = S.T)
    (hp : ∀ l b, S'.H l = some b → ∃ L, β' l = some L ∧ BlkRep D' w' β' L b)
    (dis : ∀ l b L, S'.H l = some b → β' l = some L → L.nil = false → L.g < w'.heap.size ∧ ¬ D' L.g ∧ (E.w0.heap.size ≤ L.g ∨ E.Wr L.g))
    (inj : ∀ l l' b b' L L', S'.H l = some b → S'.H l' = some b' → β' l = some L → β' l' = some L' → L.nil = false → L'.nil = false → L.g = L'.g → l = l')
    (dlt : ∀ g, D' g → g < w'.heap.size) (d1 : ∀ g, D' g → D g ∨ E.w0.heap.size ≤ g ∨ E.Wr g)
    (dom : ∀ l, S'.U l = false → β' l = none)
    (os : w'.os = w.os) (tape : w'.tape = w.tape) (output : w'.output = w.output) (grow : w.heap.size ≤ w'.heap.size)
    (block : ∀ g, g < E.w0.heap.size → ¬ E.Wr g → w'.heap[g]? = w.heap[g]?)
    (up : ∀ l, S.U l = true → S'.U l = true) (bn : ∀ l L, β' l = some L → β l = some L ∨ S.U l = false) : St E D' β' S' a w' :=
  { size := by rw [hn]; exact h.size
    tm := fun t => by rw [hT]; exact (h.tm t).mono G
    hp := hp, dis := dis, inj := inj, dlt := dlt
    d0 := fun g hg => G.d g (h.d0 g hg)
    d1 := fun g hg => (d1 g hg).elim (h.d1 g) .inr
    dom := dom
    os := os.trans h.os, tape := tape.trans h.tape, output := output.trans h.output
    grow := Nat.le_trans h.grow grow
    block := fun g hg hw => (block g hg hw).trans (h.block g hg hw)
    df := h.df
    low := fun l hl => up l (h.low l hl)
    giv := fun l L hl hL => by
      rcases bn l L hL with h1 | h1
      · exact h.giv l L hl h1
      · rw [h.low l hl] at h1; cases h1 }
theorem St.used {H : Nat → Option SBlk} (h : St E D β { S with H := H, U := S.U } a w) {U' : Nat → Bool} (hU : ∀ l, S.U l = true → U' l = true) : St E D β { S with H := H, U := U' } a w :=
  { h with
    dom := fun l hl => h.dom l (by
      show S.U l = false
      cases hs : S.U l
      · rfl
      · have := hU l hs
        have hl' : U' l = false := hl
        rw [this] at hl'; cases hl')
    low := fun l hl => hU l (h.low l hl) }
end
end Go.Proofs.YtbfdchahapajaaaGreatDoor
namespace Go.Proofs.YtbfdchahapajaaaGreatDoor
open Go.RowKit
set_option linter.unusedVariables false
set_option linter.unusedSimpArgs false
section
variable {P : Program} {E : Env} {D : Nat → Prop} {β : Nat → Option Loc} {S : Sst} {a : Act} {w : World}
theorem upds_up (U : Nat → Bool) : ∀ (l : List Nat) (k : Nat), U k = true → upds U (l.map fun i => (i, true)) k = true := by
  intro l
  induction l generalizing U with
  | nil => intro k h; exact h
  | cons i r ih =>
    intro k h
    simp only [List.map_cons, upds]
    refine ih _ k ?_
    by_cases e : k = i
    · subst e; exact upd_same _ _ _
    · rw [upd_ne _ _ e]; exact h
theorem upd_bn {U : Nat → Bool} {n : Nat} (hn : U n = false) (L0 : Option Loc) (l : Nat) (L : Loc) (h : upd β n L0 l = some L) : β l = some L ∨ U l = false := by
  by_cases e : l = n
  · subst e; exact .inr hn
  · rw [upd_ne _ _ e] at h; exact .inl h
theorem Sst.app_eq (S : Sst) (d : Option Nat) (r : Res) : S.app d r = Sst.put { S with H := upds S.H r.ups, U := upds S.U (r.news.map fun k => (k, true)) } d r.val := by
  cases d <;> rfl
theorem heap_alloc_lt {o : Obj} {g : Nat} (h : g < w.heap.size) : (w.alloc o).heap[g]? = w.heap[g]? := Below.heap_alloc w o g h
theorem grows_alloc (hD : ∀ g, D g → g < w.heap.size) {n : Nat} (hn : β n = none) (L : Loc) (o : Obj) : Grows D w β D (w.alloc o) (upd β n (some L)) :=
  ⟨fun _ h => h, fun g h => heap_alloc_lt (hD g h), fun l L' h => by
    by_cases hl : l = n
    · subst hl; rw [hn] at h; cases h
    · rw [upd_ne _ _ hl]; exact h⟩
theorem St.new (h : St E D β S a w) {n : Nat} (hn : S.U n = false) {b : SBlk} (us : List Value) (ty : TypeId) (L : Loc) (hg : L.g = w.heap.size) (hnil : L.nil = false)
    (hb : Grows D w β D (w.alloc (.cells us.toArray ty)) (upd β n (some L)) → (w.alloc (.cells us.toArray ty)).heap[L.g]? = some (.cells us.toArray ty (0, 0)) → BlkRep D (w.alloc (.cells us.toArray ty)) (upd β n (some L)) L b) :
    St E D (upd β n (some L)) { S with H := upds S.H [(n, some b)], U := upds S.U [(n, true)] } a (w.alloc (.cells us.toArray ty)) := by
  have hβ : β n = none := h.dom n hn
  have G := grows_alloc h.dlt hβ L (.cells us.toArray ty)
  have hnew : (w.alloc (.cells us.toArray ty)).heap[L.g]? = some (.cells us.toArray ty (0, 0)) := by rw [hg]; exact heap_alloc_new w _
  have hB := hb G hnew
  have old : ∀ l b, S.H l = some b → l ≠ n := by
    rintro l b hl rfl
    obtain ⟨L', h1, _⟩ := h.hp l b hl
    rw [hβ] at h1; cases h1
  refine h.change G rfl rfl ?_ ?_ ?_ (fun g hg' => Nat.lt_of_lt_of_le (h.dlt g hg') (by simp)) (fun g hg' => .inl hg') ?_ rfl rfl rfl (by simp) (fun g hlt _ => heap_alloc_lt (Nat.lt_of_lt_of_le hlt h.grow)) (upds_up S.U [n]) (upd_bn hn _)
  · intro l b' hl
    simp only [upds] at hl
    by_cases e : l = n
    · subst e
      rw [upd_same] at hl
      cases hl
      exact ⟨L, upd_same _ _ _, hB⟩
    · rw [upd_ne _ _ e] at hl
      obtain ⟨L', h1, h2⟩ := h.hp l b' hl
      refine ⟨L', by rw [upd_ne _ _ e]; exact h1, h2.mono G b' (fun hni => heap_alloc_lt (h.dis l b' L' hl h1 hni).1)⟩
  · intro l b' L' hl hL' hni
    simp only [upds] at hl
    by_cases e : l = n
    · subst e
      rw [upd_same] at hL'
      cases hL'
      refine ⟨by simp [hg], fun hD => ?_, .inl (by rw [hg]; exact h.grow)⟩
      have := h.dlt _ hD
      omega
    · rw [upd_ne _ _ e] at hl hL'
      obtain ⟨h1, h2, h3⟩ := h.dis l b' L' hl hL' hni
      exact ⟨by simp; omega, h2, h3⟩
  · intro l l' b1 b2 L1 L2 h1 h2 k1 k2 n1 n2 hgg
    simp only [upds] at h1 h2
    by_cases e : l = n <;> by_cases e' : l' = n
    · rw [e, e']
    · subst e
      rw [upd_ne _ _ e'] at h2 k2
      rw [upd_same] at k1
      cases k1
      have := (h.dis l' b2 L2 h2 k2 n2).1
      omega
    · subst e'
      rw [upd_ne _ _ e] at h1 k1
      rw [upd_same] at k2
      cases k2
      have := (h.dis l b1 L1 h1 k1 n1).1
      omega
    · rw [upd_ne _ _ e] at h1 k1
      rw [upd_ne _ _ e'] at h2 k2
      exact h.inj l l' b1 b2 L1 L2 h1 h2 k1 k2 n1 n2 hgg
  · intro l hl
    simp only [upds] at hl
    by_cases e : l = n
    · subst e
      rw [upd_same] at hl; cases hl
    · rw [upd_ne _ _ e] at hl ⊢
      exact h.dom l hl
theorem grows_setRow {g : Nat} (hD : ¬ D g) (cs : Array Value) : Grows D w β D (w.setRow g cs) β :=
  ⟨fun _ h => h, fun g' h => setRow_other w g g' cs (fun e => hD (e ▸ h)), fun _ _ h => h⟩
theorem St.set (h : St E D β S a w) {l : Nat} {b b' : SBlk} {L : Loc} (hl : S.H l = some b) (hL : β l = some L) (hnil : L.nil = false) (cs : Array Value)
    (hb : Grows D w β D (w.setRow L.g cs) β → BlkRep D (w.setRow L.g cs) β L b') :
    St E D β { S with H := upds S.H [(l, some b')], U := upds S.U ([] : List (Nat × Bool)) } a (w.setRow L.g cs) := by
  obtain ⟨d1, d2, d3⟩ := h.dis l b L hl hL hnil
  have G := grows_setRow (w := w) (β := β) d2 cs
  have hU : ∀ l, S.H l ≠ none → S.U l = true := by
    intro l hne
    cases hs : S.U l
    · have := h.dom l hs
      cases hh : S.H l with
      | none => exact absurd hh hne
      | some b => obtain ⟨L', h1, _⟩ := h.hp l b hh; rw [this] at h1; cases h1
    · rfl
  refine h.change G rfl rfl ?_ ?_ ?_ (fun g hg' => by simpa using h.dlt g hg') (fun g hg' => .inl hg') h.dom rfl rfl rfl (by simp) ?_ (fun _ h => h) (fun _ _ h => .inl h)
  · intro l' b1 hl'
    simp only [upds] at hl'
    by_cases e : l' = l
    · subst e
      rw [upd_same] at hl'
      cases hl'
      exact ⟨L, hL, hb G⟩
    · rw [upd_ne _ _ e] at hl'
      obtain ⟨L', h1, h2⟩ := h.hp l' b1 hl'
      refine ⟨L', h1, h2.mono G b1 (fun hni => setRow_other w _ _ cs (fun hgg => e (h.inj l' l b1 b L' L hl' hl h1 hL hni hnil hgg)))⟩
  · intro l' b1 L' hl' hL' hni
    simp only [upds] at hl'
    by_cases e : l' = l
    · subst e
      rw [hL] at hL'
      cases hL'
      exact ⟨by simpa using d1, d2, d3⟩
    · rw [upd_ne _ _ e] at hl'
      obtain ⟨h1, h2, h3⟩ := h.dis l' b1 L' hl' hL' hni
      exact ⟨by simpa using h1, h2, h3⟩
  · intro l1 l2 b1 b2 L1 L2 h1 h2 k1 k2 n1 n2 hgg
    simp only [upds] at h1 h2
    have pick : ∀ l' b1, upd S.H l (some b') l' = some b1 → ∃ b2, S.H l' = some b2 := by
      intro l' b1 hh
      by_cases e : l' = l
      · subst e; exact ⟨b, hl⟩
      · rw [upd_ne _ _ e] at hh; exact ⟨b1, hh⟩
    obtain ⟨c1, e1⟩ := pick _ _ h1
    obtain ⟨c2, e2⟩ := pick _ _ h2
    exact h.inj l1 l2 c1 c2 L1 L2 e1 e2 k1 k2 n1 n2 hgg
  · intro g hlt hw
    exact setRow_other w _ _ cs (fun e => by subst e; rcases d3 with d3 | d3 <;> first | omega | exact hw d3)
def markW (w : World) (g n : Nat) : World := w.freeze ⟨g, n, none⟩ 1
theorem markW_eq (w : World) (g n : Nat) : markW w g n = { w with heap := w.heap.modify g fun
      | .cells c elem (lo, hi) => .cells c elem (if lo == hi then (n, n + 1) else (min lo n, max hi (n + 1)))
      | o => o } := by
  unfold markW World.freeze
  rw [if_neg (by decide)]
  first | rfl | (congr 1; congr 1; funext x; cases x <;> rfl)
theorem markW_other (w : World) (g g' n : Nat) (h : g' ≠ g) : (markW w g n).heap[g']? = w.heap[g']? := by
  rw [markW_eq]
  simp only [Array.getElem?_modify]
  rw [if_neg (fun e => h e.symm)]
theorem markW_heap (w : World) (g : Nat) (cs : Array Value) (t : TypeId) (fr : Nat × Nat) (hg : w.heap[g]? = some (.cells cs t fr)) : (markW w g cs.size).heap[g]? = some (.cells cs t (mkFr fr cs.size)) := by
  rw [markW_eq]
  simp only [Array.getElem?_modify, hg, if_pos, Option.map_some]
  rfl
theorem markW_size (w : World) (g n : Nat) : (markW w g n).heap.size = w.heap.size := by rw [markW_eq]; simp
theorem markW_rest (w : World) (g n : Nat) : (markW w g n).os = w.os ∧ (markW w g n).tape = w.tape ∧ (markW w g n).output = w.output := by rw [markW_eq]; exact ⟨rfl, rfl, rfl⟩
theorem St.mark (h : St E D β S a w) {l : Nat} {b : SBlk} {L : Loc} (hl : S.H l = some b) (hL : β l = some L) (hnil : L.nil = false) (n : Nat)
    (hb : Grows D w β D (markW w L.g n) β → BlkRep D (markW w L.g n) β L b) :
    St E D β { S with H := upds S.H [(l, some b)], U := upds S.U ([] : List (Nat × Bool)) } a (markW w L.g n) := by
  obtain ⟨d1, d2, d3⟩ := h.dis l b L hl hL hnil
  have G : Grows D w β D (markW w L.g n) β := ⟨fun _ h => h, fun g' h => markW_other w L.g g' n (fun e => d2 (e ▸ h)), fun _ _ h => h⟩
  have same : upds S.H [(l, some b)] = S.H := by
    funext k
    simp only [upds]
    by_cases e : k = l
    · subst e; rw [upd_same, hl]
    · rw [upd_ne _ _ e]
  obtain ⟨r1, r2, r3⟩ := markW_rest w L.g n
  refine h.change G rfl rfl ?_ ?_ ?_ (fun g hg' => by rw [markW_size]; exact h.dlt g hg') (fun g hg' => .inl hg') h.dom r1 r2 r3 (by rw [markW_size]; exact Nat.le_refl _) ?_ (fun _ h => h) (fun _ _ h => .inl h)
  · intro l' b1 hl'
    rw [same] at hl'
    by_cases e : l' = l
    · subst e
      rw [hl] at hl'
      cases hl'
      exact ⟨L, hL, hb G⟩
    · obtain ⟨L', h1, h2⟩ := h.hp l' b1 hl'
      exact ⟨L', h1, h2.mono G b1 (fun hni => markW_other w _ _ n (fun hgg => e (h.inj l' l b1 b L' L hl' hl h1 hL hni hnil hgg)))⟩
  · intro l' b1 L' hl' hL' hni
    rw [same] at hl'
    obtain ⟨h1, h2, h3⟩ := h.dis l' b1 L' hl' hL' hni
    exact ⟨by rw [markW_size]; exact h1, h2, h3⟩
  · intro l1 l2 b1 b2 L1 L2 h1 h2 k1 k2 n1 n2 hgg
    rw [same] at h1 h2
    exact h.inj l1 l2 b1 b2 L1 L2 h1 h2 k1 k2 n1 n2 hgg
  · intro g hlt hw
    exact markW_other w _ _ n (fun e => by subst e; rcases d3 with d3 | d3 <;> first | omega | exact hw d3)
def OwnR (w : World) (size : Nat) (v : Value) (n : Nat) (xs : List Value) : Prop :=
  xs.length = n * size ∧ ((v = .slice none 0 0 ∧ n = 0) ∨
    ∃ (g cap : Nat) (cur : Array Value) (ty' : TypeId) (fr : Nat × Nat), v = .slice (some ⟨g, 0, none⟩) n cap ∧ w.heap[g]? = some (.cells cur ty' fr) ∧ noFr fr cur.size ∧ n ≤ cap ∧ cap ≤ maxLen ∧ cap * size ≤ cur.size ∧ cur.toList.take (n * size) = xs)
theorem OwnR.nil (w : World) (size : Nat) : OwnR w size (.slice none 0 0) 0 [] := ⟨by simp, .inl ⟨rfl, rfl⟩⟩
theorem OwnR.cells {size n : Nat} {v : Value} {xs : List Value} (h : OwnR w size v n xs) {g : Nat} (hg : v.ownBlock = some g) : ∀ j u, xs[j]? = some u → w.cell? ((⟨g, 0, none⟩ : Addr).add j) = some u := by
  intro j u hu
  rcases h.2 with ⟨rfl, _⟩ | ⟨g', cap, cur, ty', fr, rfl, hgg, _, _, _, _, htake⟩
  · simp [Value.ownBlock] at hg
  · simp [Value.ownBlock] at hg
    subst hg
    have hadd : (⟨g', 0, none⟩ : Addr).add j = ⟨g', j, none⟩ := by unfold Addr.add; split <;> simp_all
    rw [hadd, cell_of_row w g' j cur ty' fr hgg]
    rw [← htake, List.getElem?_take] at hu
    split at hu
    · simpa using hu
    · cases hu
theorem own_of_row {L : Loc} {ty : TypeId} {d : Dat} (h : BlkRep D w β L (.row ty d)) :
    ∃ xs : List Value, OwnR w d.wd L.val d.len xs ∧ ∀ i j, i < d.len → j < d.wd → ∃ x, xs[i * d.wd + j]? = some x ∧ d.ok D w i j x := by
  obtain ⟨h1, h2, h3⟩ := h
  rcases h3 with ⟨h3, h4⟩ | ⟨h3, h4, h4', us, ty', fr, h5, hfr, h6, h7⟩
  · refine ⟨[], ⟨by simp [h4], .inl ⟨by simp [Loc.val, h3], h4⟩⟩, fun i j hi _ => by omega⟩
  · have hle : d.len * d.wd ≤ us.length := Nat.le_trans (Nat.mul_le_mul_right _ h4) h6
    refine ⟨us.take (d.len * d.wd), ⟨by simp; omega, .inr ⟨L.g, L.cap, us.toArray, ty', fr, by simp [Loc.val, h3, h2], h5, by simpa using hfr, h4, h4', by simpa using h6, by simp⟩⟩, fun i j hi hj => ?_⟩
    obtain ⟨x, hx, hok⟩ := h7 i j hi hj
    refine ⟨x, ?_, hok⟩
    rw [List.getElem?_take]
    rw [if_pos ?_]
    · exact hx
    · calc i * d.wd + j < i * d.wd + d.wd := by omega
        _ = (i + 1) * d.wd := by rw [Nat.add_mul]; omega
        _ ≤ d.len * d.wd := Nat.mul_le_mul_right _ hi
theorem row_of_own {w' : World} {ty : TypeId} {d : Dat} {v : Value} {xs : List Value} (hn : OwnR w' d.wd v d.len xs)
    (hx : ∀ i j, i < d.len → j < d.wd → ∃ x, xs[i * d.wd + j]? = some x ∧ d.ok D w' i j x) :
    ∃ L : Loc, L.val = v ∧ BlkRep D w' β L (.row ty d) ∧ (L.nil = false → v.ownBlock = some L.g) := by
  obtain ⟨hl, h⟩ := hn
  rcases h with ⟨rfl, h0⟩ | ⟨g, cap, cur, ty', fr, rfl, hg, hfr, hc, hm, hs, ht⟩
  · exact ⟨⟨0, d.wd, d.len, 0, true⟩, by simp [Loc.val], ⟨rfl, rfl, .inl ⟨rfl, h0⟩⟩, fun h => by cases h⟩
  · refine ⟨⟨g, d.wd, d.len, cap, false⟩, by simp [Loc.val], ⟨rfl, rfl, .inr ⟨rfl, hc, hm, cur.toList, ty', fr, by simpa using hg, by simpa using hfr, by simpa using hs, fun i j hi hj => ?_⟩⟩, fun _ => rfl⟩
    obtain ⟨x, hx1, hx2⟩ := hx i j hi hj
    refine ⟨x, ?_, hx2⟩
    rw [← ht, List.getElem?_take] at hx1
    split at hx1
    · exact hx1
    · cases hx1
theorem St.regrow (h : St E D β S a w) {l n : Nat} {b b' : SBlk} {L L' : Loc} {w' : World} (hl : S.H l = some b) (hL : β l = some L) (hn : S.U n = false)
    (hg : w.grownBy w' (if L.nil then none else some L.g)) (hat : L'.nil = false → (L.nil = false ∧ L'.g = L.g) ∨ L'.g = w.heap.size)
    (hlt : L'.nil = false → L'.g < w'.heap.size)
    (hb : Grows D w β D w' (upd β n (some L')) → BlkRep D w' (upd β n (some L')) L' b') :
    St E D (upd β n (some L')) { S with H := upds S.H [(l, none), (n, some b')], U := upds S.U [(n, true)] } a w' := by
  have hβ : β n = none := h.dom n hn
  have hne : l ≠ n := by rintro rfl; rw [hβ] at hL; cases hL
  have keep : ∀ g, g < w.heap.size → (L.nil = false → g ≠ L.g) → w'.heap[g]? = w.heap[g]? := by
    intro g hlt hgg
    refine hg.block g hlt ?_
    cases hni : L.nil
    · simpa using hgg hni
    · simp
  have G : Grows D w β D w' (upd β n (some L')) := ⟨fun _ h => h, fun g hD => keep g (h.dlt g hD) (fun hni e => (h.dis l b L hl hL hni).2.1 (e ▸ hD)), fun l' L1 h1 => by
    by_cases e : l' = n
    · subst e; rw [hβ] at h1; cases h1
    · rw [upd_ne _ _ e]; exact h1⟩
  have hB := hb G
  have look : ∀ l' b1, upds S.H [(l, none), (n, some b')] l' = some b1 → (l' = n ∧ b1 = b') ∨ (l' ≠ n ∧ l' ≠ l ∧ S.H l' = some b1) := by
    intro l' b1 hh
    simp only [upds] at hh
    by_cases e : l' = n
    · subst e; rw [upd_same] at hh; cases hh; exact .inl ⟨rfl, rfl⟩
    · rw [upd_ne _ _ e] at hh
      by_cases e2 : l' = l
      · subst e2; rw [upd_same] at hh; cases hh
      · rw [upd_ne _ _ e2] at hh; exact .inr ⟨e, e2, hh⟩
  refine h.change G rfl rfl ?_ ?_ ?_ (fun g hg' => Nat.lt_of_lt_of_le (h.dlt g hg') hg.size) (fun g hg' => .inl hg') ?_ hg.os hg.tape hg.output hg.size ?_ (upds_up S.U [n]) (upd_bn hn _)
  · intro l' b1 hh
    rcases look l' b1 hh with ⟨rfl, rfl⟩ | ⟨e1, e2, hh⟩
    · exact ⟨L', upd_same _ _ _, hB⟩
    · obtain ⟨L1, h1, h2⟩ := h.hp l' b1 hh
      exact ⟨L1, by rw [upd_ne _ _ e1]; exact h1, h2.mono G b1 (fun hni => keep _ (h.dis l' b1 L1 hh h1 hni).1 (fun hni' hgg => e2 (h.inj l' l b1 b L1 L hh hl h1 hL hni hni' hgg)))⟩
  · intro l' b1 L1 hh h1 hni
    rcases look l' b1 hh with ⟨rfl, rfl⟩ | ⟨e1, e2, hh⟩
    · rw [upd_same] at h1
      cases h1
      refine ⟨hlt hni, ?_, ?_⟩
      · rcases hat hni with ⟨h2, h3⟩ | h3
        · rw [h3]; exact (h.dis l b L hl hL h2).2.1
        · intro hD; have := h.dlt _ hD; omega
      · rcases hat hni with ⟨h2, h3⟩ | h3
        · rw [h3]; exact (h.dis l b L hl hL h2).2.2
        · left; rw [h3]; exact h.grow
    · rw [upd_ne _ _ e1] at h1
      obtain ⟨k1, k2, k3⟩ := h.dis l' b1 L1 hh h1 hni
      exact ⟨Nat.lt_of_lt_of_le k1 hg.size, k2, k3⟩
  · have far : ∀ l' b1 L1, S.H l' = some b1 → l' ≠ l → β l' = some L1 → L1.nil = false → L'.nil = false → L1.g ≠ L'.g := by
      intro l' b1 L1 hh e2 h1 hni hni' hgg
      rcases hat hni' with ⟨h2, h3⟩ | h3
      · exact e2 (h.inj l' l b1 b L1 L hh hl h1 hL hni h2 (hgg.trans h3))
      · have := (h.dis l' b1 L1 hh h1 hni).1; omega
    intro l1 l2 b1 b2 L1 L2 h1 h2 k1 k2 n1 n2 hgg
    rcases look l1 b1 h1 with ⟨rfl, rfl⟩ | ⟨e1, e2, hh1⟩ <;> rcases look l2 b2 h2 with ⟨e3, e4⟩ | ⟨e3, e4, hh2⟩
    · exact e3.symm
    · rw [upd_same] at k1; cases k1
      rw [upd_ne _ _ e3] at k2
      exact absurd hgg.symm (far l2 b2 L2 hh2 e4 k2 n2 n1)
    · subst e3; rw [upd_same] at k2; cases k2
      rw [upd_ne _ _ e1] at k1
      exact absurd hgg (far l1 b1 L1 hh1 e2 k1 n1 n2)
    · rw [upd_ne _ _ e1] at k1
      rw [upd_ne _ _ e3] at k2
      exact h.inj l1 l2 b1 b2 L1 L2 hh1 hh2 k1 k2 n1 n2 hgg
  · intro l' hl'
    simp only [upds] at hl'
    by_cases e : l' = n
    · subst e; rw [upd_same] at hl'; cases hl'
    · rw [upd_ne _ _ e] at hl' ⊢; exact h.dom l' hl'
  · intro g hlt hw
    refine keep g (Nat.lt_of_lt_of_le hlt h.grow) (fun hni e => ?_)
    rcases (h.dis l b L hl hL hni).2.2 with h3 | h3
    · omega
    · exact hw (e ▸ h3)
end
end Go.Proofs.YtbfdchahapajaaaGreatDoor
namespace Go.Proofs.YtbfdchahapajaaaGreatDoor
open Go.RowKit
set_option linter.unusedVariables false
set_option linter.unusedSimpArgs false
section
variable {P : Program} {Γ : FuncId → Option Ctr}
def StepOk (P : Program) (Γ : FuncId → Option Ctr) (o : Oper) : Prop :=
  ∀ (E : Env) (D : Nat → Prop) (β : Nat → Option Loc) (S : Sst) (a : Act) (w : World) (n : Nat) (r : Res), step P Γ o S.ev S.H n = r → (∀ c ∈ r.vc, c.p) →
    (o.dst.all fun d => Nat.blt d S.n) = true → (∀ k ∈ r.news, S.U k = false) → St E D β S a w → ∀ (K : Act → World → Prop) (Q : Exit → Act → World → Prop),
    (∀ D' β' a' w', St E D' β' (S.app o.dst r) a' w' → K a' w') → o.wp P a w K Q
section
variable {E : Env} {D D' : Nat → Prop} {β β' : Nat → Option Loc} {S : Sst} {a : Act} {w w' : World} {K : Act → World → Prop} {Q : Exit → Act → World → Prop}
theorem gen_ok {o : Oper} {r : Res} {u : Value} (hrun : (execOp a.eval o).run P w = .ok (.value u) w')
    (h' : St E D' β' { S with H := upds S.H r.ups, U := upds S.U (r.news.map fun k => (k, true)) } a w') (hx : Rep D' w' β' r.val u)
    (hd : (o.dst.all fun d => Nat.blt d S.n) = true) (hK : ∀ D' β' a' w', St E D' β' (S.app o.dst r) a' w' → K a' w') : o.wp P a w K Q := by
  unfold Oper.wp
  rw [hrun]
  refine hK D' β' _ _ ?_
  rw [Sst.app_eq]
  exact h'.put hd hx
theorem val_ok {o : Oper} {r : Res} {u : Value} (h : St E D β S a w) (hrun : (execOp a.eval o).run P w = .ok (.value u) w) (hx : Rep D w β r.val u) (hup : r.ups = []) (hnw : r.news = [])
    (hd : (o.dst.all fun d => Nat.blt d S.n) = true) (hK : ∀ D' β' a' w', St E D' β' (S.app o.dst r) a' w' → K a' w') : o.wp P a w K Q :=
  gen_ok hrun (by rw [hup, hnw]; exact h) hx hd hK
theorem skip_ok {o : Oper} {r : Res} (hrun : (execOp a.eval o).run P w = .ok .skip w')
    (h' : St E D' β' { S with H := upds S.H r.ups, U := upds S.U (r.news.map fun k => (k, true)) } a w') (hx : r.val = .v undef)
    (hd : (o.dst.all fun d => Nat.blt d S.n) = true) (hK : ∀ D' β' a' w', St E D' β' (S.app o.dst r) a' w' → K a' w') : o.wp P a w K Q := by
  unfold Oper.wp
  rw [hrun]
  refine hK D' β' _ _ ?_
  rw [Sst.app_eq, hx]
  exact h'.put hd (by simp [Rep])
theorem bad {r : Res} {p : Prop} (h : Res.fail = r) (hc : ∀ c ∈ r.vc, c.p) : p := by
  subst h
  exact (hc (⟨False, inferInstance⟩) (by simp [Res.fail])).elim
end
theorem under {t : TypeId} {d : TypeDesc} (h : tyU P t = d) (hd : d ≠ .invalid) : P.underlying t = some d := by
  unfold tyU at h
  cases hu : P.underlying t with
  | none => rw [hu] at h; exact absurd h.symm hd
  | some d' => rw [hu] at h; simp only [Option.getD_some] at h; rw [h]
theorem under_ok {t : TypeId} (h : tyOk P t = true) : P.underlying t = some (tyU P t) := by
  refine under rfl (fun e => ?_)
  unfold tyOk at h
  rw [e] at h
  cases h
theorem info_of {t : TypeId} {d : TypeDesc} (h : P.underlying t = some d) : ∃ i, P.info? t = some i ∧ tySize P t = i.size ∧ tyBytes P t = i.bytes ∧ tyZero P t = i.zero := by
  unfold Program.underlying at h
  cases hi : P.info? t with
  | none => rw [hi] at h; cases h
  | some i => exact ⟨i, rfl, by simp [tySize, hi], by simp [tyBytes, hi], by simp [tyZero, hi]⟩
theorem run_size {t : TypeId} {d : TypeDesc} (h : P.underlying t = some d) (w : World) : (sizeOf t).run P w = .ok (tySize P t) w := by
  obtain ⟨i, hi, hs, _⟩ := info_of h
  simp [sizeOf, typeInfo, hi, hs]
theorem run_agg {t : TypeId} (h : tyOk P t = true) (w : World) : (isAgg t).run P w = .ok (tyAgg P t) w := by
  have hu := under_ok h
  unfold isAgg
  rw [Sem.run_bind, run_underlying hu]
  unfold tyAgg
  cases tyU P t <;> rfl
theorem add_at (g o j : Nat) : (⟨g, o, none⟩ : Addr).add j = ⟨g, o + j, none⟩ := by unfold Addr.add; split <;> simp_all
theorem run_loadVar_agg {t : TypeId} (h : tyOk P t = true) (hA : tyAgg P t = true) {w : World} {ad : Addr} (us : List Value) (hl : us.length = tySize P t) (hc : ∀ j v, us[j]? = some v → w.cell? (ad.add j) = some v) :
    (loadVar t ad).run P w = .ok (.agg us.toArray) w := by
  have h1 := run_loadCells_list (P := P) w ad us hc
  rw [hl] at h1
  simp [loadVar, run_agg h, hA, run_size (under_ok h), h1]
theorem run_loadVar_one {t : TypeId} (h : tyOk P t = true) (hA : tyAgg P t = false) {w : World} {ad : Addr} {v : Value} (hc : w.cell? ad = some v) :
    (loadVar t ad).run P w = .ok v w := by
  simp [loadVar, run_agg h, hA, hc]
variable {dst : Option Tmp} {type : TypeId} {pos : String} {after : Array Edge} {guard : Option (Nat × Bool)}
theorem ok_move (x : Operand) : StepOk P Γ ⟨dst, .move x, type, pos, after, guard⟩ := by
  intro E D β S a w n r hr hc hd hn h K Q hK
  subst hr
  exact val_ok h (u := a.eval x) rfl (h.ev x) rfl rfl hd hK
theorem ok_assign (x : Operand) : StepOk P Γ ⟨dst, .assign x, type, pos, after, guard⟩ := by
  intro E D β S a w n r hr hc hd hn h K Q hK
  subst hr
  exact val_ok h (u := a.eval x) rfl (h.ev x) rfl rfl hd hK
theorem asB_rep {D : Nat → Prop} {w : World} {β : Nat → Option Loc} {x : SV} {b : Bool} {u : Value} (hb : x.asB = some b) (h : Rep D w β x u) : u = .bool b := by
  unfold SV.asB at hb
  split at hb
  · cases hb; simpa [Rep] using h
  · cases hb; simpa [Rep] using h
  · cases hb
theorem ok_pick (c x y : Operand) : StepOk P Γ ⟨dst, .pick c x y, type, pos, after, guard⟩ := by
  intro E D β S a w n r hr hc hd hn h K Q hK
  have ec := h.ev c
  simp only [step] at hr
  split at hr
  · rename_i e
    subst hr
    rw [e] at ec
    simp only [Rep] at ec
    exact val_ok h (u := a.eval x) (by simp [execOp, ec, asBool]) (h.ev x) rfl rfl hd hK
  · rename_i e
    subst hr
    rw [e] at ec
    simp only [Rep] at ec
    exact val_ok h (u := a.eval y) (by simp [execOp, ec, asBool]) (h.ev y) rfl rfl hd hK
  · rename_i b e
    rw [e] at ec
    simp only [Rep] at ec
    split at hr
    · rename_i b1 b2 e1 e2
      subst hr
      have e1' := asB_rep e1 (h.ev x)
      have e2' := asB_rep e2 (h.ev y)
      refine val_ok h (u := .bool (cond b b1 b2)) ?_ (by simp [Res.ret, Rep]) rfl rfl hd hK
      cases b <;> simp [execOp, ec, asBool, e1', e2']
    · exact bad hr hc
  · exact bad hr hc
theorem ok_unOp (op : UnOp) (t : TypeId) (x : Operand) : StepOk P Γ ⟨dst, .unOp op t x, type, pos, after, guard⟩ := by
  intro E D β S a w n r hr hc hd hn h K Q hK
  have ex := h.ev x
  simp only [step] at hr
  split at hr
  · rename_i b e
    subst hr
    rw [e] at ex
    simp only [Rep] at ex
    exact val_ok h (u := .bool (!b)) (by simp [execOp, ex, Op.unary]) (by simp [Res.ret, Rep]) rfl rfl hd hK
  · rename_i b e
    subst hr
    rw [e] at ex
    simp only [Rep] at ex
    exact val_ok h (u := .bool (!b)) (by simp [execOp, ex, Op.unary]) (by simp [Res.ret, Rep]) rfl rfl hd hK
  · rename_i k b e
    subst hr
    rw [e] at ex
    simp only [Rep] at ex
    exact val_ok h (u := .int k (k.wrap (0 - b))) (by simp [execOp, ex, Op.unary, Op.intArith]) (by simp [Res.ret, Rep]) rfl rfl hd hK
  · exact bad hr hc
theorem ikEq_eq {a b : IntKind} (h : ikEq a b = true) : a = b := by
  cases a <;> cases b <;> first | rfl | (revert h; decide)
theorem eqGuard_plain (op : BinOp) (t : TypeId) (x y : Operand) (u v : Value) (w : World) (h1 : ∀ c, u ≠ .agg c) (h2 : isC y = true ∨ u ≠ .nilIface) : (eqGuard op t x y u v).run P w = .ok () w := by
  have key : ∀ op, op = BinOp.eql ∨ op = BinOp.neq → (eqGuard op t x y u v).run P w = .ok () w := by
    intro op hop
    rcases hop with rfl | rfl <;>
    · cases u with
      | agg c => exact absurd rfl (h1 c)
      | nilIface =>
        cases v with
        | nilIface =>
          rcases h2 with h2 | h2
          · cases y with
            | const c => simp [eqGuard]
            | _ => cases h2
          · exact absurd rfl h2
        | _ => rfl
      | _ => rfl
  cases op <;> first | exact key _ (.inl rfl) | exact key _ (.inr rfl) | rfl
theorem concat_ok {a b : ByteArray} (h : a.size + b.size ≤ 9223372036854775807) (w : World) : (Op.stringOp .add a b).run P w = .ok (.string (a ++ b)) w := by
  unfold Op.stringOp
  simp only []
  rw [if_neg (by show ¬ ((a.size + b.size : Nat) : Int) > 9223372036854775807; omega)]
  rfl
end
end Go.Proofs.YtbfdchahapajaaaGreatDoor
namespace Go.Proofs.YtbfdchahapajaaaGreatDoor
open Go.RowKit
set_option linter.unusedVariables false
set_option linter.unusedSimpArgs false
section
variable {P : Program} {Γ : FuncId → Option Ctr}
variable {dst : Option Tmp} {type : TypeId} {pos : String} {after : Array Edge} {guard : Option (Nat × Bool)}
def BinOk (P : Program) (op : BinOp) (t : TypeId) (x y : Operand) (u v : Value) (w : World) (R : Value → Prop) : Prop :=
  ∃ z, ((do eqGuard op t x y u v; binOp op t u v : Sem Value)).run P w = .ok z w ∧ R z
theorem bin_of {op : BinOp} {t : TypeId} {x y : Operand} {u v : Value} {w : World} {z : Value} {R : Value → Prop} (h1 : (eqGuard op t x y u v).run P w = .ok () w) (h2 : (binOp op t u v).run P w = .ok z w) (h3 : R z) : BinOk P op t x y u v w R :=
  ⟨z, by simp [h1, h2], h3⟩
theorem bin_int {D : Nat → Prop} {w : World} {β : Nat → Option Loc} {op : BinOp} {t : TypeId} {x y : Operand} {k : IntKind} {a b : Int} {r : Res}
    (hr : (match op with
      | .add => Res.ret (.v (.int k (k.wrap (a + b))))
      | .sub => .ret (.v (.int k (k.wrap (a - b))))
      | .mul => .ret (.v (.int k (k.wrap (a * b))))
      | .quo => { vc := [⟨b ≠ 0, inferInstance⟩], val := .v (.int k (k.wrap (a.tdiv b))) }
      | .rem => { vc := [⟨b ≠ 0, inferInstance⟩], val := .v (.int k (a.tmod b)) }
      | .and | .or | .xor | .andNot => .ret (.v (.int k (bits op k a b)))
      | _ => .ret (cmpS op a b)) = r) (hc : ∀ c ∈ r.vc, c.p) (hs : op ≠ .shl) (hs' : op ≠ .shr) :
    BinOk P op t x y (.int k a) (.int k b) w (Rep D w β r.val) ∧ r.ups = [] ∧ r.news = [] := by
  have g : (eqGuard op t x y (.int k a) (.int k b)).run P w = .ok () w := eqGuard_plain op t x y _ _ w (by simp) (.inr (by simp))
  subst hr
  cases op with
  | shl => exact absurd rfl hs
  | shr => exact absurd rfl hs'
  | quo =>
    have hb : b ≠ 0 := hc (⟨b ≠ 0, inferInstance⟩) (by simp)
    exact ⟨bin_of g (z := .int k (k.wrap (a.tdiv b))) (by simp [binOp, Op.intDiv, hb]) (by simp [Rep]), rfl, rfl⟩
  | rem =>
    have hb : b ≠ 0 := hc (⟨b ≠ 0, inferInstance⟩) (by simp)
    exact ⟨bin_of g (z := .int k (a.tmod b)) (by simp [binOp, Op.intDiv, hb]) (by simp [Rep]), rfl, rfl⟩
  | and => exact ⟨bin_of g (z := .int k (bits .and k a b)) (by simp [binOp, Op.intBits, bits]) (by simp [Rep, Res.ret]), rfl, rfl⟩
  | or => exact ⟨bin_of g (z := .int k (bits .or k a b)) (by simp [binOp, Op.intBits, bits]) (by simp [Rep, Res.ret]), rfl, rfl⟩
  | xor => exact ⟨bin_of g (z := .int k (bits .xor k a b)) (by simp [binOp, Op.intBits, bits]) (by simp [Rep, Res.ret]), rfl, rfl⟩
  | andNot => exact ⟨bin_of g (z := .int k (bits .andNot k a b)) (by simp [binOp, Op.intBits, bits]) (by simp [Rep, Res.ret]), rfl, rfl⟩
  | add => exact ⟨bin_of g (z := .int k (k.wrap (a + b))) (by simp [binOp, Op.intArith]) (by simp [Rep, Res.ret]), rfl, rfl⟩
  | sub => exact ⟨bin_of g (z := .int k (k.wrap (a - b))) (by simp [binOp, Op.intArith]) (by simp [Rep, Res.ret]), rfl, rfl⟩
  | mul => exact ⟨bin_of g (z := .int k (k.wrap (a * b))) (by simp [binOp, Op.intArith]) (by simp [Rep, Res.ret]), rfl, rfl⟩
  | eql => exact ⟨bin_of g (z := .bool (a == b)) (by simp [binOp, Op.intCmp]) (by simp [Rep, Res.ret, cmpS]), rfl, rfl⟩
  | neq => exact ⟨bin_of g (z := .bool (a != b)) (by simp [binOp, Op.intCmp]) (by simp [Rep, Res.ret, cmpS]), rfl, rfl⟩
  | lss => exact ⟨bin_of g (z := .bool (decide (a < b))) (by simp [binOp, Op.intCmp]) (by simp [Rep, Res.ret, cmpS]), rfl, rfl⟩
  | leq => exact ⟨bin_of g (z := .bool (decide (a ≤ b))) (by simp [binOp, Op.intCmp]) (by simp [Rep, Res.ret, cmpS]), rfl, rfl⟩
  | gtr => exact ⟨bin_of g (z := .bool (decide (a > b))) (by simp [binOp, Op.intCmp]) (by simp [Rep, Res.ret, cmpS]), rfl, rfl⟩
  | geq => exact ⟨bin_of g (z := .bool (decide (a ≥ b))) (by simp [binOp, Op.intCmp]) (by simp [Rep, Res.ret, cmpS]), rfl, rfl⟩
theorem nilIf_rep {D : Nat → Prop} {w : World} {β : Nat → Option Loc} {X : SV} {u : Value} {b : Bool} (h1 : nilIf X = true) (h2 : isNilS X = some b) (h : Rep D w β X u) : (b = true ∧ u = .nilIface) ∨ (b = false ∧ ∃ t v, u = .iface t v) := by
  unfold nilIf at h1
  split at h1
  · simp only [isNilS, Option.some.injEq] at h2
    exact .inl ⟨h2.symm, by simpa [Rep] using h⟩
  · simp only [isNilS, Option.some.injEq] at h2
    simp only [Rep] at h
    obtain ⟨y, hy, _⟩ := h
    exact .inr ⟨h2.symm, _, _, hy⟩
  · cases h1
theorem equal_bool {t : TypeId} (h : isBoolT P t = true) (a b : Bool) (w : World) : (Op.equal t (.bool a) (.bool b)).run P w = .ok (a == b) w := by
  have hu : P.underlying t = some .bool := by
    unfold isBoolT at h
    split at h
    · rename_i e; exact under e (by simp)
    · cases h
  have key : ∀ d, (Op.equalIn (d + 1) t (.bool a) (.bool b)).run P w = .ok (a == b) w := fun d => by simp [Op.equalIn, run_underlying hu]
  exact key 9999
theorem ifc_of {t : TypeId} (h : isIfcT P t = true) : ∃ ms, P.underlying t = some (.interface ms) := by
  unfold isIfcT at h
  split at h
  · rename_i ms e; exact ⟨ms, under e (by simp)⟩
  · cases h
theorem equal_sl {t : TypeId} (h : isSliceT P t = true) (w : World) : (Op.equal t (.slice none 0 0) (.slice none 0 0)).run P w = .ok true w := by
  obtain ⟨e, hu⟩ : ∃ e, P.underlying t = some (.slice e) := by
    unfold isSliceT at h
    split at h
    · rename_i e e1; exact ⟨e, under e1 (by simp)⟩
    · cases h
  have key : ∀ d, (Op.equalIn (d + 1) t (.slice none 0 0) (.slice none 0 0)).run P w = .ok true w := fun d => by simp [Op.equalIn, run_underlying hu]
  exact key 9999
theorem equal_nil {t : TypeId} (h : isIfcT P t = true) (w : World) : (Op.equal t .nilIface .nilIface).run P w = .ok true w := by
  obtain ⟨ms, hu⟩ := ifc_of h
  have key : ∀ d, (Op.equalIn (d + 1) t .nilIface .nilIface).run P w = .ok true w := fun d => by simp [Op.equalIn, run_underlying hu]
  exact key 9999
theorem equal_held {t : TypeId} (h : isIfcT P t = true) (tt : TypeId) (vv : Value) (w : World) : (Op.equal t (.iface tt vv) .nilIface).run P w = .ok false w := by
  obtain ⟨ms, hu⟩ := ifc_of h
  have key : ∀ d, (Op.equalIn (d + 1) t (.iface tt vv) .nilIface).run P w = .ok false w := fun d => by simp [Op.equalIn, run_underlying hu]
  exact key 9999
section
variable {D : Nat → Prop} {w : World} {β : Nat → Option Loc}
theorem equal_scal {t : TypeId} {c d : SV} {u v : Value} {b : Bool} (n : Nat) (h : eq1 (tyU P t) c d = some b) (hc : Rep D w β c u) (hd : Rep D w β d v) : (Op.equalIn (n + 1) t u v).run P w = .ok b w ∧ tyAgg P t = false := by
  unfold eq1 at h
  split at h
  · rename_i T k a k' b' e
    have hu := under e (by simp)
    cases hk : ikEq k k'
    · rw [hk] at h; cases h
    · rw [hk] at h
      have := ikEq_eq hk
      subst this
      simp only [Rep] at hc hd
      simp only [cond_true, Option.some.injEq] at h
      subst hc hd h
      exact ⟨by simp [Op.equalIn, run_underlying hu], by unfold tyAgg; rw [e]⟩
  · rename_i T a b' e
    have hu := under e (by simp)
    simp only [Rep] at hc hd
    simp only [Option.some.injEq] at h
    subst hc hd h
    exact ⟨by simp [Op.equalIn, run_underlying hu], by unfold tyAgg; rw [e]⟩
  · rename_i T e
    have hu := under e (by simp)
    split at h
    · rename_i a b' e1 e2
      simp only [Option.some.injEq] at h
      have f1 := asB_rep e1 hc
      have f2 := asB_rep e2 hd
      subst f1 f2 h
      exact ⟨by simp [Op.equalIn, run_underlying hu], by unfold tyAgg; rw [e]⟩
    · cases h
  · cases h
theorem part_cell {t : TypeId} (hok : tyOk P t = true) (hA : tyAgg P t = false) {us : List Value} {off : Nat} {u : Value} (h : us[off]? = some u) : (part t us.toArray off).run P w = .ok u w := by
  simp [part, run_agg hok, hA, h]
theorem eqFs_ok {cs ds : List SV} {us vs : List Value} (n : Nat) (hc : Reps D w β cs us) (hd : Reps D w β ds vs) : ∀ {l : List Field} {b : Bool}, eqFs P cs ds l = some b →
    Sem.run P (forIn l ((none : Option Bool), ()) fun f __s => if f.name = "_" then pure (ForInStep.yield (none, ()))
            else do
              let x ← part f.type us.toArray f.offset
              let y ← part f.type vs.toArray f.offset
              let z ← Op.equalIn (n + 1) f.type x y
              if z = false then pure (ForInStep.done (some false, ())) else pure (ForInStep.yield (none, ()))) w = .ok (if b then (none, ()) else (some false, ())) w
  | [], b, h => by
    simp only [eqFs, Option.some.injEq] at h
    subst h
    simp
  | f :: l, b, h => by
    simp only [eqFs] at h
    cases hq : tyOk P f.type && !(f.name == "_")
    · rw [hq] at h; cases h
    · rw [hq] at h
      simp only [cond_true] at h
      simp only [Bool.and_eq_true, Bool.not_eq_true', beq_eq_false_iff_ne] at hq
      split at h
      · rename_i c d h1 h2
        split at h
        · rename_i b1 b2 e1 e2
          simp only [Option.some.injEq] at h
          obtain ⟨u, k1, k2⟩ := Reps.get cs f.offset c hc h1
          obtain ⟨v, k3, k4⟩ := Reps.get ds f.offset d hd h2
          obtain ⟨r1, r2⟩ := equal_scal (P := P) n e1 k2 k4
          have ih := eqFs_ok n hc hd e2
          rw [List.forIn_cons]
          simp only [hq.2, if_false, Sem.run_bind, part_cell hq.1 r2 k1, part_cell hq.1 r2 k3, Result.andThen_ok, r1]
          cases b1
          · subst h; simp
          · subst h; simpa using ih
        · cases h
      · cases h
theorem equal_ag {t : TypeId} {cs ds : List SV} {us vs : List Value} {b : Bool} (h : eqAg P t cs ds = some b) (hc : Reps D w β cs us) (hd : Reps D w β ds vs) :
    (Op.equal t (.agg us.toArray) (.agg vs.toArray)).run P w = .ok b w ∧ ∀ op x y, (eqGuard op t x y (.agg us.toArray) (.agg vs.toArray)).run P w = .ok () w := by
  unfold eqAg at h
  split at h
  · rename_i fs e
    have hu := under e (by simp)
    cases hq : !P.stoodInHeld t && !P.eqGuardType P.depth t
    · rw [hq] at h; cases h
    · rw [hq] at h
      simp only [cond_true] at h
      simp only [Bool.and_eq_true, Bool.not_eq_true'] at hq
      refine ⟨?_, fun op x y => ?_⟩
      · have key : ∀ n, (Op.equalIn (n + 1 + 1) t (.agg us.toArray) (.agg vs.toArray)).run P w = .ok b w := by
          intro n
          have key := eqFs_ok (P := P) (w := w) n hc hd h
          unfold Op.equalIn
          simp only [Sem.run_bind, run_underlying hu, Result.andThen_ok]
          simp [hq.1]
          rw [← Array.forIn_toList, key]
          cases b <;> simp
        exact key 9998
      · unfold eqGuard
        simp [hq.2]
  · cases h
end
theorem eqAv_loop {el : TypeId} {k k2 : IntKind} (hu : P.underlying el = some (.int k2)) (hok : tyOk P el = true) (hA : tyAgg P el = false) {w : World} (xs ys : List Int) (n : Nat) (m : Nat) (hx : m = xs.length) (hy : m = ys.length) : ∀ (c j : Nat), j + c = m →
    Sem.run P (forIn (List.range' j c 1) ((none : Option Bool), ()) fun i __s => do
        let x ← part el (xs.map (Value.int k)).toArray (i * 1)
        let y ← part el (ys.map (Value.int k)).toArray (i * 1)
        let z ← Op.equalIn (n + 1) el x y
        if z = false then pure (ForInStep.done (some false, ())) else pure (ForInStep.yield (none, ()))) w = .ok (if xs.drop j == ys.drop j then (none, ()) else (some false, ())) w
  | 0, j, h => by
    rw [List.drop_eq_nil_of_le (by omega), List.drop_eq_nil_of_le (by omega)]
    simp
  | c + 1, j, h => by
    have h1 : j < xs.length := by omega
    have h2 : j < ys.length := by omega
    have p1 : (xs.map (Value.int k))[j]? = some (.int k xs[j]) := by rw [List.getElem?_map, List.getElem?_eq_getElem h1]; rfl
    have p2 : (ys.map (Value.int k))[j]? = some (.int k ys[j]) := by rw [List.getElem?_map, List.getElem?_eq_getElem h2]; rfl
    have ih := eqAv_loop hu hok hA xs ys n m hx hy c (j + 1) (by omega) (w := w) (k := k)
    have hq : (Op.equalIn (n + 1) el (.int k xs[j]) (.int k ys[j])).run P w = .ok (xs[j] == ys[j]) w := by simp [Op.equalIn, run_underlying hu]
    have hd : (xs.drop j == ys.drop j) = ((xs[j] == ys[j]) && (xs.drop (j + 1) == ys.drop (j + 1))) := by
      rw [List.drop_eq_getElem_cons h1, List.drop_eq_getElem_cons h2, Bool.eq_iff_iff]
      simp only [beq_iff_eq, Bool.and_eq_true, List.cons.injEq]
    rw [List.range'_succ, List.forIn_cons, hd]
    simp only [Nat.mul_one] at ih ⊢
    simp only [Sem.run_bind, part_cell hok hA p1, part_cell hok hA p2, Result.andThen_ok, hq]
    cases hb : xs[j] == ys[j]
    · simp
    · simpa using ih
theorem eqAv_ok {t : TypeId} {d e : Dat} {n : Nat} {xs ys : List Int} {D : Nat → Prop} {w : World} {β : Nat → Option Loc} {u v : Value} (h : eqAv P t d e = some (n, xs, ys)) (h1 : n = xs.length) (h2 : n = ys.length) (hu : Rep D w β (.av d) u) (hv : Rep D w β (.av e) v) :
    (Op.equal t u v).run P w = .ok (xs == ys) w ∧ (∀ op x y, (eqGuard op t x y u v).run P w = .ok () w) ∧ (∃ us, u = .agg us) ∧ ∃ vs, v = .agg vs := by
  unfold eqAv at h
  split at h
  · rename_i n' el k xs' k' ys' e1
    have ht := under e1 (by simp)
    split at h
    · rename_i k2 e2
      have hel := under e2 (by simp)
      have hA : tyAgg P el = false := by unfold tyAgg; rw [e2]
      cases hq : ikEq k k' && tyOk P el && Nat.beq (tySize P el) 1 && !P.eqGuardType P.depth t
      · rw [hq] at h; cases h
      · rw [hq] at h
        simp only [cond_true, Option.some.injEq, Prod.mk.injEq] at h
        obtain ⟨rfl, rfl, rfl⟩ := h
        simp only [Bool.and_eq_true, Bool.not_eq_true'] at hq
        obtain ⟨⟨⟨hk, hok⟩, hsz⟩, hgd⟩ := hq
        have := ikEq_eq hk
        subst this
        simp only [Rep] at hu hv
        subst hu hv
        have hs1 : tySize P el = 1 := Nat.eq_of_beq_eq_true hsz
        refine ⟨?_, fun op x y => ?_, ⟨_, rfl⟩, ⟨_, rfl⟩⟩
        · have key : ∀ m, (Op.equalIn (m + 1 + 1) t (.agg (xs'.map (Value.int k)).toArray) (.agg (ys'.map (Value.int k)).toArray)).run P w = .ok (xs' == ys') w := by
            intro m
            have key := eqAv_loop (P := P) (k := k) hel hok hA (w := w) xs' ys' m n' h1 h2 n' 0 (by omega)
            unfold Op.equalIn
            simp only [Sem.run_bind, run_underlying ht, Result.andThen_ok, run_size hel w, hs1]
            simp only [Std.Legacy.Range.forIn_eq_forIn_range', Std.Legacy.Range.size, Nat.sub_zero, Nat.add_one_sub_one, Nat.div_one]
            simp only [List.drop_zero] at key
            simp at key ⊢
            rw [key]
            cases hxy : decide (xs' = ys') <;> simp_all
          exact key 9998
        · unfold eqGuard
          simp [hgd]
    · cases h
  · cases h
theorem intsOf_reps {D : Nat → Prop} {w : World} {β : Nat → Option Loc} {k : IntKind} : ∀ (cs : List SV) {xs : List Int} {us : List Value}, intsOf k cs = some xs → Reps D w β cs us → us = xs.map (Value.int k)
  | [], xs, us, h, hr => by
    simp only [intsOf, Option.some.injEq] at h
    simp only [Reps] at hr
    subst h hr
    rfl
  | c :: cs, xs, us, h, hr => by
    simp only [intsOf] at h
    split at h
    · rename_i k' x r e1 e2
      cases hk : ikEq k k'
      · rw [hk] at h; cases h
      · rw [hk] at h
        simp only [cond_true, Option.some.injEq] at h
        have := ikEq_eq hk
        subst this h
        simp only [Reps] at hr
        obtain ⟨u, us, rfl, h1, h2⟩ := hr
        rw [intsOf_reps cs e2 h2]
        unfold SV.asI at e1
        split at e1
        · cases e1
          simp only [Rep] at h1
          subst h1
          rfl
        · cases e1
    · cases h
theorem agDat_rep {D : Nat → Prop} {w : World} {β : Nat → Option Loc} {d e : Dat} {cs : List SV} {u : Value} (h : agDat d cs = some e) (hr : Rep D w β (.ag cs) u) : Rep D w β (.av e) u := by
  unfold agDat at h
  split at h
  · rename_i k xs
    rw [Option.map_eq_some_iff] at h
    obtain ⟨ys, h1, rfl⟩ := h
    simp only [Rep] at hr ⊢
    obtain ⟨us, rfl, hus⟩ := hr
    rw [intsOf_reps cs h1 hus]
  · cases h
theorem ok_binOp (op : BinOp) (t ty : TypeId) (x y : Operand) : StepOk P Γ ⟨dst, .binOp op t x y ty, type, pos, after, guard⟩ := by
  intro E D β S a w n r hr hc hd hn h K Q hK
  have ex := h.ev x
  have ey := h.ev y
  simp only [step] at hr
  suffices hs : BinOk P op t x y (a.eval x) (a.eval y) w (Rep D w β r.val) ∧ r.ups = [] ∧ r.news = [] by
    obtain ⟨⟨z, hz, hR⟩, hu, hw⟩ := hs
    refine val_ok h (u := z) ?_ hR hu hw hd hK
    simp only [execOp, Sem.run_bind, hz, Result.andThen_ok, Sem.run_pure]
  generalize S.ev x = X at hr ex
  generalize S.ev y = Y at hr ey
  generalize a.eval x = u at ex ⊢
  generalize a.eval y = v at ey ⊢
  unfold binS at hr
  split at hr
  · -- shl
    simp only [Rep] at ex ey
    subst ex ey hr
    rename_i k p k' q
    have hq : 0 ≤ q := hc (⟨0 ≤ q, inferInstance⟩) (by simp)
    exact ⟨bin_of (eqGuard_plain _ _ _ _ _ _ _ (by simp) (.inr (by simp))) (z := .int k (k.wrap (p * 2 ^ (min q.toNat k.bits)))) (by simp [binOp, Op.shift, show ¬ q < 0 by omega]) (by simp [Rep]), rfl, rfl⟩
  · simp only [Rep] at ex ey
    subst ex ey hr
    rename_i k p k' q
    have hq : 0 ≤ q := hc (⟨0 ≤ q, inferInstance⟩) (by simp)
    exact ⟨bin_of (eqGuard_plain _ _ _ _ _ _ _ (by simp) (.inr (by simp))) (z := .int k (p.fdiv (2 ^ (min q.toNat k.bits)))) (by simp [binOp, Op.shift, show ¬ q < 0 by omega]) (by simp [Rep]), rfl, rfl⟩
  · rename_i k p k' q h1 h2
    simp only [Rep] at ex ey
    cases hk : ikEq k k'
    · rw [hk] at hr; exact bad hr hc
    · rw [hk] at hr
      have hkk := ikEq_eq hk
      subst hkk ex ey
      exact bin_int hr hc (fun e => h1 e) (fun e => h2 e)
  · rename_i p q
    simp only [Rep] at ex ey
    subst ex ey hr
    have hs : p.size + q.size ≤ 9223372036854775807 := hc (⟨p.size + q.size ≤ 9223372036854775807, inferInstance⟩) (by simp)
    exact ⟨bin_of (eqGuard_plain _ _ _ _ _ _ _ (by simp) (.inr (by simp))) (z := .string (p ++ q)) (by simp only [binOp]; exact concat_ok hs w) (by simp [Rep]), rfl, rfl⟩
  · rename_i p q
    simp only [Rep] at ex ey
    subst ex ey hr
    exact ⟨bin_of (eqGuard_plain _ _ _ _ _ _ _ (by simp) (.inr (by simp))) (z := .bool (p.toList == q.toList)) (by simp [binOp, Op.stringOp]) (by simp [Rep, Res.ret]), rfl, rfl⟩
  · rename_i p q
    simp only [Rep] at ex ey
    subst ex ey hr
    exact ⟨bin_of (eqGuard_plain _ _ _ _ _ _ _ (by simp) (.inr (by simp))) (z := .bool (!(p.toList == q.toList))) (by simp [binOp, Op.stringOp]) (by simp [Rep, Res.ret]), rfl, rfl⟩
  · -- struct eql
    split at hr
    · rename_i cs ds b hb
      simp only [Rep] at ex ey
      obtain ⟨us, hus, h1⟩ := ex
      obtain ⟨vs, hvs, h2⟩ := ey
      obtain ⟨r1, r2⟩ := equal_ag hb h1 h2
      subst hus hvs hr
      exact ⟨bin_of (r2 _ _ _) (z := .bool b) (by
        show (do pure (.bool (← Op.equal t _ _)) : Sem Value).run P w = _
        simp [r1]) (by simp [Rep, Res.ret]), rfl, rfl⟩
    · exact bad hr hc
  · -- struct neq
    split at hr
    · rename_i cs ds b hb
      simp only [Rep] at ex ey
      obtain ⟨us, hus, h1⟩ := ex
      obtain ⟨vs, hvs, h2⟩ := ey
      obtain ⟨r1, r2⟩ := equal_ag hb h1 h2
      subst hus hvs hr
      exact ⟨bin_of (r2 _ _ _) (z := .bool (!b)) (by
        show (do pure (.bool (!(← Op.equal t _ _))) : Sem Value).run P w = _
        simp [r1]) (by simp [Rep, Res.ret]), rfl, rfl⟩
    · exact bad hr hc
  · -- arrays eql
    split at hr
    · rename_i d e n xs ys hb
      subst hr
      have q1 : n = xs.length := hc (⟨n = xs.length, inferInstance⟩) (by simp)
      have q2 : n = ys.length := hc (⟨n = ys.length, inferInstance⟩) (by simp)
      obtain ⟨r1, r2, ⟨us, hus⟩, ⟨vs, hvs⟩⟩ := eqAv_ok hb q1 q2 ex ey
      exact ⟨bin_of (r2 _ _ _) (z := .bool (xs == ys)) (by
        subst hus hvs
        show (do pure (.bool (← Op.equal t _ _)) : Sem Value).run P w = _
        simp [r1]) (by simp [Rep]), rfl, rfl⟩
    · exact bad hr hc
  · -- arrays neq
    split at hr
    · rename_i d e n xs ys hb
      subst hr
      have q1 : n = xs.length := hc (⟨n = xs.length, inferInstance⟩) (by simp)
      have q2 : n = ys.length := hc (⟨n = ys.length, inferInstance⟩) (by simp)
      obtain ⟨r1, r2, ⟨us, hus⟩, ⟨vs, hvs⟩⟩ := eqAv_ok hb q1 q2 ex ey
      exact ⟨bin_of (r2 _ _ _) (z := .bool (!(xs == ys))) (by
        subst hus hvs
        show (do pure (.bool (!(← Op.equal t _ _))) : Sem Value).run P w = _
        simp [r1]) (by simp [Rep]), rfl, rfl⟩
    · exact bad hr hc
  · -- an array and cells
    split at hr
    · rename_i d cs n xs ys hb
      subst hr
      have q1 : n = xs.length := hc (⟨n = xs.length, inferInstance⟩) (by simp)
      have q2 : n = ys.length := hc (⟨n = ys.length, inferInstance⟩) (by simp)
      rw [Option.bind_eq_some_iff] at hb
      obtain ⟨e, he, hb⟩ := hb
      obtain ⟨r1, r2, ⟨us, hus⟩, ⟨vs, hvs⟩⟩ := eqAv_ok hb q1 q2 ex (agDat_rep he ey)
      exact ⟨bin_of (r2 _ _ _) (z := .bool (xs == ys)) (by
        subst hus hvs
        show (do pure (.bool (← Op.equal t _ _)) : Sem Value).run P w = _
        simp [r1]) (by simp [Rep]), rfl, rfl⟩
    · exact bad hr hc
  · -- eql
    split at hr
    · rename_i p q e1 e2
      have f1 := asB_rep e1 ex
      have f2 := asB_rep e2 ey
      cases hb : isBoolT P t
      · rw [hb] at hr; exact bad hr hc
      · rw [hb] at hr
        subst f1 f2 hr
        exact ⟨bin_of (eqGuard_plain _ _ _ _ _ _ _ (by simp) (.inr (by simp))) (z := .bool (p == q)) (by
          show (do pure (.bool (← Op.equal t (.bool p) (.bool q))) : Sem Value).run P w = _
          simp [equal_bool hb]) (by simp [Rep, Res.ret]), rfl, rfl⟩
    · split at hr
      · rename_i e1 e2
        cases hb : isC y && nilIf X && isIfcT P t
        · rw [hb] at hr; exact bad hr hc
        · rw [hb] at hr
          simp only [Bool.and_eq_true] at hb
          simp only [Rep] at ey
          subst ey hr
          rcases nilIf_rep hb.1.2 ‹isNilS X = some _› ex with ⟨rfl, rfl⟩ | ⟨rfl, tt, vv, rfl⟩
          · exact ⟨bin_of (eqGuard_plain _ _ _ _ _ _ _ (by simp) (.inl hb.1.1)) (z := .bool true) (by
              show (do pure (.bool (← Op.equal t .nilIface .nilIface)) : Sem Value).run P w = _
              simp [equal_nil hb.2]) (by simp [Rep, Res.ret]), rfl, rfl⟩
          · exact ⟨bin_of (eqGuard_plain _ _ _ _ _ _ _ (by simp) (.inl hb.1.1)) (z := .bool false) (by
              show (do pure (.bool (← Op.equal t (.iface tt vv) .nilIface)) : Sem Value).run P w = _
              simp [equal_held hb.2]) (by simp [Rep, Res.ret]), rfl, rfl⟩
      · cases hb : isC y && nlS X && isSliceT P t
        · rw [hb] at hr; exact bad hr hc
        · rw [hb] at hr
          simp only [Bool.and_eq_true] at hb
          simp only [Rep] at ey
          subst ey hr
          have hX : X = .v (.slice none 0 0) := by
            have := hb.1.2
            unfold nlS at this
            split at this
            · rfl
            · cases this
          subst hX
          simp only [Rep] at ex
          subst ex
          exact ⟨bin_of (eqGuard_plain _ _ _ _ _ _ _ (by simp) (.inl hb.1.1)) (z := .bool true) (by
            show (do pure (.bool (← Op.equal t (.slice none 0 0) (.slice none 0 0))) : Sem Value).run P w = _
            simp [equal_sl hb.2]) (by simp [Rep, Res.ret]), rfl, rfl⟩
      · exact bad hr hc
  · -- neq
    split at hr
    · rename_i p q e1 e2
      have f1 := asB_rep e1 ex
      have f2 := asB_rep e2 ey
      cases hb : isBoolT P t
      · rw [hb] at hr; exact bad hr hc
      · rw [hb] at hr
        subst f1 f2 hr
        exact ⟨bin_of (eqGuard_plain _ _ _ _ _ _ _ (by simp) (.inr (by simp))) (z := .bool (!(p == q))) (by
          show (do pure (.bool (!(← Op.equal t (.bool p) (.bool q)))) : Sem Value).run P w = _
          simp [equal_bool hb]) (by simp [Rep, Res.ret]), rfl, rfl⟩
    · split at hr
      · rename_i e1 e2
        cases hb : isC y && nilIf X && isIfcT P t
        · rw [hb] at hr; exact bad hr hc
        · rw [hb] at hr
          simp only [Bool.and_eq_true] at hb
          simp only [Rep] at ey
          subst ey hr
          rcases nilIf_rep hb.1.2 ‹isNilS X = some _› ex with ⟨rfl, rfl⟩ | ⟨rfl, tt, vv, rfl⟩
          · exact ⟨bin_of (eqGuard_plain _ _ _ _ _ _ _ (by simp) (.inl hb.1.1)) (z := .bool false) (by
              show (do pure (.bool (!(← Op.equal t .nilIface .nilIface))) : Sem Value).run P w = _
              simp [equal_nil hb.2]) (by simp [Rep, Res.ret]), rfl, rfl⟩
          · exact ⟨bin_of (eqGuard_plain _ _ _ _ _ _ _ (by simp) (.inl hb.1.1)) (z := .bool true) (by
              show (do pure (.bool (!(← Op.equal t (.iface tt vv) .nilIface))) : Sem Value).run P w = _
              simp [equal_held hb.2]) (by simp [Rep, Res.ret]), rfl, rfl⟩
      · exact bad hr hc
  · exact bad hr hc
end
end Go.Proofs.YtbfdchahapajaaaGreatDoor
namespace Go.Proofs.YtbfdchahapajaaaGreatDoor
open Go.RowKit
set_option linter.unusedVariables false
set_option linter.unusedSimpArgs false
section
variable {P : Program} {Γ : FuncId → Option Ctr}
variable {dst : Option Tmp} {type : TypeId} {pos : String} {after : Array Edge} {guard : Option (Nat × Bool)}
variable {D : Nat → Prop} {w : World} {β : Nat → Option Loc}
theorem ok_get {d : Dat} {i j : Nat} {x : Value} (h : d.ok D w i j x) : Rep D w β (d.get i j) x := by
  cases d with
  | mix sh xs =>
    simp only [Dat.ok, mixOk, Dat.get, mixGet] at h ⊢
    cases hs : sh[j]? with
    | none => rw [hs] at h; exact h.elim
    | some c => rw [hs] at h; cases c <;> (simp only [Rep]; exact h)
  | _ => simp only [Dat.ok, Dat.get, Rep] at h ⊢ <;> first | exact h | exact h
theorem Reps_of_get : ∀ (cs : List SV) (us : List Value), us.length = cs.length → (∀ (j : Nat) c, cs[j]? = some c → ∃ u, us[j]? = some u ∧ Rep D w β c u) → Reps D w β cs us
  | [], us, hl, _ => by simp only [Reps]; exact List.eq_nil_of_length_eq_zero hl
  | c :: cs, [], hl, _ => by simp at hl
  | c :: cs, u :: us, hl, h => by
    simp only [Reps]
    obtain ⟨u', h1, h2⟩ := h 0 c rfl
    simp only [List.getElem?_cons_zero, Option.some.injEq] at h1
    subst h1
    exact ⟨u, us, rfl, h2, Reps_of_get cs us (by simpa using hl) (fun j c' hj => by simpa using h (j + 1) c' (by simpa using hj))⟩
theorem rec_ok {d : Dat} {i : Nat} {us : List Value} {o : Nat} (h : ∀ j, j < d.wd → ∃ x, us[o + j]? = some x ∧ d.ok D w i j x) : Reps D w β (d.rw_ i) ((us.drop o).take d.wd) := by
  have hl : ((us.drop o).take d.wd).length = d.wd := by
    simp only [List.length_take, List.length_drop]
    rcases Nat.eq_zero_or_pos d.wd with h0 | h0
    · omega
    · obtain ⟨x, hx, _⟩ := h (d.wd - 1) (by omega)
      have := (List.getElem?_eq_some_iff.1 hx).1
      omega
  refine Reps_of_get _ _ (by rw [hl]; simp [Dat.rw_]) (fun j c hj => ?_)
  have hjw : j < d.wd := by have := (List.getElem?_eq_some_iff.1 hj).1; simpa [Dat.rw_] using this
  obtain ⟨x, hx, hok⟩ := h j hjw
  have hc : c = d.get i j := by
    have := (List.getElem?_eq_some_iff.1 hj).2
    simpa [Dat.rw_] using this.symm
  refine ⟨x, ?_, hc ▸ ok_get hok⟩
  rw [List.getElem?_take, if_pos hjw, List.getElem?_drop]
  exact hx
theorem cells_at {g : Nat} {us : List Value} {ty : TypeId} {fr : Nat × Nat} (hg : w.heap[g]? = some (.cells us.toArray ty fr)) (o : Nat) : w.cell? ⟨g, o, none⟩ = us[o]? := by
  rw [cell_of_row w g o us.toArray ty fr hg]
  simp
theorem run_load_agg {t : TypeId} (h : tyOk P t = true) (hA : tyAgg P t = true) {g o : Nat} {us : List Value} {ty : TypeId} {fr : Nat × Nat} (hg : w.heap[g]? = some (.cells us.toArray ty fr)) (hl : o + tySize P t ≤ us.length) :
    (Instr.loadAt t (.pointer (some ⟨g, o, none⟩))).run P w = .ok (.agg ((us.drop o).take (tySize P t)).toArray) w := by
  have := run_loadVar_agg h hA (w := w) (ad := ⟨g, o, none⟩) ((us.drop o).take (tySize P t)) (by simp; omega) (fun j v hj => by
    rw [add_at, cells_at hg]
    rw [List.getElem?_take] at hj
    split at hj
    · rw [List.getElem?_drop] at hj; exact hj
    · cases hj)
  simp [Instr.loadAt, Instr.sureAddr, this]
theorem run_load_one {t : TypeId} (h : tyOk P t = true) (hA : tyAgg P t = false) {g o : Nat} {v : Value} (hc : w.cell? ⟨g, o, none⟩ = some v) :
    (Instr.loadAt t (.pointer (some ⟨g, o, none⟩))).run P w = .ok v w := by
  simp [Instr.loadAt, Instr.sureAddr, run_loadVar_one h hA hc]
theorem loadS_ok {t : TypeId} (hok : tyOk P t = true) {L : Loc} {b : SBlk} {i j : Nat} (hb : BlkRep D w β L b) (hc : ∀ c ∈ (loadS P t b i j).vc, c.p) :
    ∃ u, (Instr.loadAt t (.pointer (some ⟨L.g, i * L.wd + j, none⟩))).run P w = .ok u w ∧ Rep D w β (loadS P t b i j).val u := by
  cases b with
  | cells ty cs =>
    obtain ⟨h1, us, h2, h3, h4⟩ := hb
    simp only [loadS] at hc ⊢
    cases hi : Nat.beq i 0
    · rw [hi] at hc; exact (hc (⟨False, inferInstance⟩) (by simp [Res.fail])).elim
    · rw [hi] at hc
      have h0 : i = 0 := Nat.eq_of_beq_eq_true hi
      subst h0
      simp only [cond_true] at hc ⊢
      cases hA : tyAgg P t
      · rw [hA] at hc
        simp only [cond_false] at hc ⊢
        cases hcs : cs[j]? with
        | none => rw [hcs] at hc; exact (hc (⟨False, inferInstance⟩) (by simp [Res.fail])).elim
        | some c =>
          obtain ⟨u, hu, hr⟩ := Reps.get cs j c h3 hcs
          exact ⟨u, run_load_one hok hA (by rw [cells_at h2]; simpa using hu), hr⟩
      · rw [hA] at hc
        simp only [cond_true] at hc ⊢
        cases hl : Nat.ble (j + tySize P t) cs.length
        · rw [hl] at hc; exact (hc (⟨False, inferInstance⟩) (by simp [Res.fail])).elim
        · have hle : j + tySize P t ≤ us.length := by rw [Reps.len cs h3]; exact Nat.le_of_ble_eq_true hl
          refine ⟨_, run_load_agg hok hA h2 (by simpa using hle), ?_⟩
          simp only [cond_true, Res.ret, Rep, Nat.zero_mul, Nat.zero_add]
          exact ⟨_, rfl, Reps.take _ _ (Reps.drop cs j h3)⟩
  | arr ty d =>
    obtain ⟨h1, hw, us, h2, h3, h4, _⟩ := hb
    simp only [loadS] at hc ⊢
    cases hA : tyAgg P t
    · rw [hA] at hc
      simp only [cond_false] at hc ⊢
      cases hj : Nat.blt j d.wd
      · rw [hj] at hc; exact (hc (⟨False, inferInstance⟩) (by simp [Res.fail])).elim
      · rw [hj] at hc
        simp only [cond_true] at hc ⊢
        have hi : i < d.len := hc (⟨i < d.len, inferInstance⟩) (by simp)
        obtain ⟨x, hx, hok'⟩ := h4 i j hi (Nat.le_of_ble_eq_true hj)
        exact ⟨x, run_load_one hok hA (by rw [cells_at h2, hw]; exact hx), ok_get hok'⟩
    · rw [hA] at hc
      simp only [cond_true] at hc ⊢
      split at hc
      · rename_i fs e
        cases hj : Nat.beq j 0 && Nat.beq (tySize P t) d.wd
        · rw [hj] at hc; exact (hc (⟨False, inferInstance⟩) (by simp [Res.fail])).elim
        · rw [hj] at hc
          simp only [cond_true] at hc ⊢
          simp only [Bool.and_eq_true] at hj
          have j0 : j = 0 := Nat.eq_of_beq_eq_true hj.1
          have sz : tySize P t = d.wd := Nat.eq_of_beq_eq_true hj.2
          subst j0
          have hi : i < d.len := hc (⟨i < d.len, inferInstance⟩) (by simp)
          have hle : i * d.wd + d.wd ≤ us.length := by
            rw [h3]
            calc i * d.wd + d.wd = (i + 1) * d.wd := by rw [Nat.add_mul]; omega
              _ ≤ d.len * d.wd := Nat.mul_le_mul_right _ hi
          refine ⟨_, run_load_agg hok hA h2 (by rw [hw, sz]; simpa using hle), ?_⟩
          simp only [Rep]
          refine ⟨_, rfl, ?_⟩
          rw [sz, hw]
          exact rec_ok (fun j hj => by simpa using h4 i j hi hj)
      · rename_i len e' e
        cases hj : Nat.beq i 0 && Nat.beq j 0 && isInts d
        · rw [hj] at hc; exact (hc (⟨False, inferInstance⟩) (by simp [Res.fail])).elim
        · rw [hj] at hc
          simp only [cond_true] at hc ⊢
          simp only [Bool.and_eq_true] at hj
          have i0 : i = 0 := Nat.eq_of_beq_eq_true hj.1.1
          have j0 : j = 0 := Nat.eq_of_beq_eq_true hj.1.2
          subst i0 j0
          have sz : tySize P t = d.len := hc (⟨tySize P t = d.len, inferInstance⟩) (by simp)
          cases d with
          | ints k xs =>
            simp only [Dat.len, Dat.wd, Nat.mul_one] at *
            refine ⟨_, run_load_agg hok hA h2 (by simp; omega), ?_⟩
            simp only [Rep, Nat.zero_mul, Nat.zero_add, List.drop_zero]
            congr 2
            apply List.ext_getElem?
            intro m
            by_cases hm : m < xs.length
            · obtain ⟨x, hx, hxx⟩ := h4 m 0 hm (by omega)
              simp only [Nat.add_zero, Dat.ok] at hx hxx
              rw [List.getElem?_take, if_pos (by omega), hx, hxx]
              simp [List.getElem?_map, List.getD, List.getElem?_eq_getElem hm]
            · rw [List.getElem?_eq_none (by simp; omega), List.getElem?_eq_none (by simp; omega)]
          | _ => simp [isInts] at hj
      · exact (hc (⟨False, inferInstance⟩) (by simp [Res.fail])).elim
  | row ty d =>
    obtain ⟨hw, hn, hb⟩ := hb
    simp only [loadS] at hc ⊢
    have pos : i < d.len → L.nil = false ∧ ∃ (us : List Value) (ty' : TypeId) (fr : Nat × Nat), w.heap[L.g]? = some (.cells us.toArray ty' fr) ∧ L.cap * d.wd ≤ us.length ∧ d.len ≤ L.cap ∧
        ∀ i j, i < d.len → j < d.wd → ∃ x, us[i * d.wd + j]? = some x ∧ d.ok D w i j x := by
      intro hi
      rcases hb with ⟨_, h0⟩ | ⟨h1, h2, _, us, ty', fr, h3, _, h4, h5⟩
      · omega
      · exact ⟨h1, us, ty', fr, h3, h4, h2, h5⟩
    cases hA : tyAgg P t
    · rw [hA] at hc
      simp only [cond_false] at hc ⊢
      cases hj : Nat.blt j d.wd
      · rw [hj] at hc; exact (hc (⟨False, inferInstance⟩) (by simp [Res.fail])).elim
      · rw [hj] at hc
        simp only [cond_true] at hc ⊢
        have hi : i < d.len := hc (⟨i < d.len, inferInstance⟩) (by simp)
        obtain ⟨h1, us, ty', fr, h2, h3, _, h4⟩ := pos hi
        obtain ⟨x, hx, hok'⟩ := h4 i j hi (Nat.le_of_ble_eq_true hj)
        exact ⟨x, run_load_one hok hA (by rw [cells_at h2, hw]; exact hx), ok_get hok'⟩
    · rw [hA] at hc
      simp only [cond_true] at hc ⊢
      split at hc
      · rename_i fs e
        cases hj : Nat.beq j 0 && Nat.beq (tySize P t) d.wd
        · rw [hj] at hc; exact (hc (⟨False, inferInstance⟩) (by simp [Res.fail])).elim
        · rw [hj] at hc
          simp only [cond_true] at hc ⊢
          simp only [Bool.and_eq_true] at hj
          have j0 : j = 0 := Nat.eq_of_beq_eq_true hj.1
          have sz : tySize P t = d.wd := Nat.eq_of_beq_eq_true hj.2
          subst j0
          have hi : i < d.len := hc (⟨i < d.len, inferInstance⟩) (by simp)
          obtain ⟨h1, us, ty', fr, h2, h3, hcap, h4⟩ := pos hi
          have hle : i * d.wd + d.wd ≤ us.length := by
            refine Nat.le_trans ?_ h3
            calc i * d.wd + d.wd = (i + 1) * d.wd := by rw [Nat.add_mul]; omega
              _ ≤ d.len * d.wd := Nat.mul_le_mul_right _ hi
              _ ≤ L.cap * d.wd := Nat.mul_le_mul_right _ hcap
          refine ⟨_, run_load_agg hok hA h2 (by rw [hw, sz]; simpa using hle), ?_⟩
          simp only [Rep]
          refine ⟨_, rfl, ?_⟩
          rw [sz, hw]
          exact rec_ok (fun j hj => by simpa using h4 i j hi hj)
      · exact (hc (⟨False, inferInstance⟩) (by simp [Res.fail])).elim
  | rc ty wd n cs =>
    obtain ⟨hw, hn, xs, hxl, hR, hb⟩ := hb
    simp only [loadS] at hc ⊢
    cases hin : Nat.blt i n && Nat.blt j wd
    · rw [hin] at hc; exact (hc (⟨False, inferInstance⟩) (by simp [Res.fail])).elim
    · rw [hin] at hc
      simp only [cond_true, Bool.and_eq_true] at hc hin ⊢
      have hi : i < n := Nat.le_of_ble_eq_true hin.1
      have hj : j < wd := Nat.le_of_ble_eq_true hin.2
      rcases hb with ⟨_, h0⟩ | ⟨h1, h2, _, us, ty', fr, h3, _, h4, h5⟩
      · omega
      have hle : i * wd + wd ≤ n * wd := by
        calc i * wd + wd = (i + 1) * wd := by rw [Nat.add_mul]; omega
          _ ≤ n * wd := Nat.mul_le_mul_right _ hi
      have hle2 : n * wd ≤ us.length := Nat.le_trans (Nat.mul_le_mul_right _ h2) h4
      cases hA : tyAgg P t
      · rw [hA] at hc
        simp only [cond_false] at hc ⊢
        cases hcs : cs[i * wd + j]? with
        | none => rw [hcs] at hc; exact (hc (⟨False, inferInstance⟩) (by simp [Res.fail])).elim
        | some c =>
          obtain ⟨u, hu, hr⟩ := Reps.get cs _ c hR hcs
          refine ⟨u, run_load_one hok hA (by
            rw [cells_at h3, hw]
            rw [← h5, List.getElem?_take, if_pos (by omega)] at hu
            exact hu), hr⟩
      · rw [hA] at hc
        simp only [cond_true] at hc ⊢
        cases hl : Nat.ble (j + tySize P t) wd
        · rw [hl] at hc; exact (hc (⟨False, inferInstance⟩) (by simp [Res.fail])).elim
        · have hjs := Nat.le_of_ble_eq_true hl
          refine ⟨_, run_load_agg hok hA h3 (by rw [hw]; omega), ?_⟩
          simp only [cond_true, Res.ret, Rep, hw]
          refine ⟨_, rfl, ?_⟩
          have e : (us.drop (i * wd + j)).take (tySize P t) = (xs.drop (i * wd + j)).take (tySize P t) := by
            rw [← h5, List.drop_take, List.take_take, Nat.min_eq_left (by omega)]
          rw [e]
          exact Reps.take _ _ (Reps.drop cs _ hR)
  | mp kk vk es =>
    simp only [loadS] at hc
    exact (hc (⟨False, inferInstance⟩) (by simp [Res.fail])).elim
theorem ok_load (t : TypeId) (x : Operand) : StepOk P Γ ⟨dst, .load t x, type, pos, after, guard⟩ := by
  intro E D β S a w n r hr hc hd hn h K Q hK
  have ex := h.ev x
  simp only [step] at hr
  cases hok : tyOk P t
  · rw [hok] at hr; exact bad hr hc
  · rw [hok] at hr
    simp only [cond_true] at hr
    split at hr
    · rename_i l i j e
      rw [e] at ex
      simp only [Rep] at ex
      obtain ⟨L, hL, hnil, hu⟩ := ex
      split at hr
      · rename_i b hb
        obtain ⟨L', hL', hB⟩ := h.hp l b hb
        rw [hL] at hL'
        cases hL'
        subst hr
        obtain ⟨u, hrun, hR⟩ := loadS_ok (P := P) hok hB (t := t) (i := i) (j := j) hc
        exact val_ok (r := ⟨(loadS P t b i j).vc, (loadS P t b i j).val, [l], [], []⟩) h (u := u) (by simp [execOp, hu, hrun]) hR rfl rfl hd hK
      · exact bad hr hc
    · rename_i d i j e
      rw [e] at ex
      simp only [Rep] at ex
      obtain ⟨g, off, hu, hD, hx⟩ := ex
      cases hA : tyAgg P t
      · rw [hA] at hr
        simp only [cond_false] at hr
        cases hj : Nat.blt j d.wd
        · rw [hj] at hr; exact bad hr hc
        · rw [hj] at hr
          simp only [cond_true] at hr
          subst hr
          obtain ⟨v, hv, hv'⟩ := hx j (Nat.le_of_ble_eq_true hj)
          exact val_ok h (u := v) (by simp [execOp, hu, run_load_one hok hA hv]) (ok_get hv') rfl rfl hd hK
      · rw [hA] at hr
        simp only [cond_true] at hr
        cases hj : Nat.beq j 0 && Nat.beq (tySize P t) d.wd
        · rw [hj] at hr; exact bad hr hc
        · rw [hj] at hr
          simp only [cond_true] at hr
          simp only [Bool.and_eq_true] at hj
          have j0 : j = 0 := Nat.eq_of_beq_eq_true hj.1
          have sz : tySize P t = d.wd := Nat.eq_of_beq_eq_true hj.2
          subst j0 hr
          have hcell : ∃ us : List Value, us.length = d.wd ∧ Reps D w β (d.rw_ i) us ∧ ∀ j v, us[j]? = some v → w.cell? ((⟨g, off + (i * d.wd + 0), none⟩ : Addr).add j) = some v := by
            refine ⟨(List.range d.wd).map fun j => (w.cell? ⟨g, off + (i * d.wd + j), none⟩).getD undef, by simp, ?_, ?_⟩
            · refine Reps_of_get _ _ (by simp [Dat.rw_]) (fun j c hj => ?_)
              have hjw : j < d.wd := by have := (List.getElem?_eq_some_iff.1 hj).1; simpa [Dat.rw_] using this
              obtain ⟨v, hv, hv'⟩ := hx j hjw
              have hc' : c = d.get i j := by
                have := (List.getElem?_eq_some_iff.1 hj).2
                simpa [Dat.rw_] using this.symm
              exact ⟨v, by simp [hjw, hv], hc' ▸ ok_get hv'⟩
            · intro j v hj
              have hjw : j < d.wd := by have := (List.getElem?_eq_some_iff.1 hj).1; simpa using this
              obtain ⟨v', hv, _⟩ := hx j hjw
              rw [add_at, show off + (i * d.wd + 0) + j = off + (i * d.wd + j) by omega, hv]
              simpa [hjw, hv] using hj
          obtain ⟨us, hl, hR, hcell⟩ := hcell
          have hrun := run_loadVar_agg hok hA us (by rw [hl, sz]) hcell
          have hrun' : (loadVar t ⟨g, off + i * d.wd, none⟩).run P w = .ok (.agg us.toArray) w := by simpa using hrun
          exact val_ok h (u := .agg us.toArray) (by simp [execOp, hu, Instr.loadAt, Instr.sureAddr, hrun']) (by simp only [Res.ret, Rep]; exact ⟨us, rfl, hR⟩) rfl rfl hd hK
    · exact bad hr hc
end
end Go.Proofs.YtbfdchahapajaaaGreatDoor
namespace Go.Proofs.YtbfdchahapajaaaGreatDoor
open Go.RowKit
set_option linter.unusedVariables false
set_option linter.unusedSimpArgs false
section
variable {P : Program} {Γ : FuncId → Option Ctr}
variable {dst : Option Tmp} {type : TypeId} {pos : String} {after : Array Edge} {guard : Option (Nat × Bool)}
variable {D : Nat → Prop} {w : World} {β : Nat → Option Loc}
theorem intsOf_rep {k : IntKind} : ∀ (cs : List SV) (xs : List Int) (us : List Value), intsOf k cs = some xs → Reps D w β cs us → us = xs.map (Value.int k)
  | [], xs, us, h, hr => by
    simp only [intsOf, Option.some.injEq] at h
    simp only [Reps] at hr
    subst h hr
    rfl
  | c :: cs, xs, us, h, hr => by
    simp only [Reps] at hr
    obtain ⟨x, ys, rfl, h2, h3⟩ := hr
    unfold intsOf at h
    split at h
    · rename_i k' a zs e1 e2
      cases hk : ikEq k k'
      · rw [hk] at h; cases h
      · rw [hk] at h
        have := ikEq_eq hk
        subst this
        cases h
        rw [intsOf_rep cs zs ys e2 h3]
        unfold SV.asI at e1
        split at e1
        · cases e1; simp only [Rep] at h2; simp [h2]
        · cases e1
    · cases h
theorem single_ok {d d' : Dat} {i : Nat} {v : Value} {us : List Value} (hw : d.wd = 1) (hw' : d'.wd = 1) (hl : d'.len = d.len) (hi : i < d.len)
    (hu : ∀ i j, i < d.len → j < d.wd → ∃ x, us[i * d.wd + j]? = some x ∧ d.ok D w i j x) (hat : ∀ j', d'.ok D w i j' v) (hoth : ∀ i' j' x, i' ≠ i → d.ok D w i' j' x → d'.ok D w i' j' x) :
    d'.len = d.len ∧ d'.wd = d.wd ∧ ∀ i' j', i' < d.len → j' < d.wd → ∃ x, (us.take (i * d.wd + 0) ++ [v] ++ us.drop (i * d.wd + 0 + [v].length))[i' * d.wd + j']? = some x ∧ d'.ok D w i' j' x := by
  refine ⟨hl, by rw [hw, hw'], fun i' j' hi' hj' => ?_⟩
  rw [hw] at hu hj' ⊢
  have j0 : j' = 0 := by omega
  subst j0
  simp only [Nat.mul_one, Nat.add_zero, List.length_singleton] at hu ⊢
  obtain ⟨x, hx, _⟩ := hu i 0 hi (by omega)
  have hlt := (List.getElem?_eq_some_iff.1 hx).1
  simp only [Nat.add_zero] at hlt
  by_cases he : i' = i
  · subst he
    refine ⟨v, ?_, hat 0⟩
    rw [List.append_assoc, List.getElem?_append_right (by simp; omega)]
    simp [List.length_take, Nat.min_eq_left (Nat.le_of_lt hlt)]
  · obtain ⟨x', hx', hok⟩ := hu i' 0 hi' (by omega)
    refine ⟨x', ?_, hoth i' 0 x' he hok⟩
    simp only [Nat.add_zero] at hx' ⊢
    rw [← hx', List.append_assoc]
    rcases Nat.lt_or_gt_of_ne he with h | h
    · rw [List.getElem?_append_left (by simp; omega), List.getElem?_take, if_pos h]
    · rw [List.getElem?_append_right (by simp; omega), List.getElem?_append_right (by simp; omega), List.getElem?_drop]
      congr 1
      simp only [List.length_take, List.length_singleton]
      omega
theorem asL_rep {c : SV} {k : IntKind} {l : List Int} {u : Value} (h : c.asL = some (k, l)) (hk : ikEq k .i64 = true) (hr : Rep D w β c u) :
    SliceAt D w l.length 1 (fun i' _ y => y = .int .i64 (l.getD i' 0)) u := by
  unfold SV.asL at h
  split at h
  · simp only [Option.some.injEq, Prod.mk.injEq] at h
    obtain ⟨rfl, rfl⟩ := h
    have := ikEq_eq hk
    subst this
    simp only [Rep] at hr
    exact hr
  · simp only [Option.some.injEq, Prod.mk.injEq] at h
    obtain ⟨rfl, rfl⟩ := h
    simp only [Rep] at hr
    subst hr
    exact ⟨none, 0, rfl, Nat.le_refl _, fun h => by simp at h⟩
  · cases h
theorem asL_one {c : SV} {k : IntKind} {l : List Int} (h : c.asL = some (k, l)) : SV.one c = true := by
  unfold SV.asL at h
  split at h <;> first | rfl | cases h
theorem asB_one {c : SV} {b : Bool} (h : c.asB = some b) : SV.one c = true := by
  unfold SV.asB at h
  split at h <;> first | rfl | cases h
theorem asI_one {c : SV} {x : IntKind × Int} (h : c.asI = some x) : SV.one c = true := by
  unfold SV.asI at h
  split at h <;> first | rfl | cases h
theorem mixOk_cons {c : Sh} {sh : List Sh} {r0 : List Int} {r : List (List Int)} {j : Nat} {x : Value} (h : mixOk D w sh r j x) : mixOk D w (c :: sh) (r0 :: r) (j + 1) x := by
  unfold mixOk at h ⊢
  rw [List.getElem?_cons_succ, List.getD_cons_succ]
  exact h
theorem mixOf_ok : ∀ (sh : List Sh) (cs : List SV) (row : List (List Int)) (vs : List Value), mixOf sh cs = some row → Reps D w β cs vs →
    vs.length = sh.length ∧ cs.all SV.one = true ∧ ∀ j, j < sh.length → ∃ x, vs[j]? = some x ∧ mixOk D w sh row j x
  | [], [], row, vs, h, hr => by
    simp only [Reps] at hr
    subst hr
    exact ⟨rfl, rfl, fun j hj => by simp at hj⟩
  | [], c :: cs, row, vs, h, hr => by cases h
  | s :: sh, [], row, vs, h, hr => by cases s <;> cases h
  | s :: sh, c :: cs, row, vs, h, hr => by
    simp only [Reps] at hr
    obtain ⟨x, xs, rfl, h2, h3⟩ := hr
    have fin : ∀ (r0 : List Int) (r : List (List Int)), mixOf sh cs = some r → SV.one c = true → mixOk D w (s :: sh) (r0 :: r) 0 x →
        (x :: xs).length = (s :: sh).length ∧ (c :: cs).all SV.one = true ∧ ∀ j, j < (s :: sh).length → ∃ y, (x :: xs)[j]? = some y ∧ mixOk D w (s :: sh) (r0 :: r) j y := by
      intro r0 r hm h1 h0
      obtain ⟨k1, k2, k3⟩ := mixOf_ok sh cs r xs hm h3
      refine ⟨by simp [k1], by simp [h1, k2], fun j hj => ?_⟩
      cases j with
      | zero => exact ⟨x, rfl, h0⟩
      | succ j =>
        obtain ⟨y, hy, hk⟩ := k3 j (by simpa using hj)
        exact ⟨y, by simpa using hy, mixOk_cons hk⟩
    cases s with
    | i =>
      simp only [mixOf] at h
      split at h
      · rename_i k a r e1 e2
        cases hk : ikEq k .i64
        · rw [hk] at h; cases h
        · rw [hk] at h
          simp only [cond_true, Option.some.injEq] at h
          subst h
          refine fin [a] r e2 (asI_one e1) ?_
          unfold SV.asI at e1
          split at e1
          · simp only [Option.some.injEq, Prod.mk.injEq] at e1
            obtain ⟨rfl, rfl⟩ := e1
            have := ikEq_eq hk
            subst this
            simp only [Rep] at h2
            simpa [mixOk] using h2
          · cases e1
      · cases h
    | b =>
      simp only [mixOf] at h
      split at h
      · rename_i b r e1 e2
        simp only [Option.some.injEq] at h
        subst h
        refine fin [cond b 1 0] r e2 (asB_one e1) ?_
        have := asB_rep e1 h2
        subst this
        cases b <;> simp [mixOk]
      · cases h
    | l =>
      simp only [mixOf] at h
      split at h
      · rename_i k l r e1 e2
        cases hk : ikEq k .i64
        · rw [hk] at h; cases h
        · rw [hk] at h
          simp only [cond_true, Option.some.injEq] at h
          subst h
          refine fin l r e2 (asL_one e1) ?_
          simpa [mixOk] using asL_rep e1 hk h2
      · cases h
theorem record_ok {wd len i : Nat} {us vs : List Value} {ok ok' : Nat → Nat → Value → Prop} (hi : i < len) (hv : vs.length = wd)
    (hu : ∀ i j, i < len → j < wd → ∃ x, us[i * wd + j]? = some x ∧ ok i j x)
    (hn : ∀ j, j < wd → ∃ x, vs[j]? = some x ∧ ok' i j x) (ho : ∀ i' j x, i' ≠ i → ok i' j x → ok' i' j x) :
    ∀ i' j', i' < len → j' < wd → ∃ x, (us.take (i * wd + 0) ++ vs ++ us.drop (i * wd + 0 + vs.length))[i' * wd + j']? = some x ∧ ok' i' j' x := by
  intro i' j' hi' hj'
  have hle : i * wd + wd ≤ us.length := by
    obtain ⟨x, hx, _⟩ := hu i (wd - 1) hi (by omega)
    have := (List.getElem?_eq_some_iff.1 hx).1
    omega
  rw [Nat.add_zero, hv, List.append_assoc]
  by_cases he : i' = i
  · subst he
    obtain ⟨x, hx, hk⟩ := hn j' hj'
    refine ⟨x, ?_, hk⟩
    rw [List.getElem?_append_right (by simp; omega), List.getElem?_append_left (by simp; omega)]
    have hm : i' * wd + j' - (List.take (i' * wd) us).length = j' := by simp; omega
    rw [hm]
    exact hx
  · obtain ⟨x, hx, hok⟩ := hu i' j' hi' hj'
    refine ⟨x, ?_, ho _ _ _ he hok⟩
    rw [← hx]
    rcases Nat.lt_or_gt_of_ne he with hlt' | hgt
    · have : i' * wd + j' < i * wd := by
        calc i' * wd + j' < (i' + 1) * wd := by rw [Nat.add_mul]; omega
          _ ≤ i * wd := Nat.mul_le_mul_right _ hlt'
      rw [List.getElem?_append_left (by simp; omega), List.getElem?_take, if_pos this]
    · have : i * wd + wd ≤ i' * wd + j' := by
        calc i * wd + wd = (i + 1) * wd := by rw [Nat.add_mul]; omega
          _ ≤ i' * wd := Nat.mul_le_mul_right _ hgt
          _ ≤ i' * wd + j' := by omega
      rw [List.getElem?_append_right (by simp; omega), List.getElem?_append_right (by simp; omega), List.getElem?_drop]
      congr 1
      simp only [List.length_take]
      omega
theorem setAll_ok {d d' : Dat} {i j : Nat} {cs : List SV} {vs us : List Value} (h : d.setAll i j cs = some d') (hr : Reps D w β cs vs) (hi : i < d.len) (hj : j + cs.length ≤ d.wd)
    (hu : ∀ i j, i < d.len → j < d.wd → ∃ x, us[i * d.wd + j]? = some x ∧ d.ok D w i j x) :
    d'.len = d.len ∧ d'.wd = d.wd ∧ ∀ i' j', i' < d.len → j' < d.wd → ∃ x, (us.take (i * d.wd + j) ++ vs ++ us.drop (i * d.wd + j + vs.length))[i' * d.wd + j']? = some x ∧ d'.ok D w i' j' x := by
  have hvl := Reps.len cs hr
  cases d with
  | mix sh xs =>
    simp only [Dat.setAll] at h
    cases e : mixOf sh cs with
    | none => rw [e] at h; cases h
    | some row =>
      rw [e] at h
      cases hb : Nat.beq j 0
      · simp only [hb, cond_false] at h; cases h
      · simp only [hb, cond_true, Option.some.injEq] at h
        have j0 : j = 0 := Nat.eq_of_beq_eq_true hb
        subst j0 h
        obtain ⟨k1, k2, k3⟩ := mixOf_ok sh cs row vs e hr
        simp only [Dat.len, Dat.wd] at *
        refine ⟨by simp, trivial, ?_⟩
        refine record_ok hi k1 hu (fun j' hj' => ?_) (fun i' j' x he hok => ?_)
        · obtain ⟨x, hx, hk⟩ := k3 j' hj'
          refine ⟨x, hx, ?_⟩
          simp only [Dat.ok, List.getD, List.getElem?_set_self hi, Option.getD_some]
          exact hk
        · simp only [Dat.ok, List.getD, List.getElem?_set_ne (Ne.symm he)] at hok ⊢
          exact hok
  | recs wd xs =>
    simp only [Dat.setAll] at h
    cases e : intsOf .i64 cs with
    | none => rw [e] at h; cases h
    | some row =>
      rw [e] at h
      cases hb : Nat.beq j 0 && Nat.beq cs.length wd
      · simp only [hb, cond_false] at h; cases h
      · simp only [hb, cond_true, Option.some.injEq] at h
        simp only [Bool.and_eq_true] at hb
        have j0 : j = 0 := Nat.eq_of_beq_eq_true hb.1
        have hcw : cs.length = wd := Nat.eq_of_beq_eq_true hb.2
        subst j0 h
        have hvs := intsOf_rep cs row vs e hr
        simp only [Dat.len, Dat.wd] at *
        refine ⟨by simp, trivial, fun i' j' hi' hj' => ?_⟩
        have hrow : row.length = wd := by rw [← hcw, ← hvl, hvs]; simp
        have hle : i * wd + wd ≤ us.length := by
          obtain ⟨x, hx, _⟩ := hu i (wd - 1) hi (by omega)
          have := (List.getElem?_eq_some_iff.1 hx).1
          omega
        rw [Nat.add_zero, hvl, hcw, List.append_assoc]
        by_cases he : i' = i
        · subst he
          refine ⟨.int .i64 (row.getD j' 0), ?_, ?_⟩
          · rw [List.getElem?_append_right (by simp; omega), List.getElem?_append_left (by simp; omega), hvs, List.getElem?_map]
            have hm : i' * wd + j' - (List.take (i' * wd) us).length = j' := by simp; omega
            rw [hm]
            simp [List.getD, List.getElem?_eq_getElem (show j' < row.length by omega)]
          · simp [Dat.ok, List.getD, List.getElem?_set_self hi']
        · obtain ⟨x, hx, hok⟩ := hu i' j' hi' hj'
          refine ⟨x, ?_, ?_⟩
          · rw [← hx]
            rcases Nat.lt_or_gt_of_ne he with hlt' | hgt
            · have : i' * wd + j' < i * wd := by
                calc i' * wd + j' < (i' + 1) * wd := by rw [Nat.add_mul]; omega
                  _ ≤ i * wd := Nat.mul_le_mul_right _ hlt'
              rw [List.getElem?_append_left (by simp; omega), List.getElem?_take, if_pos this]
            · have : i * wd + wd ≤ i' * wd + j' := by
                calc i * wd + wd = (i + 1) * wd := by rw [Nat.add_mul]; omega
                  _ ≤ i' * wd := Nat.mul_le_mul_right _ hgt
                  _ ≤ i' * wd + j' := by omega
              rw [List.getElem?_append_right (by simp; omega), List.getElem?_append_right (by simp; omega), List.getElem?_drop]
              congr 1
              simp only [List.length_take]
              omega
          · simp only [Dat.ok, List.getD, List.getElem?_set_ne (Ne.symm he)] at hok ⊢
            exact hok
  | ints k xs =>
    match cs, hr, h with
    | [.v (.int k' x)], hr, h0 =>
      simp only [Dat.setAll] at h0
      cases hb : ikEq k k' && Nat.beq j 0
      · simp only [hb, cond_false] at h0; cases h0
      · simp only [hb, cond_true, Option.some.injEq] at h0
        simp only [Bool.and_eq_true] at hb
        have hk := ikEq_eq hb.1
        have j0 : j = 0 := Nat.eq_of_beq_eq_true hb.2
        subst hk j0 h0
        simp only [Reps, Rep] at hr
        obtain ⟨v, vs', rfl, rfl, rfl⟩ := hr
        exact single_ok rfl rfl (by simp [Dat.len]) hi hu (fun j' => by simp [Dat.ok, List.getD, List.getElem?_set_self (show i < xs.length from hi)])
          (fun i' j' x' he hok => by simpa only [Dat.ok, List.getD, List.getElem?_set_ne (Ne.symm he)] using hok)
    | [], hr, h0 => simp [Dat.setAll] at h0
    | c :: c' :: cs, hr, h0 => simp [Dat.setAll] at h0
  | lists xs =>
    match cs, hr, h with
    | [.dat (.ints k x)], hr, h0 =>
      simp only [Dat.setAll] at h0
      cases hb : ikEq k .i64 && Nat.beq j 0
      · simp only [hb, cond_false] at h0; cases h0
      · simp only [hb, cond_true, Option.some.injEq] at h0
        simp only [Bool.and_eq_true] at hb
        have hk := ikEq_eq hb.1
        have j0 : j = 0 := Nat.eq_of_beq_eq_true hb.2
        subst hk j0 h0
        simp only [Reps, Rep] at hr
        obtain ⟨v, vs', rfl, hv, rfl⟩ := hr
        exact single_ok rfl rfl (by simp [Dat.len]) hi hu (fun j' => by
            simp only [Dat.ok, List.getD, List.getElem?_set_self (show i < xs.length from hi), Option.getD_some]
            exact hv)
          (fun i' j' x' he hok => by simpa only [Dat.ok, List.getD, List.getElem?_set_ne (Ne.symm he)] using hok)
    | [], hr, h0 => simp [Dat.setAll] at h0
    | c :: c' :: cs, hr, h0 => simp [Dat.setAll] at h0
  | strs xs =>
    match cs, hr, h with
    | [.v (.string x)], hr, h0 =>
      simp only [Dat.setAll] at h0
      cases hb : Nat.beq j 0
      · simp only [hb, cond_false] at h0; cases h0
      · simp only [hb, cond_true, Option.some.injEq] at h0
        have j0 : j = 0 := Nat.eq_of_beq_eq_true hb
        subst j0 h0
        simp only [Reps, Rep] at hr
        obtain ⟨v, vs', rfl, rfl, rfl⟩ := hr
        exact single_ok rfl rfl (by simp [Dat.len]) hi hu (fun j' => by simp [Dat.ok, List.getD, List.getElem?_set_self (show i < xs.length from hi)])
          (fun i' j' x' he hok => by simpa only [Dat.ok, List.getD, List.getElem?_set_ne (Ne.symm he)] using hok)
    | [], hr, h0 => simp [Dat.setAll] at h0
    | c :: c' :: cs, hr, h0 => simp [Dat.setAll] at h0
  | bools xs =>
    match cs, hr, h with
    | [.v (.bool x)], hr, h0 =>
      simp only [Dat.setAll] at h0
      cases hb : Nat.beq j 0
      · simp only [hb, cond_false] at h0; cases h0
      · simp only [hb, cond_true, Option.some.injEq] at h0
        have j0 : j = 0 := Nat.eq_of_beq_eq_true hb
        subst j0 h0
        simp only [Reps, Rep] at hr
        obtain ⟨v, vs', rfl, rfl, rfl⟩ := hr
        exact single_ok rfl rfl (by simp [Dat.len]) hi hu (fun j' => by simp [Dat.ok, List.getD, List.getElem?_set_self (show i < xs.length from hi)])
          (fun i' j' x' he hok => by simpa only [Dat.ok, List.getD, List.getElem?_set_ne (Ne.symm he)] using hok)
    | [.bl x], hr, h0 =>
      simp only [Dat.setAll] at h0
      cases hb : Nat.beq j 0
      · simp only [hb, cond_false] at h0; cases h0
      · simp only [hb, cond_true, Option.some.injEq] at h0
        have j0 : j = 0 := Nat.eq_of_beq_eq_true hb
        subst j0 h0
        simp only [Reps, Rep] at hr
        obtain ⟨v, vs', rfl, rfl, rfl⟩ := hr
        exact single_ok rfl rfl (by simp [Dat.len]) hi hu (fun j' => by simp [Dat.ok, List.getD, List.getElem?_set_self (show i < xs.length from hi)])
          (fun i' j' x' he hok => by simpa only [Dat.ok, List.getD, List.getElem?_set_ne (Ne.symm he)] using hok)
    | [], hr, h0 => simp [Dat.setAll] at h0
    | c :: c' :: cs, hr, h0 => simp [Dat.setAll] at h0
theorem intsOf_one {k : IntKind} : ∀ (cs : List SV) (xs : List Int), intsOf k cs = some xs → cs.all SV.one = true
  | [], xs, h => rfl
  | c :: cs, xs, h => by
    unfold intsOf at h
    split at h
    · rename_i k' a zs e1 e2
      simp only [List.all_cons, Bool.and_eq_true]
      refine ⟨?_, intsOf_one cs zs e2⟩
      unfold SV.asI at e1
      split at e1
      · rfl
      · cases e1
    · cases h
theorem mixOf_one : ∀ (sh : List Sh) (cs : List SV) (row : List (List Int)), mixOf sh cs = some row → cs.all SV.one = true
  | [], [], row, h => rfl
  | [], c :: cs, row, h => by cases h
  | s :: sh, [], row, h => by cases s <;> cases h
  | s :: sh, c :: cs, row, h => by
    simp only [List.all_cons, Bool.and_eq_true]
    cases s <;> (simp only [mixOf] at h; split at h <;> first | (cases h; done) | skip)
    · rename_i e1 e2; exact ⟨asI_one e1, mixOf_one sh cs _ e2⟩
    · rename_i e1 e2; exact ⟨asB_one e1, mixOf_one sh cs _ e2⟩
    · rename_i e1 e2; exact ⟨asL_one e1, mixOf_one sh cs _ e2⟩
theorem setAll_one {d d' : Dat} {i j : Nat} {cs : List SV} (h : d.setAll i j cs = some d') : cs.all SV.one = true := by
  cases d with
  | mix sh xs =>
    simp only [Dat.setAll] at h
    cases e : mixOf sh cs with
    | none => rw [e] at h; cases h
    | some row => exact mixOf_one sh cs row e
  | recs wd xs =>
    simp only [Dat.setAll] at h
    cases e : intsOf .i64 cs with
    | none => rw [e] at h; cases h
    | some row => exact intsOf_one cs row e
  | _ =>
    unfold Dat.setAll at h
    split at h <;> first | rfl | (cases h; done) | (simp_all; done) | skip
    all_goals simp_all
end
end Go.Proofs.YtbfdchahapajaaaGreatDoor
namespace Go.Proofs.YtbfdchahapajaaaGreatDoor
open Go.RowKit
set_option linter.unusedVariables false
set_option linter.unusedSimpArgs false
section
variable {P : Program} {Γ : FuncId → Option Ctr}
variable {dst : Option Tmp} {type : TypeId} {pos : String} {after : Array Edge} {guard : Option (Nat × Bool)}
theorem reps_ofV {D : Nat → Prop} {w : World} {β : Nat → Option Loc} (l : List Value) : Reps D w β (l.map SV.ofV) l := by
  simpa using Reps.map (D := D) (w := w) (β := β) SV.ofV id Rep.ofV l
theorem zints_eq {k : IntKind} : ∀ l : List Value, zintsB k l = true → l = List.replicate l.length (.int k 0)
  | [], _ => rfl
  | .int k' x :: r, h => by
    simp only [zintsB, Bool.and_eq_true, decide_eq_true_eq] at h
    have := ikEq_eq h.1.1
    subst this
    rw [h.1.2]
    simp only [List.length_cons, List.replicate_succ]
    rw [← zints_eq r h.2]
  | .bool _ :: _, h | .float _ _ :: _, h | .complex _ _ _ :: _, h | .string _ :: _, h | .pointer _ :: _, h | .slice _ _ _ :: _, h | .map _ :: _, h | .chan _ :: _, h
  | .func _ _ _ :: _, h | .nilFunc :: _, h | .iface _ _ :: _, h | .nilIface :: _, h | .agg _ :: _, h | .tuple _ :: _, h => by simp [zintsB] at h
theorem zbools_eq : ∀ l : List Value, zboolsB l = true → l = List.replicate l.length (.bool false)
  | [], _ => rfl
  | .bool b :: r, h => by
    simp only [zboolsB, Bool.and_eq_true, Bool.not_eq_true'] at h
    rw [h.1]
    simp only [List.length_cons, List.replicate_succ]
    rw [← zbools_eq r h.2]
  | .int _ _ :: _, h | .float _ _ :: _, h | .complex _ _ _ :: _, h | .string _ :: _, h | .pointer _ :: _, h | .slice _ _ _ :: _, h | .map _ :: _, h | .chan _ :: _, h
  | .func _ _ _ :: _, h | .nilFunc :: _, h | .iface _ _ :: _, h | .nilIface :: _, h | .agg _ :: _, h | .tuple _ :: _, h => by simp [zboolsB] at h
theorem ok_alloc (t : TypeId) : StepOk P Γ ⟨dst, .alloc t, type, pos, after, guard⟩ := by
  intro E D β S a w n r hr hc hd hn h K Q hK
  simp only [step] at hr
  split at hr
  · rename_i z hz
    split at hr
    · rename_i b hb
      subst hr
      have hrun : (execOp a.eval ⟨dst, .alloc t, type, pos, after, guard⟩).run P w = .ok (.value (.pointer (some ⟨w.heap.size, 0, none⟩))) (w.alloc (.cells z.cells.toList.toArray t)) := by
        unfold tyZero at hz
        split at hz
        · rename_i i hi
          simp [execOp, Instr.alloc, zeroValue, typeInfo, hi, hz, newVar, newRow]
        · cases hz
      unfold newBlk at hb
      cases hone : z.cells.toList.all Value.oneCell'
      · rw [hone] at hb; cases hb
      · rw [hone] at hb
        simp only [cond_true] at hb
        have h1 : ∀ u ∈ z.cells.toList, u.oneCell' = true := List.all_eq_true.1 hone
        have arrCase : ∀ k len, b = .arr t (.ints k (List.replicate len 0)) → zintsB k z.cells.toList = true → z.cells.toList.length = len →
            St E D (upd β n (some ⟨w.heap.size, 1, z.cells.toList.length, 0, false⟩)) { S with H := upds S.H [(n, some b)], U := upds S.U [(n, true)] } a (w.alloc (.cells z.cells.toList.toArray t)) := by
          rintro k len rfl hz hl
          refine h.new (b := .arr t (.ints k (List.replicate len 0))) (hn n (by simp)) z.cells.toList t ⟨w.heap.size, 1, z.cells.toList.length, 0, false⟩ rfl rfl (fun G hg => ⟨rfl, rfl, z.cells.toList, hg, by simp [Dat.len, Dat.wd]; simpa using hl, fun i j hi hj => ?_, by simp [Dat.len]; simpa using hl⟩)
          simp only [Dat.len, List.length_replicate, Dat.wd, Nat.mul_one] at hi hj ⊢
          have j0 : j = 0 := by omega
          subst j0
          refine ⟨.int k 0, ?_, by simp [Dat.ok, List.getD, List.getElem?_replicate, hi]⟩
          rw [zints_eq _ hz, List.getElem?_replicate, if_pos (by omega)]
        have bolCase : ∀ len, b = .arr t (.bools (List.replicate len false)) → zboolsB z.cells.toList = true → z.cells.toList.length = len →
            St E D (upd β n (some ⟨w.heap.size, 1, z.cells.toList.length, 0, false⟩)) { S with H := upds S.H [(n, some b)], U := upds S.U [(n, true)] } a (w.alloc (.cells z.cells.toList.toArray t)) := by
          rintro len rfl hz hl
          refine h.new (b := .arr t (.bools (List.replicate len false))) (hn n (by simp)) z.cells.toList t ⟨w.heap.size, 1, z.cells.toList.length, 0, false⟩ rfl rfl (fun G hg => ⟨rfl, rfl, z.cells.toList, hg, by simp [Dat.len, Dat.wd]; simpa using hl, fun i j hi hj => ?_, by simp [Dat.len]; simpa using hl⟩)
          simp only [Dat.len, List.length_replicate, Dat.wd, Nat.mul_one] at hi hj ⊢
          have j0 : j = 0 := by omega
          subst j0
          refine ⟨.bool false, ?_, by simp [Dat.ok, List.getD, List.getElem?_replicate, hi]⟩
          rw [zbools_eq _ hz, List.getElem?_replicate, if_pos (by omega)]
        have celCase : b = .cells t (z.cells.toList.map SV.ofV) →
            St E D (upd β n (some ⟨w.heap.size, 1, z.cells.toList.length, 0, false⟩)) { S with H := upds S.H [(n, some b)], U := upds S.U [(n, true)] } a (w.alloc (.cells z.cells.toList.toArray t)) := by
          rintro rfl
          exact h.new (b := .cells t (z.cells.toList.map SV.ofV)) (hn n (by simp)) z.cells.toList t ⟨w.heap.size, 1, z.cells.toList.length, 0, false⟩ rfl rfl (fun G hg => ⟨rfl, z.cells.toList, hg, reps_ofV _, h1⟩)
        have recCase : ∀ wd len, b = .arr t (.recs wd (List.replicate len (List.replicate wd 0))) → zintsB .i64 z.cells.toList = true → z.cells.toList.length = len * wd →
            St E D (upd β n (some ⟨w.heap.size, wd, len, 0, false⟩)) { S with H := upds S.H [(n, some b)], U := upds S.U [(n, true)] } a (w.alloc (.cells z.cells.toList.toArray t)) := by
          rintro wd len rfl hz hl
          refine h.new (b := .arr t (.recs wd (List.replicate len (List.replicate wd 0)))) (hn n (by simp)) z.cells.toList t ⟨w.heap.size, wd, len, 0, false⟩ rfl rfl (fun G hg => ⟨rfl, rfl, z.cells.toList, hg, by simp only [Dat.len, Dat.wd, List.length_replicate]; exact hl, fun i j hi hj => ?_, by simp [Dat.len]⟩)
          simp only [Dat.len, List.length_replicate, Dat.wd] at hi hj ⊢
          refine ⟨.int .i64 0, ?_, by simp [Dat.ok, List.getD, List.getElem?_replicate, hi, hj]⟩
          rw [zints_eq _ hz, List.getElem?_replicate, if_pos]
          rw [hl]
          calc i * wd + j < (i + 1) * wd := by rw [Nat.add_mul]; omega
            _ ≤ len * wd := Nat.mul_le_mul_right _ hi
        suffices hall : ∃ L : Loc, L.g = w.heap.size ∧ L.nil = false ∧ St E D (upd β n (some L)) { S with H := upds S.H [(n, some b)], U := upds S.U [(n, true)] } a (w.alloc (.cells z.cells.toList.toArray t)) by
          obtain ⟨L, hLg, hLn, hst⟩ := hall
          exact gen_ok (D' := D) (β' := upd β n (some L)) hrun hst (by simp only [Rep]; exact ⟨_, upd_same _ _ _, hLn, by simp [hLg]⟩) hd hK
        have celCase := fun e => (⟨_, rfl, rfl, celCase e⟩ : ∃ L : Loc, L.g = w.heap.size ∧ L.nil = false ∧ St E D (upd β n (some L)) { S with H := upds S.H [(n, some b)], U := upds S.U [(n, true)] } a (w.alloc (.cells z.cells.toList.toArray t)))
        have arrCase := fun k len e hz hl => (⟨_, rfl, rfl, arrCase k len e hz hl⟩ : ∃ L : Loc, L.g = w.heap.size ∧ L.nil = false ∧ St E D (upd β n (some L)) { S with H := upds S.H [(n, some b)], U := upds S.U [(n, true)] } a (w.alloc (.cells z.cells.toList.toArray t)))
        split at hb
        · split at hb
          · rename_i k _
            cases hq : ((Nat.blt 4 _ || (ikEq k .i64 && Nat.blt 1 _)) && zintsB k z.cells.toList && Nat.beq z.cells.toList.length _)
            · rw [hq] at hb
              simp only [cond_false, Option.some.injEq] at hb
              exact celCase hb.symm
            · rw [hq] at hb
              simp only [cond_true, Option.some.injEq] at hb
              simp only [Bool.and_eq_true] at hq
              exact arrCase _ _ hb.symm hq.1.2 (Nat.eq_of_beq_eq_true hq.2)
          · cases hq : (Nat.blt 1 _ && zboolsB z.cells.toList && Nat.beq z.cells.toList.length _)
            · rw [hq] at hb
              simp only [cond_false, Option.some.injEq] at hb
              exact celCase hb.symm
            · rw [hq] at hb
              simp only [cond_true, Option.some.injEq] at hb
              simp only [Bool.and_eq_true] at hq
              exact ⟨_, rfl, rfl, bolCase _ hb.symm hq.1.2 (Nat.eq_of_beq_eq_true hq.2)⟩
          · rename_i e _ _ fs _
            cases hq : (Nat.blt 4 _ && intFields P fs.toList && zintsB .i64 z.cells.toList && Nat.beq z.cells.toList.length (_ * tySize P e))
            · rw [hq] at hb
              simp only [cond_false, Option.some.injEq] at hb
              exact celCase hb.symm
            · rw [hq] at hb
              simp only [cond_true, Option.some.injEq] at hb
              simp only [Bool.and_eq_true] at hq
              exact ⟨_, rfl, rfl, recCase _ _ hb.symm hq.1.2 (Nat.eq_of_beq_eq_true hq.2)⟩
          · simp only [Option.some.injEq] at hb
            exact celCase hb.symm
        · simp only [Option.some.injEq] at hb
          exact celCase hb.symm
    · exact bad hr hc
  · exact bad hr hc
theorem ok_box (t : TypeId) (x : Operand) : StepOk P Γ ⟨dst, .box t x, type, pos, after, guard⟩ := by
  intro E D β S a w n r hr hc hd hn h K Q hK
  have ex := h.ev x
  have hrun : (execOp a.eval ⟨dst, .box t x, type, pos, after, guard⟩).run P w = .ok (.value (.pointer (some ⟨w.heap.size, 0, none⟩))) (w.alloc (.cells (a.eval x).cells.toList.toArray t)) := by
    simp [execOp, Instr.box, newVar, newRow]
  simp only [step] at hr
  split at hr
  · rename_i d e
    subst hr
    rw [e] at ex
    cases d with
    | ints k xs =>
      simp only [Rep] at ex
      refine gen_ok (D' := D) (β' := upd β n (some ⟨w.heap.size, 1, xs.length, 0, false⟩)) hrun (h.new (b := .arr t (.ints k xs)) (hn n (by simp)) _ t ⟨w.heap.size, 1, xs.length, 0, false⟩ rfl rfl (fun G hg => ⟨rfl, rfl, _, hg, by simp [ex, Value.cells, Dat.len, Dat.wd], fun i j hi hj => ?_, rfl⟩))
        (by simp only [Rep]; exact ⟨_, upd_same _ _ _, rfl, by simp⟩) hd hK
      simp only [Dat.len, Dat.wd, Nat.mul_one] at hi hj ⊢
      have j0 : j = 0 := by omega
      subst j0
      refine ⟨.int k (xs.getD i 0), ?_, rfl⟩
      simp [ex, Value.cells, List.getElem?_map, List.getD, List.getElem?_eq_getElem hi]
    | _ => simp [Rep] at ex
  · cases hone : (S.ev x).cellsOf.all SV.one
    · simp only [hone, cond_false] at hr; exact bad hr hc
    · simp only [hone, cond_true] at hr
      subst hr
      obtain ⟨hR, h1⟩ := Rep.cells ex hone
      exact gen_ok (D' := D) (β' := upd β n (some ⟨w.heap.size, 1, 0, 0, false⟩)) hrun (h.new (b := .cells t (S.ev x).cellsOf) (hn n (by simp)) _ t ⟨w.heap.size, 1, 0, 0, false⟩ rfl rfl (fun G hg => ⟨rfl, _, hg, Reps.mono G _ hR, h1⟩))
        (by simp only [Rep]; exact ⟨_, upd_same _ _ _, rfl, by simp⟩) hd hK
theorem ok_makeInterface (t : TypeId) (x : Operand) : StepOk P Γ ⟨dst, .makeInterface t x, type, pos, after, guard⟩ := by
  intro E D β S a w n r hr hc hd hn h K Q hK
  have ex := h.ev x
  simp only [step] at hr
  split at hr
  · exact bad hr hc
  · exact bad hr hc
  · rename_i h1 h2
    subst hr
    have hu := under (P := P) (t := t) rfl (fun e => h2 e)
    refine val_ok h (u := .iface t (a.eval x)) ?_ (by simp only [Res.ret, Rep]; exact ⟨_, rfl, ex⟩) rfl rfl hd hK
    have : P.concrete t = true := by
      unfold Program.concrete
      rw [hu]
      cases hq : tyU P t <;> first | rfl | exact absurd hq (h1 _)
    simp [execOp, run_makeInterface w t _ this]
theorem reps_ops {E : Env} {D : Nat → Prop} {β : Nat → Option Loc} {S : Sst} {a : Act} {w : World} (h : St E D β S a w) (l : List Operand) : Reps D w β (l.map S.ev) (l.map a.eval) :=
  Reps.map S.ev a.eval h.ev l
theorem ok_makeFunc (f : Fn) (first captured : Array Operand) : StepOk P Γ ⟨dst, .makeFunc f first captured, type, pos, after, guard⟩ := by
  intro E D β S a w n r hr hc hd hn h K Q hK
  subst hr
  refine val_ok h (u := .func f (first.map a.eval) (captured.map a.eval)) (by simp [execOp, Instr.makeFunc]) ?_ rfl rfl hd hK
  simp only [step, Res.ret, Rep]
  exact ⟨first.toList.map a.eval, captured.toList.map a.eval, by rw [← Array.toList_map, ← Array.toList_map, Array.toArray_toList, Array.toArray_toList], reps_ops h first.toList, reps_ops h captured.toList⟩
theorem ok_nilCheck (x : Operand) : StepOk P Γ ⟨dst, .nilCheck x, type, pos, after, guard⟩ := by
  intro E D β S a w n r hr hc hd hn h K Q hK
  have ex := h.ev x
  simp only [step] at hr
  split at hr
  · rename_i e
    rw [e] at ex
    subst hr
    have ex' := ex
    simp only [Rep] at ex
    obtain ⟨L, _, _, hu⟩ := ex
    exact val_ok h (u := a.eval x) (by simp [execOp, hu]) ex' rfl rfl hd hK
  · rename_i e
    rw [e] at ex
    subst hr
    have ex' := ex
    simp only [Rep] at ex
    obtain ⟨g, off, hu, _⟩ := ex
    exact val_ok h (u := a.eval x) (by simp [execOp, hu]) ex' rfl rfl hd hK
  · rename_i e
    rw [e] at ex
    subst hr
    have ex' := ex
    simp only [Rep] at ex
    obtain ⟨us, vs, hu, _⟩ := ex
    exact val_ok h (u := a.eval x) (by simp [execOp, hu]) ex' rfl rfl hd hK
  · exact bad hr hc
theorem ok_fieldAddr (s : TypeId) (x : Operand) (f : Nat) : StepOk P Γ ⟨dst, .fieldAddr s x f, type, pos, after, guard⟩ := by
  intro E D β S a w n r hr hc hd hn h K Q hK
  have ex := h.ev x
  simp only [step] at hr
  split at hr
  · rename_i fs es
    split at hr
    · rename_i fd hf
      cases hz : Nat.beq (tySize P fd.type) 0
      · rw [hz] at hr
        simp only [cond_false] at hr
        have hu := under es (by simp)
        have hnz : tySize P fd.type ≠ 0 := fun e => by rw [e] at hz; cases hz
        have hplace : ∀ ad : Addr, (fieldPlace ad fd).run P w = .ok (ad.add fd.offset) w := by
          intro ad
          unfold tySize at hnz
          split at hnz
          · rename_i i hi
            simp [fieldPlace, sizeOf, typeInfo, hi, hnz]
          · exact absurd rfl hnz
        split at hr
        · rename_i l i j e
          rw [e] at ex
          subst hr
          simp only [Rep] at ex
          obtain ⟨L, hL, hnil, hx⟩ := ex
          refine val_ok h (u := .pointer (some ⟨L.g, i * L.wd + (j + fd.offset), none⟩)) ?_ (by simp only [Res.ret, Rep]; exact ⟨L, hL, hnil, rfl⟩) rfl rfl hd hK
          simp [execOp, Instr.fieldAt, run_underlying hu, hf, hx, Instr.sureAddr, hplace, add_at, Nat.add_assoc]
        · rename_i d i j e
          rw [e] at ex
          subst hr
          simp only [Rep] at ex
          obtain ⟨g, off, hx, hD, hcell⟩ := ex
          refine val_ok h (u := .pointer (some ⟨g, off + (i * d.wd + (j + fd.offset)), none⟩)) ?_ (by simp only [Res.ret, Rep]; exact ⟨g, off, rfl, hD, hcell⟩) rfl rfl hd hK
          simp [execOp, Instr.fieldAt, run_underlying hu, hf, hx, Instr.sureAddr, hplace, add_at, Nat.add_assoc]
        · exact bad hr hc
      · rw [hz] at hr; exact bad hr hc
    · exact bad hr hc
  · exact bad hr hc
theorem ok_extract (x : Operand) (i : Nat) : StepOk P Γ ⟨dst, .extract x i, type, pos, after, guard⟩ := by
  intro E D β S a w n r hr hc hd hn h K Q hK
  have ex := h.ev x
  simp only [step] at hr
  split at hr
  · rename_i vs e
    rw [e] at ex
    simp only [Rep] at ex
    obtain ⟨us, hu, hR⟩ := ex
    split at hr
    · rename_i c hi
      subst hr
      obtain ⟨u, hu', hR'⟩ := Reps.get vs i c hR hi
      exact val_ok h (u := u) (by simp [execOp, Instr.extract, hu, hu']) hR' rfl rfl hd hK
    · exact bad hr hc
  · exact bad hr hc
theorem part_one {t : TypeId} (h : tyOk P t = true) (hA : tyAgg P t = false) {us : List Value} {o : Nat} {v : Value} (hv : us[o]? = some v) (w : World) : (part t us.toArray o).run P w = .ok v w := by
  simp [part, run_agg h, hA, hv]
theorem part_agg {t : TypeId} (h : tyOk P t = true) (hA : tyAgg P t = true) (us : List Value) (o : Nat) (w : World) : (part t us.toArray o).run P w = .ok (.agg ((us.drop o).take (tySize P t)).toArray) w := by
  have : us.toArray.extract o (o + tySize P t) = ((us.drop o).take (tySize P t)).toArray := by
    simp [List.extract_eq_take_drop]
  simp [part, run_agg h, hA, run_size (under_ok h), this]
theorem part_ok {t : TypeId} (h : tyOk P t = true) {D : Nat → Prop} {w : World} {β : Nat → Option Loc} {cs : List SV} {us : List Value} (hR : Reps D w β cs us) {o : Nat} {r : Res} (hc : ∀ c ∈ r.vc, c.p)
    (hr : (cond (tyAgg P t) (cond (Nat.ble (o + tySize P t) cs.length) (Res.ret (.ag ((cs.drop o).take (tySize P t)))) .fail)
        (match cs[o]? with
          | some c => .ret c
          | none => .fail)) = r) : ∃ u, (part t us.toArray o).run P w = .ok u w ∧ Rep D w β r.val u ∧ r.ups = [] ∧ r.news = [] := by
  cases hA : tyAgg P t
  · rw [hA] at hr
    simp only [cond_false] at hr
    split at hr
    · rename_i c hcs
      subst hr
      obtain ⟨u, hu, hu'⟩ := Reps.get cs o c hR hcs
      exact ⟨u, part_one h hA hu w, hu', rfl, rfl⟩
    · exact bad hr hc
  · rw [hA] at hr
    simp only [cond_true] at hr
    cases hl : Nat.ble (o + tySize P t) cs.length
    · rw [hl] at hr; exact bad hr hc
    · rw [hl] at hr
      subst hr
      exact ⟨_, part_agg h hA us o w, by simp only [Res.ret, cond_true, Rep]; exact ⟨_, rfl, Reps.take _ _ (Reps.drop cs o hR)⟩, rfl, rfl⟩
theorem ok_field (t : TypeId) (x : Operand) (f : Nat) : StepOk P Γ ⟨dst, .field t x f, type, pos, after, guard⟩ := by
  intro E D β S a w n r hr hc hd hn h K Q hK
  have ex := h.ev x
  simp only [step] at hr
  split at hr
  · rename_i fs cs e1 e2
    rw [e2] at ex
    simp only [Rep] at ex
    obtain ⟨us, hu, hR⟩ := ex
    split at hr
    · rename_i fd hf
      cases hok : tyOk P fd.type
      · rw [hok] at hr; exact bad hr hc
      · rw [hok] at hr
        simp only [cond_true] at hr
        obtain ⟨u, hrun, h1, h2, h3⟩ := part_ok hok hR hc hr
        exact val_ok h (u := u) (by simp [execOp, Instr.field, run_underlying (under e1 (by simp)), hf, hu, asAgg, hrun]) h1 h2 h3 hd hK
    · exact bad hr hc
  · exact bad hr hc
theorem ok_index (t : TypeId) (x i : Operand) : StepOk P Γ ⟨dst, .index t x i, type, pos, after, guard⟩ := by
  intro E D β S a w n r hr hc hd hn h K Q hK
  have ex := h.ev x
  have ei := h.ev i
  simp only [step] at hr
  split at hr
  · rename_i s k m e1 e2 e3
    rw [e2] at ex
    rw [e3] at ei
    simp only [Rep] at ex ei
    subst hr
    have h0 : 0 ≤ m := hc (⟨0 ≤ m, inferInstance⟩) (by simp)
    have h1 : m < s.size := hc (⟨m < s.size, inferInstance⟩) (by simp)
    have hu := under e1 (by simp)
    have hlt : m.toNat < s.size := by omega
    refine val_ok h (u := .int .u8 (s.data.toList.getD m.toNat 0).toNat) ?_ (by simp only [Rep]) rfl rfl hd hK
    have hg : s[m.toNat]? = some s[m.toNat] := getElem?_pos s m.toNat hlt
    have hb : s.data.toList.getD m.toNat 0 = s[m.toNat] := by
      simp only [List.getD, Array.getElem?_toList]
      rw [Array.getElem?_eq_getElem (show m.toNat < s.data.size from hlt)]
      rfl
    rw [hb]
    simp [execOp, Instr.index, ex, ei, asIntOf, run_underlying hu, h0, hg]
  · rename_i len e k xs k' m e1 e2 e3
    rw [e2] at ex
    rw [e3] at ei
    simp only [Rep] at ex ei
    cases hok : tyOk P e && !tyAgg P e && Nat.beq (tySize P e) 1
    · rw [hok] at hr; exact bad hr hc
    · rw [hok] at hr
      subst hr
      simp only [Bool.and_eq_true, Bool.not_eq_true'] at hok
      have h0 : 0 ≤ m := hc (⟨0 ≤ m, inferInstance⟩) (by simp)
      have h1 : m < len := hc (⟨m < len, inferInstance⟩) (by simp)
      have h2 : len = xs.length := hc (⟨len = xs.length, inferInstance⟩) (by simp)
      have hs := Nat.eq_of_beq_eq_true hok.2
      have hu := under e1 (by simp)
      have hlt : m.toNat < xs.length := by omega
      have hp := part_one hok.1.1 hok.1.2 (us := xs.map (Value.int k)) (o := m.toNat * tySize P e) (v := .int k (xs.getD m.toNat 0)) (by rw [hs]; simp [List.getElem?_map, List.getD, List.getElem?_eq_getElem hlt]) w
      refine val_ok h (u := .int k (xs.getD m.toNat 0)) ?_ (by simp only [cond_true, Rep]) rfl rfl hd hK
      simp only [execOp, Instr.index, ex, ei, asIntOf, Sem.run_bind, Sem.run_pure, Result.andThen_ok, run_underlying hu, run_size (under_ok hok.1.1), Sem.run_ite, hp]
      rw [if_pos ⟨h0, h1⟩]
      simp
  · rename_i len e cs k m e1 e2 e3
    rw [e2] at ex
    rw [e3] at ei
    simp only [Rep] at ex ei
    obtain ⟨us, hx, hR⟩ := ex
    split at hr
    · rename_i k' xs hag
      have hI : intsOf k' cs = some xs := by
        revert hag
        unfold agInts
        split
        · rename_i k2 hk2
          cases hq : intsOf k2 cs with
          | none => intro h; cases h
          | some ys => intro h; cases h; exact hq
        · intro h; cases h
      have hus := intsOf_reps cs hI hR
      cases hok : tyOk P e && !tyAgg P e && Nat.beq (tySize P e) 1 && Nat.beq len xs.length
      · rw [hok] at hr; exact bad hr hc
      · rw [hok] at hr
        subst hr
        simp only [Bool.and_eq_true, Bool.not_eq_true'] at hok
        have h0 : 0 ≤ m := hc (⟨0 ≤ m, inferInstance⟩) (by simp)
        have h1 : m < len := hc (⟨m < len, inferInstance⟩) (by simp)
        have h2 : len = xs.length := Nat.eq_of_beq_eq_true hok.2
        have hs := Nat.eq_of_beq_eq_true hok.1.2
        have hu := under e1 (by simp)
        have hlt : m.toNat < xs.length := by omega
        have hp := part_one hok.1.1.1 hok.1.1.2 (us := xs.map (Value.int k')) (o := m.toNat * tySize P e) (v := .int k' (xs.getD m.toNat 0)) (by rw [hs]; simp [List.getElem?_map, List.getD, List.getElem?_eq_getElem hlt]) w
        refine val_ok h (u := .int k' (xs.getD m.toNat 0)) ?_ (by simp only [cond_true, Rep]) rfl rfl hd hK
        rw [hus] at hx
        simp only [execOp, Instr.index, hx, ei, asIntOf, Sem.run_bind, Sem.run_pure, Result.andThen_ok, run_underlying hu, run_size (under_ok hok.1.1.1), Sem.run_ite, hp]
        rw [if_pos ⟨h0, h1⟩]
        simp
    cases hok : tyOk P e
    · rw [hok] at hr; exact bad hr hc
    · rw [hok] at hr
      simp only [cond_true] at hr
      generalize hq : (cond (tyAgg P e) (cond (Nat.ble (m.toNat * tySize P e + tySize P e) cs.length) (Res.ret (.ag ((cs.drop (m.toNat * tySize P e)).take (tySize P e)))) .fail)
        (match cs[m.toNat * tySize P e]? with
          | some c => .ret c
          | none => .fail)) = q at hr
      obtain ⟨qv, qx, q1, q2, q3⟩ := q
      subst hr
      have h0 : 0 ≤ m := hc (⟨0 ≤ m, inferInstance⟩) (by simp)
      have h1 : m < len := hc (⟨m < len, inferInstance⟩) (by simp)
      have hu := under e1 (by simp)
      obtain ⟨u, hrun, k1, k2, k3⟩ := part_ok hok hR (fun c hcm => hc c (by simp [hcm])) hq
      refine val_ok (r := ⟨_, qx, [], [], []⟩) h (u := u) ?_ k1 rfl rfl hd hK
      simp only [execOp, Instr.index, hx, ei, asIntOf, Sem.run_bind, Sem.run_pure, Result.andThen_ok, run_underlying hu, run_size (under_ok hok), Sem.run_ite, hrun]
      rw [if_pos ⟨h0, h1⟩]
      simp
  · exact bad hr hc
theorem rep_ofZ {D : Nat → Prop} {w : World} {β : Nat → Option Loc} (z : Value) : Rep D w β (SV.ofZ z) z := by
  unfold SV.ofZ
  split
  · simp only [Rep]
    exact ⟨_, rfl, reps_ofV _⟩
  · exact Rep.ofV _
theorem ok_typeAssert (x : Operand) (t t' : TypeId) (ok : Bool) : StepOk P Γ ⟨dst, .typeAssert x t t' ok, type, pos, after, guard⟩ := by
  intro E D β S a w n r hr hc hd hn h K Q hK
  have ex := h.ev x
  simp only [step] at hr
  split at hr
  · exact bad hr hc
  · exact bad hr hc
  · have e := ‹S.ev x = SV.ifc _ _›
    have h2 := ‹tyU P t' = TypeDesc.invalid → False›
    have h1 := ‹∀ m, tyU P t' = TypeDesc.interface m → False›
    rw [e] at ex
    simp only [Rep] at ex
    obtain ⟨u, hu, hR⟩ := ex
    have hU := under (P := P) (t := t') rfl (fun e => h2 e)
    revert hr
    generalize hb : Nat.beq _ t' = bb
    intro hr
    cases bb
    · simp only [cond_false] at hr
      cases ok
      · exact bad hr hc
      · simp only [cond_true] at hr
        split at hr
        · rename_i z hz
          subst hr
          have hzr : ∀ w : World, (zeroValue t').run P w = .ok z w := by
            intro w
            unfold tyZero at hz
            split at hz
            · rename_i i hi
              simp [zeroValue, typeInfo, hi, hz]
            · cases hz
          refine val_ok h (u := .tuple #[z, .bool false]) ?_ (by simp only [Res.ret, Rep, Reps]; exact ⟨[z, .bool false], rfl, z, [.bool false], rfl, rep_ofZ z, .bool false, [], rfl, rfl, rfl⟩) rfl rfl hd hK
          have hne : ∀ (a b : TypeId), Nat.beq a b = false → ¬ a = b := fun a b hb e => by subst e; rw [Nat.beq_refl] at hb; cases hb
          have hne' := hne _ _ hb
          simp only [execOp, hu, Instr.typeAssert, run_underlying hU, Sem.run_bind, Result.andThen_ok]
          cases hq : tyU P t' <;> first | exact absurd hq (h1 _) | simp [hne', hzr]
        · exact bad hr hc
    · simp only [cond_true] at hr
      have heq := Nat.eq_of_beq_eq_true hb
      subst heq
      subst hr
      cases ok
      · refine val_ok h (u := u) ?_ hR rfl rfl hd hK
        simp only [execOp, hu, Instr.typeAssert, run_underlying hU, Sem.run_bind, Result.andThen_ok]
        cases hq : tyU P _ <;> first | exact absurd hq (h1 _) | simp
      · refine val_ok h (u := .tuple #[u, .bool true]) ?_ (by simp only [Res.ret, cond_true, Rep, Reps]; exact ⟨[u, .bool true], rfl, u, [.bool true], rfl, hR, .bool true, [], rfl, rfl, rfl⟩) rfl rfl hd hK
        simp only [execOp, hu, Instr.typeAssert, run_underlying hU, Sem.run_bind, Result.andThen_ok]
        cases hq : tyU P _ <;> first | exact absurd hq (h1 _) | simp
  · exact bad hr hc
end
end Go.Proofs.YtbfdchahapajaaaGreatDoor
namespace Go.Proofs.YtbfdchahapajaaaGreatDoor
open Go.RowKit
set_option linter.unusedVariables false
set_option linter.unusedSimpArgs false
section
variable {P : Program} {Γ : FuncId → Option Ctr}
variable {dst : Option Tmp} {type : TypeId} {pos : String} {after : Array Edge} {guard : Option (Nat × Bool)}
theorem run_indexAddr_slice {t e : TypeId} (hu : P.underlying t = some (.slice e)) {sz : Nat} {w : World} (hs : (sizeOf e).run P w = .ok sz w) {g o len cap : Nat} {k : IntKind} {i : Int} (h0 : 0 ≤ i) (h1 : i < len) :
    (Instr.indexAt t (.slice (some ⟨g, o, none⟩) len cap) (.int k i)).run P w = .ok (.pointer (some ⟨g, o + i.toNat * sz, none⟩)) w := by
  simp only [Instr.indexAt, asIntOf, Sem.run_bind, Sem.run_pure, Result.andThen_ok, run_underlying hu, Sem.run_ite, hs, add_at]
  rw [if_pos ⟨h0, h1⟩]
theorem run_indexAddr_array {t e : TypeId} {len : Nat} (hu : P.underlying t = some (.array len e)) {sz : Nat} {w : World} (hs : (sizeOf e).run P w = .ok sz w) {g o : Nat} {k : IntKind} {i : Int} (h0 : 0 ≤ i) (h1 : i < len) :
    (Instr.indexAt t (.pointer (some ⟨g, o, none⟩)) (.int k i)).run P w = .ok (.pointer (some ⟨g, o + i.toNat * sz, none⟩)) w := by
  simp only [Instr.indexAt, asIntOf, Sem.run_bind, Sem.run_pure, Result.andThen_ok, run_underlying hu, Sem.run_ite, hs, add_at, Instr.sureAddr]
  rw [if_pos ⟨h0, h1⟩]
theorem ok_indexAddr (t : TypeId) (x i : Operand) : StepOk P Γ ⟨dst, .indexAddr t x i, type, pos, after, guard⟩ := by
  intro E D β S a w n r hr hc hd hn h K Q hK
  have ex := h.ev x
  have ei := h.ev i
  simp only [step] at hr
  split at hr
  · rename_i k m e3
    rw [e3] at ei
    simp only [Rep] at ei
    unfold indexAddrS at hr
    split at hr
    · -- an array
      rename_i len e e1
      have hu := under e1 (by simp)
      cases hok : tyOk P e
      · rw [hok] at hr; exact bad hr hc
      rw [hok] at hr
      simp only [cond_true] at hr
      have hsz := run_size (under_ok hok) w
      split at hr
      · rename_i l aa j ex'
        rw [ex'] at ex
        simp only [Rep] at ex
        obtain ⟨L, hL, hnil, hx⟩ := ex
        split at hr
        · subst hr
          have h0 : 0 ≤ m := hc (⟨0 ≤ m, inferInstance⟩) (by simp)
          have h1 : m < len := hc (⟨m < len, inferInstance⟩) (by simp)
          refine val_ok h (u := .pointer (some ⟨L.g, aa * L.wd + (j + m.toNat * tySize P e), none⟩)) ?_ (by simp only [Rep]; exact ⟨L, hL, hnil, rfl⟩) rfl rfl hd hK
          simp only [execOp, hx, ei, Sem.run_bind, run_indexAddr_array hu hsz h0 h1, Result.andThen_ok, Sem.run_pure, Nat.add_assoc]
        · rename_i ty d hb
          cases hq : (Nat.beq aa 0 && Nat.beq j 0 && Nat.beq (tySize P e) d.wd)
          · rw [hq] at hr; exact bad hr hc
          · rw [hq] at hr
            subst hr
            simp only [Bool.and_eq_true] at hq
            have a0 := Nat.eq_of_beq_eq_true hq.1.1
            have j0 := Nat.eq_of_beq_eq_true hq.1.2
            have sz := Nat.eq_of_beq_eq_true hq.2
            subst a0 j0
            have h0 : 0 ≤ m := hc (⟨0 ≤ m, inferInstance⟩) (by simp)
            have h1 : m < len := hc (⟨m < len, inferInstance⟩) (by simp)
            obtain ⟨L', hL', hB⟩ := h.hp l _ hb
            rw [hL] at hL'
            cases hL'
            have hw : L.wd = d.wd := hB.2.1
            refine val_ok h (u := .pointer (some ⟨L.g, m.toNat * L.wd + 0, none⟩)) ?_ (by simp only [cond_true, Rep]; exact ⟨L, hL, hnil, rfl⟩) rfl rfl hd hK
            simp only [execOp, hx, ei, Sem.run_bind, run_indexAddr_array hu hsz h0 h1, Result.andThen_ok, Sem.run_pure, Nat.zero_mul, Nat.zero_add, Nat.add_zero, sz, hw]
        · exact bad hr hc
      · exact bad hr hc
    · -- a slice
      rename_i e e1
      have hu := under e1 (by simp)
      cases hok : tyOk P e
      · rw [hok] at hr; exact bad hr hc
      rw [hok] at hr
      simp only [cond_true] at hr
      have hsz := run_size (under_ok hok) w
      split at hr
      · -- data
        rename_i d ex'
        rw [ex'] at ex
        simp only [Rep, RepDat] at ex
        obtain ⟨A, c, hx, _, hcell⟩ := ex
        cases hq : Nat.beq (tySize P e) d.wd
        · rw [hq] at hr; exact bad hr hc
        · rw [hq] at hr
          subst hr
          have sz := Nat.eq_of_beq_eq_true hq
          have h0 : 0 ≤ m := hc (⟨0 ≤ m, inferInstance⟩) (by simp)
          have h1 : m < d.len := hc (⟨m < d.len, inferInstance⟩) (by simp)
          obtain ⟨g, off, hA, hD, hcell2⟩ := hcell (by omega)
          subst hA
          refine val_ok h (u := .pointer (some ⟨g, off + (m.toNat * d.wd + 0), none⟩)) ?_ (by simp only [cond_true, Rep]; exact ⟨g, off, rfl, hD, fun j' hj' => hcell2 m.toNat j' (by omega) hj'⟩) rfl rfl hd hK
          simp only [execOp, hx, ei, Sem.run_bind, run_indexAddr_slice hu hsz h0 h1, Result.andThen_ok, Sem.run_pure, sz, Nat.add_zero]
      · rename_i l ex'
        rw [ex'] at ex
        simp only [Rep] at ex
        obtain ⟨L, hL, hx⟩ := ex
        split at hr
        · rename_i ty d hb
          cases hq : Nat.beq (tySize P e) d.wd
          · rw [hq] at hr; exact bad hr hc
          · rw [hq] at hr
            subst hr
            have sz := Nat.eq_of_beq_eq_true hq
            have h0 : 0 ≤ m := hc (⟨0 ≤ m, inferInstance⟩) (by simp)
            have h1 : m < d.len := hc (⟨m < d.len, inferInstance⟩) (by simp)
            obtain ⟨L', hL', hB⟩ := h.hp l _ hb
            rw [hL] at hL'
            cases hL'
            obtain ⟨hw, hlen, hB⟩ := hB
            have hnil : L.nil = false := by
              rcases hB with ⟨_, h0⟩ | ⟨h2, _⟩
              · omega
              · exact h2
            have hx' : a.eval x = .slice (some ⟨L.g, 0, none⟩) d.len L.cap := by rw [hx]; simp [Loc.val, hnil, hlen]
            refine val_ok h (u := .pointer (some ⟨L.g, m.toNat * L.wd + 0, none⟩)) ?_ (by simp only [cond_true, Rep]; exact ⟨L, hL, hnil, rfl⟩) rfl rfl hd hK
            simp only [execOp, hx', ei, Sem.run_bind, run_indexAddr_slice hu hsz h0 h1, Result.andThen_ok, Sem.run_pure, Nat.zero_add, Nat.add_zero, sz, hw]
        · rename_i ty wd k cs hb
          cases hq : Nat.beq (tySize P e) wd
          · rw [hq] at hr; exact bad hr hc
          · rw [hq] at hr
            subst hr
            have sz := Nat.eq_of_beq_eq_true hq
            have h0 : 0 ≤ m := hc (⟨0 ≤ m, inferInstance⟩) (by simp)
            have h1 : m < k := hc (⟨m < k, inferInstance⟩) (by simp)
            obtain ⟨L', hL', hB⟩ := h.hp l _ hb
            rw [hL] at hL'
            cases hL'
            obtain ⟨hw, hlen, xs, _, _, hB⟩ := hB
            have hnil : L.nil = false := by
              rcases hB with ⟨_, h0⟩ | ⟨h2, _⟩
              · omega
              · exact h2
            have hx' : a.eval x = .slice (some ⟨L.g, 0, none⟩) k L.cap := by rw [hx]; simp [Loc.val, hnil, hlen]
            refine val_ok h (u := .pointer (some ⟨L.g, m.toNat * L.wd + 0, none⟩)) ?_ (by simp only [cond_true, Rep]; exact ⟨L, hL, hnil, rfl⟩) rfl rfl hd hK
            simp only [execOp, hx', ei, Sem.run_bind, run_indexAddr_slice hu hsz h0 h1, Result.andThen_ok, Sem.run_pure, Nat.zero_add, Nat.add_zero, sz, hw]
        · exact bad hr hc
      · rename_i l off len cap ex'
        rw [ex'] at ex
        simp only [Rep] at ex
        obtain ⟨L, hL, A, c', hx, _, hat, _, _⟩ := ex
        split at hr
        · cases hq : Nat.beq off 0
          · rw [hq] at hr; exact bad hr hc
          · rw [hq] at hr
            have o0 := Nat.eq_of_beq_eq_true hq
            subst o0 hr
            have h0 : 0 ≤ m := hc (⟨0 ≤ m, inferInstance⟩) (by simp)
            have h1 : m < len := hc (⟨m < len, inferInstance⟩) (by simp)
            obtain ⟨hnil, hA⟩ := hat (by omega)
            subst hA
            refine val_ok h (u := .pointer (some ⟨L.g, 0 * L.wd + m.toNat * tySize P e, none⟩)) ?_ (by simp only [cond_true, Rep]; exact ⟨L, hL, hnil, rfl⟩) rfl rfl hd hK
            simp only [execOp, hx, ei, Sem.run_bind, run_indexAddr_slice hu hsz h0 h1, Result.andThen_ok, Sem.run_pure]
        · rename_i ty d hb
          cases hq : Nat.beq (tySize P e) d.wd
          · rw [hq] at hr; exact bad hr hc
          · rw [hq] at hr
            subst hr
            have sz := Nat.eq_of_beq_eq_true hq
            have h0 : 0 ≤ m := hc (⟨0 ≤ m, inferInstance⟩) (by simp)
            have h1 : m < len := hc (⟨m < len, inferInstance⟩) (by simp)
            obtain ⟨hnil, hA⟩ := hat (by omega)
            subst hA
            obtain ⟨L', hL', hB⟩ := h.hp l _ hb
            rw [hL] at hL'
            cases hL'
            have hw : L.wd = d.wd := hB.2.1
            refine val_ok h (u := .pointer (some ⟨L.g, (off + m.toNat) * L.wd + 0, none⟩)) ?_ (by simp only [cond_true, Rep]; exact ⟨L, hL, hnil, rfl⟩) rfl rfl hd hK
            simp only [execOp, hx, ei, Sem.run_bind, run_indexAddr_slice hu hsz h0 h1, Result.andThen_ok, Sem.run_pure, Nat.add_zero, sz, hw, Nat.add_mul]
        · rename_i ty d hb
          cases hq : Nat.beq (tySize P e) d.wd
          · rw [hq] at hr; exact bad hr hc
          · rw [hq] at hr
            subst hr
            have sz := Nat.eq_of_beq_eq_true hq
            have h0 : 0 ≤ m := hc (⟨0 ≤ m, inferInstance⟩) (by simp)
            have h1 : m < len := hc (⟨m < len, inferInstance⟩) (by simp)
            obtain ⟨hnil, hA⟩ := hat (by omega)
            subst hA
            obtain ⟨L', hL', hB⟩ := h.hp l _ hb
            rw [hL] at hL'
            cases hL'
            have hw : L.wd = d.wd := hB.1
            refine val_ok h (u := .pointer (some ⟨L.g, (off + m.toNat) * L.wd + 0, none⟩)) ?_ (by simp only [cond_true, Rep]; exact ⟨L, hL, hnil, rfl⟩) rfl rfl hd hK
            simp only [execOp, hx, ei, Sem.run_bind, run_indexAddr_slice hu hsz h0 h1, Result.andThen_ok, Sem.run_pure, Nat.add_zero, sz, hw, Nat.add_mul]
        · exact bad hr hc
      · exact bad hr hc
    · exact bad hr hc
  · exact bad hr hc
theorem run_sliceBounds {isS : Bool} {len cap : Nat} {lo hi : Option Value} {a b : Int} {w : World} (hlo : (match lo with | none => a = 0 | some v => ∃ k, v = .int k a)) (hhi : (match hi with | none => b = len | some v => ∃ k, v = .int k b))
    (h0 : 0 ≤ a) (h1 : a ≤ b) (h2 : b ≤ cap) : (Instr.sliceBounds isS len cap lo hi none).run P w = .ok (a.toNat, b.toNat, cap) w := by
  have bd : ∀ (k : IntKind) (i : Int) (y : Nat) (c : BoundsCode), 0 ≤ i → i ≤ y → (Instr.sliceBound (.int k i) y c).run P w = .ok i.toNat w := by
    intro k i y c p q
    simp only [Instr.sliceBound, asIntOf, Sem.run_bind, Sem.run_pure, Result.andThen_ok, Sem.run_ite]
    rw [if_pos ⟨p, q⟩]
  cases hi with
  | none =>
    simp only at hhi
    cases lo with
    | none =>
      simp only at hlo
      simp [Instr.sliceBounds, hlo, hhi]
    | some v =>
      obtain ⟨k, rfl⟩ := hlo
      have := bd k a len (if (none : Option Value).isSome then .slice3C else .sliceB) h0 (by omega)
      simp only [Instr.sliceBounds, Sem.run_bind, Sem.run_pure, Result.andThen_ok, this]
      simp [hhi]
  | some u =>
    obtain ⟨k', rfl⟩ := hhi
    have q1 := bd k' b cap (if isS then .sliceAcap else .sliceAlen) (by omega) h2
    cases lo with
    | none =>
      simp only at hlo
      simp only [Instr.sliceBounds, Sem.run_bind, Sem.run_pure, Result.andThen_ok, q1]
      simp [hlo]
    | some v =>
      obtain ⟨k, rfl⟩ := hlo
      have q2 := bd k a b.toNat (if (none : Option Value).isSome then .slice3C else .sliceB) h0 (by omega)
      simp only [Instr.sliceBounds, Sem.run_bind, Sem.run_pure, Result.andThen_ok, q1, q2]
theorem run_sliceBounds3 {isS : Bool} {len cap : Nat} {lo : Option Value} {a b c : Int} {kb kc : IntKind} {w : World} (hlo : (match lo with | none => a = 0 | some v => ∃ k, v = .int k a))
    (h0 : 0 ≤ a) (h1 : a ≤ b) (h2 : b ≤ c) (h3 : c ≤ cap) : (Instr.sliceBounds isS len cap lo (some (.int kb b)) (some (.int kc c))).run P w = .ok (a.toNat, b.toNat, c.toNat) w := by
  have bd : ∀ (k : IntKind) (i : Int) (y : Nat) (c : BoundsCode), 0 ≤ i → i ≤ y → (Instr.sliceBound (.int k i) y c).run P w = .ok i.toNat w := by
    intro k i y c p q
    simp only [Instr.sliceBound, asIntOf, Sem.run_bind, Sem.run_pure, Result.andThen_ok, Sem.run_ite]
    rw [if_pos ⟨p, q⟩]
  have q0 := bd kc c cap (if isS then .slice3Acap else .slice3Alen) (by omega) h3
  have q1 := bd kb b c.toNat .slice3B (by omega) (by omega)
  cases lo with
  | none =>
    simp only at hlo
    simp only [Instr.sliceBounds, Sem.run_bind, Sem.run_pure, Result.andThen_ok, q0, q1]
    simp [hlo]
  | some v =>
    obtain ⟨k, rfl⟩ := hlo
    have q2 := bd k a b.toNat (if (some (Value.int kc c) : Option Value).isSome then .slice3C else .sliceB) h0 (by omega)
    simp only [Instr.sliceBounds, Sem.run_bind, Sem.run_pure, Result.andThen_ok, q0, q1, q2]
theorem hi_rep {E : Env} {D : Nat → Prop} {β : Nat → Option Loc} {S : Sst} {a : Act} {w : World} (h : St E D β S a w) {o : Option Operand} {d z : Int} (hb : boundS (o.map S.ev) d = some z) (hs : (o.map S.ev).isSome = true) :
    ∃ k, o.map a.eval = some (.int k z) := by
  cases o with
  | none => cases hs
  | some x =>
    simp only [Option.map_some] at hb ⊢
    have := h.ev x
    unfold boundS at hb
    split at hb
    · rename_i e; cases e
    · rename_i e
      simp only [Option.some.injEq] at e hb
      rw [e] at this
      simp only [Rep] at this
      exact ⟨_, by rw [this, hb]⟩
    · cases hb
theorem max_rep {E : Env} {D : Nat → Prop} {β : Nat → Option Loc} {S : Sst} {a : Act} {w : World} (h : St E D β S a w) {o : Option Operand} {k : IntKind} {z : Int} (hb : o.map S.ev = some (.v (.int k z))) :
    o.map a.eval = some (.int k z) := by
  cases o with
  | none => cases hb
  | some x =>
    simp only [Option.map_some, Option.some.injEq] at hb ⊢
    have := h.ev x
    rw [hb] at this
    simpa only [Rep] using this
theorem bound_rep {E : Env} {D : Nat → Prop} {β : Nat → Option Loc} {S : Sst} {a : Act} {w : World} (h : St E D β S a w) {o : Option Operand} {d z : Int} (hb : boundS (o.map S.ev) d = some z) :
    (match o.map a.eval with | none => z = d | some v => ∃ k, v = .int k z) := by
  cases o with
  | none => simp only [Option.map_none, boundS, Option.some.injEq] at hb ⊢; exact hb.symm
  | some x =>
    simp only [Option.map_some] at hb ⊢
    have := h.ev x
    unfold boundS at hb
    split at hb
    · rename_i e; cases e
    · rename_i e
      simp only [Option.some.injEq] at e hb
      rw [e] at this
      simp only [Rep] at this
      exact ⟨_, by rw [this, hb]⟩
    · cases hb
theorem sub_len (d : Dat) {a n : Nat} (h : a + n ≤ d.len) : (d.sub a n).len = n := by
  cases d <;> simp only [Dat.sub, Dat.len, List.length_take, List.length_drop] at h ⊢ <;> omega
theorem sub_wd (d : Dat) (a n : Nat) : (d.sub a n).wd = d.wd := by cases d <;> rfl
theorem getD_sub {α : Type} (l : List α) {a n i : Nat} (z : α) (hi : i < n) : ((l.drop a).take n).getD i z = l.getD (a + i) z := by
  simp only [List.getD, List.getElem?_take, if_pos hi, List.getElem?_drop]
theorem sub_ok {D : Nat → Prop} {w : World} (d : Dat) {a n i j : Nat} {x : Value} (hi : i < n) (h : d.ok D w (a + i) j x) : (d.sub a n).ok D w i j x := by
  cases d <;> simp only [Dat.sub, Dat.ok, getD_sub _ _ hi] at h ⊢ <;> exact h
theorem sub_slice {D : Nat → Prop} {w : World} {d : Dat} {u : Value} (h : RepDat D w d u) {a b : Nat} (h1 : a ≤ b) (h2 : b ≤ d.len) :
    ∃ A c, u = .slice A d.len c ∧ d.len ≤ c ∧ RepDat D w (d.sub a (b - a)) (.slice (if c = a then A else A.map (·.add (a * d.wd))) (b - a) (c - a)) := by
  obtain ⟨A, c, hu, hc, h⟩ := h
  refine ⟨A, c, hu, hc, ?_⟩
  unfold RepDat
  rw [sub_len d (by omega), sub_wd]
  refine ⟨_, _, rfl, by omega, fun hn => ?_⟩
  obtain ⟨g, off, hA, hD, hx⟩ := h (by omega)
  subst hA
  rw [if_neg (by omega)]
  refine ⟨g, off + a * d.wd, by simp [add_at], hD, fun i j hi hj => ?_⟩
  obtain ⟨x, h3, h4⟩ := hx (a + i) j (by omega) hj
  refine ⟨x, ?_, sub_ok d hi h4⟩
  rw [← h3]
  congr 2
  rw [Nat.add_mul]; omega
theorem slWd_of {t : TypeId} {d : Dat} (h : slWd P t d = true) : ∃ e, P.underlying t = some (.slice e) ∧ tyOk P e = true ∧ tySize P e = d.wd := by
  unfold slWd at h
  split at h
  · rename_i e he
    simp only [Bool.and_eq_true] at h
    exact ⟨e, under he (by simp), h.1, Nat.eq_of_beq_eq_true h.2⟩
  · cases h
theorem arWd_of {t : TypeId} {d : Dat} (h : arWd P t d = true) : ∃ len e, P.underlying t = some (.array len e) ∧ tyU P t = .array len e ∧ tyOk P e = true ∧ tySize P e = d.wd := by
  unfold arWd at h
  split at h
  · rename_i len e he
    simp only [Bool.and_eq_true] at h
    exact ⟨len, e, under he (by simp), he, h.1, Nat.eq_of_beq_eq_true h.2⟩
  · cases h
theorem run_slice_of {t e : TypeId} (hu : P.underlying t = some (.slice e)) {sz : Nat} {w : World} (hs : (sizeOf e).run P w = .ok sz w) {A : Option Addr} {len cap : Nat} {lo hi : Option Value} {a b : Int}
    (hlo : (match lo with | none => a = 0 | some v => ∃ k, v = .int k a)) (hhi : (match hi with | none => b = len | some v => ∃ k, v = .int k b)) (h0 : 0 ≤ a) (h1 : a ≤ b) (h2 : b ≤ cap) :
    (Instr.sliceAt t (.slice A len cap) lo hi none).run P w = .ok (.slice (if cap = a.toNat then A else A.map (·.add (a.toNat * sz))) (b.toNat - a.toNat) (cap - a.toNat)) w := by
  have hb := run_sliceBounds (P := P) (isS := true) (len := len) (cap := cap) (w := w) hlo hhi h0 h1 h2
  simp [Instr.sliceAt, Instr.slice, run_underlying hu, hb, hs]
theorem ok_slice (t : TypeId) (x : Operand) (lo hi mx : Option Operand) : StepOk P Γ ⟨dst, .slice t x lo hi mx, type, pos, after, guard⟩ := by
  intro E D β S a w n r hr hc hd hn h K Q hK
  have ex := h.ev x
  have ex' := ex
  simp only [step] at hr
  generalize hX : S.ev x = X at hr ex
  unfold sliceS at hr
  split at hr
  · -- a string
    rename_i s
    split at hr
    · rename_i p q e1 e2 e3 e4
      subst hr
      have hlo := bound_rep h e1
      have hhi := bound_rep h e2
      have h0 : 0 ≤ p := hc (⟨0 ≤ p, inferInstance⟩) (by simp)
      have h1 : p ≤ q := hc (⟨p ≤ q, inferInstance⟩) (by simp)
      have h2 : q ≤ s.size := hc (⟨q ≤ s.size, inferInstance⟩) (by simp)
      have hu : P.underlying t = some .string := by
        unfold isStr at e3
        split at e3
        · rename_i he; exact under he (by simp)
        · cases e3
      have hm : mx = none := by cases mx <;> simp_all
      subst hm
      simp only [Rep] at ex
      have hb := run_sliceBounds (P := P) (isS := false) (len := s.size) (cap := s.size) (w := w) hlo hhi h0 h1 h2
      refine val_ok h (u := .string (s.extract p.toNat q.toNat)) ?_ (by simp only [Rep]) rfl rfl hd hK
      simp [execOp, Instr.sliceAt, Instr.slice, run_underlying hu, ex, hb]
    · exact bad hr hc
  · -- data
    rename_i d
    split at hr
    · rename_i p q e1 e2 e3 e4
      subst hr
      have hlo := bound_rep h e1
      have hhi := bound_rep h e2
      have h0 : 0 ≤ p := hc (⟨0 ≤ p, inferInstance⟩) (by simp)
      have h1 : p ≤ q := hc (⟨p ≤ q, inferInstance⟩) (by simp)
      have h2 : q ≤ d.len := hc (⟨q ≤ d.len, inferInstance⟩) (by simp)
      have hm : mx = none := by cases mx <;> simp_all
      subst hm
      simp only [Rep] at ex
      obtain ⟨e, he, hok, hsz⟩ := slWd_of e4
      obtain ⟨A, c, hx, hcap, hR⟩ := sub_slice ex (a := p.toNat) (b := q.toNat) (by omega) (by omega)
      refine val_ok h (u := _) ?_ (by simp only [Rep]; exact hR) rfl rfl hd hK
      rw [← hsz]
      simp only [execOp, hx, Option.map_none, Sem.run_bind, run_slice_of he (run_size (under_ok hok) w) hlo hhi h0 h1 (show q ≤ (c : Int) by omega), Result.andThen_ok, Sem.run_pure]
    · rename_i p q kc z e1 e2 e3 e4
      cases hs : (hi.map S.ev).isSome
      · rw [hs] at hr; exact bad hr hc
      · rw [hs] at hr
        simp only [cond_true] at hr
        subst hr
        have hlo := bound_rep h e1
        obtain ⟨kb, hhi⟩ := hi_rep h e2 hs
        have hmx := max_rep h e3
        have h0 : 0 ≤ p := hc (⟨0 ≤ p, inferInstance⟩) (by simp)
        have h1 : p ≤ q := hc (⟨p ≤ q, inferInstance⟩) (by simp)
        have h2 : q ≤ d.len := hc (⟨q ≤ d.len, inferInstance⟩) (by simp)
        have h3 : z = q := hc (⟨z = q, inferInstance⟩) (by simp)
        subst h3
        simp only [Rep] at ex
        obtain ⟨e, he, hok, hsz⟩ := slWd_of e4
        obtain ⟨A, c, hx, hcap, hA⟩ := ex
        have hbd := run_sliceBounds3 (P := P) (isS := true) (len := d.len) (cap := c) (kb := kb) (kc := kc) (w := w) hlo h0 h1 (Int.le_refl z) (by omega)
        refine val_ok h (u := .slice (if z.toNat = p.toNat then A else A.map (·.add (p.toNat * d.wd))) (z.toNat - p.toNat) (z.toNat - p.toNat)) ?_ ?_ rfl rfl hd hK
        · rw [← hsz]
          simp only [execOp, hx, hhi, hmx, Instr.sliceAt, Instr.slice, Sem.run_bind, run_underlying he, hbd, run_size (under_ok hok) w, Result.andThen_ok, Sem.run_pure]
        · simp only [Rep, RepDat]
          rw [sub_len d (by omega), sub_wd]
          refine ⟨⟨_, _, rfl, Nat.le_refl _, fun hn => ?_⟩, _, rfl⟩
          obtain ⟨g, off, hA, hD, hx2⟩ := hA (by omega)
          subst hA
          rw [if_neg (by omega)]
          refine ⟨g, off + p.toNat * d.wd, by simp [add_at], hD, fun i j hi hj => ?_⟩
          obtain ⟨x, h3, h4⟩ := hx2 (p.toNat + i) j (by omega) hj
          refine ⟨x, ?_, sub_ok d hi h4⟩
          rw [← h3]
          congr 2
          rw [Nat.add_mul]; omega
    · exact bad hr hc
  · -- a row
    rename_i l
    split at hr
    · rename_i ty d hb
      split at hr
      · rename_i p q e1 e2 e3 e4
        subst hr
        have hlo := bound_rep h e1
        have hhi := bound_rep h e2
        have h0 : 0 ≤ p := hc (⟨0 ≤ p, inferInstance⟩) (by simp)
        have h1 : p ≤ q := hc (⟨p ≤ q, inferInstance⟩) (by simp)
        have h2 : q ≤ d.len := hc (⟨q ≤ d.len, inferInstance⟩) (by simp)
        have hm : mx = none := by cases mx <;> simp_all
        subst hm
        simp only [Rep] at ex
        obtain ⟨L, hL, hx⟩ := ex
        obtain ⟨L', hL', hB⟩ := h.hp l _ hb
        rw [hL] at hL'
        cases hL'
        obtain ⟨hw, hlen, hB⟩ := hB
        obtain ⟨e, he, hok, hsz⟩ := slWd_of e4
        rcases hB with ⟨hnil, h00⟩ | ⟨hnil, hcap, hmax, _⟩
        · have p0 : p = 0 := by omega
          have q0 : q = 0 := by omega
          subst p0 q0
          have hx' : a.eval x = .slice none 0 0 := by rw [hx]; simp [Loc.val, hnil]
          refine val_ok h (u := .slice none 0 0) ?_ (by simp only [Rep]; exact ⟨L, hL, none, 0, rfl, by simp, fun h => by simp at h, (fun k h => by cases h), by simp⟩) rfl rfl hd hK
          have hhi' : (match hi.map a.eval with | none => (0 : Int) = ((0 : Nat) : Int) | some v => ∃ k, v = .int k 0) := by
            cases hi with
            | none => simp
            | some y => simpa using hhi
          simp only [execOp, hx', Option.map_none, Sem.run_bind, run_slice_of he (run_size (under_ok hok) w) hlo hhi' (by omega) (by omega) (show (0 : Int) ≤ ((0 : Nat) : Int) by omega), Result.andThen_ok, Sem.run_pure]
          simp
        · have hx' : a.eval x = .slice (some ⟨L.g, 0, none⟩) d.len L.cap := by rw [hx]; simp [Loc.val, hnil, hlen]
          refine val_ok h (u := .slice (if L.cap = p.toNat then some ⟨L.g, 0, none⟩ else some ⟨L.g, p.toNat * L.wd, none⟩) (q.toNat - p.toNat) (L.cap - p.toNat)) ?_
            (by simp only [Rep]; exact ⟨L, hL, _, _, rfl, by omega, fun hlt => ⟨hnil, by rw [if_neg (by omega)]⟩, (fun k h => by cases h), by omega⟩) rfl rfl hd hK
          simp only [execOp, hx', Option.map_none, Sem.run_bind, run_slice_of he (run_size (under_ok hok) w) hlo hhi h0 h1 (show q ≤ (L.cap : Int) by omega), Result.andThen_ok, Sem.run_pure, hsz, hw]
          simp [add_at]
      · exact bad hr hc
    · exact bad hr hc
  · -- a part
    rename_i l off len cap
    cases hq : wdIn P (S.H l) t
    · rw [hq] at hr; exact bad hr hc
    · rw [hq] at hr
      simp only [cond_true] at hr
      split at hr
      · rename_i p q e1 e2 e3
        subst hr
        have hlo := bound_rep h e1
        have hhi := bound_rep h e2
        have h0 : 0 ≤ p := hc (⟨0 ≤ p, inferInstance⟩) (by simp)
        have h1 : p ≤ q := hc (⟨p ≤ q, inferInstance⟩) (by simp)
        have h2 : q ≤ len := hc (⟨q ≤ len, inferInstance⟩) (by simp)
        have hm : mx = none := by cases mx <;> simp_all
        subst hm
        simp only [Rep] at ex
        obtain ⟨L, hL, A, c', hx, hlc, hat, _, hoff⟩ := ex
        have hwd : ∃ e, P.underlying t = some (.slice e) ∧ tyOk P e = true ∧ tySize P e = L.wd := by
          unfold wdIn at hq
          split at hq
          · rename_i ty d hb
            obtain ⟨e, he, hok, hsz⟩ := slWd_of hq
            obtain ⟨L', hL', hB⟩ := h.hp l _ hb
            rw [hL] at hL'
            cases hL'
            exact ⟨e, he, hok, by rw [hsz]; exact hB.1.symm⟩
          · rename_i ty d hb
            obtain ⟨e, he, hok, hsz⟩ := slWd_of hq
            obtain ⟨L', hL', hB⟩ := h.hp l _ hb
            rw [hL] at hL'
            cases hL'
            exact ⟨e, he, hok, by rw [hsz]; exact hB.2.1.symm⟩
          · cases hq
        obtain ⟨e, he, hok, hsz⟩ := hwd
        refine val_ok h (u := .slice (if c' = p.toNat then A else A.map (·.add (p.toNat * L.wd))) (q.toNat - p.toNat) (c' - p.toNat)) ?_
          (by simp only [Rep]; exact ⟨L, hL, _, _, rfl, by omega, fun hlt => by
                obtain ⟨hnil, hA⟩ := hat (by omega)
                refine ⟨hnil, ?_⟩
                rw [if_neg (by omega), hA]
                simp [add_at, Nat.add_mul], (fun k h => by cases h), by omega⟩) rfl rfl hd hK
        simp only [execOp, hx, Option.map_none, Sem.run_bind, run_slice_of he (run_size (under_ok hok) w) hlo hhi h0 h1 (show q ≤ (c' : Int) by omega), Result.andThen_ok, Sem.run_pure, hsz]
      · exact bad hr hc
  · -- an array
    rename_i l
    split at hr
    · rename_i len e ty d e0 hb
      split at hr
      · rename_i p q e1 e2 e3 e4
        subst hr
        have hlo := bound_rep h e1
        have hhi := bound_rep h e2
        have h0 : 0 ≤ p := hc (⟨0 ≤ p, inferInstance⟩) (by simp)
        have h1 : p ≤ q := hc (⟨p ≤ q, inferInstance⟩) (by simp)
        have h2 : q ≤ len := hc (⟨q ≤ len, inferInstance⟩) (by simp)
        have h3 : len = d.len := hc (⟨len = d.len, inferInstance⟩) (by simp)
        have hm : mx = none := by cases mx <;> simp_all
        subst hm
        simp only [Rep] at ex
        obtain ⟨L, hL, hnil, hx⟩ := ex
        obtain ⟨L', hL', hB⟩ := h.hp l _ hb
        rw [hL] at hL'
        cases hL'
        have hw : L.wd = d.wd := hB.2.1
        obtain ⟨len', e', he, he', hok, hsz⟩ := arWd_of e4
        rw [e0] at he'
        cases he'
        have hbd := run_sliceBounds (P := P) (isS := false) (len := len) (cap := len) (w := w) hlo hhi h0 h1 h2
        refine val_ok h (u := .slice (some (if len = p.toNat then ⟨L.g, 0, none⟩ else ⟨L.g, p.toNat * L.wd, none⟩)) (q.toNat - p.toNat) (len - p.toNat)) ?_
          (by simp only [Rep]; exact ⟨L, hL, _, _, rfl, by omega, fun hlt => ⟨hnil, by rw [if_neg (by omega)]⟩, (fun k h => by cases h; rfl), by have := hB.2.2; obtain ⟨_, _, _, _, h6⟩ := this; omega⟩) rfl rfl hd hK
        simp [execOp, Instr.sliceAt, run_underlying he, hx, Instr.sureAddr, hbd, run_size (under_ok hok), hsz, hw, add_at]
      · rename_i p q kc z e1 e2 e3 e4
        cases hs : (hi.map S.ev).isSome
        · rw [hs] at hr; exact bad hr hc
        · rw [hs] at hr
          simp only [cond_true] at hr
          subst hr
          have hlo := bound_rep h e1
          obtain ⟨kb, hhi⟩ := hi_rep h e2 hs
          have hmx := max_rep h e3
          have h0 : p = 0 := hc (⟨p = 0, inferInstance⟩) (by simp)
          have h1 : 0 ≤ q := hc (⟨0 ≤ q, inferInstance⟩) (by simp)
          have h2 : q ≤ z := hc (⟨q ≤ z, inferInstance⟩) (by simp)
          have hz0 : 0 < z := hc (⟨0 < z, inferInstance⟩) (by simp)
          have h3 : z ≤ len := hc (⟨z ≤ len, inferInstance⟩) (by simp)
          have h4 : len = d.len := hc (⟨len = d.len, inferInstance⟩) (by simp)
          have h5 : len ≤ 4294967296 := hc (⟨len ≤ 4294967296, inferInstance⟩) (by simp)
          subst h0
          simp only [Rep] at ex
          obtain ⟨L, hL, hnil, hx⟩ := ex
          obtain ⟨L', hL', hB⟩ := h.hp l _ hb
          rw [hL] at hL'
          cases hL'
          have hw : L.wd = d.wd := hB.2.1
          obtain ⟨len', e', he, he', hok, hsz⟩ := arWd_of e4
          rw [e0] at he'
          cases he'
          have hbd := run_sliceBounds3 (P := P) (isS := false) (len := len) (cap := len) (kb := kb) (kc := kc) (w := w) hlo (Int.le_refl 0) h1 h2 h3
          have hne : ¬ z.toNat = (0 : Int).toNat := by omega
          have hst := h.regrow (L' := ⟨L.g, d.wd, q.toNat, z.toNat, false⟩) (b' := .row e (d.sub 0 q.toNat)) hb hL (hn n (by simp)) (World.grownBy.refl w _) (fun _ => .inl ⟨hnil, rfl⟩) (fun _ => (h.dis l _ L hb hL hnil).1) (fun G => by
            obtain ⟨_, k2, us, k3, k4, k5, k6⟩ := hB
            refine ⟨(sub_wd d _ _).symm, (sub_len d (a := 0) (n := q.toNat) (by omega)).symm, .inr ⟨rfl, by rw [sub_len d (by omega)]; show q.toNat ≤ z.toNat; omega, by simp only [maxLen]; show z.toNat ≤ _; omega, us, ty, (0, 0), k3, noFr_zero _, ?_, fun i j hi hj => ?_⟩⟩
            · rw [sub_wd, k4]
              exact Nat.mul_le_mul_right _ (show z.toNat ≤ d.len by omega)
            · rw [sub_len d (by omega)] at hi
              rw [sub_wd] at hj ⊢
              obtain ⟨x, hx1, hx2⟩ := k5 i j (by have : z.toNat ≤ d.len := by omega
                                                 omega) hj
              exact ⟨x, hx1, Dat.ok_mono G _ _ _ _ (sub_ok d hi (by simpa using hx2))⟩)
          refine gen_ok (u := .slice (some ⟨L.g, 0, none⟩) q.toNat z.toNat) ?_ hst (by simp only [Rep]; exact ⟨_, upd_same _ _ _, by simp [Loc.val]⟩) hd hK
          simp [execOp, Instr.sliceAt, Instr.slice, run_underlying he, hx, hhi, hmx, Instr.sureAddr, hbd, run_size (under_ok hok), hsz, hw, add_at]
      · exact bad hr hc
    · exact bad hr hc
  · exact bad hr hc
end
end Go.Proofs.YtbfdchahapajaaaGreatDoor
namespace Go.Proofs.YtbfdchahapajaaaGreatDoor
open Go.RowKit
set_option linter.unusedVariables false
set_option linter.unusedSimpArgs false
section
variable {P : Program} {Γ : FuncId → Option Ctr}
variable {dst : Option Tmp} {type : TypeId} {pos : String} {after : Array Edge} {guard : Option (Nat × Bool)}
def SrcIn (D : Nat → Prop) (w : World) (d : Dat) (u : Value) : Prop :=
  ∃ A c, u = .slice A d.len c ∧ (0 < d.len → ∃ g off, A = some ⟨g, off, none⟩ ∧ ∀ i j, i < d.len → j < d.wd → ∃ x, w.cell? ⟨g, off + (i * d.wd + j), none⟩ = some x ∧ d.ok D w i j x)
theorem emptyDat_len {e : TypeId} {d : Dat} (h : emptyDat P e = some d) : d.len = 0 := by
  unfold emptyDat at h
  repeat' split at h
  all_goals first
    | (cases h; rfl)
    | (cases h; done)
    | (cases hq : intFields P _ <;> rw [hq] at h <;> first | (cases h; rfl) | (simp only [cond_false, Option.map_eq_some_iff] at h; obtain ⟨_, _, rfl⟩ := h; rfl))
theorem srcS_ok {E : Env} {D : Nat → Prop} {β : Nat → Option Loc} {S : Sst} {a : Act} {w : World} (h : St E D β S a w) {e : TypeId} {x : SV} {u : Value} {d : Dat} {rs : List Nat}
    (hs : srcS P S.H e x = some (d, rs)) (hx : Rep D w β x u) : SrcIn D w d u := by
  unfold srcS at hs
  split at hs
  · cases hs
    simp only [Rep, RepDat] at hx
    obtain ⟨A, c, h1, _, h2⟩ := hx
    exact ⟨A, c, h1, fun hn => let ⟨g, off, h3, _, h4⟩ := h2 hn; ⟨g, off, h3, h4⟩⟩
  · rename_i l
    split at hs
    · rename_i ty d' hb
      cases hs
      simp only [Rep] at hx
      obtain ⟨L, hL, hu⟩ := hx
      obtain ⟨L', hL', hB⟩ := h.hp l _ hb
      rw [hL] at hL'
      cases hL'
      obtain ⟨hw, hlen, hB⟩ := hB
      rcases hB with ⟨hnil, h0⟩ | ⟨hnil, hcap, _, us, ty', fr, h2, _, h3, h4⟩
      · exact ⟨none, 0, by rw [hu, h0]; simp [Loc.val, hnil], fun hn => by omega⟩
      · refine ⟨some ⟨L.g, 0, none⟩, L.cap, by rw [hu]; simp [Loc.val, hnil, hlen], fun hn => ⟨L.g, 0, rfl, fun i j hi hj => ?_⟩⟩
        obtain ⟨x, hx1, hx2⟩ := h4 i j hi hj
        exact ⟨x, by rw [cells_at h2, Nat.zero_add]; exact hx1, hx2⟩
    · cases hs
  · rename_i l off len cap
    have part : ∀ (d' : Dat) (us : List Value) (ty : TypeId) (fr : Nat × Nat) (L : Loc) (N : Nat), β l = some L → L.nil = false → L.wd = d'.wd → w.heap[L.g]? = some (.cells us.toArray ty fr) → N * d'.wd ≤ us.length → d'.len ≤ N →
        (∀ i j, i < d'.len → j < d'.wd → ∃ x, us[i * d'.wd + j]? = some x ∧ d'.ok D w i j x) → L.len = d'.len → SrcIn D w (d'.sub off len) u := by
      intro d' us ty fr L N hL hnil hw h2 h3 h5 h4 hLl
      simp only [Rep] at hx
      obtain ⟨L', hL', A, c', hu, hcc, hat, _, hle⟩ := hx
      rw [hL] at hL'
      cases hL'
      rw [hLl] at hle
      refine ⟨A, c', by rw [sub_len _ hle]; exact hu, fun hn => ?_⟩
      rw [sub_len _ hle] at hn ⊢
      rw [sub_wd]
      obtain ⟨_, hA⟩ := hat hn
      refine ⟨L.g, off * L.wd, hA, fun i j hi hj => ?_⟩
      obtain ⟨x, hx1, hx2⟩ := h4 (off + i) j (by omega) hj
      refine ⟨x, ?_, sub_ok d' hi hx2⟩
      rw [cells_at h2, ← hx1, hw]
      congr 1
      rw [Nat.add_mul]; omega
    split at hs
    · rename_i ty d' hb
      cases hs
      obtain ⟨L, hL, hw, hlen, hB⟩ := h.hp l _ hb
      rcases hB with ⟨hnil, h0⟩ | ⟨hnil, hcap, _, us, ty', fr, h2, _, h3, h4⟩
      · simp only [Rep] at hx
        obtain ⟨L', hL', A, c', hu, _, _, _, hle⟩ := hx
        rw [hL] at hL'
        cases hL'
        have hle' : off + len ≤ d'.len := by omega
        exact ⟨A, c', by rw [sub_len _ hle']; exact hu, fun hn => by rw [sub_len _ hle'] at hn; omega⟩
      · exact part d' us ty' fr L L.cap hL hnil hw h2 h3 hcap h4 hlen
    · rename_i ty d' hb
      cases hs
      obtain ⟨L, hL, hnil, hw, us, h2, h3, h4, h5⟩ := h.hp l _ hb
      exact part d' us ty (0, 0) L d'.len hL hnil hw h2 (Nat.le_of_eq h3.symm) (Nat.le_refl _) h4 h5
    · cases hs
  · simp only [Option.map_eq_some_iff, Prod.mk.injEq] at hs
    obtain ⟨d', hd', rfl, _⟩ := hs
    simp only [Rep] at hx
    have h0 := emptyDat_len hd'
    exact ⟨none, 0, by rw [h0]; exact hx, fun hn => by omega⟩
  · cases hs
theorem ok_oneCell {D : Nat → Prop} {w : World} {d : Dat} {i j : Nat} {x : Value} (h : d.ok D w i j x) : x.oneCell' = true := by
  cases d with
  | mix sh xs =>
    simp only [Dat.ok, mixOk] at h
    split at h <;> first | (exact h.elim) | (subst h; rfl) | (obtain ⟨A, c, rfl, _⟩ := h; rfl)
  | _ => simp only [Dat.ok] at h <;> first | (subst h; rfl) | (obtain ⟨A, c, rfl, _⟩ := h; rfl)
theorem src_cells {D : Nat → Prop} {w : World} {d : Dat} {u : Value} (h : SrcIn D w d u) :
    ∃ A c, ∃ news : List Value, u = .slice A d.len c ∧ news.length = d.len * d.wd ∧ (∀ x ∈ news, x.oneCell' = true) ∧
      (∀ i j, i < d.len → j < d.wd → ∃ x, news[i * d.wd + j]? = some x ∧ d.ok D w i j x) ∧ (A = none → news = []) ∧ ∀ ad, A = some ad → ∀ j x, news[j]? = some x → w.cell? (ad.add j) = some x := by
  obtain ⟨A, c, hu, h⟩ := h
  rcases Nat.eq_zero_or_pos d.len with h0 | h0
  · exact ⟨A, c, [], hu, by simp [h0], by simp, fun i j hi _ => by omega, fun _ => rfl, fun ad _ j x hx => by simp at hx⟩
  · obtain ⟨g, off, hA, hx⟩ := h h0
    have cell : ∀ m, m < d.len * d.wd → ∃ i j x, i < d.len ∧ j < d.wd ∧ m = i * d.wd + j ∧ w.cell? ⟨g, off + m, none⟩ = some x ∧ d.ok D w i j x := by
      intro m hm
      have hw : 0 < d.wd := by
        rcases Nat.eq_zero_or_pos d.wd with h | h
        · rw [h] at hm; omega
        · exact h
      have e : m = m / d.wd * d.wd + m % d.wd := by rw [Nat.mul_comm]; exact (Nat.div_add_mod m d.wd).symm
      have hi : m / d.wd < d.len := Nat.div_lt_of_lt_mul (by rw [Nat.mul_comm]; exact hm)
      have hj := Nat.mod_lt m hw
      obtain ⟨x, h1, h2⟩ := hx _ _ hi hj
      exact ⟨_, _, x, hi, hj, e, by rw [e]; exact h1, h2⟩
    refine ⟨A, c, (List.range (d.len * d.wd)).map (fun m => (w.cell? ⟨g, off + m, none⟩).getD undef), hu, by simp, ?_, ?_, (fun hn => by rw [hn] at hA; cases hA), ?_⟩
    · intro x hx'
      simp only [List.mem_map, List.mem_range] at hx'
      obtain ⟨m, hm, rfl⟩ := hx'
      obtain ⟨i, j, x, _, _, _, h1, h2⟩ := cell m hm
      rw [h1]
      exact ok_oneCell h2
    · intro i j hi hj
      obtain ⟨x, h1, h2⟩ := hx i j hi hj
      refine ⟨x, ?_, h2⟩
      have hm : i * d.wd + j < d.len * d.wd := by
        calc i * d.wd + j < (i + 1) * d.wd := by rw [Nat.add_mul]; omega
          _ ≤ d.len * d.wd := Nat.mul_le_mul_right _ hi
      simp [List.getElem?_map, hm, h1]
    · intro ad had j x hj
      rw [hA] at had
      cases had
      have hm := (List.getElem?_eq_some_iff.1 hj).1
      simp only [List.length_map, List.length_range] at hm
      obtain ⟨i, j', y, _, _, _, h1, _⟩ := cell j hm
      rw [add_at, h1]
      simp only [List.getElem?_map, List.getElem?_range hm, Option.map_some, h1, Option.getD_some, Option.some.injEq] at hj
      rw [hj]
theorem shsEq_eq : ∀ {a b : List Sh}, shsEq a b = true → a = b
  | [], [], _ => rfl
  | x :: r, y :: s, h => by
    simp only [shsEq, Bool.and_eq_true] at h
    have h1 := Nat.eq_of_beq_eq_true h.1
    rw [shsEq_eq h.2]
    cases x <;> cases y <;> first | rfl | (simp [shN] at h1)
theorem app_ok {D : Nat → Prop} {w : World} {d d2 d' : Dat} {xs ys : List Value} (h : d.app d2 = some d') (hx : xs.length = d.len * d.wd)
    (h1 : ∀ i j, i < d.len → j < d.wd → ∃ x, xs[i * d.wd + j]? = some x ∧ d.ok D w i j x) (h2 : ∀ i j, i < d2.len → j < d2.wd → ∃ x, ys[i * d2.wd + j]? = some x ∧ d2.ok D w i j x) :
    d'.len = d.len + d2.len ∧ d'.wd = d.wd ∧ d2.wd = d.wd ∧ ∀ i j, i < d'.len → j < d'.wd → ∃ x, (xs ++ ys)[i * d'.wd + j]? = some x ∧ d'.ok D w i j x := by
  have key : d'.len = d.len + d2.len ∧ d'.wd = d.wd ∧ d2.wd = d.wd ∧ (∀ i j x, i < d.len → d.ok D w i j x → d'.ok D w i j x) ∧ (∀ i j x, d2.ok D w i j x → d'.ok D w (d.len + i) j x) := by
    have left : ∀ {α : Type} (a b : List α) (z : α) (i : Nat), i < a.length → (a ++ b).getD i z = a.getD i z := by
      intro α a b z i hi
      simp only [List.getD, List.getElem?_append_left hi]
    have right : ∀ {α : Type} (a b : List α) (z : α) (i : Nat), (a ++ b).getD (a.length + i) z = b.getD i z := by
      intro α a b z i
      simp only [List.getD]
      rw [List.getElem?_append_right (by omega)]
      simp
    unfold Dat.app at h
    split at h
    · rename_i k a k' b
      cases hk : ikEq k k'
      · rw [hk] at h; cases h
      · rw [hk] at h
        have := ikEq_eq hk
        subst this
        cases h
        exact ⟨by simp [Dat.len], rfl, rfl, fun i j x hi hok => by simp only [Dat.ok] at hok ⊢; rw [left _ _ _ _ hi]; exact hok, fun i j x hok => by simp only [Dat.ok, Dat.len] at hok ⊢; rw [right]; exact hok⟩
    · rename_i k a k' b
      cases hk : Nat.beq k k'
      · rw [hk] at h; cases h
      · rw [hk] at h
        have := Nat.eq_of_beq_eq_true hk
        subst this
        cases h
        exact ⟨by simp [Dat.len], rfl, rfl, fun i j x hi hok => by simp only [Dat.ok] at hok ⊢; rw [left _ _ _ _ hi]; exact hok, fun i j x hok => by simp only [Dat.ok, Dat.len] at hok ⊢; rw [right]; exact hok⟩
    · cases h
      exact ⟨by simp [Dat.len], rfl, rfl, fun i j x hi hok => by simp only [Dat.ok] at hok ⊢; rw [left _ _ _ _ hi]; exact hok, fun i j x hok => by simp only [Dat.ok, Dat.len] at hok ⊢; rw [right]; exact hok⟩
    · cases h
      exact ⟨by simp [Dat.len], rfl, rfl, fun i j x hi hok => by simp only [Dat.ok] at hok ⊢; rw [left _ _ _ _ hi]; exact hok, fun i j x hok => by simp only [Dat.ok, Dat.len] at hok ⊢; rw [right]; exact hok⟩
    · cases h
      exact ⟨by simp [Dat.len], rfl, rfl, fun i j x hi hok => by simp only [Dat.ok] at hok ⊢; rw [left _ _ _ _ hi]; exact hok, fun i j x hok => by simp only [Dat.ok, Dat.len] at hok ⊢; rw [right]; exact hok⟩
    · rename_i k a k' b
      cases hk : shsEq k k'
      · rw [hk] at h; cases h
      · rw [hk] at h
        have := shsEq_eq hk
        subst this
        cases h
        exact ⟨by simp [Dat.len], rfl, rfl, fun i j x hi hok => by simp only [Dat.ok] at hok ⊢; rw [left _ _ _ _ hi]; exact hok, fun i j x hok => by simp only [Dat.ok, Dat.len] at hok ⊢; rw [right]; exact hok⟩
    · cases h
  obtain ⟨k1, k2, k3, k4, k5⟩ := key
  refine ⟨k1, k2, k3, fun i j hi hj => ?_⟩
  rw [k2] at hj ⊢
  rw [k3] at h2
  by_cases hlt : i < d.len
  · obtain ⟨x, hx1, hx2⟩ := h1 i j hlt hj
    refine ⟨x, ?_, k4 i j x hlt hx2⟩
    rw [List.getElem?_append_left ?_]
    · exact hx1
    · rw [hx]
      calc i * d.wd + j < (i + 1) * d.wd := by rw [Nat.add_mul]; omega
        _ ≤ d.len * d.wd := Nat.mul_le_mul_right _ hlt
  · obtain ⟨m, rfl⟩ : ∃ m, i = d.len + m := ⟨i - d.len, by omega⟩
    obtain ⟨x, hx1, hx2⟩ := h2 m j (by omega) hj
    refine ⟨x, ?_, k5 m j x hx2⟩
    rw [List.getElem?_append_right (by rw [hx, Nat.add_mul]; omega), ← hx1, hx]
    congr 1
    rw [Nat.add_mul]; omega
theorem run_storeCells_nf (g o : Nat) (t : TypeId) (fr : Nat × Nat) : ∀ (vs : List Value) (i : Nat) (cur : Array Value) (w : World), w.heap[g]? = some (.cells cur t fr) → noFr fr cur.size → o + i + vs.length ≤ cur.size → (∀ v ∈ vs, v.oneCell' = true) →
    (storeCells ⟨g, o, none⟩ vs i).run P w = .ok () (w.setRow g (cur.toList.take (o + i) ++ vs ++ cur.toList.drop (o + i + vs.length)).toArray)
  | [], i, cur, w, hg, _, _, _ => by
    simp only [storeCells, List.append_nil, List.length_nil, Nat.add_zero, List.take_append_drop, Array.toArray_toList]
    rw [setRow_self w g cur t fr hg]
    rfl
  | v :: rest, i, cur, w, hg, hfr, hl, h1 => by
    have hlt : o + i < cur.size := by simp at hl; omega
    have hcell : w.cell? ⟨g, o + i, none⟩ = some cur[o + i] := by simp [World.cell?, hg, hlt]
    have hno : w.frozen? ⟨g, o + i, none⟩ = false := by
      simp only [World.frozen?, hg]
      exact hfr.at _ hlt
    have one : (store ((⟨g, o, none⟩ : Addr).add i) v).run P w = .ok () (w.setRow g (cur.setIfInBounds (o + i) v)) := by
      rw [add_at, run_store P w _ v _ (h1 v (by simp)), hcell]
      simp [hno, setCell_eq_setRow w g (o + i) cur t fr v hg]
    have ih := run_storeCells_nf g o t fr rest (i + 1) (cur.setIfInBounds (o + i) v) (w.setRow g (cur.setIfInBounds (o + i) v)) (setRow_heap w g cur _ t _ hg) (by simpa using hfr) (by simp at hl ⊢; omega) (fun x hx => h1 x (by simp [hx]))
    simp only [storeCells, Sem.run_bind, one, Result.andThen_ok, ih, setRow_setRow]
    congr 3
    have e := list_seg_step cur.toList (o + i) v rest (by simp at hl ⊢; omega)
    simpa [Array.toList_setIfInBounds, Nat.add_assoc] using e
theorem append_nothing (w : World) (t ty e : TypeId) (i : TypeInfo) (size : Nat) (ht : P.underlying t = some (.slice e)) (hi : P.info? e = some i)
    (v : Value) (n : Nat) (xs : List Value) (hown : OwnR w size v n xs) (c : Nat) : (Builtin.append_ #[t, t] ty #[v, .slice none 0 c]).run P w = .ok v w := by
  rcases hown.2 with ⟨rfl, rfl⟩ | ⟨g, cap, cur, ty', fr, rfl, _, _, hnc, _⟩
  · simp [Builtin.append_, run_underlying ht, sizeOf, typeInfo, hi, Builtin.lenOf, Builtin.firstCells]
  · simp [Builtin.append_, run_underlying ht, sizeOf, typeInfo, hi, Builtin.lenOf, Builtin.firstCells, hnc, storeCells]
theorem append_room {w : World} {t ty e : TypeId} {i : TypeInfo} (ht : P.underlying t = some (.slice e)) (hi : P.info? e = some i) {ty' : TypeId}
    {fr : Nat × Nat} (g sLen sCap : Nat) (cur : Array Value) (hg : w.heap[g]? = some (.cells cur ty' fr)) (hfr : noFr fr cur.size)
    (a : Addr) (m c : Nat) (news : List Value) (hl : news.length = m * i.size) (hnews : ∀ j u, news[j]? = some u → w.cell? (a.add j) = some u) (h1 : ∀ u ∈ news, u.oneCell' = true)
    (hroom : sLen + m ≤ sCap) (hfit : sLen * i.size + news.length ≤ cur.size) :
    (Builtin.append_ #[t, t] ty #[.slice (some ⟨g, 0, none⟩) sLen sCap, .slice (some a) m c]).run P w =
      .ok (.slice (some ⟨g, 0, none⟩) (sLen + m) sCap) (w.setRow g (cur.toList.take (sLen * i.size) ++ news ++ cur.toList.drop (sLen * i.size + news.length)).toArray) := by
  have hf := run_firstCells_some (P := P) w i.size m a m c news hl hnews
  have hst := run_storeCells_nf (P := P) g (sLen * i.size) ty' fr news 0 cur w hg hfr (by simpa using hfit) h1
  simp only [Nat.add_zero] at hst
  simp [Builtin.append_, run_underlying ht, sizeOf, typeInfo, hi, Builtin.lenOf, hroom, hf, Addr.add_lit, hst]
theorem append_grown {w : World} {size : Nat} {e : TypeId} {z : Value} {xs news : List Value} {n m : Nat} (hzs : z.cells.size = size) (hx : xs.length = n * size) (hl : news.length = m * size) (h63 : n + m ≤ maxLen) (old : Nat) (ho : old < n + m) (row : Option Nat) :
      OwnR (w.drew.alloc (.cells (xs.toArray ++ news.toArray ++ Builtin.zeroCells z.cells (grownCap w (n + m) old e - (n + m))) e)) size
        (.slice (some ⟨w.heap.size, 0, none⟩) (n + m) (grownCap w (n + m) old e)) (n + m) (xs ++ news) ∧
      w.grownBy (w.drew.alloc (.cells (xs.toArray ++ news.toArray ++ Builtin.zeroCells z.cells (grownCap w (n + m) old e - (n + m))) e)) row := by
  have hlen : (xs ++ news).length = (n + m) * size := by rw [List.length_append, hx, hl, Nat.add_mul]
  have hge := grownCap_ge w (n + m) old e
  have hcm : grownCap w (n + m) old e ≤ maxLen := grownCap_le_maxLen w (n + m) old e h63
  refine ⟨⟨hlen, .inr ⟨w.heap.size, _, _, e, (0, 0), rfl, heap_alloc_new w.drew _, noFr_zero _, hge, hcm, ?_, ?_⟩⟩, ⟨rfl, rfl, rfl, by simp, fun k hk _ => Below.heap_alloc w.drew _ k hk⟩⟩
  · simp only [Array.size_append, List.size_toArray, size_zeroCells, hzs, hx, hl, ← Nat.add_mul]
    refine Nat.le_of_eq ?_
    congr 1
    omega
  · simp only [Array.toList_append, List.append_assoc]
    rw [← List.append_assoc, ← hlen]
    exact List.take_left
theorem append_src {w : World} {t ty e : TypeId} {i : TypeInfo} {z : Value} {size : Nat} (ht : P.underlying t = some (.slice e)) (hi : P.info? e = some i) (hz : i.zero = some z)
    (hsize : i.size = size) (hzs : z.cells.size = size) (hsz : 0 < size) {v : Value} {n : Nat} {xs : List Value} (hown : OwnR w size v n xs)
    {A : Option Addr} {m c : Nat} {news : List Value} (hl : news.length = m * size) (h1 : ∀ x ∈ news, x.oneCell' = true) (hnone : A = none → news = [])
    (hcell : ∀ ad, A = some ad → ∀ j x, news[j]? = some x → w.cell? (ad.add j) = some x) (h63 : n + m ≤ maxLen) (hbytes : (n + m) * i.bytes ≤ 140737488355328) :
    ∃ v' w', (Builtin.append_ #[t, t] ty #[v, .slice A m c]).run P w = .ok v' w' ∧ OwnR w' size v' (n + m) (xs ++ news) ∧ w.grownBy w' v.ownBlock ∧ (v'.ownBlock = v.ownBlock ∨ v'.ownBlock = some w.heap.size) := by
  subst hsize
  rcases A with _ | ad
  · have hn := hnone rfl
    subst hn
    have hm : m = 0 := by
      simp only [List.length_nil] at hl
      rcases Nat.eq_zero_or_pos m with h | h
      · exact h
      · have := Nat.mul_pos h hsz; omega
    subst hm
    exact ⟨v, w, append_nothing w t ty e i i.size ht hi v n xs hown c, by simpa using hown, World.grownBy.refl w _, .inl rfl⟩
  · have hsmall : n + m ≤ 9223372036854775807 := by simp only [maxLen] at h63; omega
    have hlen : (xs ++ news).length = (n + m) * i.size := by rw [List.length_append, hown.1, hl, Nat.add_mul]
    have hnews := hcell ad rfl
    rcases hown.2 with ⟨rfl, rfl⟩ | ⟨g, cap, cur, ty', fr, rfl, hg, hfr, hnc, hcm, hcs, htake⟩
    · have hx : xs = [] := List.eq_nil_of_length_eq_zero (by simpa using hown.1)
      subst hx
      by_cases hm : m = 0
      · subst hm
        have hn : news = [] := List.eq_nil_of_length_eq_zero (by simpa using hl)
        subst hn
        refine ⟨.slice none 0 0, w, ?_, OwnR.nil w i.size, World.grownBy.refl w _, .inl rfl⟩
        simp [Builtin.append_, run_underlying ht, sizeOf, typeInfo, hi, Builtin.lenOf, Builtin.firstCells, loadCells, loadCellsFrom]
      · have hr := run_append_nil (P := P) w t ty e i z ht hi hz ad m c news hl hnews (by omega) (by omega) (by have hb := hbytes; simp only [Nat.zero_add] at hb; omega)
        have hgr := append_grown (w := w) (e := e) (n := 0) hzs hown.1 hl h63 0 (by omega) (Value.ownBlock (.slice none 0 0))
        simp only [Nat.zero_add, List.nil_append, Array.empty_append] at hgr ⊢
        exact ⟨_, _, hr, hgr.1, hgr.2, .inr rfl⟩
    · by_cases hroom : n + m ≤ cap
      · have hfit : n * i.size + news.length ≤ cur.size := by
          rw [hl, ← Nat.add_mul]
          exact Nat.le_trans (Nat.mul_le_mul_right _ hroom) hcs
        have hr := append_room (P := P) (ty := ty) ht hi g n cap cur hg hfr ad m c news hl hnews h1 hroom hfit
        refine ⟨_, _, hr, ⟨hlen, .inr ⟨g, cap, _, ty', fr, rfl, setRow_heap w g cur _ ty' _ hg, ?_, hroom, hcm, ?_, ?_⟩⟩, ⟨rfl, rfl, rfl, by simp, fun k _ hk => setRow_other w g k _ (fun e => hk (by simp [Value.ownBlock, e]))⟩, .inl rfl⟩
        · refine Eq.mp (congrArg (noFr fr) ?_) hfr
          simp only [List.size_toArray, List.length_append, List.length_take, List.length_drop, Array.length_toList]
          omega
        · simp only [List.size_toArray, List.length_append, List.length_take, List.length_drop, Array.length_toList]
          omega
        · rw [htake, ← hlen]
          exact List.take_left
      · have holds : ∀ j u, xs[j]? = some u → w.cell? ((⟨g, 0, none⟩ : Addr).add j) = some u := hown.cells (g := g) rfl
        have hr := run_append_grow (P := P) w t ty e i z ht hi hz ⟨g, 0, none⟩ n cap xs hown.1 holds ad m c news hl hnews (by omega) (by omega) (growslice_fits (by omega) hbytes)
        have hgr := append_grown (w := w) (e := e) hzs hown.1 hl h63 cap (by omega) (Value.ownBlock (.slice (some ⟨g, 0, none⟩) n cap))
        exact ⟨_, _, hr, hgr.1, hgr.2, .inr rfl⟩
structure Full (w : World) (size : Nat) (v : Value) (n : Nat) (xs : List Value) : Prop where
  len : xs.length = n * size
  sl : ∃ A, v = .slice A n n ∧ (0 < n → ∃ ad, A = some ad ∧ ∀ j x, xs[j]? = some x → w.cell? (ad.add j) = some x)
theorem append_full {w : World} {t ty e : TypeId} {i : TypeInfo} {z : Value} {size : Nat} (ht : P.underlying t = some (.slice e)) (hi : P.info? e = some i) (hz : i.zero = some z)
    (hsize : i.size = size) (hzs : z.cells.size = size) (hsz : 0 < size) {v : Value} {n : Nat} {xs : List Value} (hf : Full w size v n xs)
    {A : Option Addr} {m c : Nat} {news : List Value} (hl : news.length = m * size) (h1 : ∀ x ∈ news, x.oneCell' = true) (hnone : A = none → news = [])
    (hcell : ∀ ad, A = some ad → ∀ j x, news[j]? = some x → w.cell? (ad.add j) = some x) (h63 : n + m ≤ maxLen) (hbytes : (n + m) * i.bytes ≤ 140737488355328) :
    ∃ v' w', (Builtin.append_ #[t, t] ty #[v, .slice A m c]).run P w = .ok v' w' ∧ ((m = 0 ∧ v' = v ∧ w' = w) ∨ (0 < m ∧ OwnR w' size v' (n + m) (xs ++ news) ∧ w.grownBy w' none ∧ v'.ownBlock = some w.heap.size)) := by
  subst hsize
  have hsmall : n + m ≤ 9223372036854775807 := by simp only [maxLen] at h63; omega
  obtain ⟨B, rfl, hB⟩ := hf.sl
  by_cases hm : m = 0
  · subst hm
    have hn : news = [] := List.eq_nil_of_length_eq_zero (by simpa using hl)
    subst hn
    refine ⟨_, w, ?_, .inl ⟨rfl, rfl, rfl⟩⟩
    rcases A with _ | ad <;> rcases B with _ | bd <;> simp [Builtin.append_, run_underlying ht, sizeOf, typeInfo, hi, Builtin.lenOf, Builtin.firstCells, loadCells, loadCellsFrom, storeCells]
  · have hmp : 0 < m := by omega
    obtain ⟨ad, rfl⟩ : ∃ ad, A = some ad := by
      rcases A with _ | ad
      · have hn := hnone rfl
        subst hn
        simp only [List.length_nil] at hl
        have := Nat.mul_pos hmp hsz; omega
      · exact ⟨ad, rfl⟩
    have hnews := hcell ad rfl
    have hgr := append_grown (w := w) (e := e) hzs hf.len hl h63 n (by omega) none
    rcases B with _ | bd
    · have hn0 : n = 0 := by
        rcases Nat.eq_zero_or_pos n with h | h
        · exact h
        · obtain ⟨bd, hbd, _⟩ := hB h; cases hbd
      subst hn0
      have hx : xs = [] := List.eq_nil_of_length_eq_zero (by simpa using hf.len)
      subst hx
      have hr := run_append_nil (P := P) w t ty e i z ht hi hz ad m c news hl hnews (by omega) (by omega) (by have hb := hbytes; simp only [Nat.zero_add] at hb; omega)
      simp only [Nat.zero_add, List.nil_append, Array.empty_append] at hgr ⊢
      exact ⟨_, _, hr, .inr ⟨hmp, hgr.1, hgr.2, rfl⟩⟩
    · have holds : ∀ j u, xs[j]? = some u → w.cell? (bd.add j) = some u := by
        intro j u hj
        rcases Nat.eq_zero_or_pos n with h | h
        · subst h
          have hx : xs = [] := List.eq_nil_of_length_eq_zero (by simpa using hf.len)
          subst hx
          simp at hj
        · obtain ⟨bd', hbd, hx⟩ := hB h
          cases hbd
          exact hx j u hj
      have hr := run_append_grow (P := P) w t ty e i z ht hi hz bd n n xs hf.len holds ad m c news hl hnews (by omega) (by omega) (growslice_fits (by omega) hbytes)
      exact ⟨_, _, hr, .inr ⟨hmp, hgr.1, hgr.2, rfl⟩⟩
end
end Go.Proofs.YtbfdchahapajaaaGreatDoor

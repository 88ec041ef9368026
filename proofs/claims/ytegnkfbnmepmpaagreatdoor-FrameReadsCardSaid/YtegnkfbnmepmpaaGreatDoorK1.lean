/-
  Texts joined: Base, Mg, SxA, SxBa, SxB, SxC, SxD, SxE, SxF, SxG, SxH, SxJ, SxK, SxL, SxM, SxO. Conditions: each theorem's own.
-/
import Derived.KernelRfl
import Derived.Test.YtegnkfbnmepmpaaGreatDoorRows
import Derived.WalkKit
import Derived.WalkSpells
import Derived.WalkLawsBesides
import Derived.ProofKit
import Derived.Handy
import Derived.PlainAid
import Derived.ShutString
import Derived.ChangeSame
import Derived.Deep.QuietTactic
import Derived.Deep.RegionWith
import Derived.Deep.RegionHeld3
import Derived.BigQuiet
import Derived.BigRegion
import Derived.Laws.IdiomStrings
import Derived.Laws.BytesArg
import Derived.Laws.BitsAllLaws
import Derived.Laws.BitsLemmas
import Derived.Laws.OwnMore
import Derived.Laws.Rows
import Derived.Laws.MakeOwn
import Derived.Deep.AppendLies
import Derived.Deep.Draws
import Derived.Deep.OwnRows
import Derived.Maps.AppendAt
import Derived.RegionTactic
import Derived.OwnWalk
import Derived.Lib.Hide
import Derived.Laws.CopyRow
import Derived.Lib.FrozenHead
import Derived.RangeFuncSeq
import Derived.Laws.BytesString
import Derived.Lib.AppendZerosOnto
import Derived.Lib.AppendStr
set_option maxRecDepth 100000
set_option linter.all false
open BitVec renaming ofInt->lk
open Bool renaming false->ah,true->ab
open ForInStep renaming yield->Ru
open Go.Builtin renaming append_->n9,firstCells->Ju,lenOf->Jt,zeroCells->pf
open Go.Fence renaming wide->ke
open Go.Instr renaming indexAt->YX,loadAt->GW,slice->YZ,sliceAt->M0,sliceBound->YY,sliceBounds->GQ,sureAddr->A6,typeAssert->zV
open Go.IntKind renaming u8->CM,wrap->Q
open Go.Lib renaming run_append_grow_zeros->axJ,run_firstCells_string->axI,strCells->rH
open Go.Op renaming equal->zU,equalIn->wC,intArith->YU,intBits->YW,intCmp->MZ,stringOp->YV
open Go.Oper renaming wp->yF
open Go.Region renaming binds->GV
open Go.Value renaming cells->CO,int->cg,oneCell'->tY,ownBlock->ni
open List renaming getD->eU,range->fM,replicate->au,take->aC,take_append_drop->Jy
open Nat renaming beq->ap,ble->mF,blt->cK
open Option renaming none->ae,some->O
namespace Go.Proofs.YtegnkfbnmepmpaaGreatDoor
open Go.RowKit Go.WideShapes Go.ChangeShapes
variable(s:World)(b k:Nat){x:Prop}
def I9:=@Nat.add_assoc
def kB:=@List.getElem?_eq_getElem
def aiw:=@Go.World.cell?_alloc_lt
def nW:=@List.length_drop
def V:=@if_neg
def Yw:=@List.getElem?_drop
def uQ:=@Nat.lt_or_ge
def aix:=@Array.getElem?_eq_none
def Re:=@Go.cell_of_row
def D4:=@Go.heap_alloc_new
def nY:=@Go.RowKit.Below.heap_alloc
def MK:=@Nat.mod_eq_of_lt
def Yx:=@BitVec.toNat_and
def Rf:=@Go.IntKind.wrap_i64
def Yy:=@BitVec.toNat_or
def ow:=@of_decide_eq_true
def nD:=@of_decide_eq_false
def gL:=@Nat.le_refl
def rz:=@Bool.false_eq_true
def xi:=@if_false
def yw:=@List.cons_append
def aiy:=@List.take_succ_cons
def kd:=@List.map_cons
def uR:=@List.all_cons
def bC:=@Bool.and_eq_true
def nZ:=@List.mem_cons
def ML:=@List.all_nil
def MM:=@Bool.and_true
def cN:=@Nat.eq_of_beq_eq_true
def nh:=@Nat.le_of_ble_eq_true
def D6:=@Array.getD_eq_getD_getElem?
def aiz:=@Array.getElem?_setIfInBounds_self_of_lt
def axD:=@Array.getElem?_setIfInBounds_ne
def GG:=@Ne.symm
def sY:=@Nat.le_trans
def ng:=@Nat.lt_of_lt_of_le
def D7:=@Go.setRow_other
def ox:=@Nat.mul_le_mul_right
def GH:=@List.getElem?_take
def I:=@if_pos
def pQ:=@Nat.add_mul
def CG:=@Option.getD_some
def fX:=@Go.Sem.run_bind
def gz:=@Go.run_underlying
def bo:=@cond_true
def pR:=@Bool.not_eq_true'
def wo:=@beq_eq_false_iff_ne
def gM:=@Go.Result.andThen_ok
def CH:=@List.drop_eq_nil_of_le
def pS:=@List.getElem?_map
def zJ:=@List.drop_eq_getElem_cons
def wx:=@beq_iff_eq
def xj:=@Nat.mul_one
def I_:=@List.drop_zero
def Ja:=@Option.map_eq_some_iff
def iV:=@Go.Sem.run_pure
def r9:=@List.eq_nil_of_length_eq_zero
def CI:=@List.getElem?_cons_zero
def mT:=@List.length_take
def yx:=@Nat.eq_zero_or_pos
def iw:=@cond_false
def CJ:=@Nat.zero_mul
def rA:=@Nat.zero_add
def D8:=@List.ext_getElem?
def uS:=@Nat.add_zero
def xk:=@List.getElem?_eq_none
def qQ:=@List.append_assoc
def GI:=@List.getElem?_append_right
def GJ:=@List.getElem?_append_left
def dJ:=@decide_eq_true_eq
def Jb:=@List.length_cons
def D9:=@List.replicate_succ
def qR:=@List.length_replicate
def yy:=@List.getElem?_replicate
def Yz:=@Array.toList_map
def CB:=@Array.toArray_toList
def Jc:=@Go.Sem.run_ite
def xl:=@Array.getElem?_toList
def Jd:=@Array.getElem?_eq_getElem
def xm:=@Option.map_some
def YA:=@Option.map_none
def jj:=@Int.le_refl
def AY:=@Nat.mul_comm
def qk:=@List.length_map
def YB:=@List.length_range
def CC:=@Nat.mod_lt
def zK:=@List.append_nil
def D_:=@List.length_nil
def Ra:=@Jy
def YC:=@Go.setCell_eq_setRow
def zN:=@Go.setRow_heap
def YD:=@Go.grownCap_le_maxLen
def aiA:=@Array.size_append
def zO:=@List.size_toArray
def gn:=@List.length_append
def rB:=@List.nil_append
def aiB:=@Array.empty_append
def dR:=@congrArg
def uT:=@Array.length_toList
def Je:=@List.take_left
def Jf:=@Go.growslice_fits
def AZ:=@Go.Lib.strCells_length
def YE:=@Array.getElem?_map
def Jg:=@List.getElem?_toArray
def A4:=@List.getElem?_cons_succ
def yz:=@Int.toNat_natCast
def YF:=@Bool.not_true
def aiC:=@List.any_eq_false
def aiD:=@List.flatten_cons
def jv:=@List.mem_append
def iF:=@List.filterMap_cons
def GK:=@Bool.or_eq_true
def uU:=@List.map_nil
theorem C{p:Prop}(h:p:=by and_intros<;>first|rfl|trivial|omega):p:=h
theorem Y{p:Prop}(h:p:=by omega):p:=h
theorem A{p:Prop}(h:p:=by first|rfl|trivial):p:=h
theorem ax{p:Prop}(h:p:=by kernel_rfl):p:=h
theorem aj{p:Prop}(h:p:=by simp):p:=h
theorem H{p:Prop}(h:p:=by decide):p:=h
theorem c9{p:Prop}(h:p:=by grind):p:=h
abbrev M:=ByteArray
abbrev N:=List Int
abbrev pT:=List<|Nat×Option Nat
abbrev cf:=List Nat
abbrev bG:=List Value
abbrev aW:=Nat->Prop
abbrev q:=List<|List Int
def aky(a:Addr)(n:Nat):(a.add n).block=a.block:=by unfold Addr.add;split<;>rfl
def ay9(a:Addr)(i j):(a.add i).add j=a.add (i+j):=by unfold Addr.add;by_cases y:i=0<;>by_cases h:j=0<;>simp[y,h,I9]
def Reads(A:Option Addr)(n:Nat)(xs:bG):Prop:=
 xs.length=n*k/\(0<n->∃y,A=O y/\y.block<b/\∀j u,xs[j]? =O u->s.cell? (y.add j)=O u)
section
variable{w w':World}{B B' size n:Nat}{A:Option Addr}{xs:bG}
def Reads.at_{k:Nat}(h:Reads w B 1 A n xs)(r:k<n):∃ad u,A=O ad/\ad.block<B/\xs[k]? =O u/\w.cell? (ad.add k)=O u:=by
 let⟨ad,e,y,z⟩:=h.2 Y;have x:k<xs.length:=by have:=h.1;lia
 exact⟨ad,xs[k],e,y,kB x,z k _<|kB x⟩
def Reads.qB(h:Reads w B size A n xs)(z:∀p,p.block<B->w'.cell? p=w.cell? p):Reads w' B size A n xs:=
 ⟨h.1,λk=>by let⟨v,e,x,y⟩:=h.2 k;exact⟨v,e,x,λj u r=>(z _<|by rw[aky];exact x).trans<|y j u r⟩⟩
def Reads.more(h:Reads w B size A n xs)(hB:B<=B'):Reads w B' size A n xs:=
 ⟨h.1,λy=>by let⟨r,e,z,x⟩:=h.2 y;exact⟨r,e,Y,x⟩⟩
def Reads.below(h:Reads w B size A n xs)(x:Below B w w'):=h.qB λ_ y=>x.cell y
def Reads.drew(h:Reads w B size A n xs):Reads w.drew B size A n xs:=h
def Reads.drewN(h:Reads w B size A n xs)(k:Nat):Reads (w.drewN k) B size A n xs:=h
def Reads.alloc(h:Reads w B size A n xs)(hB:B<=w.heap.size)(o:Obj):=h.qB λp y=>aiw w o p Y
def Reads.setCell(h:Reads w B size A n xs){p:Addr}(hB:B<=p.block)(u:Value):=
 h.qB λq x=>World.cell?_setCell_other w p q u λe=>by subst e;lia
def Reads.grown(h:Reads w B size A n xs){x:Option Nat}(y:w.grownBy w' x)(hB:B<=w.heap.size)(z:∀g,x=O g->B<=g):=
 h.qB λp r=>World.cell?_of_block<|y.block p.block Y λe=>by have:=z _ e.symm;lia
def Reads.cut(h:Reads w B size A n xs){k cap:Nat}(r:k<=n)(e:n<=cap):
  Reads w B size (if cap=k then A else A.map (·.add<|k*size)) (n-k) (xs.drop<|k*size):=by refine⟨by rw[nW,h.1,Nat.sub_mul],λv=>?_⟩;obtain⟨i,rfl,x,y⟩:=h.2 Y;rw[V Y];refine⟨i.add<|k*size,rfl,by rw[aky];exact x,λj u z=>?_⟩;rw[ay9];exact y _ u<|by rw[<-z,Yw]
end
def kE(t:TypeId)(cs:Array Value):Prop:=s.heap[b]? =O (.cells cs t (0,0))
section
variable{w w':World}{g:Nat}{t:TypeId}{cs:Array Value}
def kE.lt(h:kE w g t cs):g<w.heap.size:=by
 rcases uQ g w.heap.size with y|x
 .exact y
 .unfold kE at h;rw[aix x]at h;cases h
def kE.cell(h:kE w g t cs)(i:Nat):=Re w g i cs t (0,0) h
def kE.frozen(h:kE w g t cs)(i:Nat):w.frozen? ⟨g,i,ae⟩=ah:=by unfold kE at h;simp[World.frozen?,h]
def kE.new(t:TypeId)(cs:Array Value):kE (s.alloc<|.cells cs t) s.heap.size t cs:=D4 s _
def kE.drew(h:kE w g t cs):kE w.drew g t cs:=h
def kE.drewN(h:kE w g t cs)(n:Nat):kE (w.drewN n) g t cs:=h
def kE.alloc(h:kE w g t cs)(o:Obj):kE (w.alloc o) g t cs:=(nY w o g h.lt).trans h
def kE.Hw(h:kE w g t cs){p:Addr}(hp:g≠p.block)(u:Value):kE (w.setCell p u) g t cs:=(Below.heap_setCell w p u g hp).trans h
def kE.below{B:Nat}(h:kE w g t cs)(x:Below B w w')(y:g<B):kE w' g t cs:=(x.block g y).trans h
def kE.grown{x:Option Nat}(h:kE w g t cs)(y:w.grownBy w' x)(z:O g≠x):kE w' g t cs:=(y.block g h.lt z).trans h
end
section
variable{P:Program}(w:World)
end
def UK(h:b<9223372036854775808):(lk 64 b).toNat=b:=by rw[BitVec.ofInt_natCast,BitVec.toNat_ofNat];exact MK Y
def aoF(h:b<9223372036854775808)(x:k<9223372036854775808):bits .and .i64 b k=((b&&&k)):=by have y:b&&&k<2^63:=Nat.and_lt_two_pow _ Y;show IntKind.i64.wrap ((lk 64 b&&&lk 64 k).toNat)=_;rw[Yx,UK b h,UK k x,Rf];lia
def acH(h:b<9223372036854775808)(x:k<9223372036854775808):bits .or .i64 b k=((b|||k)):=by have y:b|||k<2^63:=Nat.or_lt_two_pow Y Y;show IntKind.i64.wrap ((lk 64 b|||lk 64 k).toNat)=_;rw[Yy,UK b h,UK k x,Rf];lia
section
variable{H:Type}{enc:TypeId×Value->H}{P:Program}
end
def kE.next{x W w':World}{B g:Nat}{t:TypeId}{cs:Array Value}(h:Hid (kE x g t cs))(k:kE x g t cs->kE W g t cs)(y:Below B W w')(z:g<B):=(k h.out).below y z
end Go.Proofs.YtegnkfbnmepmpaaGreatDoor
namespace Go.Proofs.YtegnkfbnmepmpaaGreatDoor
open Go
variable(s:Prop)(b:Int)(k:Prop)(x:Int)(y:Prop)(z:List (N×N))(v:N)
def eh:=(z.find? λe=>e.1==v).map (·.2)
def AA:=z.any λe=>e.1==v
def sw(n:Nat)(h:List (N×N))(k:N):N:=(eh h k).getD<|au n 0
abbrev Dq[Decidable s](A B:Prop):Prop:=(decide s=ab->A)/\(decide s=ah->B)
abbrev Bq(b:Bool)(A B:Prop):Prop:=(b=ab->A)/\(b=ah->B)
abbrev Cq:Prop:=(s->k)/\(¬s->y)
def cq{p A B:Prop}(h:p->A)(g:¬p->B):Cq p A B:=⟨h,g⟩
abbrev Rq:Prop:=0<=b/\b<x/\y
abbrev Wq:Int:=Q .i64 b
abbrev Zq(n:Nat):Int:=n
abbrev Yq(s:M)(i:Nat):Nat:=(s.data.toList.getD i 0).toNat
abbrev Uq:Int:=Q .u64 b
def dq{p A B:Prop}[Decidable p](h:p->A)(g:¬p->B):Dq p A B:=⟨λx=>h<|ow x,λx=>g<|nD x⟩
def SL{p A B:Prop}[Decidable p](h:p)(g:A):Dq p A B:=dq (λ_=>g) λn=>absurd h n
def rK{p A B:Prop}[Decidable p](h:¬p)(g:B):Dq p A B:=dq (λn=>absurd n h) λ_=>g
abbrev Jq{α:Type}(x:α):Prop:=x=x
end Go.Proofs.YtegnkfbnmepmpaaGreatDoor
namespace Go.Proofs.YtegnkfbnmepmpaaGreatDoor
open Go.RowKit
variable(s:IntKind){b:Loc}(k:cf){x:Oper}{y:TypeId}{z:IntKind}{v:aW}
inductive CK where
 |i (k:IntKind)
 |b
inductive VK where
 |one (c:CK)
 |st (cs:List CK)
inductive aA where
 |ints (k:IntKind) (xs:N)
 |cH (w:Nat) (xs:List (N))
 |xx (xs:List Bool)
inductive SV where
 |v (x:Value)
 |bl (b:Bool)
 |p (l i j:Nat)
 |o (l:Nat)
 |s (l off len:Nat) (cap:Option Nat)
 |bZ (d:aA)
 |dc (d:aA)
 |m (l:Nat)
 |dp (d:aA) (i j:Nat)
 |av (d:aA)
 |fn (f:Fn) (first captured:List SV)
 |ag (cs:List SV)
 |tu (vs:List SV)
 |fm (t:TypeId) (x:SV)
 |any
abbrev lW:=List<|Nat×SV
abbrev bL:=List SV
def aA.wd:aA->Nat
 |.cH w _=>w
 |_=>1
def acT:aA->Bool
 |.ints _ _=>ab
 |_=>ah
def aA.len:aA->Nat
 |.ints _ xs=>xs.length
 |.cH _ xs=>xs.length
 |.xx xs=>xs.length
def aA.vl:aA->Nat->Nat->Value
 |.ints k xs,i,_=>.int k<|xs.getD i 0
 |.cH _ xs,i,j=>.int .i64<|(xs.getD i []).getD j 0
 |.xx xs,i,_=>.bool<|xs.getD i ah
def aA.get(d:aA)(i j:Nat):SV:=.v<|d.vl i j
def aA.Ct(d:aA)(i:Nat):bL:=(fM d.wd).map<|d.get i
def aA.sub(d:aA)(a n:Nat):aA:=
 match d with
 |.ints k xs=>.ints k<|(xs.drop a).take n
 |.cH w xs=>.cH w<|(xs.drop a).take n
 |.xx xs=>.xx<|(xs.drop a).take n
def ikN:IntKind->Nat
 |.i8=>0|.i16=>1|.i32=>2|.i64=>3|.u8=>4|.u16=>5|.u32=>6|.u64=>7
def lS(b:IntKind):=ap (ikN s)<|ikN b
def aA.wF:aA->aA->Option aA
 |.ints k xs,.ints e h=>cond (lS k e) (O<|.ints k<|xs++h) ae
 |.cH w xs,.cH r h=>cond (ap w r) (O<|.cH w<|xs++h) ae
 |_,_=>ae
def SV.Np:SV->Option Bool
 |.bl b=>O b
 |.v (.bool b)=>O b
 |_=>ae
def SV.Nq:SV->Option (IntKind×Int)
 |.v (.int k x)=>O (k,x)
 |_=>ae
def lC(k:IntKind):List SV->Option (N)
 | []=>O []
 |c::h=>match c.Nq,lC k h with
  |some (e,x),O xs=>cond (lS k e) (O<|x::xs) ae
  |_,_=>ae
def aA.Mo(d:aA)(i j:Nat)(cs:bL):Option aA:=
 match d,cs with
 |.cH w xs,cs=>match lC .i64 cs with
  |some row=>cond (ap j 0&&ap cs.length w) (O<|.cH w<|xs.set i row) ae
  |none=>ae
 |.ints k xs,[.v<|.int h x]=>cond (lS k h&&ap j 0) (O<|.ints k<|xs.set i x) ae
 |.xx xs,[.bl x]=>cond (ap j 0) (O<|.xx<|xs.set i x) ae
 |_,_=>ae
inductive bm where
 |cells (ty:TypeId) (cs:List SV)
 |iA (ty:TypeId) (d:aA)
 |row (ty:TypeId) (d:aA)
 |mp (kk vk:VK) (es:List (N×N))
 |rc (ty:TypeId) (wd n:Nat) (cs:List SV)
 |fr (ty:TypeId) (xs:N)
 |ob (ty:TypeId) (r:Nat) (s:M)
abbrev h_:=Nat->Option bm
abbrev bN:=List<|Nat×bm
def SV.sx:Value->SV
 |.bool b=>.bl b
 |x=>.v x
def SV.Bc:SV->SV
 |.av (.ints k xs)=>.ag<|xs.map λx=>.v<|.int k x
 |x=>x
def SV.cellsOf:SV->List SV
 |.ag h=>h
 |x=>[x]
def SV.one:SV->Bool
 |.v (.agg _)=>ah
 |.v (.tuple _)=>ah
 |.ag _=>ah
 |.tu _=>ah
 |.av _=>ah
 |.any=>ah
 |_=>ab
structure aq where
 n:Nat
 T:Nat->SV
 H:Nat->Option bm
 U:Nat->Bool
def jD{α:Type}(f:Nat->α)(k:Nat)(x:α):Nat->α:=λi=>cond (ap i k) x<|f i
def cc{α:Type}(f:Nat->α):List (Nat×α)->Nat->α
 | []=>f
 |(k,x)::r=>cc (jD f k x) r
def aq.ev(S:aq):Operand->SV
 |.tmp t=>S.T t
 |.const x=>SV.sx x
 |.global g=>.v<|.pointer<|O ⟨g,0,ae⟩
 |.func f=>.fn (.func f) [] []
def aq.put(S:aq)(d:Option Nat)(x:SV):aq:=
 match d with
 |some d=>{S with T:=jD S.T d x}
 |none=>S
abbrev B(x:Int):SV:=.v<|.int .i64 x
abbrev cP(x:Nat):SV:=.v<|.int .i64 x
abbrev dy(x:Int):SV:=.v<|.int .u64 x
abbrev aD(x:ByteArray):SV:=.v<|.string x
abbrev fN(x:Bool):SV:=.v<|.bool x
abbrev dm(x:List Int):SV:=.bZ<|.ints .i64 x
abbrev qT(x:List Int):SV:=.av<|.ints .i64 x
abbrev U(x:Nat):SV:=.p x 0 0
structure lq where
 p:Prop
 d:Decidable p
abbrev E(p:Prop)[d:Decidable p]:lq:=⟨p,d⟩
structure c_ where
 vc:List lq
 val:SV
 jN:List Nat:=[]
 fT:List (Nat×Option bm):=[]
 news:List Nat:=[]
def c_.fail:c_:={vc:=[⟨False,inferInstance⟩],val:=.any}
def c_.ret(x:SV):c_:={vc:=[],val:=x}
def xq{q:Prop}(h:∀c∈c_.fail.vc,c.p):q:=(h (⟨False,inferInstance⟩)<|by simp[c_.fail]).elim
def aq.wF(S:aq)(d:Option Nat)(r:c_):aq:=
 {n:=S.n
  T:=match d with|some d=>jD S.T d r.val|none=>S.T
  H:=cc S.H r.fT
  U:=cc S.U<|r.news.map λk=>(k,ab)}
structure s4 where
 pre:List lq
 uses:List Nat:=[]
 ret:SV
 hp:List (Nat×bm):=[]
abbrev ajl:Type:=List SV->(Nat->Option bm)->Nat->s4
inductive CT where
 |leaf (r:s4)
 |ite (c:lq) (a b:CT)
def CT.get:CT->s4
 |.leaf r=>r
 |.ite c a b=>cond (@decide c.p c.d) a.get b.get
structure u9 where
 own:Bool:=ah
 tr:List SV->(Nat->Option bm)->Nat->CT
abbrev ll:=FuncId->Option u9
abbrev xp:=List<|Nat×u9
def u9.fn(c:u9):ajl:=λl H n=>(c.tr l H n).get
def s4.none:s4:={pre:=[⟨False,inferInstance⟩],ret:=.any}
section
variable(P:Program)
def f_(t:TypeId):=(P.underlying t).getD .invalid
def lj(t:TypeId):Bool:=match f_ P t with
 |.struct _=>ab
 |.array _ _=>ab
 |_=>ah
def fK(t:TypeId):Bool:=match f_ P t with
 |.invalid=>ah
 |_=>ab
def aT(t:TypeId):Nat:=match P.info? t with
 |some i=>i.size
 |none=>0
def l9(t:TypeId):Nat:=match P.info? t with
 |some i=>i.bytes
 |none=>0
def r7(t:TypeId):Option Value:=match P.info? t with
 |some i=>i.zero
 |none=>ae
def T6(fs:List Field):=fs.all λf=>match f_ P f.type with
 |.int .i64=>ab
 |_=>ah
def yG(k:IntKind):List Value->Bool
 | []=>ab
 |.int h x::r=>lS k h&&decide (x=0)&&yG k r
 |_::_=>ah
def Y7(e:TypeId)(n:Nat):Option aA:=match f_ P e,r7 P e with
 |.int k,O z=>cond (yG k z.cells.toList&&ap z.cells.toList.length 1) (O<|.ints k<|au n 0) ae
 |.bool,O (.bool b)=>cond b ae<|O<|.xx<|au n ah
 |.struct r,O (.agg h)=>cond (yG .i64 h.toList&&ap h.toList.length (aT P e)) (O<|.cH (aT P e)<|au n<|au (aT P e) 0) ae
 |_,_=>ae
def aaw(e:TypeId)(cs:bL)(n:Nat):Option aA:=match f_ P e with
 |.int k=>(lC k cs).map<|.ints k
 |.struct h=>cond (T6 P h.toList) ((lC .i64 cs).map λr=>.cH (aT P e)<|(fM n).map λi=>(r.drop<|i*aT P e).take<|aT P e) ae
 |_=>ae
def aj5(e:TypeId)(cs:bL):Option (IntKind×N):=match f_ P e with
 |.int k=>match lC k cs with
  |some xs=>O (k,xs)
  |none=>ae
 |_=>ae
def ZM:List SV->Option (IntKind×N)
 |.v (.int k x)::h=>match lC k h with
  |some xs=>O (k,x::xs)
  |none=>ae
 |_=>ae
def uf(H:h_):SV->SV×List Nat
 |.o l=>match H l with
  |some (.row _ d)=>(.bZ d,[l])
  |_=>(.any,[])
 |.s l off len _=>match H l with
  |some (.iA _ d)=>(.bZ<|d.sub off len,[l])
  |_=>(.any,[])
 |x=>(x,[])
def J6(H:h_):SV->SV×List Nat
 |.bl b=>(.v<|.bool b,[])
 |.ag h=>(.ag<|h.map λc=>(uf H c).1,(h.map λc=>(uf H c).2).flatten)
 |x=>uf H x
def xA(H:h_):List SV->List SV×List Nat
 | []=>([],[])
 |x::xs=>match J6 H x,xA H xs with
  |(y,b),(h,bs)=>(y::h,b++bs)
def mX(l:Nat):=k.any λi=>ap i l
def nc(r:cf):=r.all<|mX k
def H6(r:cf):=k.any<|mX r
def Fu:List Nat->Bool
 | []=>ab
 |k::r=> !mX r k&&Fu r
def isNil{α:Type}:List α->Bool
 | []=>ab
 |_=>ah
mutual
def ids:SV->List Nat
 |.p l _ _=>[l]
 |.o l=>[l]
 |.s l _ _ _=>[l]
 |.m l=>[l]
 |.fn _ a c=>kp a++kp c
 |.ag cs=>kp cs
 |.tu cs=>kp cs
 |.fm _ x=>ids x
 |_=>[]
def kp:List SV->List Nat
 | []=>[]
 |c::cs=>ids c++kp cs
end
mutual
def ug:SV->Bool
 |.bZ _=>ah
 |.dc _=>ah
 |.dp _ _ _=>ah
 |.fn _ a c=>C4 a&&C4 c
 |.ag cs=>C4 cs
 |.tu cs=>C4 cs
 |.fm _ x=>ug x
 |_=>ab
def C4:List SV->Bool
 | []=>ab
 |c::cs=>ug c&&C4 cs
end
def na:bm->List Nat
 |.cells _ h=>kp h
 |.rc _ _ _ h=>kp h
 |.ob _ r _=>[r]
 |_=>[]
def NP:bm->Bool
 |.cells _ h=>C4 h
 |.rc _ _ _ h=>C4 h
 |_=>ab
def I3(H:h_)(uses:cf):List Nat->Bool
 | []=>ab
 |l::r=>(match H l with
  |some b=>nc uses<|na b
  |none=>ah)&&I3 H uses r
def cu{α:Type}:List (Nat×α)->Nat->Option α
 | [],_=>ae
 |(k,x)::r,i=>cond (ap i k) (O x)<|cu r i
def Hx(h:Nat->Option (Nat×Nat))(cells:bL):List (Nat×SV)->Option (List SV)
 | []=>O cells
 |(i,x)::rest=>match h i with
  |none=>ae
  |some (off,size)=>
   cond (ap x.cellsOf.length size&&x.cellsOf.all SV.one&&mF (off+size) cells.length) (Hx h (cells.take off++x.cellsOf++cells.drop (off+size)) rest) ae
def BU(t:TypeId)(b:bm)(i j:Nat):c_:=
 match b with
 |.cells _ h=>
  cond (ap i 0)
   (cond (lj P t) (cond (mF (j+aT P t) h.length) (.ret<|.ag<|(h.drop j).take<|aT P t) .fail)
    <|match h[j]?with
     |some c=>.ret c
     |none=>.fail) .fail
 |.iA _ d=>
  cond (lj P t)
   (match f_ P t with
   |.array _ _=>cond (ap i 0&&ap j 0&&acT d) {vc:=[⟨aT P t=d.len,inferInstance⟩],val:=.av d} .fail
   |_=>.fail)
  <|cond (cK j d.wd) {vc:=[⟨i<d.len,inferInstance⟩],val:=d.get i j} .fail
 |.row _ d=>
  cond (lj P t)
   (match f_ P t with
   |.struct _=>cond (ap j 0&&ap (aT P t) d.wd) {vc:=[⟨i<d.len,inferInstance⟩],val:=.ag<|d.Ct i} .fail
   |_=>.fail)
  <|cond (cK j d.wd) {vc:=[⟨i<d.len,inferInstance⟩],val:=d.get i j} .fail
 |_=>.fail
def avV(l:Nat)(b:bm)(t:TypeId)(i j:Nat)(x:SV):c_:=
 match b,x with
 |.iA r<|.ints k xs,.av (.ints e h)=>cond (lS k e&&ap i 0&&ap j 0)
    {vc:=[⟨h.length=aT P t,inferInstance⟩,⟨h.length=xs.length,inferInstance⟩],val:=.v undef,jN:=[l],fT:=[(l,O<|.iA r<|.ints k h)]} .fail
 |_,_=>.fail
def avW(l:Nat)(b:bm)(t:TypeId)(i j:Nat)(x:SV):c_:=
 cond (ap x.cellsOf.length<|aT P t)
 (match b with
 |.cells e r=>
  cond (ap i 0&&x.cellsOf.all SV.one&&mF (j+aT P t) r.length)
   {vc:=[],val:=.v undef,jN:=[l],fT:=[(l,O<|.cells e<|r.take j++x.cellsOf++r.drop (j+aT P t))]} .fail
 |.iA e d=>match d.Mo i j x.cellsOf with
    |some h=>cond (mF (j+aT P t) d.wd) {vc:=[⟨i<d.len,inferInstance⟩],val:=.v undef,jN:=[l],fT:=[(l,O<|.iA e h)]} .fail
    |none=>match d with
     |.ints k xs=>match lC k x.cellsOf with
      |some y=>cond (ap i 0&&ap j 0) {vc:=[⟨y.length=xs.length,inferInstance⟩],val:=.v undef,jN:=[l],fT:=[(l,O<|.iA e<|.ints k y)]} .fail
      |none=>.fail
     |_=>.fail
 |.row e d=>match d.Mo i j x.cellsOf with
    |some h=>cond (mF (j+aT P t) d.wd) {vc:=[⟨i<d.len,inferInstance⟩],val:=.v undef,jN:=[l],fT:=[(l,O<|.row e h)]} .fail
    |none=>.fail
 |_=>.fail)<|avV P l b t i j x
def BP(t:TypeId):Bool:=match f_ P t with
 |.slice _=>ab
 |_=>ah
def zd(t:TypeId):Bool:=match f_ P t with
 |.string=>ab
 |_=>ah
def Pk(H:h_)(t:TypeId):SV->c_
 |.bZ d=>cond (BP P t) (.ret<|.v<|.int .i64 d.len) .fail
 |.o l=>match H l with
  |some (.row _ d)=>cond (BP P t) {vc:=[],val:=.v<|.int .i64 d.len,jN:=[l]} .fail
  |_=>.fail
 |.s _ _ len _=>cond (BP P t) (.ret<|.v<|.int .i64 len) .fail
 |.v (.string s)=>cond (zd P t) (.ret<|.v<|.int .i64 s.size) .fail
 |.v (.slice ae 0 0)=>cond (BP P t) (.ret<|.v<|.int .i64 0) .fail
 |_=>.fail
def IR(H:h_):SV->Option (aA×List Nat)
 |.bZ d=>O (d,[])
 |.o l=>match H l with
  |some (.row _ d)=>O (d,[l])
  |_=>ae
 |.s l off len _=>match H l with
  |some (.row _ d)=>O (d.sub off len,[l])
  |_=>ae
 |_=>ae
def acS(t:TypeId):Bool:=match f_ P t with
 |.int _=>ab
 |_=>ah
def z7(H:h_)(e:TypeId)(s:SV)(d2:aA)(x:cf)(n:Nat):c_:=
 match s with
 |.o l=>match H l with
  |some (.row r d)=>match d.wF d2 with
   |some h=>cond (ap r e) {vc:=[⟨(d.len+d2.len)*l9 P e<=140737488355328,inferInstance⟩],val:=.o n,jN:=l::x,fT:=[(l,ae),(n,O<|.row e h)],news:=[n]} .fail
   |none=>.fail
  |_=>.fail
 |.v (.slice ae 0 0)=>{vc:=[⟨d2.len*l9 P e<=140737488355328,inferInstance⟩],val:=.o n,jN:=x,fT:=[(n,O<|.row e d2)],news:=[n]}
 |.dc d=>match d.wF d2 with
  |some h=>{vc:=[⟨(d.len+d2.len)*l9 P e<=140737488355328,inferInstance⟩],val:=.bZ h,jN:=x,fT:=[(n,ae)],news:=[n]}
  |none=>.fail
 |_=>.fail
def xD(e:TypeId)(wd:Nat):=fK P e&&ap (aT P e) wd&&cK 0 wd&&cK 0 (l9 P e)&&(match r7 P e with
 |some z=>ap z.cells.size wd&&z.cells.toList.all tY
 |none=>ah)
def Es(H:h_)(e:TypeId)(s x:SV)(n:Nat):c_:=
 match x with
 |.s l off m _=>match H l with
  |some (.cells _ h)=>cond (xD P e (aT P e)&&ap off 0&&ap h.length (m*aT P e))
   (match s with
   |.o k=>match H k with
    |some (.rc u wd k0 r)=>cond (ap u e&&ap wd (aT P e)) {vc:=[⟨(k0+m)*l9 P e<=140737488355328,inferInstance⟩],val:=.o n,jN:=[k,l],fT:=[(k,ae),(n,O<|.rc e (aT P e) (k0+m)<|r++h)],news:=[n]} .fail
    |_=>.fail
   |_=>.fail) .fail
  |_=>.fail
 |_=>.fail
def dY(s:M):N:=s.data.toList.map λb=>(b.toNat)
def acU(e:TypeId):Bool:=match f_ P e,r7 P e with
 |.int .u8,O (.int .u8 x)=>decide (x=0)&&ap (l9 P e) 1
 |_,_=>ah
def Pv:SV->Bool
 |.dc _=>ah
 |_=>ab
def JO(H:h_)(y h:TypeId)(s x:SV)(n:Nat):c_:=
 match f_ P y with
 |.slice e=>
  match x with
  |.v (.int _ m)=>match Y7 P e m.toNat with
   |some d2=>cond (xD P e d2.wd&&(acS P h&&Pv s)) (match z7 P H e s d2 [] n with
    |⟨c,v,jN,fT,news⟩=>⟨⟨0<=m,inferInstance⟩::⟨m<=4294967296,inferInstance⟩::c,v,jN,fT,news⟩) .fail
   |none=>.fail
  |.v (.string b)=>cond (xD P e 1&&(zd P h&&(acU P e&&Pv s))) (z7 P H e s (.ints .u8<|dY b) [] n) .fail
  |x=>match IR H x with
   |some (d2,z)=>cond (xD P e d2.wd&&ap h y) (z7 P H e s d2 z n) .fail
   |none=>cond (ap h y) (Es P H e s x n) .fail
 |_=>.fail
def HT(H:h_)(t:TypeId)(x:SV)(i:Int):c_:=
 match f_ P t with
 |.array len e=>cond (fK P e) (match x with
  |.p l a j=>match H l with
   |some (.cells _ _)=>{vc:=[⟨0<=i,inferInstance⟩,⟨i<len,inferInstance⟩],val:=.p l a<|j+i.toNat*aT P e,jN:=[l]}
   |some (.iA _ d)=>cond (ap a 0&&ap j 0&&ap (aT P e) d.wd) {vc:=[⟨0<=i,inferInstance⟩,⟨i<len,inferInstance⟩],val:=.p l i.toNat 0,jN:=[l]} .fail
   |_=>.fail
  |_=>.fail) .fail
 |.slice e=>cond (fK P e) (match x with
  |.bZ d=>cond (ap (aT P e) d.wd) {vc:=[⟨0<=i,inferInstance⟩,⟨i<d.len,inferInstance⟩],val:=.dp d i.toNat 0} .fail
  |.o l=>match H l with
   |some (.row _ d)=>cond (ap (aT P e) d.wd) {vc:=[⟨0<=i,inferInstance⟩,⟨i<d.len,inferInstance⟩],val:=.p l i.toNat 0,jN:=[l]} .fail
   |_=>.fail
  |.s l off len _=>match H l with
   |some (.cells _ _)=>cond (ap off 0) {vc:=[⟨0<=i,inferInstance⟩,⟨i<len,inferInstance⟩],val:=.p l 0<|i.toNat*aT P e,jN:=[l]} .fail
   |_=>.fail
  |_=>.fail) .fail
 |_=>.fail
def KJ(t:TypeId):Bool:=match f_ P t with
 |.interface _=>ab
 |_=>ah
def EE(h:BinOp)(x y:Int):SV:=
 match h with
 |.eql=>.v<|.bool<|x==y
 |.neq=>.v<|.bool<|x !=y
 |.lss=>.v<|.bool<|decide (x<y)
 |.leq=>.v<|.bool<|decide (x<=y)
 |.gtr=>.v<|.bool<|decide (x>y)
 |.geq=>.v<|.bool<|decide (x>=y)
 |_=>.any
def T8:SV->Option Bool
 |.v .nilIface=>O ab
 |.fm _ _=>O ah
 |_=>ae
def SP(T:TypeDesc)(c d:SV):=match T,c,d with
 |.int _,.v<|.int k a,.v (.int h b)=>cond (lS k h) (O<|a==b) ae
 |.bool,x,y=>match x.Np,y.Np with
  |some a,O b=>O<|a==b
  |_,_=>ae
 |_,_,_=>ae
def Hu(cs h:bL):List Field->Option Bool
 | []=>O ab
 |f::e=>cond (fK P f.type&& !(f.name== "_")) (match cs[f.offset]?,h[f.offset]?with
  |some c,O d=>match SP (f_ P f.type) c d,Hu cs h e with
   |some a,O b=>O<|a&&b
   |_,_=>ae
  |_,_=>ae) ae
def J_(t:TypeId)(cs h:bL):Option Bool:=match f_ P t with
 |.struct e=>cond (!P.stoodInHeld t&& !P.eqGuardType P.depth t) (Hu P cs h e.toList) ae
 |_=>ae
def SQ(t:TypeId)(d e:aA):Option (Nat×N×N):=match f_ P t,d,e with
 |.array n el,.ints k xs,.ints r h=>match f_ P el with
  |.int _=>cond (lS k r&&fK P el&&ap (aT P el) 1&& !P.eqGuardType P.depth t) (O (n,xs,h)) ae
  |_=>ae
 |_,_,_=>ae
def ZL:aA->List SV->Option aA
 |.ints k _,h=>(lC k h).map<|.ints k
 |_,_=>ae
def isC:Operand->Bool
 |.const _=>ab
 |_=>ah
def akr(z:BinOp)(t:TypeId)(u:Bool)(x y:SV):c_:=
 match z,x,y with
 |.shl,.v<|.int k a,.v (.int _ b)=>{vc:=[⟨0<=b,inferInstance⟩],val:=.v<|.int k<|k.wrap<|a*2^(min b.toNat k.bits)}
 |.shr,.v<|.int k a,.v (.int _ b)=>{vc:=[⟨0<=b,inferInstance⟩],val:=.v<|.int k<|a.fdiv<|2^(min b.toNat k.bits)}
 |_,.v<|.int k a,.v (.int i b)=>
  cond (lS k i)
   (match z with
   |.add=>.ret<|.v<|.int k<|k.wrap<|a+b
   |.sub=>.ret<|.v<|.int k<|k.wrap<|a-b
   |.mul=>.ret<|.v<|.int k<|k.wrap<|a*b
   |.quo=>{vc:=[⟨b≠0,inferInstance⟩],val:=.v<|.int k<|k.wrap<|a.tdiv b}
   |.rem=>{vc:=[⟨b≠0,inferInstance⟩],val:=.v<|.int k<|a.tmod b}
   |.and|.or|.xor|.andNot=>.ret<|.v<|.int k<|bits z k a b
   |_=>.ret<|EE z a b) .fail
 |.add,.v<|.string a,.v (.string b)=>{vc:=[⟨a.size+b.size<=9223372036854775807,inferInstance⟩],val:=.v<|.string<|a++b}
 |.eql,.v<|.string a,.v (.string b)=>.ret<|.v<|.bool<|a.toList==b.toList
 |.neq,.v<|.string a,.v (.string b)=>.ret<|.v<|.bool<|!(a.toList==b.toList)
 |.eql,.ag w,.ag r=>match J_ P t w r with
  |some b=>.ret<|.v<|.bool b
  |none=>.fail
 |.neq,.ag w,.ag r=>match J_ P t w r with
  |some b=>.ret<|.v<|.bool<|!b
  |none=>.fail
 |.eql,.av d,.av e=>match SQ P t d e with
  |some (n,xs,h)=>{vc:=[⟨n=xs.length,inferInstance⟩,⟨n=h.length,inferInstance⟩],val:=.v<|.bool<|xs==h}
  |none=>.fail
 |.eql,.av d,.ag w=>match(ZL d w).bind (SQ P t d)with
  |some (n,xs,h)=>{vc:=[⟨n=xs.length,inferInstance⟩,⟨n=h.length,inferInstance⟩],val:=.v<|.bool<|xs==h}
  |none=>.fail
 |.neq,x,.v .nilIface=>match T8 x with
  |some b=>cond (u&&KJ P t) (.ret<|.bl<|!b) .fail
  |_=>.fail
 |_,_,_=>.fail
def xy(x:Option SV)(d:Int):=
 match x with
 |none=>O d
 |some (.v<|.int _ i)=>O i
 |_=>ae
def XH(t:TypeId)(d:aA):Bool:=match f_ P t with
 |.slice e=>fK P e&&ap (aT P e) d.wd
 |_=>ah
def ZR(t:TypeId)(d:aA):Bool:=match f_ P t with
 |.array _ e=>fK P e&&ap (aT P e) d.wd
 |_=>ah
def Mq(H:h_)(t:TypeId)(x:SV)(lo hi h:Option SV)(y:Nat):c_:=
 match x with
 |.v (.string s)=>match xy lo 0,xy hi s.size,zd P t,h with
  |some a,O b,ab,ae=>{vc:=[⟨0<=a,inferInstance⟩,⟨a<=b,inferInstance⟩,⟨b<=s.size,inferInstance⟩],val:=.v<|.string<|s.extract a.toNat b.toNat}
  |_,_,_,_=>.fail
 |.bZ d=>match xy lo 0,xy hi d.len,h,XH P t d with
  |some a,O b,O<|.v<|.int _ c,ab=>cond hi.isSome {vc:=[⟨0<=a,inferInstance⟩,⟨a<=b,inferInstance⟩,⟨b<=d.len,inferInstance⟩,⟨c=b,inferInstance⟩],val:=.dc<|d.sub a.toNat<|b.toNat-a.toNat} .fail
  |_,_,_,_=>.fail
 |.o l=>match H l with
  |some (.row _ d)=>match xy lo 0,xy hi d.len,h,XH P t d with
   |some a,O b,ae,ab=>{vc:=[⟨0<=a,inferInstance⟩,⟨a<=b,inferInstance⟩,⟨b<=d.len,inferInstance⟩],val:=.s l a.toNat (b.toNat-a.toNat) ae,jN:=[l]}
   |_,_,_,_=>.fail
  |_=>.fail
 |.p l 0 0=>match f_ P t,H l with
  |.array n e,O (.iA _ d)=>match xy lo 0,xy hi n,h,ZR P t d with
   |some a,O b,ae,ab=>{vc:=[⟨0<=a,inferInstance⟩,⟨a<=b,inferInstance⟩,⟨b<=n,inferInstance⟩,⟨n=d.len,inferInstance⟩],val:=.s l a.toNat (b.toNat-a.toNat)<|O<|n-a.toNat,jN:=[l]}
   |some a,O b,O<|.v<|.int _ c,ab=>cond hi.isSome {vc:=[⟨a=0,inferInstance⟩,⟨0<=b,inferInstance⟩,⟨b<=c,inferInstance⟩,⟨0<c,inferInstance⟩,⟨c<=n,inferInstance⟩,⟨n=d.len,inferInstance⟩,⟨n<=4294967296,inferInstance⟩],val:=.o y,jN:=[l],fT:=[(l,ae),(y,O<|.row e<|d.sub 0 b.toNat)],news:=[y]} .fail
   |_,_,_,_=>.fail
  |_,_=>.fail
 |_=>.fail
def NK(H:h_)(h dst:TypeId)(x:SV)(n:Nat):c_:=
 cond (fK P h) (match f_ P dst,x with
 |.int k,.v (.int _ a)=>.ret<|.v<|.int k<|k.wrap a
 |.string,x=>match f_ P h with
  |.slice e=>match f_ P e,IR H x with
   |.int .u8,O (.ints .u8 xs,r)=>{vc:=[],val:=.v<|.string<|strOfNums xs,jN:=r}
   |_,_=>.fail
  |_=>.fail
 |.slice e,.v (.string s)=>match f_ P e with
  |.int .u8=>cond (zd P h) {vc:=[⟨s.size<=9223372036854775807,inferInstance⟩],val:=.o n,fT:=[(n,O<|.row e<|.ints .u8<|dY s)],news:=[n]} .fail
  |_=>.fail
 |_,_=>.fail) .fail
def apN(t:TypeId)(len cap:Int)(n:Nat):c_:=
 match f_ P t with
 |.slice e=>match Y7 P e len.toNat with
  |some d=>cond (fK P e&&ap (aT P e) d.wd) {vc:=[⟨0<=len,inferInstance⟩,⟨len<=cap,inferInstance⟩,⟨l9 P e*cap<=281474976710656,inferInstance⟩,⟨cap<=9223372036854775807,inferInstance⟩],val:=.o n,fT:=[(n,O<|.row e d)],news:=[n]} .fail
  |none=>match len with
   |.ofNat 0=>cond (xD P e<|aT P e) {vc:=[⟨0<=cap,inferInstance⟩,⟨l9 P e*cap<=281474976710656,inferInstance⟩,⟨cap<=9223372036854775807,inferInstance⟩],val:=.o n,fT:=[(n,O<|.rc e (aT P e) 0 [])],news:=[n]} .fail
   |_=>.fail
 |_=>.fail
def ap3(t:TypeId)(z:Value):Option bm:=
 cond (z.cells.toList.all tY)
  (match f_ P t with
  |.array len e=>match f_ P e with
   |.int k=>cond ((cK 4 len||(lS k .i64&&cK 1 len))&&yG k z.cells.toList&&ap z.cells.toList.length len) (O<|.iA t<|.ints k<|au len 0)<|O<|.cells t<|z.cells.toList.map SV.sx
   |.struct h=>cond (cK 4 len&&T6 P h.toList&&yG .i64 z.cells.toList&&ap z.cells.toList.length (len*aT P e)) (O<|.iA t<|.cH (aT P e)<|au len<|au (aT P e) 0)<|O<|.cells t<|z.cells.toList.map SV.sx
   |_=>O<|.cells t<|z.cells.toList.map SV.sx
  |_=>O<|.cells t<|z.cells.toList.map SV.sx) ae
def ala(t:TypeId):Option CK:=match f_ P t with
 |.int k=>O<|.i k
 |.bool=>O .b
 |_=>ae
def alf:List Field->Option (List CK)
 | []=>O []
 |f::e=>match ala P f.type,alf e with
  |some c,O h=>O<|c::h
  |_,_=>ae
def awW(t:TypeId):Option VK:=match f_ P t with
 |.struct h=>(alf P h.toList).map .st
 |_=>(ala P t).map .one
def J5:CK->Int->SV
 |.i k,x=>.v<|.int k x
 |.b,x=>.v<|.bool<|x==1
def yO:List CK->N->List SV
 | [],_=>[]
 |c::h,xs=>J5 c (xs.headD 0)::yO h xs.tail
def vkS:VK->N->SV
 |.one c,xs=>J5 c<|xs.headD 0
 |.st h,xs=>.ag<|yO h xs
def Sl:CK->SV->Option Int
 |.i k,.v (.int h x)=>cond (lS k h) (O x) ae
 |.b,x=>x.Np.map λb=>cond b 1 0
 |_,_=>ae
def NF:List CK->List SV->Option (N)
 | [],[]=>O []
 |c::h,x::xs=>match Sl c x,NF h xs with
  |some a,O r=>O<|a::r
  |_,_=>ae
 |_,_=>ae
def QY:VK->SV->Option (N)
 |.one c,x=>(Sl c x).map λa=>[a]
 |.st h,.ag xs=>NF h xs
 |_,_=>ae
def Sq:CK->Value->Bool
 |.i k,.int h x=>lS k h&&decide (x=0)
 |.b,.bool b=> !b
 |_,_=>ah
def Su:List CK->List Value->Bool
 | [],[]=>ab
 |c::h,x::xs=>Sq c x&&Su h xs
 |_,_=>ah
def Yh:VK->Value->Bool
 |.one c,x=>Sq c x
 |.st h,.agg xs=>Su h xs.toList
 |_,_=>ah
def tX:VK->Nat
 |.one _=>1
 |.st h=>h.length
def Fm:List Field->Nat->List CK->Bool
 | [],_,[]=>ab
 |f::e,j,.i k::h=>ap f.offset j&&fK P f.type&& !(f.name== "_")&&(match f_ P f.type with
  |.int r=>lS k r
  |_=>ah)&&Fm e (j+1) h
 |_,_,_=>ah
def zf(h:TypeId)(x:VK):=match x with
 |.one (.i k)=>(match f_ P h with
  |.int u=>lS k u
  |_=>ah)
 |.one .b=>ah
 |.st e=>(match f_ P h with
  |.struct r=> !P.stoodInHeld h&& !P.eqGuardType P.depth h&&Fm P r.toList 0 e
  |_=>ah)
def ado(t:TypeId)(n:Nat):c_:=match f_ P t with
 |.map h y=>match awW P h,awW P y with
  |some x,O z=>cond (fK P h&&fK P y&&zf P h x) {vc:=[],val:=.m n,fT:=[(n,O<|.mp x z [])],news:=[n]} .fail
  |_,_=>.fail
 |_=>.fail
def Sm(x y:CK):=match x,y with
 |.i k,.i h=>lS k h
 |.b,.b=>ab
 |_,_=>ah
def Ss:List CK->List CK->Bool
 | [],[]=>ab
 |c::e,d::h=>Sm c d&&Ss e h
 |_,_=>ah
def Yg(a b:VK):=match a,b with
 |.one c,.one d=>Sm c d
 |.st e,.st h=>Ss e h
 |_,_=>ah
def Pm(H:h_)(t:TypeId)(m k:SV)(ok:Bool):c_:=match f_ P t,m with
 |.map e y,.m l=>match H l,r7 P y with
  |some (.mp x h es),O z=>match QY x k with
   |some key=>cond (zf P e x&&Yh h z&&fK P y) {vc:=[],val:=cond ok (.tu [vkS h<|sw (tX h) es key,.v<|.bool<|AA es key])<|vkS h<|sw (tX h) es key,jN:=[l]} .fail
   |none=>.fail
  |_,_=>.fail
 |_,_=>.fail
def Pp(H:h_)(t:TypeId)(m k v:SV):c_:=match f_ P t,m with
 |.map z e,.m l=>match H l with
  |some (.mp h y es)=>match QY h k,QY y v with
   |some key,O x=>cond (zf P z h) {vc:=[],val:=.v undef,jN:=[l],fT:=[(l,O<|.mp h y<|(key,x)::es)]} .fail
   |_,_=>.fail
  |_=>.fail
 |_,_=>.fail
def KW(h:Bool):Option SV->SV->Option SV
 |some (.v<|.int k a),.v (.int _ b)=>O<|.v<|.int k<|cond h (max a b)<|min a b
 |_,_=>ae
def Uz(l:bL)(h:Bool):=match l with
 | []=>ae
 |x::r=>match x with
  |.v (.int k p)=>r.foldl (KW h)<|O<|.v<|.int k p
  |_=>ae
def J2(H:h_)(cs:bL)(br uses:cf)(ret:SV)(hp:bN):=
 nc uses (kp cs)&&(I3 H uses uses&&(!H6 br uses&&(Fu (hp.map (·.1))&&(hp.all (λx=>nc (hp.map (·.1))<|na x.2)&&nc (hp.map (·.1)) (ids ret)))))
def Kc(br:cf)(ret:SV)(hp:bN):cf:=cond (isNil br||(ug ret&&hp.all (λx=>NP x.2))) [] br
variable(Γ:ll)
def Bl(H:h_)(R:cf):h_:=λl=>cond (mX R l) (H l) ae
def akx:Option bm->List Nat
 |some b=>na b
 |none=>[]
def UB(H:h_)(h x:cf):cf:=((x.map λl=>akx<|H l).flatten).filter λk=> !mX h k
def grow(H:h_):Nat->List Nat->List Nat->List Nat
 |0,seen,fr=>seen++fr
 |k+1,seen,fr=>cond (isNil fr) seen<|grow H k (seen++fr)<|UB H (seen++fr) fr
def uH(H:h_)(args:bL):cf:=grow H 4 []<|kp args
def EG(own:Bool)(H:h_)(args:bL):List SV×List Nat:=cond own (args,[])<|xA H args
def II(H:h_)(args cs:bL)(br:cf):s4->c_
 |⟨pre,uses,ret,hp⟩=>
      cond (nc (uH H args) uses&&J2 H cs br uses ret hp)
       {vc:=pre,val:=ret,jN:=br++uses,fT:=(Kc br ret hp).map (λl=>(l,ae))++(uses.map (λl=>(l,ae))++hp.map (λx=>(x.1,O x.2))),news:=(hp.map (·.1)).filter λl=> !mX uses l} .fail
def ED(H:h_)(f:FuncId)(args:bL)(n:Nat):c_:=
 match Γ f with
 |some c=>match EG c.own H args with
  |(h,e)=>II H args h e<|c.fn h (Bl H<|uH H args) n
 |none=>.fail
def X0(o:Oper)(ρ:Operand->SV)(H:h_)(n:Nat):=
 match o.op with
 |.call c=>match c.callee with
  |.value f=>match ρ f with
   |.fn (.func f) first captured=>match Γ f with
    |some h=>match EG h.own H (first++c.args.toList.map ρ++captured)with
     |(e,r)=>O (h.tr e (Bl H<|uH H<|first++c.args.toList.map ρ++captured) n,II H (first++c.args.toList.map ρ++captured) e r)
    |none=>ae
   |_=>ae
  |_=>ae
 |_=>ae
def step(o:Oper)(ρ:Operand->SV)(H:h_)(n:Nat):c_:=
 match o.op with
 |.move x|.assign x=>.ret<|ρ x
 |.pick c a b=>match ρ c with
  |.bl ab=>.ret<|ρ a
  |.bl ah=>.ret<|ρ b
  |_=>.fail
 |.alloc t=>match r7 P t with
  |some z=>match ap3 P t z with
   |some b=>{vc:=[],val:=.p n 0 0,fT:=[(n,O b)],news:=[n]}
   |none=>.fail
  |none=>.fail
 |.box t x=>match ρ x with
  |.av d=>{vc:=[],val:=.p n 0 0,fT:=[(n,O<|.iA t d)],news:=[n]}
  |x=>cond (x.cellsOf.all SV.one) {vc:=[],val:=.p n 0 0,fT:=[(n,O<|.cells t x.cellsOf)],news:=[n]} .fail
 |.build t parts=>match r7 P t,f_ P t with
  |some z,.struct A=>match Hx (λi=>(A[i]?).map λf=>(f.offset,aT P f.type)) (z.cells.toList.map SV.sx) (parts.toList.map λx=>(x.1,(ρ x.2).Bc))with
   |some q=>cond (z.cells.toList.all tY&&A.toList.all (λf=>fK P f.type)) (.ret<|.ag q) .fail
   |none=>.fail
  |some z,.array _ e=>match Hx (λi=>O (i*aT P e,aT P e)) (z.cells.toList.map SV.sx) (parts.toList.map λx=>(x.1,(ρ x.2).Bc))with
   |some q=>cond (z.cells.toList.all tY&&fK P e) (.ret<|.ag q) .fail
   |none=>.fail
  |_,_=>.fail
 |.buildSlice t len parts=>match f_ P t with
  |.slice e=>match r7 P e with
   |some z=>match Hx (λi=>O (i*aT P e,aT P e)) ((au len<|z.cells.toList.map SV.sx).flatten) (parts.toList.map λx=>(x.1,ρ x.2))with
    |some q=>cond (z.cells.toList.all tY&&fK P e&&ap z.cells.size (aT P e)&&mF (len*aT P e) 16777216&&ap q.length (len*aT P e))
     (match aaw P e q len with
     |some d=>cond (ap d.wd (aT P e)&&ap d.len len&&cK 0 (aT P e)) {vc:=[],val:=.o n,fT:=[(n,O<|.row e d)],news:=[n]} .fail
     |none=>{vc:=[],val:=.s n 0 len<|O len,fT:=[(n,O<|.cells e q)],news:=[n]}) .fail
    |none=>.fail
   |none=>.fail
  |_=>.fail
 |.load t x=>cond (fK P t) (match ρ x with
  |.p l i j=>match H l with
   |some b=>match BU P t b i j with
    |⟨c,x,_,_,_⟩=>⟨c,x,[l],[],[]⟩
   |none=>.fail
  |.dp d i j=>cond (lj P t) (cond (ap j 0&&ap (aT P t) d.wd) (.ret<|.ag<|d.Ct i) .fail)
  <|cond (cK j d.wd) (.ret<|d.get i j) .fail
  |_=>.fail) .fail
 |.store t a x=>cond (fK P t) (match ρ a with
  |.p l i j=>match H l with
   |some b=>avW P l b t i j<|ρ x
   |none=>.fail
  |_=>.fail) .fail
 |.nilCheck x=>match ρ x with
  |.p l i j=>.ret<|.p l i j
  |_=>.fail
 |.binOp op t x y _=>akr P op t (isC y) (ρ x)<|ρ y
 |.unOp op _ x=>match op,ρ x with
  |.not,.bl b=>.ret<|.bl<|!b
  |.not,.v (.bool b)=>.ret<|.v<|.bool<|!b
  |.neg,.v (.int k a)=>.ret<|.v<|.int k<|k.wrap<|0-a
  |_,_=>.fail
 |.convert src dst x=>NK P H src dst (ρ x) n
 |.makeInterface t x=>match f_ P t with
  |.interface _=>.fail
  |.invalid=>.fail
  |_=>.ret<|.fm t<|ρ x
 |.makeFunc f first captured=>.ret<|.fn f (first.toList.map ρ)<|captured.toList.map ρ
 |.makeMap t hint=>match hint with
  |none=>ado P t n
  |some _=>.fail
 |.lookup t x i ok=>Pm P H t (ρ x) (ρ i) ok
 |.mapUpdate t m k v=>Pp P H t (ρ m) (ρ k)<|ρ v
 |.makeSlice t len cap=>match ρ len,ρ cap with
  |.v<|.int _ a,.v (.int _ b)=>apN P t a b n
  |_,_=>.fail
 |.slice t x lo hi u=>Mq P H t (ρ x) (lo.map ρ) (hi.map ρ) (u.map ρ) n
 |.fieldAddr s x f=>match f_ P s with
  |.struct A=>match A[f]?with
   |some f=>cond (ap (aT P f.type) 0) .fail<|match ρ x with
    |.p l i j=>.ret<|.p l i<|j+f.offset
    |.dp d i j=>.ret<|.dp d i<|j+f.offset
    |_=>.fail
   |none=>.fail
  |_=>.fail
 |.indexAddr t x i=>match ρ i with
  |.v (.int _ i)=>HT P H t (ρ x) i
  |_=>.fail
 |.index t x i=>match f_ P t,ρ x,ρ i with
  |.string,.v<|.string s,.v (.int _ i)=>{vc:=[⟨0<=i,inferInstance⟩,⟨i<s.size,inferInstance⟩],val:=.v<|.int .u8 (s.data.toList.getD i.toNat 0).toNat}
  |.array n e,.av<|.ints k xs,.v (.int _ i)=>cond (fK P e&& !lj P e&&ap (aT P e) 1) {vc:=[⟨0<=i,inferInstance⟩,⟨i<n,inferInstance⟩,⟨n=xs.length,inferInstance⟩],val:=.v<|.int k<|xs.getD i.toNat 0} .fail
  |.array n e,.ag q,.v (.int _ i)=>match aj5 P e q with
   |some (k,xs)=>cond (fK P e&& !lj P e&&ap (aT P e) 1&&ap n xs.length) {vc:=[⟨0<=i,inferInstance⟩,⟨i<n,inferInstance⟩],val:=.v<|.int k<|xs.getD i.toNat 0} .fail
   |none=>match cond (lj P e) (ZM q) ae with
    |some (k,xs)=>cond (fK P e&&ap (n*aT P e) q.length) {vc:=[⟨0<=i,inferInstance⟩,⟨i<n,inferInstance⟩],val:=.ag<|(fM<|aT P e).map λj=>.v<|.int k<|xs.getD (i.toNat*aT P e+j) 0} .fail
    |none=>cond (fK P e&&lj P e) (match cond (mF (i.toNat*aT P e+aT P e) q.length) (c_.ret<|.ag<|(q.drop<|i.toNat*aT P e).take<|aT P e) .fail with
    |⟨c,x,_,_,_⟩=>⟨⟨0<=i,inferInstance⟩::⟨i<n,inferInstance⟩::c,x,[],[],[]⟩) .fail
  |_,_,_=>.fail
 |.extract x i=>match ρ x with
  |.tu g=>match g[i]?with
   |some c=>.ret c
   |none=>.fail
  |_=>.fail
 |.typeAssert x t r ok=>match f_ P r,ρ x with
  |.interface _,_=>.fail
  |.invalid,_=>.fail
  |_,.fm h y=>cond (ap h r) (.ret<|cond ok (.tu [y,.bl ab]) y) .fail
  |_,_=>.fail
 |.call c=>match c.callee with
  |.builtin b=>match b,c.args.toList.map ρ,c.argTypes.toList with
   |.len,[x],[t]=>Pk P H t x
   |.append,[s,x],[w,h]=>JO P H w h s x n
   |.min,l,_=>match Uz l ah with
    |some x=>.ret x
    |none=>.fail
   |.max,l,_=>match Uz l ab with
    |some x=>.ret x
    |none=>.fail
   |_,_,_=>.fail
  |.value f=>match ρ f with
   |.fn (.func f) first captured=>ED Γ H f (first++c.args.toList.map ρ++captured) n
   |_=>.fail
  |_=>.fail
 |_=>.fail
def kx(o:Oper)(ρ:Operand->SV)(H:h_):cf:=
 match o.op with
 |.load _ x=>ids<|ρ x
 |.convert _ _ x=>ids<|ρ x
 |.slice _ x _ _ _=>ids<|ρ x
 |.lookup _ x _ _=>ids<|ρ x
 |.mapUpdate _ x _ _=>ids<|ρ x
 |.indexAddr _ x _=>ids<|ρ x
 |.store _ a _=>ids<|ρ a
 |.call c=>match c.callee with
  |.builtin _=>kp<|c.args.toList.map ρ
  |.value f=>match ρ f with
   |.fn _ first captured=>uH H<|first++c.args.toList.map ρ++captured
   |_=>[]
  |_=>[]
 |_=>[]
end
structure Loc where
 g:Nat
 wd:Nat
 len:Nat
 cap:Nat
 nil:Bool
abbrev bp:=Nat->Option Loc
def Loc.val(L:Loc):Value:=if L.nil then .slice ae 0 0 else .slice (O ⟨L.g,0,ae⟩) L.len L.cap
def Hb(D:aW)(w:World)(n wd:Nat)(ok:Nat->Nat->Value->Prop)(u:Value):Prop:=
 ∃A c,u=.slice A n c/\n<=c/\(0<n->∃g h,A=O ⟨g,h,ae⟩/\D g/\∀i j,i<n->j<wd->∃x,w.cell? ⟨g,h+(i*wd+j),ae⟩=O x/\ok i j x)
def aA.ok(d:aA)(i j:Nat)(x:Value):Prop:=x=d.vl i j
def va(D:aW)(w:World)(d:aA)(u:Value):Prop:=Hb D w d.len d.wd (d.ok) u
mutual
def F(D:aW)(w:World)(β:bp):SV->Value->Prop
 |.v x,u=>u=x
 |.bl b,u=>u=.bool b
 |.p l i j,u=>∃L,β l=O L/\L.nil=ah/\u=.pointer (O ⟨L.g,i*L.wd+j,ae⟩)
 |.o l,u=>∃L,β l=O L/\u=L.val
 |.s l h n c,u=>∃L,β l=O L/\∃A z,u=.slice A n z/\n<=z/\(0<n->L.nil=ah/\A=O ⟨L.g,h*L.wd,ae⟩)/\(∀k,c=O k->z=k)/\h+n<=L.len
 |.bZ d,u=>va D w d u
 |.dc d,u=>va D w d u/\∃A,u=.slice A d.len d.len
 |.m l,u=>∃L,β l=O L/\L.nil=ah/\u=.map (O L.g)
 |.dp d i j,u=>∃g h,u=.pointer (O ⟨g,h+(i*d.wd+j),ae⟩)/\D g/\∀e,e<d.wd->∃x,w.cell? ⟨g,h+(i*d.wd+e),ae⟩=O x/\d.ok i e x
 |.av d,u=>match d with
  |.ints k xs=>u=.agg (xs.map (cg k)).toArray
  |_=>False
 |.fn f a c,u=>∃us r,u=.func f us.toArray r.toArray/\Z D w β a us/\Z D w β c r
 |.ag cs,u=>∃us,u=.agg us.toArray/\Z D w β cs us
 |.tu cs,u=>∃us,u=.tuple us.toArray/\Z D w β cs us
 |.fm t x,u=>∃y,u=.iface t y/\F D w β x y
 |.any,_=>True
def Z(D:aW)(w:World)(β:bp):List SV->List Value->Prop
 | [],us=>us= []
 |c::cs,us=>∃x xs,us=x::xs/\F D w β c x/\Z D w β cs xs
end
def ud:CK->Int->Value
 |.i k,x=>.int k x
 |.b,x=>.bool<|x==1
def vo:List CK->N->List Value
 | [],_=>[]
 |c::h,xs=>ud c (xs.headD 0)::vo h xs.tail
def hY:VK->N->Value
 |.one c,xs=>ud c<|xs.headD 0
 |.st h,xs=>.agg (vo h xs).toArray
def ayU(w:World)(g:Nat)(y z:VK)(r:List (N×N)):Prop:=
 ∃u h x,w.heap[g]? =O (.map u h)/\
  u.toList.map (λe=>(e.key,e.val))=x.map (λp=>(hY y p.1,hY z p.2))/\(∀p∈x,p.1.length=tX y/\p.2.length=tX z)/\(∀k,eh x k=eh r k)
def vO(h:Nat×Nat)(n:Nat):Prop:=h.1=h.2\/n<=h.1
def gk(D:aW)(w:World)(β:bp)(L:Loc):bm->Prop
 |.cells c m=>L.nil=ah/\∃e,w.heap[L.g]? =O (.cells e.toArray c (0,0))/\Z D w β m e/\∀u∈e,u.oneCell'=ab
 |.iA c d=>L.nil=ah/\L.wd=d.wd/\∃e:List Value,w.heap[L.g]? =O (.cells e.toArray c (0,0))/\e.length=d.len*d.wd/\
    (∀i j,i<d.len->j<d.wd->∃x,e[i*d.wd+j]? =O x/\d.ok i j x)/\L.len=d.len
 |.row c d=>L.wd=d.wd/\L.len=d.len/\((L.nil=ab/\d.len=0)\/(L.nil=ah/\d.len<=L.cap/\L.cap<=maxLen/\
    ∃(e:bG) (h:TypeId) (fr:Nat×Nat),w.heap[L.g]? =O (.cells e.toArray h fr)/\vO fr e.length/\L.cap*d.wd<=e.length/\
    ∀i j,i<d.len->j<d.wd->∃x,e[i*d.wd+j]? =O x/\d.ok i j x))
 |.mp y z es=>L.nil=ah/\ayU w L.g y z es
 |.rc c wd n m=>L.wd=wd/\L.len=n/\∃f,f.length=n*wd/\Z D w β m f/\((L.nil=ab/\n=0)\/(L.nil=ah/\n<=L.cap/\L.cap<=maxLen/\
    ∃(e:bG) (h:TypeId) (fr:Nat×Nat),w.heap[L.g]? =O (.cells e.toArray h fr)/\vO fr e.length/\L.cap*wd<=e.length/\e.take (n*wd)=f))
 |.fr c f=>(∀x∈f,0<=x/\x<256)/\L.wd=1/\L.len=f.length/\w.ownsRowF 0 c 1 L.val f.length (f.map<|cg .u8)
 |.ob c r s=>L.nil=ah/\∃a u,w.heap[L.g]? =O (.cells #[a,u,.string s] c (0,0))/\(a=.pointer ae\/a=.pointer (O ⟨L.g,0,ae⟩))/\F D w β (.o r) u
def Nj:Value:=.iface 360<|.agg #[.pointer (O ⟨2,126,ae⟩)]
def Laid(D:aW)(w:World):Prop:=D 1/\w.cell? ⟨1,0,ae⟩=O Nj
structure A9 (D:Nat->Prop) (w:World):Prop where
 lt:∀g,D g->g<w.heap.size
 laid:Laid D w
instance{D:aW}{w:World}:CoeFun (A9 D w) (λ_=>∀g,D g->g<w.heap.size):=⟨A9.lt⟩
def Laid.qB{D D':aW}{w w':World}(h:Laid D w)(x:∀g,D g->D' g)(y:∀g,D g->w'.heap[g]? =w.heap[g]?):Laid D' w':=⟨x _ h.1,by have:=h.2;simp[World.cell?,y _ h.1]at this|-;exact this⟩
def xr(D:aW)(w:World)(β:bp)(hp:bN):Prop:=
 (∀l b,(l,b)∈hp->∃L,β l=O L/\gk D w β L b/\(L.nil=ah->¬D L.g/\L.g<w.heap.size))/\
 (∀l h b r L e,(l,b)∈hp->(h,r)∈hp->β l=O L->β h=O e->L.nil=ah->e.nil=ah->L.g=e.g->l=h)
def nJ(β:bp)(hp:bN)(g:Nat):Prop:=∃l b L,(l,b)∈hp/\β l=O L/\L.nil=ah/\L.g=g
def uc(P:Program)(f:FuncId):Bool:=match P.funcs[f]?with
 |some fn=> !(fn.name== "runtime.NumGoroutine")&&fn.body.isSome
 |none=>ah
def dv(X:aW)(W h:World):Prop:=
 W.heap.size<=h.heap.size/\h.os=W.os/\h.tape=W.tape/\h.output=W.output/\∀g,g<W.heap.size->¬X g->h.heap[g]? =W.heap[g]?
def more(X:aW)(W h:World):aW:=λg=>X g\/(W.heap.size<=g/\g<h.heap.size)
def zY(β:bp)(D X:aW)(W:World)(h:bN):Prop:=
 ∃e:Nat->Prop,(∀g,e g->(D g\/X g)/\g<W.heap.size)/\∀l b,(l,b)∈h->∃L,β l=O L/\gk e W (λ_=>ae) L b/\(L.nil=ah->¬e L.g/\X L.g/\L.g<W.heap.size)
def xt(P:Program)(f:FuncId)(cap:bL)(hp:bN)(xs:List (List Value))(r:Nat->List (Nat×bm)):Prop:=
 uc P f=ab/\∀l D β W (u:bG),Z D W β cap u->xr D W β hp->A9 D W->(∀l,β l≠ae->l∈hp.map (·.1))->
  ∀(J z:Nat->(Nat->Prop)->World->Prop),
   (∀i X h y,J i X h->dv X h y->J i (more X h y) y)->(∀i X h y,z i X h->dv X h y->z i (more X h y) y)->
   (∀i X h x,xs[i]? =O x->J i X h->YieldAt ke 0 P l x.toArray h λe y=>
     dv (λg=>¬(X g\/D g)) h y/\((e=.returned (.bool ab)/\J (i+1) X y)\/(e=.returned (.bool ah)/\z i X y)))->
   J 0 (nJ β hp) W->
   Calls P f (.func (.yield l) #[] #[]::u).toArray W λe k=>(∃v,e=.returned v)/\((∃X,J xs.length X k/\zY β D X k (r xs.length))\/(∃X i,z i X k/\zY β D X k (r i)))
def adC:Nat->List (Nat×bm):=λ_=>[]
def A'(P:Program)(f:FuncId)(cap:bL)(hp:bN)(xs:List (List Value)):Prop:=xt P f cap hp xs adC
structure FP where
 dst:List Nat
 looks:List Nat
 jN:List Nat
 AW:List Nat
inductive Gd where
 |yes
 |no
 |bad
def gd(h:Array Oper)(o:Oper)(S:aq):Gd:=
 match o.guard with
 |none=>.yes
 |some (j,want)=>match(h[j]?).bind (·.dst)with
  |none=>.no
  |some t=>match S.T t with
   |.bl b=>cond b (cond want .yes .no)<|cond want .no .yes
   |.v (.tuple _)=>.no
   |_=>.bad
def aFy(h:Array Oper)(i:Nat):=h.toList.any λo=>match o.guard with
 |some (j,_)=>ap j i
 |none=>ah
def settle(g:Bool)(v:SV):SV:=cond g (match v with
 |.v (.bool b)=>.bl b
 |v=>v) v
def ahf(g:Bool)(v:SV)(K:SV->Prop):Prop:=cond g (match v with
 |.v (.bool b)=>(b=ab->K (.bl ab))/\(b=ah->K (.bl ah))
 |v=>K v)<|K v
def aCo{α:Type}(x:Value)(K:Value->α):α:=
 match x with
 |.int k n=>K<|.int k n
 |.string s=>K<|.string s
 |.bool b=>K<|.bool b
 |.slice a n c=>K<|.slice a n c
 |.tuple h=>K<|.tuple h
 |.nilIface=>K .nilIface
 |x=>K x
def force{α:Type}(x:SV)(K:SV->α):α:=
 match x with
 |.v x=>aCo x λx=>K<|.v x
 |.bl b=>K<|.bl b
 |.p l i j=>K<|.p l i j
 |.o l=>K<|.o l
 |.s l a n c=>K<|.s l a n c
 |.bZ d=>K<|.bZ d
 |.dc d=>K<|.dc d
 |.m l=>K<|.m l
 |.dp d i j=>K<|.dp d i j
 |.av d=>K<|.av d
 |.fn f a c=>K<|.fn f a c
 |.ag e=>K<|.ag e
 |.tu h=>K<|.tu h
 |.fm t x=>K<|.fm t x
 |.any=>K .any
def N9{α:Type}:List SV->(List SV->α)->α
 | [],K=>K []
 |x::h,K=>force x λx=>N9 h λh=>K<|x::h
def EQ{α:Type}:List (Nat×Option bm)->(List (Nat×Option bm)->α)->α
 | [],K=>K []
 |(l,O<|.cells t h)::r,K=>N9 h λh=>EQ r λr=>K<|(l,O<|.cells t h)::r
 |(l,O<|.rc t wd n h)::r,K=>N9 h λh=>EQ r λr=>K<|(l,O<|.rc t wd n h)::r
 |(l,O b)::r,K=>EQ r λr=>K<|(l,O b)::r
 |(l,ae)::r,K=>EQ r λr=>K<|(l,ae)::r
def FP.of(h:Array Oper)(o:Oper)(jN:cf)(x:List (Nat×Option bm)):FP:=
 {dst:=o.dst.toList,looks:=o.looksAt h,jN:=jN,AW:=x.map (·.1)}
def FP.skip(h:Array Oper)(o:Oper):FP:={dst:=o.dst.toList,looks:=o.looksAt h,jN:=[],AW:=[]}
def Bz(l:Nat):=k.any λi=>ap i l
def meets(r:cf):=k.any<|Bz r
def FP.vp(x y:FP):=
 meets x.dst y.dst||meets x.dst y.looks||meets x.looks y.dst||meets x.AW y.AW||meets x.AW y.jN||meets x.jN y.AW
def amR{α:Type}(n:Nat)(k:Nat->α):α:=match n with
 |0=>k 0
 |m+1=>k<|m+1
def al5(l:List Edge):Nat:=l.foldl (λs e=>cond (GV .any e) (s|||2^e.on|||k.getD e.on 0) s) 0
def Yi:List Oper->List Nat->List Nat
 | [],acc=>acc
 |o::r,acc=>amR (al5 acc o.after.toList) λb=>Yi r<|acc++ [b]
def waits(h:Array Oper):cf:=Yi h.toList []
def T4(bf:cf)(x:FP)(i:Nat):List FP->Nat->Bool
 | [],_=>ab
 |y::r,j=>(!x.vp y||(bf.getD j 0).testBit i)&&T4 bf x i r (j+1)
def Ds(bf:cf):List FP->Nat->Bool
 | [],_=>ab
 |x::r,i=>T4 bf x i r (i+1)&&Ds bf r (i+1)
def Ns:List Oper->Nat->Bool
 | [],_=>ab
 |o::r,i=>o.after.toList.all (λe=> !GV .any e||cK e.on i)&&Ns r (i+1)
def JU(h:Array Oper):=Ns h.toList 0
def indep(h:Array Oper)(l:List FP):=JU h&&Ds (waits h) l 0
section
variable(P:Program)(Γ:ll)
def conds:List lq->Prop->Prop
 | [],k=>k
 |c::h,k=>c.p/\conds h k
def aoR:Op->Bool
 |.panic _=>ab
 |_=>ah
def SZ(h:Array Oper)(i:Nat)(o:Oper)(S:aq)(K:aq->FP->Prop):c_->Prop
 |⟨vc,val,jN,x,news⟩=>
  cond ((o.dst.all λd=>cK d S.n)&&(news.all λk=> !S.U k)&& !aoR o.op)
   (conds vc<|force val λval=>ahf (aFy h i) val λval=>EQ x λx=>
     K (S.wF o.dst ⟨vc,val,jN,x,news⟩)<|FP.of h o (kx o S.ev S.H) x) False
def Tg(k:s4->Prop):CT->Prop
 |.leaf r=>k r
 |.ite c a b=>(c.p->Tg k a)/\(¬c.p->Tg k b)
def S3(h:Array Oper)(i:Nat)(o:Oper)(S:aq)(n:Nat)(K:aq->FP->Prop):Prop:=
 match X0 Γ o S.ev S.H n with
 |some (t,k)=>Tg (λr=>SZ h i o S K<|k r) t
 |none=>SZ h i o S K<|step P Γ o S.ev S.H n
def zG(h:Array Oper)(base:Nat->Nat):List Oper->Nat->aq->List FP->(aq->List FP->Prop)->Prop
 | [],_,S,acc,K=>K S acc
 |o::rest,i,S,acc,K=>
  match gd h o S with
  |.yes=>S3 P Γ h i o S (base i) λx f=>zG h base rest (i+1) x (acc++ [f]) K
  |.no=>cond (o.dst.all λd=>cK d S.n) (zG h base rest (i+1) (S.put o.dst<|.v undef) (acc++ [.skip h o]) K) False
  |.bad=>False
inductive XE where
 |normal
 |exit (id:Nat)
 |ret
structure dV where
 ι:Type
 p:ι->Prop
 tm:ι->List (Nat×SV)
 hp:ι->List (Nat×bm)
 μ:ι->Nat
def bi(ι:Type)(f:ι->Prop×List (Nat×SV)×List (Nat×bm)×Nat):dV:=⟨ι,λi=>(f i).1,λi=>(f i).2.1,λi=>(f i).2.2.1,λi=>(f i).2.2.2⟩
structure Ha where
 f:FuncId
 cap:List SV
 iR:List (Nat×bm)
 xs:List (List Value)
 it:Nat->List Value
 tm:List (Nat×SV)
 hp:Nat->List (Nat×bm)
 p:Nat->Prop:=fun _=>True
 mO:Nat->List (Nat×bm):=adC
 sT:List (Nat×SV):=[]
inductive xu where
 |one (I:dV)
 |nk (G:Type) (I:G->dV)
 |Cr (G:Type) (R:G->Ha)
 |rr (n:Nat)
 |AU (n:Nat) (ds:List Nat)
abbrev bO:=Nat->Option xu
def un0:SV->SV->List (Nat×Option Nat)
 |.p a _ _,.p b _ _=>[(a,O b)]
 |.o a,.o b=>[(a,O b)]
 |.m a,.m b=>[(a,O b)]
 |.o a,.v (.slice ae 0 0)=>[(a,ae)]
 |_,_=>[]
def X_:List SV->List SV->List (Nat×Option Nat)
 |x::xs,y::h=>un0 x y++X_ xs h
 |_,_=>[]
def X9:SV->SV->List (Nat×Option Nat)
 |.fn _ _ c,.fn _ _ h=>X_ c h
 |.ag a,.ag b=>X_ a b
 |.fm _<|.ag a,.fm _ (.ag b)=>X_ a b
 |.fm _ a,.fm _ b=>un0 a b
 |x,y=>un0 x y
def unT(S:aq):List (Nat×SV)->List (Nat×Option Nat)
 | []=>[]
 |(t,x)::r=>X9 x (S.T t)++unT S r
def unC:List SV->List SV->List (Nat×Option Nat)
 |x::xs,y::h=>X9 x y++unC xs h
 |_,_=>[]
def unB:bm->bm->List (Nat×Option Nat)
 |.cells _ a,.cells _ b=>unC a b
 |.ob _ a _,.ob _ b _=>[(a,O b)]
 |.ob _ a _,.cells _ [.v<|.pointer ae,.v<|.slice ae 0 0,.v<|.string _]=>[(a,ae)]
 |_,_=>[]
def I1(S:aq):List (Nat×bm)->List (Nat×Option Nat)->List (Nat×Option Nat)
 | [],m=>m
 |(l,b)::r,m=>match cu m l with
  |some (O a)=>match S.H a with
   |some h=>I1 S r<|m++unB b h
   |none=>I1 S r m
  |_=>I1 S r m
def Bm:aA->aA->Prop
 |.ints k xs,.ints e h=>cond (lS k e) (xs=h) False
 |.cH w xs,.cH r h=>cond (ap w r) (xs=h) False
 |.xx xs,.xx h=>xs=h
 |_,_=>False
def MA:Value->Value->Prop
 |.int k x,.int h y=>cond (lS k h) (x=y) False
 |.string x,.string y=>x=y
 |.bool x,.bool y=>x=y
 |x,y=>x=y
def okB(b:Bool):List Prop:=cond b [] [False]
def Fz(x:Option (Option Nat))(a:Nat):=match x with
 |some (O b)=>ap a b
 |_=>ah
def Pe(m:pT):SV->SV->List Prop
 |.v<|.slice ae 0 0,.o l=>okB<|match cu m l with
  |some ae=>ab
  |_=>ah
 |.v<|.slice ae 0 0,.bZ d=>[d.len=0]
 |.bl a,.v (.bool b)=>[a=b]
 |.v a,.v b=>[MA a b]
 |.p a i j,.p l h x=>okB (Fz (cu m l) a&&ap j x)++(cond (ap i h) [] [i=h])
 |.o a,.o l=>okB<|Fz (cu m l) a
 |.m a,.m l=>okB<|Fz (cu m l) a
 |.bZ a,.bZ b=>[Bm a b]
 |.av a,.av b=>[Bm a b]
 |.fm t<|.v a,.fm y (.v b)=>okB (ap t y)++ [MA a b]
 |_,_=>[False]
def Dw(m:pT):List SV->List SV->List Prop
 | [],[]=>[]
 |x::xs,y::h=>Pe m x y++Dw m xs h
 |_,_=>[False]
def aa3:Fn->Fn->Bool
 |.func f,.func g=>ap f g
 |_,_=>ah
def HX(m:pT):SV->SV->List Prop
 |_,.any=>[]
 |.fn f [] c,.fn e [] z=>okB (aa3 f e)++Dw m c z
 |.ag a,.ag b=>Dw m a b
 |.fm t<|.ag a,.fm h (.ag b)=>okB (ap t h)++Dw m a b
 |.fm t a,.fm h b=>okB (ap t h)++Pe m a b
 |x,y=>Pe m x y
def Fo(m:pT):List SV->List SV->List Prop
 | [],[]=>[]
 |x::xs,y::h=>HX m x y++Fo m xs h
 |_,_=>[False]
def Ub(m:pT):SV->SV->List Prop
 |.tu a,.tu b=>Fo m a b
 |x,y=>HX m x y
def Uc(m:pT):bm->bm->List Prop
 |.cells t a,.cells h b=>okB (ap t h)++Fo m a b
 |.iA t a,.iA h b=>okB (ap t h)++ [Bm a b]
 |.row t a,.row h b=>okB (ap t h)++ [Bm a b]
 |.rc t w n a,.rc h r y b=>okB (ap t h&&ap w r&&ap n y)++Fo m a b
 |.fr t a,.fr h b=>okB (ap t h)++ [a=b]
 |.ob t a s,.ob h b x=>okB (ap t h&&Fz (cu m b) a)++ [s=x]
 |.cells t [.v<|.pointer ae,.v<|.slice ae 0 0,.v<|.string s],.ob h b x=>okB (ap t h&&(match cu m b with
  |some ae=>ab
  |_=>ah))++ [s=x]
 |.mp k v a,.mp e z b=>okB (Yg k e&&Yg v z)++ [∀q,eh a q=eh b q]
 |_,_=>[False]
def KM(m:pT)(S:aq):List (Nat×SV)->List Prop
 | []=>[]
 |(t,x)::r=>HX m (S.T t) x++KM m S r
def BR(m:pT)(S:aq):List (Nat×bm)->List Prop
 | []=>[]
 |(l,b)::r=>(match cu m l with
  |some (O a)=>match S.H a with
   |some h=>Uc m h b
   |none=>[False]
  |some ae=>match b with
   |.row _ d=>[d.len=0]
   |.fr _ xs=>[xs.length=0]
   |_=>[False]
  |none=>[False])++BR m S r
def s7:List Prop->Prop
 | []=>True
 | [c]=>c
 |c::h=>c/\s7 h
def qD:List Nat->Bool
 | []=>ab
 |k::r=> !Bz r k&&qD r
def TZ(b:Nat)(m:pT)(hp:bN):=
 qD (hp.map (·.1))&&(qD (hp.filterMap λx=>(cu m x.1).join)&&hp.all λx=> !cK x.1 b||Fz (cu m x.1) x.1)
def azx(m:pT)(br:cf):=m.all λx=>match x.2 with
 |some a=> !Bz br a
 |none=>ab
def K6(hp:bN)(m:pT):pT:=m.filter λx=>Bz (hp.map (·.1)) x.1
def yI(b:Nat)(S:aq)(h:lW)(hp:bN)(x:pT)(no:cf):List Prop:=
 match K6 hp (I1 S hp<|x++unT S h)with
 |m=>okB (TZ b m hp&&azx m no)++KM m S h++BR m S hp
def lK(b n:Nat)(h:lW)(hp:bN):aq:=
 {n:=n,T:=λt=>(cu h t).getD .any,H:=cu hp,U:=λl=>cK l b||Bz (hp.map (·.1)) l}
def aFP(b:Nat)(hp:bN):pT:=hp.filterMap λx=>cond (cK x.1 b) (O (x.1,O x.1)) ae
def SV.Px:Value->SV
 |.agg h=>.ag<|h.toList.map SV.v
 |x=>.v x
def qA:List (Nat×SV)->List Nat
 | []=>[]
 |(_,x)::r=>ids x++qA r
def xS(hp:bN):pT:=hp.map λx=>(x.1,O x.1)
def R5:List Nat->List Value->(Nat->SV)->(Nat->SV)
 |p::h,x::xs,T=>R5 h xs<|jD T p<|SV.Px x
 |_,_,T=>T
def R6(xs:bG)(S:aq):aq:={S with T:=R5 k xs S.T}
def qd:Code->Nat
 |.seq x y=>qd x+qd y
 |.cond _ x y=>qd x+qd y
 |.block _ c=>qd c
 |.loop c=>qd c+1
 |.scope c=>qd c
 |.rangeFunc _ _ _ c=>qd c+1
 |_=>0
def Un(b:Nat)(I:dV)(S:aq)(h:aq->(XE->aq->Prop)->Prop)(K:XE->aq->Prop):Prop:=
 (∃x,I.p x/\s7 (yI b S (I.tm x) (I.hp x) [] []))/\
    ∀x,I.p x->h (lK b S.n (I.tm x)<|I.hp x) λe z=>match e with
     |.normal=>cond (ap z.n S.n) (∃y,I.p y/\I.μ y<I.μ x/\s7 (yI b z (I.tm y) (I.hp y) [] [])) False
     |e=>K e z
def ah'(h:aq->(XE->aq->Prop)->Prop)(K:XE->aq->Prop):Nat->aq->Prop
 |0,_=>False
 |n+1,S=>h S λe x=>match e with
  |.normal=>ah' h K n x
  |e=>K e x
def JA(S:aq):aq:=
 {n:=S.n,T:=λt=>cond (H6 (ids<|S.T t) k) .any<|S.T t,
  H:=λl=>cond (mX k l) ae<|match S.H l with
   |some b=>cond (H6 (na b) k) ae<|O b
   |none=>ae,
  U:=λl=>cond (mX k l) ah<|S.U l}
def ah_(y:cf)(h:aq->(XE->aq->Prop)->Prop)(K:XE->aq->Prop):Nat->aq->Prop
 |0,_=>False
 |n+1,S=>h S λe x=>match e with
  |.normal=>ah_ y h K n<|JA y x
  |e=>K e x
def Kq:Code->Option Nat
 |.region id _ _=>O id
 |.seq (.label _) y=>Kq y
 |.seq x _=>Kq x
 |.block _ c=>Kq c
 |.scope c=>Kq c
 |.loop c=>Kq c
 |_=>ae
def SC(Ω:bO)(y:Code):Option xu:=match Kq y with
 |some r=>Ω<|1000+r
 |none=>ae
def aav(b:Nat)(I:dV)(S:aq)(y z:aq->(XE->aq->Prop)->Prop)(K:XE->aq->Prop):Prop:=
 (y S λe h=>match e with
   |.normal=>cond (ap h.n S.n) (∃x,I.p x/\s7 (yI b h (I.tm x) (I.hp x) [] [])) False
   |e=>K e h)/\∀x,I.p x->z (lK b S.n (I.tm x)<|I.hp x) K
def Dt:Op->Bool
 |.defer _=>ab
 |_=>ah
def H8(h:Array Oper):=h.toList.all λo=> !Dt o.op
def um(H:h_)(l:cf):=l.all λk=>match H k with
 |some _=>ab
 |none=>ah
def FA(H:h_)(h:bN):h_:=λl=>match cu h l with
 |some b=>O b
 |none=>H l
def UQ(U:Nat->Bool)(h:bN):=λl=>U l||Bz (h.map (·.1)) l
def BY(y:bN)(z:lW)(U:Nat->Bool)(h:bN):=
 qD (h.map (·.1))&&nc (h.map (·.1)) (qA z)&&h.all λx=>isNil (na x.2)&&Bz (y.map (·.1)) x.1&& !cK x.1 2000&& !U x.1
def Nu(n:Nat)(x:lW)(H:h_)(U:Nat->Bool)(h:bN):aq:=
 {n:=n,T:=λt=>(cu x t).getD .any,H:=FA H h,U:=UQ U h}
def Xd(b:Nat)(R:Ha)(S:aq)(g:SV)(y:cf)(k bd:aq->(XE->aq->Prop)->Prop)(K:XE->aq->Prop):Prop:=
 match g with
 |.fn (.func f) [] cap=>
  cond (ap f R.f&&ap b 1000&&qD (R.iR.map (·.1))&&nc (R.iR.map (·.1)) (kp R.cap)&&nc (R.iR.map (·.1)) (R.iR.flatMap λx=>na x.2)&&(y.all λp=>cK p S.n)&&um (cu<|R.hp 0) (qA R.tm)&&(qA R.tm).all λl=>cK l 2000)
   (xt P R.f R.cap R.iR R.xs R.mO/\s7 (Dw (xS R.iR) cap R.cap++BR (xS R.iR) S R.iR++KM (xS R.iR) S R.sT)/\
     R.p 0/\s7 (yI b S R.tm (R.hp 0) []<|R.iR.map (·.1))/\
     (∀i,i<R.xs.length->R.p i->R.xs[i]? =O (R.it i)/\(R.it i).length=y.length/\k (R6 y (R.it i)<|lK 2000 S.n R.tm<|R.hp i) λe z=>match e with
       |.normal=>bd z λe h=>match e with
        |.normal=>R.p (i+1)/\cond (um (cu<|R.hp<|i+1)<|qA R.tm) (s7<|yI 2000 h [] (R.hp<|i+1) (aFP 2000<|R.hp<|i+1) []) False
        |e=>cond (um h.H (qA R.tm)&&BY R.iR R.sT h.U (R.mO i)) (K e<|Nu S.n (R.tm++R.sT) h.H h.U<|R.mO i) False
       |_=>False)/\
     (R.p R.xs.length->cond (BY R.iR R.sT (lK 2000 S.n []<|R.hp R.xs.length).U<|R.mO R.xs.length) (K .normal<|Nu S.n (R.tm++R.sT) (cu<|R.hp R.xs.length) (lK 2000 S.n []<|R.hp R.xs.length).U<|R.mO R.xs.length) False)) False
 |_=>False
def aao(o:Option xu)(v:Bool)(A B:Prop):Prop:=match o with
 |none=>(v=ab->A)/\(v=ah->B)
 |some _=>cond v A B
def aAv{o:Option xu}{v:Bool}{A B:Prop}(h:aao o v A B)(x:v=ab):A:=by
 subst x;cases o with
 |none=>exact h.1 rfl
 |some _=>exact h
def aAu{o:Option xu}{v:Bool}{A B:Prop}(h:aao o v A B)(x:v=ah):B:=by
 subst x;cases o with
 |none=>exact h.2 rfl
 |some _=>exact h
def vc(Ω:bO):Nat->Nat->Code->aq->(XE->aq->Prop)->Prop
 |_,_,.skip,S,K=>K .normal S
 |_,_,.label _,S,K=>K .normal S
 |_,_,.region id ops draw,S,K=>cond (H8 ops)
  (zG P Γ ops (λi=>(id+1)*100000+8*i) ops.toList 0 S [] λh z=>cond draw (cond (indep ops z) (K .normal h) False)<|K .normal h) False
 |b,k,.seq x y,S,K=>match SC Ω y with
  |none=>vc Ω b k x S λe h=>match e with
   |.normal=>vc Ω b (k+qd x) y h K
   |e=>K e h
  |some (.one I)=>aav b I S (vc Ω b k x) (vc Ω b (k+qd x) y) K
  |some (.nk _ I)=>∃g,aav b (I g) S (vc Ω b k x) (vc Ω b (k+qd x) y) K
  |some (.Cr _ _)=>False
  |some (.rr _)=>False
  |some (.AU _ _)=>False
 |b,k,.cond c x y,S,K=>match S.ev c with
  |.bl ab=>vc Ω b k x S K
  |.bl ah=>vc Ω b (k+qd x) y S K
  |.v (.bool v)=>aao (Ω 3000) v (vc Ω b k x S K)<|vc Ω b (k+qd x) y S K
  |_=>False
 |b,k,.block id c,S,K=>vc Ω b k c S λe h=>match e with
  |.exit u=>cond (ap u id) (K .normal h)<|K (.exit u) h
  |e=>K e h
 |b,k,.loop c,S,K=>match Ω k with
  |none=>False
  |some (.one I)=>Un b I S (vc Ω b (k+1) c) K
  |some (.nk _ I)=>∃g,Un b (I g) S (vc Ω b (k+1) c) K
  |some (.Cr _ _)=>False
  |some (.rr n)=>ah' (vc Ω b (k+1) c) K n S
  |some (.AU n r)=>cond (r.all λl=> !cK l b) (ah_ r (vc Ω b (k+1) c) K n S) False
 |b,k,.rangeFunc g j w c,S,K=>match Ω k with
  |some (.Cr _ R)=>∃y,Xd P b (R y) S (S.ev g) j.toList (vc Ω 2000 0 w) (vc Ω 2000 (k+1) c) K
  |_=>False
 |b,k,.scope c,S,K=>cond (ap b 1000) (vc Ω b k c S K) False
 |_,_,.exit id,S,K=>K (.exit id) S
 |_,_,.ret,S,K=>K .ret S
 |_,_,_,_,_=>False
def W8(S:aq):ResultVar->c_
 |.tmp t=>.ret<|S.T t
 |.cell a t=>cond (fK P t) (match S.T a with
  |.p l i j=>match S.H l with
   |some b=>BU P t b i j
   |none=>.fail
  |_=>.fail) .fail
def IW:List SV->SV
 | [x]=>x
 |l=>.tu l
def oP(fn:Func)(args:bL)(hp:bN):aq:=
 {n:=fn.ntmps,T:=λt=>args.getD t<|.v undef,H:=cu hp,U:=λl=>cK l 1000||Bz (hp.map (·.1)) l}
end
def H9(n:Nat):vO (0,0) n:=.inl rfl
def aGV(n:Nat):vO (n,n+1) n:=.inr<|gL n
def vO.at{x:Nat×Nat}{n:Nat}(h:vO x n)(k:Nat)(y:k<n):(decide (x.1<=k)&&decide (k<x.2))=ah:=by
 rcases h with h|h
 .grind
 .grind
section
variable{D D':aW}{w w':World}{β β':bp}
structure jx (D:Nat->Prop) (w:World) (β:Nat->Option Loc) (D':Nat->Prop) (w':World) (β':Nat->Option Loc):Prop where
 d:∀g,D g->D' g
 h:∀g,D g->w'.heap[g]? =w.heap[g]?
 b:∀l L,β l=O L->β' l=O L
def jx.refl(D:aW)(w:World)(β:bp):jx D w β D w β:=⟨λ_ h=>h,λ_ _=>rfl,λ_ _ h=>h⟩
def aah{g o:Nat}(h:w'.heap[g]? =w.heap[g]?):w'.cell? ⟨g,o,ae⟩=w.cell? ⟨g,o,ae⟩:=by simp[World.cell?,h]
def Hb.mono{n wd:Nat}{ok e:Nat->Nat->Value->Prop}{u:Value}(G:jx D w β D' w' β')(m:∀i j x,ok i j x->e i j x)(h:Hb D w n wd ok u):Hb D' w' n wd e u:=by let⟨A,c,o,a,h⟩:=h;refine⟨A,c,o,a,λf=>?_⟩;let⟨g,y,v,z,p⟩:=h f;refine⟨g,y,v,G.d g z,λi j q b=>?_⟩;let⟨x,k,r⟩:=p i j q b;exact⟨x,(aah<|G.h g z).trans k,m _ _ _ r⟩
def va.mono(G:jx D w β D' w' β'){d:aA}{u:Value}(h:va D w d u):va D' w' d u:=Hb.mono G (λ_ _ _ h=>h) h
mutual
theorem F.mono(G:jx D w β D' w' β'):∀(x:SV) {u:Value},F D w β x u->F D' w' β' x u
 |.v _,_,h=>by simpa [F]using h
 |.bl _,_,h=>by simpa [F]using h
 |.p l i j,_,h=>by
  simp only[F]at h|-;obtain⟨L,z,e,r⟩:=h;exact⟨L,G.b _ _ z,e,r⟩
 |.o l,_,h=>by
  simp only[F]at h|-;obtain⟨L,z,e⟩:=h;exact⟨L,G.b _ _ z,e⟩
 |.s l k n c,_,h=>by
  simp only[F]at h|-;obtain⟨L,z,e⟩:=h;exact⟨L,G.b _ _ z,e⟩
 |.bZ d,_,h=>by
  simp only[F]at h|-;exact h.mono G
 |.dc d,_,h=>by
  simp only[F]at h|-;exact⟨h.1.mono G,h.2⟩
 |.m l,_,h=>by
  simp only[F]at h|-;obtain⟨L,z,e⟩:=h;exact⟨L,G.b _ _ z,e⟩
 |.dp d i j,_,h=>by
  simp only[F]at h|-;obtain⟨g,k,B,q,C⟩:=h;refine⟨g,k,B,G.d g q,fun E A=>?_⟩;obtain⟨x,z,e⟩:=C E A;exact⟨x,(aah (G.h g q)).trans z,e⟩
 |.av d,_,h=>by
  cases d<;>simp only[F]at h|-;exact h
 |.fn f a c,_,h=>by
  simp only[F]at h|-;obtain⟨us,H,z,e,r⟩:=h;exact⟨us,H,z,Z.mono G a e,Z.mono G c r⟩
 |.ag cs,_,h=>by
  simp only[F]at h|-;obtain⟨us,z,e⟩:=h;exact⟨us,z,Z.mono G cs e⟩
 |.tu cs,_,h=>by
  simp only[F]at h|-;obtain⟨us,z,e⟩:=h;exact⟨us,z,Z.mono G cs e⟩
 |.fm t x,_,h=>by
  simp only[F]at h|-;obtain⟨y,z,e⟩:=h;exact⟨y,z,F.mono G x e⟩
 |.any,_,_=>by simp only[F]
theorem Z.mono(G:jx D w β D' w' β'):∀(cs:bL) {us:bG},Z D w β cs us->Z D' w' β' cs us
 | [],_,h=>by simpa [Z]using h
 |c::cs,_,h=>by
  simp only[Z]at h|-;obtain⟨x,xs,y,z,e⟩:=h;exact⟨x,xs,y,F.mono G c z,Z.mono G cs e⟩
end
def gk.mono(G:jx D w β D' w' β'){L:Loc}(b:bm)(m:L.nil=ah->w'.heap[L.g]? =w.heap[L.g]?)(h:gk D w β L b):gk D' w' β' L b:=by
 cases b with
 |cells W Y=>
  let⟨z,V,k,y,v⟩:=h;exact⟨z,V,(m z).trans k,Z.mono G Y y,v⟩
 |iA W d=>
  let⟨z,k,V,y,v,c,p⟩:=h;refine⟨z,k,V,(m z).trans y,v,λi j hi t=>?_,p⟩;let⟨x,B,A⟩:=c i j hi t;exact⟨x,B,A⟩
 |row W d=>
  let⟨z,k,y⟩:=h;refine⟨z,k,?_⟩;rcases y with y|⟨y,v,K,V,C,fr,c,P,p,q⟩
  .exact .inl y
  .refine .inr ⟨y,v,K,V,C,fr,(m y).trans c,P,p,λi j hi t=>?_⟩
   let⟨x,B,A⟩:=q i j hi t;exact⟨x,B,A⟩
 |rc W wd n Y=>
  let⟨z,k,xs,y,v,c⟩:=h;refine⟨z,k,xs,y,Z.mono G Y v,?_⟩;rcases c with c|⟨c,p,q,V,C,fr,M,N⟩
  .exact .inl c
  .exact .inr ⟨c,p,q,V,C,fr,(m c).trans M,N⟩
 |mp T U es=>
  let⟨z,V,f,S,k,y⟩:=h;exact⟨z,V,f,S,(m z).trans k,y⟩
 |fr W xs=>
  let⟨J,z,k,y,v⟩:=h;refine⟨J,z,k,y,?_⟩;rcases v with v|⟨g,X,H,I,E,Q,k3,R⟩
  .exact .inl v
  .have o:=E
   unfold Loc.val at o;cases l:L.nil
   .rw[l]at o
    simp only[rz,xi,Value.slice.injEq,Option.some.injEq,Addr.mk.injEq]at o;let⟨e,_⟩:=o.1;subst e;exact .inr ⟨L.g,X,H,I,E,Q,(m l).trans k3,R⟩
   .rw[l]at o;cases o
 |ob W r s=>
  let⟨z,a,u,k,y,v⟩:=h;exact⟨z,a,u,(m z).trans k,y,F.mono G _ v⟩
def Z.len:∀(cs:bL) {us:bG},Z D w β cs us->us.length=cs.length
 | [],_,h=>by simp[Z]at h;simp[h]
 |c::cs,_,h=>by simp[Z]at h;obtain⟨x,e,rfl,_,y⟩:=h;simp[Z.len cs y]
def Z.get:∀(cs:bL) {us:bG} (i:Nat) c,Z D w β cs us->cs[i]? =O c->∃u,us[i]? =O u/\F D w β c u
 | [],_,i,c,_,y=>by simp at y
 |d::cs,us,i,c,h,y=>by
  simp[Z]at h;obtain⟨x,r,rfl,z,e⟩:=h;cases i with
  |zero=>simp at y;subst y;exact⟨x,aj,z⟩
  |succ i=>simp at y;simpa using Z.get cs i c e y
def Z.append:∀(cs:bL) {us:bG} {z:bL} {y:bG},Z D w β cs us->Z D w β z y->Z D w β (cs++z) (us++y)
 | [],us,z,y,h,k=>by simp[Z]at h;subst h;simpa using k
 |c::cs,us,z,y,h,k=>by simp[Z]at h;obtain⟨x,u,rfl,e,r⟩:=h;simp only[yw,Z];exact⟨x,u++y,rfl,e,Z.append cs r k⟩
def Z.drop:∀(cs:bL) {us:bG} n,Z D w β cs us->Z D w β (cs.drop n) (us.drop n)
 | [],us,n,h=>by simp[Z]at h;subst h;simp[Z]
 |c::cs,us,0,h=>by simpa using h
 |c::cs,us,n+1,h=>by simp[Z]at h;obtain⟨x,e,rfl,z,y⟩:=h;simpa using Z.drop cs n y
def Z.take:∀(cs:bL) {us:bG} n,Z D w β cs us->Z D w β (cs.take n) (us.take n)
 | [],us,n,h=>by simp[Z]at h;subst h;simp[Z]
 |c::cs,us,0,h=>by simp[Z]
 |c::cs,us,n+1,h=>by simp[Z]at h;obtain⟨x,e,rfl,y,z⟩:=h;simp only[aiy,Z];exact⟨x,e.take n,rfl,y,Z.take cs n z⟩
def Z.map{α:Type}(f:α->SV)(g:α->Value)(h:∀x,F D w β (f x)<|g x):∀l:List α,Z D w β (l.map f)<|l.map g
 | []=>by simp[Z]
 |x::l=>by simp only[kd,Z];exact⟨_,_,rfl,h x,Z.map f g h l⟩
def F.sx(x:Value):F D w β (SV.sx x) x:=by unfold SV.sx;split<;>simp[F]
def F.cells{x:SV}{u:Value}(h:F D w β x u)(h1:x.cellsOf.all SV.one=ab):Z D w β x.cellsOf u.cells.toList/\∀c∈u.cells.toList,c.oneCell'=ab:=by
 have k:∀c u,SV.one c=ab->F D w β c u->u.oneCell'=ab:=by
  intro c u B z;cases c with
  |v x=>simp[F]at z;subst z;cases u<;>simp_all[SV.one,tY]
  |o l=>
   simp[F]at z;obtain⟨L,_,rfl⟩:=z;unfold Loc.val;split<;>rfl
  |bZ d=>
   simp[F,va,Hb]at z;obtain⟨A,c,rfl,_⟩:=z;rfl
  |p l i j=>simp[F]at z;obtain⟨L,_,_,rfl⟩:=z;rfl
  |dc d=>simp[F]at z;obtain⟨_,A,rfl⟩:=z;rfl
  |m l=>simp[F]at z;obtain⟨L,_,_,rfl⟩:=z;rfl
  |s l C n c=>simp[F]at z;obtain⟨L,_,A,J,rfl,_⟩:=z;rfl
  |dp d i j=>simp[F]at z;obtain⟨g,C,rfl,_⟩:=z;rfl
  |fn f a c=>simp[F]at z;obtain⟨N,K,rfl,_⟩:=z;rfl
  |fm t x=>simp[F]at z;obtain⟨y,rfl,_⟩:=z;rfl
  |bl b=>simp[F]at z;subst z;rfl
  |_=>simp[SV.one]at B
 have e:∀c u,SV.one c=ab->F D w β c u->u.cells=#[u]:=by
  intro c u B z;have:=k c u B z;cases u<;>simp_all[CO,tY]
 cases x with
 |ag M=>
  simp[F]at h;obtain⟨N,rfl,E⟩:=h;refine⟨by simpa [SV.cellsOf,CO]using E,?_⟩;have all:∀M N,M.all SV.one=ab->Z D w β M N->∀c∈N,c.oneCell'=ab:=by
   intro M;induction M with
   |nil=>intro N _ h;simp[Z]at h;simp[h]
   |cons c M I=>
    intro N q h;simp[Z]at h;obtain⟨x,Q,rfl,G,H⟩:=h;simp only[uR,bC]at q;intro y r;simp[nZ]at r;rcases r with rfl|r
    .exact k _ _ q.1 G
    .exact I Q q.2 H y r
  simpa [CO]using all M N (by simpa [SV.cellsOf]using h1) E
 |_=>
  simp[SV.cellsOf,uR,ML,MM]at h1;rw[e _ _ h1 h];simp only[SV.cellsOf,Z];exact⟨⟨u,[],rfl,h,rfl⟩,by simpa using k _ _ h1 h⟩
end
structure Env where
 w0:World
 Wr:Nat->Prop
 D0:Nat->Prop
 gB:Nat->Option Loc
 G:Nat->Prop
 df:List Deferred:=[]
structure St (E:Env) (D:Nat->Prop) (β:Nat->Option Loc) (S:aq) (a:Act) (w:World):Prop where
 size:a.tmps.size=S.n
 tm:∀t,F D w β (S.T t) (a.tmps.getD t undef)
 hp:∀l b,S.H l=O b->∃L,β l=O L/\gk D w β L b
 eJ:∀l b L,S.H l=O b->β l=O L->L.nil=ah->L.g<w.heap.size/\¬D L.g/\(E.w0.heap.size<=L.g\/E.Wr L.g)
 inj:∀l l' b b' L L',S.H l=O b->S.H l'=O b'->β l=O L->β l'=O L'->L.nil=ah->L'.nil=ah->L.g=L'.g->l=l'
 eZ:A9 D w
 d0:∀g,E.D0 g->D g
 d1:∀g,D g->E.D0 g\/E.w0.heap.size<=g\/E.Wr g
 ib:∀l,S.U l=ah->β l=ae
 os:w.os=E.w0.os
 tape:w.tape=E.w0.tape
 output:w.output=E.w0.output
 grow:E.w0.heap.size<=w.heap.size
 block:∀g,g<E.w0.heap.size->¬E.Wr g->w.heap[g]? =E.w0.heap[g]?
 df:a.defers=E.df
 low:∀l,E.G l->S.U l=ab
 k9:∀l L,E.G l->β l=O L->E.gB l=O L
def St.od{E:Env}{D:aW}{β:bp}{S:aq}{a:Act}{w:World}(h:St E D β S a w){l:Nat}{b:bm}{L:Loc}(x:S.H l=O b)(e:β l=O L):gk D w β L b:=by let⟨r,y,z⟩:=h.hp l b x;grind
def gK{α:Type}(f:Nat->α)(k:Nat)(x:α):jD f k x k=x:=by simp[jD]
def gy{α:Type}(f:Nat->α){k i:Nat}(x:α)(h:i≠k):jD f k x i=f i:=by
 have:ap i k=ah:=by
  cases y:ap i k
  .rfl
  .exact absurd (cN y) h
 simp[jD,this]
section
variable{E:Env}{D:aW}{β:bp}{S:aq}{a:Act}{w:World}
def St.ev(h:St E D β S a w)(x:Operand):F D w β (S.ev x) (a.eval x):=by
 cases x with
 |tmp t=>exact h.tm t
 |const v=>exact F.sx v
 |global g=>simp[aq.ev,Act.eval,F]
 |func f=>exact⟨[],[],C⟩
def St.put(h:St E D β S a w){dst:Option Nat}{x:SV}{u:Value}(z:(dst.all λd=>cK d S.n)=ab)(k:F D w β x u):St E D β (S.put dst x) (a.put dst u) w:=by
 cases dst with
 |none=>exact h
 |some d=>
  have e:d<S.n:=by
   simp only[Option.all_some]at z;exact nh z
  exact{h with
   size:=by simpa [Act.put,aq.put]using h.size
   tm:=λt=>by
    by_cases y:t=d
    .subst y
     simp only[aq.put,gK,Act.put];rw[D6,aiz<|by rw[h.size];exact e];exact k
    .simp only[aq.put,gy _ _ y,Act.put]
     rw[D6,axD<|GG y,<-D6];exact h.tm t}
def St.drew(h:St E D β S a w):St E D β S a {w with drawn:=w.drawn+1}:=
 have G:=⟨λ_ h=>h,λ_ _=>rfl,λ_ _ h=>h⟩
 {h with
  tm:=λt=>(h.tm t).mono G
  hp:=λl b y=>let⟨L,h1,x⟩:=h.hp l b y;⟨L,h1,x.mono G b λ_=>rfl⟩
  eZ:=⟨h.eZ.lt,h.eZ.laid⟩}
def St.change(h:St E D β S a w){x:aq}{D':aW}{β':bp}{w':World}(G:jx D w β D' w' β')
  (i:x.n=S.n) (v:x.T=S.T)
  (hp:∀l b,x.H l=O b->∃L,β' l=O L/\gk D' w' β' L b)
  (eJ:∀l b L,x.H l=O b->β' l=O L->L.nil=ah->L.g<w'.heap.size/\¬D' L.g/\(E.w0.heap.size<=L.g\/E.Wr L.g))
  (inj:∀l e b b' L L',x.H l=O b->x.H e=O b'->β' l=O L->β' e=O L'->L.nil=ah->L'.nil=ah->L.g=L'.g->l=e)
  (eZ:∀g,D' g->g<w'.heap.size) (d1:∀g,D' g->D g\/E.w0.heap.size<=g\/E.Wr g)
  (ib:∀l,x.U l=ah->β' l=ae)
  (os:w'.os=w.os) (tape:w'.tape=w.tape) (output:w'.output=w.output) (grow:w.heap.size<=w'.heap.size)
  (block:∀g,g<E.w0.heap.size->¬E.Wr g->w'.heap[g]? =w.heap[g]?)
  (j:∀l,S.U l=ab->x.U l=ab) (r:∀l L,β' l=O L->β l=O L\/S.U l=ah):St E D' β' x a w':=
 {size:=by rw[i];exact h.size
  tm:=λt=>by rw[v];exact(h.tm t).mono G
  hp:=hp,eJ:=eJ,inj:=inj,eZ:=⟨eZ,h.eZ.laid.qB G.d G.h⟩
  d0:=λg y=>G.d g<|h.d0 g y
  d1:=λg y=>(d1 g y).elim (h.d1 g) .inr
  ib:=ib
  os:=os.trans h.os,tape:=tape.trans h.tape,output:=output.trans h.output
  grow:=sY h.grow grow
  block:=λg y k=>(block g y k).trans<|h.block g y k
  df:=h.df
  low:=λl z=>j l<|h.low l z
  k9:=λl L z u=>by
   rcases r l L u with h1|h1
   .exact h.k9 l L z h1
   .rw[h.low l z]at h1;cases h1}
def St.used{H:h_}(h:St E D β {S with H:=H,U:=S.U} a w){U':Nat->Bool}(y:∀l,S.U l=ab->U' l=ab):St E D β {S with H:=H,U:=U'} a w:=
 {h with
  ib:=λl x=>h.ib l<|by
   show S.U l=ah;cases e:S.U l
   .rfl
   .have:=y l e
    have z:U' l=ah:=x;rw[this]at z;cases z
  low:=λl x=>y l<|h.low l x}
end
section
variable{P:Program}{E:Env}{D:aW}{β:bp}{S:aq}{a:Act}{w:World}
def QT(U:Nat->Bool):∀(l:cf) k,U k=ab->cc U (l.map λi=>(i,ab)) k=ab:=by
 intro l;induction l generalizing U with
 |nil=>intro k h;exact h
 |cons i r x=>
  intro k h;apply x _ k ?_;by_cases e:k=i
  .subst e;exact gK _ _ _
  .rw[gy _ _ e];exact h
def aia{U:Nat->Bool}{n:Nat}(y:U n=ah)(x:Option Loc)(l:Nat)(L:Loc)(h:jD β n x l=O L):β l=O L\/U l=ah:=by
 by_cases e:l=n
 .grind
 .rw[gy _ _ e]at h;exact .inl h
def aq.JN(S:aq)(d:Option Nat)(r:c_):S.wF d r=aq.put {S with H:=cc S.H r.fT,U:=cc S.U<|r.news.map λk=>(k,ab)} d r.val:=by cases d<;>rfl
def abP{o:Obj}{g:Nat}(h:g<w.heap.size):=nY w o g h
def aC5(y:∀g,D g->g<w.heap.size){n:Nat}(z:β n=ae)(L:Loc)(o:Obj):jx D w β D (w.alloc o) (jD β n<|O L):=
 ⟨λ_ h=>h,λg h=>abP<|y g h,λl e h=>by
   by_cases x:l=n
   .subst x;rw[z]at h;cases h
   .rw[gy _ _ x];exact h⟩
def St.new(h:St E D β S a w){n:Nat}(q:S.U n=ah){b:bm}(us:bG)(ty:TypeId)(L:Loc)(i:L.g=w.heap.size)(M:L.nil=ah)
  (C:jx D w β D (w.alloc<|.cells us.toArray ty) (jD β n<|O L)->(w.alloc<|.cells us.toArray ty).heap[L.g]? =O (.cells us.toArray ty (0,0))->gk D (w.alloc<|.cells us.toArray ty) (jD β n<|O L) L b):
  St E D (jD β n<|O L) {S with H:=cc S.H [(n,O b)],U:=cc S.U [(n,ab)]} a (w.alloc<|.cells us.toArray ty):=by
 have K:=h.ib n q;have G:=aC5 h.eZ.lt K L<|.cells us.toArray ty;have J:(w.alloc<|.cells us.toArray ty).heap[L.g]? =O (.cells us.toArray ty (0,0)):=by rw[i];exact D4 w _
 have hB:=C G J;refine h.change G rfl rfl ?_ ?_ ?_ (λg j=>ng (h.eZ g j) aj) (λg j=>.inl j) ?_ rfl rfl rfl aj (λg I _=>abP<|ng I h.grow) (QT S.U [n]) (aia q _)
 .intro l N x
  simp[cc]at x;by_cases e:l=n
  .subst e
   rw[gK]at x;cases x;exact⟨L,gK _ _ _,hB⟩
  .rw[gy _ _ e]at x
   let⟨Q,y,z⟩:=h.hp l N x;refine⟨Q,by rw[gy _ _ e];exact y,z.mono G N λc=>abP (h.eJ l N Q x y c).1⟩
 .intro l N Q x v c
  simp[cc]at x;by_cases e:l=n
  .subst e
   rw[gK]at v;cases v;refine⟨by simp[i],λB=>?_,.inl<|by rw[i];exact h.grow⟩;have:=h.eZ _ B;lia
  .rw[gy _ _ e]at x v
   let⟨y,z,A⟩:=h.eJ l N Q x v c;exact⟨by simp;lia,z,A⟩
 .intro l d o p f m y z k r s t F
  simp[cc]at y z;by_cases e:l=n<;>by_cases u:d=n
  .rw[e,u]
  .subst e
   rw[gy _ _ u]at z r;rw[gK]at k;cases k;have:=(h.eJ d p m z r t).1;lia
  .subst u
   rw[gy _ _ e]at y k;rw[gK]at r;cases r;have:=(h.eJ l o f y k s).1;lia
  .rw[gy _ _ e]at y k
   rw[gy _ _ u]at z r;exact h.inj l d o p f m y z k r s t F
 .intro l x
  simp[cc]at x;by_cases e:l=n
  .subst e
   rw[gK]at x;cases x
  .rw[gy _ _ e]at x|-
   exact h.ib l x
def aC6{g:Nat}(y:¬D g)(cs:Array Value):jx D w β D (w.setRow g cs) β:=
 ⟨λ_ h=>h,λx h=>D7 w g x cs λe=>y<|e▸h,λ_ _ h=>h⟩
def St.set(h:St E D β S a w){l:Nat}{b b':bm}{L:Loc}(f:S.H l=O b)(c:β l=O L)(m:L.nil=ah)(cs:Array Value)
  (M:jx D w β D (w.setRow L.g cs) β->gk D (w.setRow L.g cs) β L b'):
  St E D β {S with H:=cc S.H [(l,O b')],U:=cc S.U ([]:List (Nat×Bool))} a (w.setRow L.g cs):=by
 let⟨K,V,d3⟩:=h.eJ l b L f c m;have G:=aC6 (w:=w) (β:=β) V cs;refine h.change G rfl rfl ?_ ?_ ?_ (λg v=>by simpa using h.eZ g v) (λg v=>.inl v) h.ib rfl rfl rfl aj ?_ (λ_ h=>h) (λ_ _ h=>.inl h)
 .intro x y z
  simp[cc]at z;by_cases e:x=l
  .subst e
   rw[gK]at z;grind
  .rw[gy _ _ e]at z
   let⟨Q,r,u⟩:=h.hp x y z;refine⟨Q,r,u.mono G y λj=>D7 w _ _ cs λi=>e<|h.inj x l y b Q L z f r c j m i⟩
 .intro x y Q z A j
  simp[cc]at z;by_cases e:x=l
  .simp_all
  .rw[gy _ _ e]at z
   let⟨r,u,t⟩:=h.eJ x y Q z A j;exact⟨by simpa using r,u,t⟩
 .intro l1 l2 y n o p r u C F I J i
  have k:∀x y,jD S.H l (O b') x=O y->∃n,S.H x=O n:=by
   intro x y d;by_cases e:x=l
   .grind
   .rw[gy _ _ e]at d;exact⟨y,d⟩
  let⟨R,q⟩:=k _ _ r;let⟨T,s⟩:=k _ _ u;exact h.inj l1 l2 R T o p q s C F I J i
 .intro g N B
  exact D7 w _ _ cs λe=>by subst e;rcases d3 with d3|d3<;>first|lia|exact B d3
def oD(w:World)(size:Nat)(v:Value)(n:Nat)(xs:bG):Prop:=
 xs.length=n*size/\((v=.slice ae 0 0/\n=0)\/
   ∃g cap h y x,v=.slice (O ⟨g,0,ae⟩) n cap/\w.heap[g]? =O (.cells h y x)/\vO x h.size/\n<=cap/\cap<=maxLen/\cap*size<=h.size/\h.toList.take (n*size)=xs)
def oD.nil(w:World)(h:Nat):oD w h (.slice ae 0 0) 0 []:=⟨aj,.inl ⟨rfl,rfl⟩⟩
def oD.cells{x n:Nat}{v:Value}{xs:bG}(h:oD w x v n xs){g:Nat}(z:v.ownBlock=O g):∀j u,xs[j]? =O u->w.cell? ((⟨g,0,ae⟩:Addr).add j)=O u:=by
 intro j u d;rcases h.2 with⟨rfl,_⟩|⟨y,f,e,b,k,rfl,i,_,_,_,_,c⟩
 .simp[ni]at z
 .simp[ni]at z
  subst z;have r:(⟨y,0,ae⟩:Addr).add j=⟨y,j,ae⟩:=by unfold Addr.add;split<;>simp_all
  rw[r,Re w y j e b k i];grind
def aKl{L:Loc}{ty:TypeId}{d:aA}(h:gk D w β L (.row ty d)):
  ∃xs:List Value,oD w d.wd L.val d.len xs/\∀i j,i<d.len->j<d.wd->∃x,xs[i*d.wd+j]? =O x/\d.ok i j x:=by
 let⟨q,r,y⟩:=h;rcases y with⟨y,z⟩|⟨y,z,u,l,p,k,v,b,e,n⟩
 .refine⟨[],⟨by simp[z],.inl ⟨by simp[Loc.val,y],z⟩⟩,λi j t _=>by lia⟩
 .have f:=sY (ox _ z) e
  refine⟨l.take<|d.len*d.wd,⟨by simp;lia,.inr ⟨L.g,L.cap,l.toArray,p,k,by simp[Loc.val,y,r],v,by simpa using b,z,u,by simpa using e,aj⟩⟩,λi j t c=>?_⟩;let⟨x,o,m⟩:=n i j t c;refine⟨x,?_,m⟩;rw[GH];rw[I ?_]
  .exact o
  .calc i*d.wd+j<i*d.wd+d.wd:=Y
    _=(i+1)*d.wd:=by rw[pQ];lia
    _<=d.len*d.wd:=ox _ t
def af9{w':World}{ty:TypeId}{d:aA}{v:Value}{xs:bG}(b:oD w' d.wd v d.len xs)
  (q:∀i j,i<d.len->j<d.wd->∃x,xs[i*d.wd+j]? =O x/\d.ok i j x):
  ∃L,L.val=v/\gk D w' β L (.row ty d)/\(L.nil=ah->v.ownBlock=O L.g):=by
 let⟨o,h⟩:=b;rcases h with⟨rfl,e⟩|⟨g,t,y,f,z,rfl,u,r,k,n,c,p⟩
 .exact⟨⟨0,d.wd,d.len,0,ab⟩,by simp[Loc.val],⟨rfl,rfl,.inl ⟨rfl,e⟩⟩,λh=>by cases h⟩
 .refine⟨⟨g,d.wd,d.len,t,ah⟩,by simp[Loc.val],⟨rfl,rfl,.inr ⟨rfl,k,n,y.toList,f,z,by simpa using u,by simpa using r,by simpa using c,λi j l m=>?_⟩⟩,λ_=>rfl⟩
  grind
def St.afU(h:St E D β S a w){l n:Nat}{b b':bm}{L L':Loc}{w':World}(t:S.H l=O b)(f:β l=O L)(V:S.U n=ah)
  (p:w.grownBy w' (if L.nil then ae else O L.g)) (J:L'.nil=ah->(L.nil=ah/\L'.g=L.g)\/L'.g=w.heap.size)
  (C:L'.nil=ah->L'.g<w'.heap.size)
  (X:jx D w β D w' (jD β n<|O L')->gk D w' (jD β n<|O L') L' b'):
  St E D (jD β n<|O L') {S with H:=cc S.H [(l,ae),(n,O b')],U:=cc S.U [(n,ab)]} a w':=by
 have W:=h.ib n V;have Z:l≠n:=by rintro rfl;rw[W]at f;cases f
 have qB:∀g,g<w.heap.size->(L.nil=ah->g≠L.g)->w'.heap[g]? =w.heap[g]? :=by
  intro g C d;apply p.block g C ?_;cases u:L.nil
  .simpa using d u
  .simp
 have G:jx D w β D w' (jD β n<|O L'):=⟨λ_ h=>h,λg F=>qB g (h.eZ g F) λu e=>(h.eJ l b L t f u).2.1<|e▸F,λx r k=>by
  by_cases e:x=n
  .subst e;rw[W]at k;cases k
  .rw[gy _ _ e];exact k⟩
 have hB:=X G;have v:∀x y,cc S.H [(l,ae),(n,O b')] x=O y->(x=n/\y=b')\/(x≠n/\x≠l/\S.H x=O y):=by
  intro x y z;simp[cc]at z;by_cases e:x=n
  .subst e;rw[gK]at z;cases z;exact .inl ⟨rfl,rfl⟩
  .rw[gy _ _ e]at z
   by_cases j:x=l
   .subst j;rw[gK]at z;cases z
   .rw[gy _ _ j]at z;exact .inr ⟨e,j,z⟩
 refine h.change G rfl rfl ?_ ?_ ?_ (λg K=>ng (h.eZ g K) p.size) (λg K=>.inl K) ?_ p.os p.tape p.output p.size ?_ (QT S.U [n]) (aia V _)
 .intro x y z
  rcases v x y z with⟨rfl,rfl⟩|⟨s,j,z⟩
  .exact⟨L',gK _ _ _,hB⟩
  .obtain⟨r,k,c⟩:=h.hp x y z
   exact⟨r,by rw[gy _ _ s];exact k,c.mono G y λu=>qB _ (h.eJ x y r z k u).1 λq d=>j<|h.inj x l y b r L z t k f u q d⟩
 .intro x y r z k u
  rcases v x y z with⟨rfl,rfl⟩|⟨s,j,z⟩
  .rw[gK]at k
   cases k;refine⟨C u,?_,?_⟩
   .rcases J u with⟨c,i⟩|i
    .rw[i];exact(h.eJ l b L t f c).2.1
    .intro F;have:=h.eZ _ F;lia
   .rcases J u with⟨c,i⟩|i
    .rw[i];exact(h.eJ l b L t f c).2.2
    .left;rw[i];exact h.grow
  .rw[gy _ _ s]at k
   let⟨m,o,k3⟩:=h.eJ x y r z k u;exact⟨ng m p.size,o,k3⟩
 .have Hw:∀x y r,S.H x=O y->x≠l->β x=O r->r.nil=ah->L'.nil=ah->r.g≠L'.g:=by
   intro x y r z j k u q d;rcases J q with⟨c,i⟩|i
   .exact j<|h.inj x l y b r L z t k f u c<|d.trans i
   .have:=(h.eJ x y r z k u).1;lia
  intro l1 l2 y I r Q k c m o M N d;rcases v l1 y k with⟨rfl,rfl⟩|⟨s,j,R⟩<;>rcases v l2 I c with⟨A,e4⟩|⟨A,e4,T⟩
  .exact A.symm
  .rw[gK]at m;cases m
   rw[gy _ _ A]at o;exact absurd d.symm (Hw l2 I Q T e4 o N M)
  .subst A;rw[gK]at o;cases o
   rw[gy _ _ s]at m;exact absurd d (Hw l1 y r R j m M N)
  .rw[gy _ _ s]at m
   rw[gy _ _ A]at o;exact h.inj l1 l2 y I r Q R T m o M N d
 .intro x B
  simp[cc]at B;by_cases e:x=n
  .subst e;rw[gK]at B;cases B
  .rw[gy _ _ e]at B|-;exact h.ib x B
 .intro g C Y
  apply qB g (ng C h.grow) λu e=>?_;rcases(h.eJ l b L t f u).2.2 with i|i
  .omega
  .exact Y<|e▸i
end
section
variable{P:Program}{Γ:ll}
def mc(P:Program)(Γ:ll)(o:Oper):Prop:=
 ∀E (D:aW) (β:bp) S a w n r,step P Γ o S.ev S.H n=r->(∀c∈r.vc,c.p)->
  (o.dst.all λd=>cK d S.n)=ab->(∀k∈r.news,S.U k=ah)->St E D β S a w->∀K Q,
  (∀D' β' h w',St E D' β' (S.wF o.dst r) h w'->K h w')->o.wp P a w K Q
section
variable{E:Env}{D D':aW}{β β':bp}{S:aq}{a:Act}{w w':World}{K:Act->World->Prop}{Q:Exit->Act->World->Prop}
def vA{o:Oper}{r:c_}{u:Value}(z:(execOp a.eval o).run P w=.ok (.value u) w')
  (h:St E D' β' {S with H:=cc S.H r.fT,U:=cc S.U<|r.news.map λk=>(k,ab)} a w') (e:F D' w' β' r.val u)
  (y:(o.dst.all λd=>cK d S.n)=ab) (x:∀D' β' a' w',St E D' β' (S.wF o.dst r) a' w'->K a' w'):o.wp P a w K Q:=by unfold yF;rw[z];apply x D' β' _ _ ?_;rw[aq.JN];exact h.put y e
def ju{o:Oper}{r:c_}{u:Value}(h:St E D β S a w)(k:(execOp a.eval o).run P w=.ok (.value u) w)(v:F D w β r.val u)(x:r.fT= [])(e:r.news= [])
  (z:(o.dst.all λd=>cK d S.n)=ab) (y:∀D' β' a' w',St E D' β' (S.wF o.dst r) a' w'->K a' w'):o.wp P a w K Q:=
 vA k (by rw[x,e];exact h) v z y
def avk{o:Oper}{r:c_}(z:(execOp a.eval o).run P w=.ok .skip w')
  (h:St E D' β' {S with H:=cc S.H r.fT,U:=cc S.U<|r.news.map λk=>(k,ab)} a w') (e:r.val=.v undef)
  (y:(o.dst.all λd=>cK d S.n)=ab) (x:∀D' β' a' w',St E D' β' (S.wF o.dst r) a' w'->K a' w'):o.wp P a w K Q:=by unfold yF;rw[z];apply x D' β' _ _ ?_;rw[aq.JN,e];exact h.put y<|by simp[F]
def bad{r:c_}{p:Prop}(h:c_.fail=r)(x:∀c∈r.vc,c.p):p:=by subst h;exact xq x
end
def under{t:TypeId}{d:TypeDesc}(h:f_ P t=d)(y:d≠.invalid):P.underlying t=O d:=by
 unfold f_ at h;cases x:P.underlying t with
 |none=>rw[x]at h;exact absurd h.symm y
 |some z=>rw[x]at h;simp[CG]at h;rw[h]
def sW{t:TypeId}(h:fK P t=ab):P.underlying t=O (f_ P t):=by apply under rfl (λe=>?_);unfold fK at h;rw[e]at h;cases h
def acL{t:TypeId}{d:TypeDesc}(h:P.underlying t=O d):∃i,P.info? t=O i/\aT P t=i.size/\l9 P t=i.bytes/\r7 P t=i.zero:=by
 unfold Program.underlying at h;cases e:P.info? t with
 |none=>rw[e]at h;cases h
 |some i=>exact⟨i,rfl,by simp[aT,e],by simp[l9,e],by simp[r7,e]⟩
def we{t:TypeId}{d:TypeDesc}(h:P.underlying t=O d)(w:World):(sizeOf t).run P w=.ok (aT P t) w:=by let⟨i,e,x,_⟩:=acL h;simp[sizeOf,typeInfo,e,x]
def Qz{t:TypeId}(h:fK P t=ab)(w:World):(isAgg t).run P w=.ok (lj P t) w:=by have x:=sW h;unfold isAgg;rw[fX,gz x];unfold lj;cases f_ P t<;>rfl
def wE(g o j):(⟨g,o,ae⟩:Addr).add j=⟨g,o+j,ae⟩:=by unfold Addr.add;split<;>simp_all
def atH{t:TypeId}(h:fK P t=ab)(y:lj P t=ab){w:World}{ad:Addr}(us:bG)(e:us.length=aT P t)(z:∀j v,us[j]? =O v->w.cell? (ad.add j)=O v):
  (loadVar t ad).run P w=.ok (.agg us.toArray) w:=by have x:=run_loadCells_list (P:=P) w ad us z;rw[e]at x;simp[loadVar,Qz h,y,we<|sW h,x]
def aN8{t:TypeId}(h:fK P t=ab)(x:lj P t=ah){w:World}{ad:Addr}{v:Value}(y:w.cell? ad=O v):
  (loadVar t ad).run P w=.ok v w:=by simp[loadVar,Qz h,x,y]
variable{dst:Option Tmp}{type:TypeId}{pos:String}{after:Array Edge}{guard:Option (Nat×Bool)}
def aJX(x:Operand):mc P Γ ⟨dst,.move x,type,pos,after,guard⟩:=by intro E D β S a w n r e k z v h K Q y;subst e;exact ju h rfl (h.ev x) rfl rfl z y
def aJE(x:Operand):mc P Γ ⟨dst,.assign x,type,pos,after,guard⟩:=by intro E D β S a w n r e k z v h K Q y;subst e;exact ju h rfl (h.ev x) rfl rfl z y
def ZS{w:World}{β:bp}{x:SV}{b:Bool}{u:Value}(y:x.Np=O b)(h:F v w β x u):u=.bool b:=by
 unfold SV.Np at y;split at y
 .cases y;simpa [F]using h
 .cases y;simpa [F]using h
 .cases y
def aJ0(c x y:Operand):mc P Γ ⟨dst,.pick c x y,type,pos,after,guard⟩:=by
 intro E D β S a w n r k j i b h K Q v;have z:=h.ev c;simp[step]at k;split at k
 .rename_i e
  subst k;rw[e]at z;simp[F]at z;exact ju h (by simp[execOp,z,asBool]) (h.ev x) rfl rfl i v
 .rename_i e
  subst k;rw[e]at z;simp[F]at z;exact ju h (by simp[execOp,z,asBool]) (h.ev y) rfl rfl i v
 .exact bad k j
def aJ3(j:UnOp)(t:TypeId)(x:Operand):mc P Γ ⟨dst,.unOp j t x,type,pos,after,guard⟩:=by
 intro E D β S a w n r y i v c h K Q z;have ex:=h.ev x;simp[step]at y;split at y
 .rename_i b e
  subst y;rw[e]at ex;simp[F]at ex;exact ju h (u:=.bool<|!b) (by simp[execOp,ex,Op.unary]) (by simp[c_.ret,F]) rfl rfl v z
 .rename_i b e
  subst y;rw[e]at ex;simp[F]at ex;exact ju h (u:=.bool<|!b) (by simp[execOp,ex,Op.unary]) (by simp[c_.ret,F]) rfl rfl v z
 .rename_i k b e
  subst y;rw[e]at ex;simp[F]at ex;exact ju h (u:=.int k<|k.wrap<|0-b) (by simp[execOp,ex,Op.unary,YU]) (by simp[c_.ret,F]) rfl rfl v z
 .exact bad y i
def vK{b:IntKind}(h:lS z b=ab):z=b:=by cases z<;>cases b<;>first|rfl|(revert h;decide)
def EM(h:BinOp)(t:TypeId)(x y:Operand)(u v:Value)(w:World)(h1:∀c,u≠.agg c)(z:isC y=ab\/u≠.nilIface):(eqGuard h t x y u v).run P w=.ok () w:=by
 have e:∀h,h=BinOp.eql\/h=BinOp.neq->(eqGuard h t x y u v).run P w=.ok () w:=by
  intro h k;rcases k with rfl|rfl<;>
  .cases u with
   |agg c=>exact absurd rfl (h1 c)
   |nilIface=>
    cases v with
    |nilIface=>
     rcases z with z|z
     .cases y with
      |const c=>simp[eqGuard]
      |_=>cases z
     .exact absurd rfl z
    |_=>rfl
   |_=>rfl
 cases h<;>first|exact e _ (.inl rfl)|exact e _ (.inr rfl)|rfl
def aAt{a b:M}(h:a.size+b.size<=9223372036854775807)(w:World):(YV .add a b).run P w=.ok (.string<|a++b) w:=by unfold YV;simp only[];rw[V<|by show¬((a.size+b.size):Int)>9223372036854775807;lia];rfl
end
section
variable{P:Program}{Γ:ll}
variable{dst:Option Tmp}{type:TypeId}{pos:String}{after:Array Edge}{guard:Option (Nat×Bool)}
def Y9(P:Program)(h:BinOp)(t:TypeId)(x y:Operand)(u v:Value)(w:World)(R:Value->Prop):Prop:=
 ∃z,((do eqGuard h t x y u v;binOp h t u v:Sem Value)).run P w=.ok z w/\R z
def nK{h:BinOp}{t:TypeId}{x y:Operand}{u v:Value}{w:World}{z:Value}{R:Value->Prop}(h1:(eqGuard h t x y u v).run P w=.ok () w)(e:(binOp h t u v).run P w=.ok z w)(k:R z):Y9 P h t x y u v w R:=
 ⟨z,by simp[h1,e],k⟩
def azG{D:aW}{w:World}{β:bp}{h:BinOp}{t:TypeId}{x y:Operand}{k:IntKind}{a b:Int}{r:c_}
  (i:(match h with
    |.add=>c_.ret<|.v<|.int k<|k.wrap<|a+b
    |.sub=>.ret<|.v<|.int k<|k.wrap<|a-b
    |.mul=>.ret<|.v<|.int k<|k.wrap<|a*b
    |.quo=>{vc:=[⟨b≠0,inferInstance⟩],val:=.v<|.int k<|k.wrap<|a.tdiv b}
    |.rem=>{vc:=[⟨b≠0,inferInstance⟩],val:=.v<|.int k<|a.tmod b}
    |.and|.or|.xor|.andNot=>.ret<|.v<|.int k<|bits h k a b
    |_=>.ret<|EE h a b)=r) (u:∀c∈r.vc,c.p) (j:h≠.shl) (n:h≠.shr):
  Y9 P h t x y (.int k a) (.int k b) w (F D w β r.val)/\r.fT= []/\r.news= []:=by
 have g:(eqGuard h t x y (.int k a)<|.int k b).run P w=.ok () w:=EM h t x y _ _ w aj<|.inr aj;subst i;cases h with
 |shl=>exact absurd rfl j
 |shr=>exact absurd rfl n
 |quo=>
  have e:b≠0:=u (⟨b≠0,inferInstance⟩) aj;exact⟨nK g (z:=.int k<|k.wrap<|a.tdiv b) (by simp[binOp,Op.intDiv,e])<|by simp[F],C⟩
 |rem=>
  have e:b≠0:=u (⟨b≠0,inferInstance⟩) aj;exact⟨nK g (z:=.int k<|a.tmod b) (by simp[binOp,Op.intDiv,e])<|by simp[F],C⟩
 |and=>exact⟨nK g (z:=.int k<|bits .and k a b) (by simp[binOp,YW,bits])<|by simp[F,c_.ret],C⟩
 |or=>exact⟨nK g (z:=.int k<|bits .or k a b) (by simp[binOp,YW,bits])<|by simp[F,c_.ret],C⟩
 |xor=>exact⟨nK g (z:=.int k<|bits .xor k a b) (by simp[binOp,YW,bits])<|by simp[F,c_.ret],C⟩
 |andNot=>exact⟨nK g (z:=.int k<|bits .andNot k a b) (by simp[binOp,YW,bits])<|by simp[F,c_.ret],C⟩
 |add=>exact⟨nK g (z:=.int k<|k.wrap<|a+b) (by simp[binOp,YU])<|by simp[F,c_.ret],C⟩
 |sub=>exact⟨nK g (z:=.int k<|k.wrap<|a-b) (by simp[binOp,YU])<|by simp[F,c_.ret],C⟩
 |mul=>exact⟨nK g (z:=.int k<|k.wrap<|a*b) (by simp[binOp,YU])<|by simp[F,c_.ret],C⟩
 |eql=>exact⟨nK g (z:=.bool<|a==b) (by simp[binOp,MZ])<|by simp[F,c_.ret,EE],C⟩
 |neq=>exact⟨nK g (z:=.bool<|a !=b) (by simp[binOp,MZ])<|by simp[F,c_.ret,EE],C⟩
 |lss=>exact⟨nK g (z:=.bool<|decide (a<b)) (by simp[binOp,MZ])<|by simp[F,c_.ret,EE],C⟩
 |leq=>exact⟨nK g (z:=.bool<|decide (a<=b)) (by simp[binOp,MZ])<|by simp[F,c_.ret,EE],C⟩
 |gtr=>exact⟨nK g (z:=.bool<|decide (a>b)) (by simp[binOp,MZ])<|by simp[F,c_.ret,EE],C⟩
 |geq=>exact⟨nK g (z:=.bool<|decide (a>=b)) (by simp[binOp,MZ])<|by simp[F,c_.ret,EE],C⟩
def aFA{w:World}{β:bp}{X:SV}{u:Value}{b:Bool}(x:T8 X=O b)(h:F v w β X u):(b=ab/\u=.nilIface)\/(b=ah/\∃t D,u=.iface t D):=by unfold T8 at x;split at x<;>first|cases x;done|(simp[F]at h;grind)
def aoI{t:TypeId}(h:KJ P t=ab):∃x,P.underlying t=O (.interface x):=by
 unfold KJ at h;split at h
 .rename_i x e;exact⟨x,under e aj⟩
 .cases h
def aBy{t:TypeId}(h:KJ P t=ab)(w:World):(zU t .nilIface .nilIface).run P w=.ok ab w:=by
 let⟨z,y⟩:=aoI h;have x:∀d,(wC (d+1) t .nilIface .nilIface).run P w=.ok ab w:=λd=>by simp[wC,gz y]
 exact x 9999
def aBx{t:TypeId}(h:KJ P t=ab)(y:TypeId)(z:Value)(w:World):(zU t (.iface y z) .nilIface).run P w=.ok ah w:=by
 let⟨k,e⟩:=aoI h;have x:∀d,(wC (d+1) t (.iface y z) .nilIface).run P w=.ok ah w:=λd=>by simp[wC,gz e]
 exact x 9999
section
variable{D:aW}{w:World}{β:bp}
def aBz{t:TypeId}{c d:SV}{u v:Value}{b:Bool}(n:Nat)(h:SP (f_ P t) c d=O b)(x:F D w β c u)(y:F D w β d v):(wC (n+1) t u v).run P w=.ok b w/\lj P t=ah:=by
 unfold SP at h;split at h
 .rename_i T k a o m e
  have r:=under e aj;cases z:lS k o
  .rw[z]at h;cases h
  .rw[z]at h
   have:=vK z;subst this;simp[F]at x y;simp[bo,Option.some.injEq]at h;subst x y h;exact⟨by simp[wC,gz r],by unfold lj;rw[e]⟩
 .rename_i T e
  have r:=under e aj;split at h
  .rename_i a m i j
   simp[Option.some.injEq]at h;have f:=ZS i x;have g:=ZS j y;subst f g h;exact⟨by simp[wC,gz r],by unfold lj;rw[e]⟩
  .cases h
 .cases h
def PD{t:TypeId}(z:fK P t=ab)(y:lj P t=ah){us:bG}{x:Nat}{u:Value}(h:us[x]? =O u):(part t us.toArray x).run P w=.ok u w:=by simp[part,Qz z,y,h]
def al_{cs k:bL}{us a:bG}(n:Nat)(r:Z D w β cs us)(i:Z D w β k a):∀{l:List Field} {b:Bool},Hu P cs k l=O b->
  Sem.run P (forIn l (none,()) λf __s=>if f.name= "_" then pure<|ForInStep.yield (none,())
          else do
           let x<-part f.type us.toArray f.offset
           let y<-part f.type a.toArray f.offset
           let z<-wC (n+1) f.type x y
           if z=ah then pure (ForInStep.done (O ah,()))else pure<|Ru (ae,())) w=.ok (if b then(ae,())else(O ah,())) w
 | [],b,h=>by
   simp[Hu,Option.some.injEq]at h;subst h;simp
 |f::l,b,h=>by
  simp[Hu]at h;cases e:fK P f.type&& !(f.name== "_")
  .rw[e]at h;cases h
  .rw[e]at h
   simp[bo]at h;simp[bC,pR,wo]at e;split at h
   .rename_i c d p q
    split at h
    .rename_i g E m o
     simp[Option.some.injEq]at h;let⟨u,t,A⟩:=Z.get cs f.offset c r p;let⟨v,k3,B⟩:=Z.get k f.offset d i q;let⟨C,j⟩:=aBz n m A B;have s:=al_ n r i o;rw[List.forIn_cons];simp[e.2,xi,fX,PD e.1 j t,PD e.1 j k3,gM,C];cases g
     .subst h;simp
     .subst h;simpa using s
    .cases h
   .cases h
def aaN{t:TypeId}{cs u:bL}{us r:bG}{b:Bool}(h:J_ P t cs u=O b)(i:Z D w β cs us)(j:Z D w β u r):
  (zU t (.agg us.toArray)<|.agg r.toArray).run P w=.ok b w/\∀v x y,(eqGuard v t x y (.agg us.toArray)<|.agg r.toArray).run P w=.ok () w:=by
 unfold J_ at h;split at h
 .rename_i c e
  have a:=under e aj;cases k: !P.stoodInHeld t&& !P.eqGuardType P.depth t
  .rw[k]at h;cases h
  .rw[k]at h
   simp[bC,pR]at k;refine⟨?_,λv x y=>?_⟩
   .have z:∀n,(wC (n+1+1) t (.agg us.toArray)<|.agg r.toArray).run P w=.ok b w:=by
     intro n;have z:=al_ n i j h;unfold wC;simp[fX,gz a,gM];simp[k.1];rw[<-Array.forIn_toList,z];cases b<;>simp
    exact z 9998
   .unfold eqGuard
    simp[k.2]
 .cases h
end
def al7{r:TypeId}{k s:IntKind}(d:P.underlying r=O (.int s))(v:fK P r=ab)(u:lj P r=ah){w:World}(xs e:N)(n m:Nat)(p:m=xs.length)(q:m=e.length):∀(c j),j+c=m->
  Sem.run P (forIn (List.range' j c 1) (ae,()) λi __s=>do
      let x<-part r (xs.map<|cg k).toArray (i*1)
      let y<-part r (e.map<|cg k).toArray (i*1)
      let z<-wC (n+1) r x y
      if z=ah then pure (ForInStep.done (O ah,()))else pure<|Ru (ae,())) w=.ok (if xs.drop j==e.drop j then(ae,())else(O ah,())) w
 |0,j,h=>by
  rw[CH Y,CH Y];simp
 |c+1,j,h=>by
  have a:j<xs.length:=Y;have b:j<e.length:=Y;have p1:(xs.map<|cg k)[j]? =O (.int k xs[j]):=by rw[pS,kB a];rfl
  have p2:(e.map<|cg k)[j]? =O (.int k e[j]):=by rw[pS,kB b];rfl
  have f:=al7 d v u xs e n m p q c (j+1) Y (w:=w) (k:=k);have o:(wC (n+1) r (.int k xs[j])<|.int k e[j]).run P w=.ok (xs[j]==e[j]) w:=by simp[wC,gz d]
  have g:(xs.drop j==e.drop j)=((xs[j]==e[j])&&(xs.drop (j+1)==e.drop (j+1))):=by
   rw[zJ a,zJ b,Bool.eq_iff_iff];simp only[wx,bC,List.cons.injEq]
  rw[List.range'_succ,List.forIn_cons,g];simp only[xj]at f|-;simp only[fX,PD v u p1,PD v u p2,gM,o];cases t:xs[j]==e[j]
  .simp
  .simpa using f
def al8{t:TypeId}{d e:aA}{n:Nat}{xs b:N}{D:aW}{w:World}{β:bp}{u v:Value}(h:SQ P t d e=O (n,xs,b))(h1:n=xs.length)(l:n=b.length)(g:F D w β (.av d) u)(o:F D w β (.av e) v):
  (zU t u v).run P w=.ok (xs==b) w/\(∀q x y,(eqGuard q t x y u v).run P w=.ok () w)/\(∃us,u=.agg us)/\∃K,v=.agg K:=by
 unfold SQ at h;split at h
 .rename_i p r k j M a s
  have I:=under s aj;split at h
  .rename_i L c
   have f:=under c aj;have A:lj P r=ah:=by unfold lj;rw[c]
   cases i:lS k M&&fK P r&&ap (aT P r) 1&& !P.eqGuardType P.depth t
   .rw[i]at h;cases h
   .rw[i]at h
    simp[bo,Option.some.injEq,Prod.mk.injEq]at h;obtain⟨rfl,rfl,rfl⟩:=h;simp only[bC,pR]at i;let⟨⟨⟨C,E⟩,H⟩,B⟩:=i;have:=vK C;subst this;simp[F]at g o;subst g o;have G:=cN H;refine⟨?_,λq x y=>?_,⟨_,rfl⟩,_,rfl⟩
    .have z:∀m,(wC (m+1+1) t (.agg (j.map<|cg k).toArray)<|.agg (a.map<|cg k).toArray).run P w=.ok (j==a) w:=by
      intro m;have z:=al7 (k:=k) f E A (w:=w) j a m p h1 l p 0 Y;unfold wC;simp[fX,gz I,gM,we f w,G];simp only[I_]at z;simp at z|-;rw[z];cases J:decide (j=a)<;>simp_all
     exact z 9998
    .unfold eqGuard
     simp[B]
  .cases h
 .cases h
def T7{w:World}{β:bp}{k:IntKind}:∀(cs:bL) {xs:N} {us:bG},lC k cs=O xs->Z v w β cs us->us=xs.map (cg k)
 | [],xs,us,h,y=>by
   simp[lC,Option.some.injEq]at h;simp[Z]at y;subst h y;rfl
 |c::cs,xs,us,h,y=>by
  simp[lC]at h;split at h
  .rename_i n x r z i
   cases e:lS k n
   .rw[e]at h;cases h
   .rw[e]at h
    simp[bo,Option.some.injEq]at h;have:=vK e;subst this h;simp[Z]at y;obtain⟨u,us,rfl,D,j⟩:=y;rw[T7 cs i j];unfold SV.Nq at z;split at z
    .cases z
     simp[F]at D;subst D;rfl
    .cases z
  .cases h
def ay'{w:World}{β:bp}{d e:aA}{cs:bL}{u:Value}(h:ZL d cs=O e)(x:F v w β (.ag cs) u):F v w β (.av e) u:=by
 unfold ZL at h;split at h
 .rename_i k j
  rw[Ja]at h;obtain⟨r,y,rfl⟩:=h;simp[F]at x|-;obtain⟨i,rfl,z⟩:=x;rw[T7 cs y z]
 .cases h
def aJF(M:BinOp)(t ty:TypeId)(x y:Operand):mc P Γ ⟨dst,.binOp M t x y ty,type,pos,after,guard⟩:=by
 intro E D β S a w n r i f V hn h K Q T;have ex:=h.ev x;have j:=h.ev y;simp[step]at i
 suffices H:Y9 P M t x y (a.eval x) (a.eval y) w (F D w β r.val)/\r.fT= []/\r.news= []by
  let⟨⟨z,hz,U⟩,hu,hw⟩:=H;apply ju h ?_ U hu hw V T;simp only[execOp,fX,hz,gM,iV]
 generalize S.ev x=X at i ex;generalize S.ev y=Y at i j;generalize a.eval x=u at ex|-;generalize a.eval y=v at j|-;unfold akr at i;split at i
 . --shl
   simp[F]at ex j;subst ex j i;rename_i k p k' q;have Z:=f (⟨0<=q,inferInstance⟩) aj;exact⟨nK (EM _ _ _ _ _ _ _ aj<|.inr aj) (z:=.int k<|k.wrap<|p*2^(min q.toNat k.bits)) (by simp[binOp,Op.shift,show¬q<0 by lia])<|by simp[F],C⟩
 .simp only[F]at ex j
  subst ex j i;rename_i k p k' q;have Z:=f (⟨0<=q,inferInstance⟩) aj;exact⟨nK (EM _ _ _ _ _ _ _ aj<|.inr aj) (z:=.int k<|p.fdiv<|2^(min q.toNat k.bits)) (by simp[binOp,Op.shift,show¬q<0 by lia])<|by simp[F],C⟩
 .rename_i k p k' q A B
  simp[F]at ex j;cases C:lS k k'
  .rw[C]at i;exact bad i f
  .rw[C]at i
   have G:=vK C;subst G ex j;exact azG i f (λe=>A e) λe=>B e
 .rename_i p q
  simp[F]at ex j;subst ex j i;have H:=f (⟨p.size+q.size<=9223372036854775807,inferInstance⟩) aj;exact⟨nK (EM _ _ _ _ _ _ _ aj<|.inr aj) (by simp[binOp];exact aAt H w)<|by simp[F],C⟩
 .rename_i p q
  simp[F]at ex j;subst ex j i;exact⟨nK (EM _ _ _ _ _ _ _ aj<|.inr aj) (z:=.bool<|p.toList==q.toList) (by simp[binOp,YV])<|by simp[F,c_.ret],C⟩
 .rename_i p q
  simp[F]at ex j;subst ex j i;exact⟨nK (EM _ _ _ _ _ _ _ aj<|.inr aj) (z:=.bool<|!(p.toList==q.toList)) (by simp[binOp,YV])<|by simp[F,c_.ret],C⟩
 . --struct eql
   split at i
   .rename_i cs R b c
    simp[F]at ex j;let⟨us,g,A⟩:=ex;let⟨L,m,B⟩:=j;let⟨o,s⟩:=aaN c A B;subst g m i;exact⟨nK (s _ _ _) (z:=.bool b) (by
     show(do pure (.bool<|<-zU t _ _):Sem Value).run P w=_;simp[o])<|by simp[F,c_.ret],C⟩
   .exact bad i f
 . --struct neq
   split at i
   .rename_i cs R b c
    simp[F]at ex j;let⟨us,g,A⟩:=ex;let⟨L,m,B⟩:=j;let⟨o,s⟩:=aaN c A B;subst g m i;exact⟨nK (s _ _ _) (z:=.bool<|!b) (by
     show(do pure (.bool<|!(<-zU t _ _)):Sem Value).run P w=_;simp[o])<|by simp[F,c_.ret],C⟩
   .exact bad i f
 . --N eql
   split at i
   .rename_i d e n xs l c
    subst i;have I:=f (⟨n=xs.length,inferInstance⟩) aj;have J:=f (⟨n=l.length,inferInstance⟩) aj;let⟨o,s,⟨us,g⟩,L,m⟩:=al8 c I J ex j;exact⟨nK (s _ _ _) (z:=.bool<|xs==l) (by
     subst g m;show(do pure (.bool<|<-zU t _ _):Sem Value).run P w=_;simp[o])<|by simp[F],C⟩
   .exact bad i f
 . --an array and cells
   split at i
   .rename_i d cs n xs l c
    subst i;have I:=f (⟨n=xs.length,inferInstance⟩) aj;have J:=f (⟨n=l.length,inferInstance⟩) aj;rw[Option.bind_eq_some_iff]at c;let⟨e,W,c⟩:=c;let⟨o,s,⟨us,g⟩,L,m⟩:=al8 c I J ex<|ay' W j;exact⟨nK (s _ _ _) (z:=.bool<|xs==l) (by
     subst g m;show(do pure (.bool<|<-zU t _ _):Sem Value).run P w=_;simp[o])<|by simp[F],C⟩
   .exact bad i f
 . --neq
   split at i
   .rename_i e1
    cases c:isC y&&KJ P t
    .rw[c]at i;exact bad i f
    .rw[c]at i
     simp[bC]at c;simp[F]at j;subst j i;rcases aFA ‹T8 X=O _› ex with⟨rfl,rfl⟩|⟨rfl,tt,vv,rfl⟩
     .exact⟨nK (EM _ _ _ _ _ _ _ aj<|.inl c.1) (z:=.bool ah) (by
       show(do pure (.bool<|!(<-zU t .nilIface .nilIface)):Sem Value).run P w=_;simp[aBy c.2])<|by simp[F,c_.ret],C⟩
     .exact⟨nK (EM _ _ _ _ _ _ _ aj<|.inl c.1) (z:=.bool ab) (by
       show(do pure (.bool<|!(<-zU t (.iface tt vv) .nilIface)):Sem Value).run P w=_;simp[aBx c.2])<|by simp[F,c_.ret],C⟩
   .exact bad i f
 .exact bad i f
end
section
variable{P:Program}{Γ:ll}
variable{dst:Option Tmp}{type:TypeId}{pos:String}{after:Array Edge}{guard:Option (Nat×Bool)}
variable{D:aW}{w:World}{β:bp}
def Py{d:aA}{i j:Nat}{x:Value}(h:d.ok i j x):F D w β (d.get i j) x:=by simp[aA.get,F];exact h
def ZH:∀(cs:bL) (us:bG),us.length=cs.length->(∀(j:Nat) c,cs[j]? =O c->∃u,us[j]? =O u/\F D w β c u)->Z D w β cs us
 | [],us,x,_=>by simp[Z];exact r9 x
 |c::cs,[],x,_=>by simp at x
 |c::cs,u::us,x,h=>by simp only[Z];let⟨r,y,e⟩:=h 0 c rfl;simp[CI,Option.some.injEq]at y;subst y;exact⟨u,us,rfl,e,ZH cs us (by simpa using x) λj z k=>by simpa using h (j+1) z<|by simpa using k⟩
def aLX{d:aA}{i:Nat}{us:bG}{o:Nat}(h:∀j,j<d.wd->∃x,us[o+j]? =O x/\d.ok i j x):Z D w β (d.Ct i) ((us.drop o).take d.wd):=by
 have k:((us.drop o).take d.wd).length=d.wd:=by
  simp[mT,nW];rcases yx d.wd with h0|h0
  .omega
  .obtain⟨x,u,_⟩:=h (d.wd-1) Y
   grind
 apply ZH _ _ (by rw[k];simp[aA.Ct]) λj c y=>?_;have e:j<d.wd:=by have:=(List.getElem?_eq_some_iff.1 y).1;simpa [aA.Ct]using this
 let⟨x,u,r⟩:=h j e;have z:c=d.get i j:=by
  have:=(List.getElem?_eq_some_iff.1 y).2;simpa [aA.Ct]using this.symm
 refine⟨x,?_,z▸Py r⟩;grind
def CZ{g:Nat}{us:bG}{ty:TypeId}{h:Nat×Nat}(x:w.heap[g]? =O (.cells us.toArray ty h))(o:Nat):w.cell? ⟨g,o,ae⟩=us[o]? :=by rw[Re w g o us.toArray ty h x];simp
def agm{t:TypeId}(h:fK P t=ab)(z:lj P t=ab){g o:Nat}{us:bG}{ty:TypeId}{y:Nat×Nat}(e:w.heap[g]? =O (.cells us.toArray ty y))(k:o+aT P t<=us.length):
  (GW t<|.pointer<|O ⟨g,o,ae⟩).run P w=.ok (.agg ((us.drop o).take<|aT P t).toArray) w:=by
 have:=atH h z (ad:=⟨g,o,ae⟩) ((us.drop o).take<|aT P t) c9 λj v x=>by
  rw[wE,CZ e];rw[GH]at x;split at x
  .grind
  .cases x
 simp[GW,A6,this]
def Xk{t:TypeId}(h:fK P t=ab)(x:lj P t=ah){g o:Nat}{v:Value}(y:w.cell? ⟨g,o,ae⟩=O v):
  (GW t<|.pointer<|O ⟨g,o,ae⟩).run P w=.ok v w:=by simp[GW,A6,aN8 h x y]
def aps{t:TypeId}(o:fK P t=ab){L:Loc}{b:bm}{i j:Nat}(A:gk D w β L b)(h:∀c∈(BU P t b i j).vc,c.p):
  ∃u,(GW t<|.pointer<|O ⟨L.g,i*L.wd+j,ae⟩).run P w=.ok u w/\F D w β (BU P t b i j).val u:=by
 cases b with
 |cells ty cs=>
  let⟨l,us,r,v,n⟩:=A;simp[BU]at h|-;cases X:ap i 0
  .rw[X]at h;exact xq h
  .rw[X]at h
   have H:=cN X;subst H;simp[bo]at h|-;cases z:lj P t
   .rw[z]at h
    simp[iw]at h|-;cases J:cs[j]?with
    |none=>rw[J]at h;exact xq h
    |some c=>
     let⟨u,T,S⟩:=Z.get cs j c v J;exact⟨u,Xk o z<|by rw[CZ r];simpa using T,S⟩
   .rw[z]at h
    simp[bo]at h|-;cases K:mF (j+aT P t) cs.length
    .rw[K]at h;exact xq h
    .have a:j+aT P t<=us.length:=by rw[Z.len cs v];exact nh K
     refine⟨_,agm o z r<|by simpa using a,?_⟩;simp only[bo,c_.ret,F,CJ,rA];exact⟨_,rfl,Z.take _ _<|Z.drop cs j v⟩
 |iA ty d=>
  let⟨l,B,us,r,v,n,_⟩:=A;simp[BU]at h|-;cases z:lj P t
  .rw[z]at h
   simp[iw]at h|-;cases y:cK j d.wd
   .rw[y]at h;exact xq h
   .rw[y]at h
    simp only[bo]at h|-;have X:=h (⟨i<d.len,inferInstance⟩) aj;let⟨x,q,f⟩:=n i j X<|nh y;exact⟨x,Xk o z<|by rw[CZ r,B];exact q,Py f⟩
  .rw[z]at h
   simp[bo]at h|-;split at h
   .rename_i len V e
    cases y:ap i 0&&ap j 0&&acT d
    .rw[y]at h;exact xq h
    .rw[y]at h
     simp only[bo]at h|-;simp only[bC]at y;have U:=cN y.1.1;have E:=cN y.1.2;subst U E;have G:=h (⟨aT P t=d.len,inferInstance⟩) aj;cases d with
     |ints k xs=>
      simp only[aA.len,aA.wd,xj]at*;refine⟨_,agm o z r<|by simp;lia,?_⟩;simp[F,CJ,rA,I_];congr 2;apply D8;intro m;by_cases M:m<xs.length
      .obtain⟨x,q,N⟩:=n m 0 M Y
       simp[uS,aA.ok,aA.vl]at q N;rw[GH,I Y,q,N];simp[pS,eU,kB M]
      .rw[xk<|by simp;lia,xk<|by simp;lia]
     |_=>simp[acT]at y
   .exact xq h
 |row ty d=>
  let⟨B,W,A⟩:=A;simp[BU]at h|-
  have pos:i<d.len->L.nil=ah/\∃(us:bG) (C:TypeId) (s:Nat×Nat),w.heap[L.g]? =O (.cells us.toArray C s)/\L.cap*d.wd<=us.length/\d.len<=L.cap/\
    ∀i j,i<d.len->j<d.wd->∃x,us[i*d.wd+j]? =O x/\d.ok i j x:=by
   intro X;rcases A with⟨_,H⟩|⟨l,r,_,us,C,s,v,_,n,Q⟩
   .omega
   .exact⟨l,us,C,s,v,n,r,Q⟩
  cases z:lj P t
  .rw[z]at h
   simp[iw]at h|-;cases y:cK j d.wd
   .rw[y]at h;exact xq h
   .rw[y]at h
    simp only[bo]at h|-;have X:=h (⟨i<d.len,inferInstance⟩) aj;let⟨l,us,C,s,r,v,_,n⟩:=pos X;let⟨x,q,f⟩:=n i j X<|nh y;exact⟨x,Xk o z<|by rw[CZ r,B];exact q,Py f⟩
  .rw[z]at h
   simp[bo]at h|-;split at h
   .rename_i fs e
    cases y:ap j 0&&ap (aT P t) d.wd
    .rw[y]at h;exact xq h
    .rw[y]at h
     simp only[bo]at h|-;simp only[bC]at y;have E:=cN y.1;have G:=cN y.2;subst E;have X:=h (⟨i<d.len,inferInstance⟩) aj;let⟨l,us,C,s,r,v,R,n⟩:=pos X;have a:i*d.wd+d.wd<=us.length:=by
      apply sY ?_ v
      calc i*d.wd+d.wd=(i+1)*d.wd:=by rw[pQ];lia
       _<=d.len*d.wd:=ox _ X
       _<=L.cap*d.wd:=ox _ R
     refine⟨_,agm o z r<|by rw[B,G];simpa using a,?_⟩;simp only[F];refine⟨_,rfl,?_⟩;rw[G,B];exact aLX λj y=>by simpa using n i j X y
   .exact xq h
 |_=>simp[BU]at h;exact xq h
def aJQ(t:TypeId)(x:Operand):mc P Γ ⟨dst,.load t x,type,pos,after,guard⟩:=by
 intro E D β S a w n r y f H hn h K Q A;have ex:=h.ev x;simp[step]at y;cases p:fK P t
 .rw[p]at y;exact bad y f
 .rw[p]at y
  simp[bo]at y;split at y
  .rename_i l i j e
   rw[e]at ex;simp[F]at ex;let⟨L,T,du,s⟩:=ex;split at y
   .rename_i b U
    let⟨L',R,hB⟩:=h.hp l b U;rw[T]at R;cases R;subst y;let⟨u,I,B⟩:=aps p hB f;exact ju (r:=⟨(BU P t b i j).vc,(BU P t b i j).val,[l],[],[]⟩) h (by simp[execOp,s,I]) B rfl rfl H A
   .exact bad y f
  .rename_i d i j e
   rw[e]at ex;simp[F]at ex;let⟨g,k,s,Y,N⟩:=ex;cases q:lj P t
   .rw[q]at y
    simp[iw]at y;cases z:cK j d.wd
    .rw[z]at y;exact bad y f
    .rw[z]at y
     simp[bo]at y;subst y;let⟨v,m,M⟩:=N j<|nh z;exact ju h (by simp[execOp,s,Xk p q m]) (Py M) rfl rfl H A
   .rw[q]at y
    simp[bo]at y;cases z:ap j 0&&ap (aT P t) d.wd
    .rw[z]at y;exact bad y f
    .rw[z]at y
     simp[bo]at y;simp only[bC]at z;have W:=cN z.1;have X:=cN z.2;subst W y;have G:∃us,us.length=d.wd/\Z D w β (d.Ct i) us/\∀j v,us[j]? =O v->w.cell? ((⟨g,k+(i*d.wd+0),ae⟩:Addr).add j)=O v:=by
      refine⟨(fM d.wd).map λj=>(w.cell? ⟨g,k+(i*d.wd+j),ae⟩).getD undef,aj,?_,?_⟩
      .refine ZH _ _ (by simp[aA.Ct]) λj c z=>?_
       have o:j<d.wd:=by have:=(List.getElem?_eq_some_iff.1 z).1;simpa [aA.Ct]using this
       let⟨v,m,M⟩:=N j o;have C:c=d.get i j:=by
        have:=(List.getElem?_eq_some_iff.1 z).2;simpa [aA.Ct]using this.symm
       exact⟨v,by simp[o,m],C▸Py M⟩
      .intro j v z
       have o:j<d.wd:=by have:=(List.getElem?_eq_some_iff.1 z).1;simpa using this
       let⟨v',m,_⟩:=N j o;rw[wE,show k+(i*d.wd+0)+j=k+(i*d.wd+j)by lia,m];simpa [o,m]using z
     let⟨us,V,B,G⟩:=G;have I:=atH p q us (by rw[V,X]) G;have J:(loadVar t ⟨g,k+i*d.wd,ae⟩).run P w=.ok (.agg us.toArray) w:=by simpa using I
     exact ju h (u:=.agg us.toArray) (by simp[execOp,s,GW,A6,J]) (by simp only[c_.ret,F];exact⟨us,rfl,B⟩) rfl rfl H A
  .exact bad y f
end
section
variable{P:Program}{Γ:ll}
variable{dst:Option Tmp}{type:TypeId}{pos:String}{after:Array Edge}{guard:Option (Nat×Bool)}
variable{D:aW}{w:World}{β:bp}
def O'{k:IntKind}:∀(cs:bL) xs (us:bG),lC k cs=O xs->Z D w β cs us->us=xs.map (cg k)
 | [],xs,us,h,y=>by
   simp[lC,Option.some.injEq]at h;simp[Z]at y;subst h y;rfl
 |c::cs,xs,us,h,y=>by
  simp[Z]at y;obtain⟨x,i,rfl,r,v⟩:=y;unfold lC at h;split at h
  .rename_i n a j z u
   cases e:lS k n
   .rw[e]at h;cases h
   .rw[e]at h
    have:=vK e;subst this;cases h;rw[O' cs j i u v];unfold SV.Nq at z;split at z
    .cases z;simp[F]at r;simp[r]
    .cases z
  .cases h
def aL0{wd len i:Nat}{us e:bG}{ok r:Nat->Nat->Value->Prop}(hi:i<len)(p:e.length=wd)
  (v:∀i j,i<len->j<wd->∃x,us[i*wd+j]? =O x/\ok i j x)
  (g:∀j,j<wd->∃x,e[j]? =O x/\r i j x) (m:∀h j x,h≠i->ok h j x->r h j x):
  ∀h y,h<len->y<wd->∃x,(us.take (i*wd+0)++e++us.drop (i*wd+0+e.length))[h*wd+y]? =O x/\r h y x:=by
 intro h y a u;have c:i*wd+wd<=us.length:=by
  let⟨x,z,_⟩:=v i (wd-1) hi Y;have:=(List.getElem?_eq_some_iff.1 z).1;lia
 rw[uS,p,qQ];by_cases k:h=i
 .subst k
  let⟨x,z,b⟩:=g y u;refine⟨x,?_,b⟩;rw[GI<|by simp;lia,GJ<|by simp;lia];have f:h*wd+y- (aC (h*wd) us).length=y:=by simp;lia
  rw[f];exact z
 .obtain⟨x,z,o⟩:=v h y a u
  refine⟨x,?_,m _ _ _ k o⟩;rw[<-z];rcases Nat.lt_or_gt_of_ne k with d|n
  .have:h*wd+y<i*wd:=by
    calc h*wd+y<(h+1)*wd:=by rw[pQ];lia
     _<=i*wd:=ox _ d
   rw[GJ<|by simp;lia,GH,I this]
  .have:i*wd+wd<=h*wd+y:=by
    calc i*wd+wd=(i+1)*wd:=by rw[pQ];lia
     _<=h*wd:=ox _ n
     _<=h*wd+y:=Y
   rw[GI<|by simp;lia,GI<|by simp;lia,Yw];congr 1;simp[mT];lia
def avh{d u:aA}{i j:Nat}{cs:bL}{v us:bG}(h:d.Mo i j cs=O u)(n:Z D w β cs v)(hi:i<d.len)(a:j+cs.length<=d.wd)
  (o:∀i j,i<d.len->j<d.wd->∃x,us[i*d.wd+j]? =O x/\d.ok i j x):
  u.len=d.len/\u.wd=d.wd/\∀r y,r<d.len->y<d.wd->∃x,(us.take (i*d.wd+j)++v++us.drop (i*d.wd+j+v.length))[r*d.wd+y]? =O x/\u.ok r y x:=by
 have l:=Z.len cs n;have b:j=0/\v.length=d.wd/\u.len=d.len/\u.wd=d.wd/\(∀y,y<d.wd->v[y]? =O (u.vl i y))/\∀r y,r≠i->u.vl r y=d.vl r y:=by
  unfold aA.Mo at h;split at h
  .rename_i wd B
   split at h
   .rename_i c e
    cases z:ap j 0&&ap cs.length wd<;>rw[z]at h<;>cases h;have A:=O' cs c v e n;rw[bC]at z;have:=cN z.1;have:=cN z.2;simp[aA.len,aA.wd,aA.vl]at hi a|-;grind
   .cases h
  .rename_i k B C x
   cases z:lS k C&&ap j 0<;>rw[z]at h<;>cases h;rw[bC]at z;have:=vK z.1;have:=cN z.2;simp[Z,F]at n;simp[aA.len,aA.wd,aA.vl]at hi a|-;grind
  .rename_i B x
   cases z:ap j 0<;>rw[z]at h<;>cases h;have:=cN z;simp[Z,F]at n;simp[aA.len,aA.wd,aA.vl]at hi a|-;grind
  .cases h
 obtain⟨rfl,p,q,k3,s,t⟩:=b;exact⟨q,k3,aL0 hi p o (λy g=>⟨_,s y g,rfl⟩) λr y x f m=>m.trans (t r y f).symm⟩
def acQ:∀(cs:bL) xs,lC z cs=O xs->cs.all SV.one=ab
 | [],xs,h=>rfl
 |c::cs,xs,h=>by
  unfold lC at h;split at h
  .rename_i e a k x y
   simp only[uR,bC];refine⟨?_,acQ cs k y⟩;unfold SV.Nq at x;split at x
   .rfl
   .cases x
  .cases h
def avi{d y:aA}{i j:Nat}{cs:bL}(h:d.Mo i j cs=O y):cs.all SV.one=ab:=by
 unfold aA.Mo at h;split at h
 .split at h
  .rename_i x e;exact acQ _ x e
  .cases h
 all_goals first|rfl|cases h
end
section
variable{P:Program}{Γ:ll}
variable{dst:Option Tmp}{type:TypeId}{pos:String}{after:Array Edge}{guard:Option (Nat×Bool)}
def W7{w:World}{β:bp}(l:bG):Z v w β (l.map SV.sx) l:=by simpa using Z.map SV.sx id F.sx l
def Y8:∀l,yG z l=ab->l=au l.length (.int z 0)
 | [],_=>rfl
 |.int e x::r,h=>by
  simp[yG,bC,dJ]at h;have:=vK h.1.1;subst this;rw[h.1.2];simp[Jb,D9];rw[<-Y8 r h.2]
 |.bool _::_,h|.float _ _::_,h|.complex _ _ _::_,h|.string _::_,h|.pointer _::_,h|.slice _ _ _::_,h|.map _::_,h|.chan _::_,h
 |.func _ _ _::_,h|.nilFunc::_,h|.iface _ _::_,h|.nilIface::_,h|.agg _::_,h|.tuple _::_,h=>by simp[yG]at h
def aJC(t:TypeId):mc P Γ ⟨dst,.alloc t,type,pos,after,guard⟩:=by
 intro E D β S a w n r g q B C h K Q l;simp[step]at g;split at g
 .rename_i z v
  split at g
  .rename_i b x
   subst g;have G:(execOp a.eval ⟨dst,.alloc t,type,pos,after,guard⟩).run P w=.ok (.value<|.pointer<|O ⟨w.heap.size,0,ae⟩) (w.alloc<|.cells z.cells.toList.toArray t):=by
    unfold r7 at v;split at v
    .rename_i i J
     simp[execOp,Instr.alloc,zeroValue,typeInfo,J,v,newVar,newRow]
    .cases v
   unfold ap3 at x;cases p:z.cells.toList.all tY
   .rw[p]at x;cases x
   .rw[p]at x
    simp only[bo]at x;have s:=List.all_eq_true.1 p
    suffices A:∃wd len,∀D' w' β',w'.heap[w.heap.size]? =O (.cells z.cells.toList.toArray t (0,0))->gk D' w' β' ⟨w.heap.size,wd,len,0,ah⟩ b by
     let⟨wd,len,hB⟩:=A;exact vA G (h.new (C n aj) _ t _ rfl rfl λ_ m=>hB _ _ _ m) (by simp[F];exact⟨_,gK _ _ _,rfl,aj⟩) B l
    have o:O (bm.cells t<|z.cells.toList.map SV.sx)=O b->∃wd len,∀D' w' β',w'.heap[w.heap.size]? =O (.cells z.cells.toList.toArray t (0,0))->gk D' w' β' ⟨w.heap.size,wd,len,0,ah⟩ b:=by
     rintro⟨⟩;exact⟨1,0,λ_ _ _ m=>⟨rfl,_,m,W7 _,s⟩⟩
    have iA:∀d,O (bm.iA t d)=O b->z.cells.toList.length=d.len*d.wd->(∀i j,i<d.len->j<d.wd->z.cells.toList[i*d.wd+j]? =O (d.vl i j))->∃wd len,∀D' w' β',w'.heap[w.heap.size]? =O (.cells z.cells.toList.toArray t (0,0))->gk D' w' β' ⟨w.heap.size,wd,len,0,ah⟩ b:=by
     rintro d ⟨⟩ f H;exact⟨d.wd,d.len,λ_ _ _ m=>⟨rfl,rfl,_,m,f,λi j J c=>⟨_,H i j J c,rfl⟩,rfl⟩⟩
    split at x
    .rename_i len e _
     split at x
     .rename_i k _
      cases y:((cK 4 len||(lS k .i64&&cK 1 len))&&yG k z.cells.toList&&ap z.cells.toList.length len)<;>rw[y]at x
      .exact o x
      .simp only[bC]at y
       have f:=cN y.2;have v:=Y8 _ y.1.2;apply iA _ x (by simp[aA.len,aA.wd];simpa using f) λi j J c=>?_;simp only[aA.len,aA.wd,qR]at J c|-;rw[v,yy,I Y];simp[aA.vl,eU,yy,J]
     .rename_i L _
      cases y:(cK 4 len&&T6 P L.toList&&yG .i64 z.cells.toList&&ap z.cells.toList.length (len*aT P e))<;>rw[y]at x
      .exact o x
      .simp only[bC]at y
       have f:=cN y.2;have v:=Y8 _ y.1.2;apply iA _ x (by simp[aA.len,aA.wd,qR];exact f) λi j J c=>?_;simp only[aA.len,aA.wd,qR]at J c|-;rw[v,yy,I]
       .simp[aA.vl,eU,yy,J,c]
       rw[f]
       calc i*_+j<(i+1)*_:=by rw[pQ];lia
        _<=len*_:=ox _ J
     .exact o x
    .exact o x
  .exact bad g q
 .exact bad g q
def aJG(t:TypeId)(x:Operand):mc P Γ ⟨dst,.box t x,type,pos,after,guard⟩:=by
 intro E D β S a w n r y p c f h K Q v;have ex:=h.ev x;have g:(execOp a.eval ⟨dst,.box t x,type,pos,after,guard⟩).run P w=.ok (.value<|.pointer<|O ⟨w.heap.size,0,ae⟩) (w.alloc<|.cells (a.eval x).cells.toList.toArray t):=by
  simp[execOp,Instr.box,newVar,newRow]
 simp[step]at y;split at y
 .rename_i d e
  subst y;rw[e]at ex;cases d with
  |ints k xs=>
   simp[F]at ex;apply vA g (h.new (b:=.iA t<|.ints k xs) (f n aj) _ t ⟨w.heap.size,1,xs.length,0,ah⟩ rfl rfl (λG z=>⟨rfl,rfl,_,z,by simp[ex,CO,aA.len,aA.wd],λi j l q=>?_,rfl⟩))
    (by simp[F];exact⟨_,gK _ _ _,rfl,aj⟩) c v
   simp[aA.len,aA.wd,xj]at l q|-;have s:j=0:=Y;subst s;refine⟨.int k<|xs.getD i 0,?_,rfl⟩;simp[ex,CO,pS,eU,kB l]
  |_=>simp[F]at ex
 .cases u:(S.ev x).cellsOf.all SV.one
  .simp only[u,iw]at y;exact bad y p
  .simp only[u,bo]at y
   subst y;let⟨o,m⟩:=F.cells ex u;exact vA g (h.new (b:=.cells t (S.ev x).cellsOf) (f n aj) _ t ⟨w.heap.size,1,0,0,ah⟩ rfl rfl (λG z=>⟨rfl,_,z,Z.mono G _ o,m⟩))
    (by simp[F];exact⟨_,gK _ _ _,rfl,aj⟩) c v
def aJT(t:TypeId)(x:Operand):mc P Γ ⟨dst,.makeInterface t x,type,pos,after,guard⟩:=by
 intro E D β S a w n r y z v j h K Q u;have ex:=h.ev x;simp[step]at y;split at y
 .exact bad y z
 .exact bad y z
 .rename_i i k
  subst y;have b:=under rfl (λe=>k e);apply ju h ?_ (by simp[c_.ret,F];exact⟨_,rfl,ex⟩) rfl rfl v u;have:P.concrete t=ab:=by
   unfold Program.concrete;grind
  simp[execOp,run_makeInterface w t _ this]
def Mh{E:Env}{D:aW}{β:bp}{S:aq}{a:Act}{w:World}(h:St E D β S a w)(l:List Operand):=
 Z.map S.ev a.eval h.ev l
def aJS(f:Fn)(first captured:Array Operand):mc P Γ ⟨dst,.makeFunc f first captured,type,pos,after,guard⟩:=by intro E D β S a w n r z e y k h K Q x;subst z;apply ju h (u:=.func f (first.map a.eval)<|captured.map a.eval) (by simp[execOp,Instr.makeFunc]) ?_ rfl rfl y x;exact⟨first.toList.map a.eval,captured.toList.map a.eval,by rw[<-Yz,<-Yz,CB,CB],Mh h first.toList,Mh h captured.toList⟩
def aJY(x:Operand):mc P Γ ⟨dst,.nilCheck x,type,pos,after,guard⟩:=by
 intro E D β S a w n r y u v j h K Q k;have ex:=h.ev x;simp[step]at y;split at y
 .rename_i e
  rw[e]at ex;subst y;have z:=ex;let⟨L,_,_,i⟩:=ex;exact ju h (by simp[execOp,i]) z rfl rfl v k
 .exact bad y u
def aJM(s:TypeId)(x:Operand)(f:Nat):mc P Γ ⟨dst,.fieldAddr s x f,type,pos,after,guard⟩:=by
 intro E D β S a w n r y b q J h K Q p;have ex:=h.ev x;simp[step]at y;split at y
 .rename_i R B
  split at y
  .rename_i z t
   cases m:ap (aT P z.type) 0
   .rw[m]at y
    simp[iw]at y;have A:=under B aj;have c:aT P z.type≠0:=λe=>by rw[e]at m;cases m
    have k:∀M,(fieldPlace M z).run P w=.ok (M.add z.offset) w:=by
     intro M;unfold aT at c;split at c
     .rename_i i N
      simp[fieldPlace,sizeOf,typeInfo,N,c]
     .exact absurd rfl c
    split at y
    .rename_i l i j e
     rw[e]at ex;subst y;simp[F]at ex;let⟨L,G,I,o⟩:=ex;apply ju h ?_ (by simp[c_.ret,F];exact⟨L,G,I,rfl⟩) rfl rfl q p;simp[execOp,Instr.fieldAt,gz A,t,o,A6,k,wE,I9]
    .rename_i d i j e
     rw[e]at ex;subst y;simp[F]at ex;let⟨g,v,o,C,H⟩:=ex;apply ju h ?_ (by simp[c_.ret,F];exact⟨g,v,rfl,C,H⟩) rfl rfl q p;simp[execOp,Instr.fieldAt,gz A,t,o,A6,k,wE,I9]
    .exact bad y b
   .rw[m]at y;exact bad y b
  .exact bad y b
 .exact bad y b
def aJL(x:Operand)(i:Nat):mc P Γ ⟨dst,.extract x i,type,pos,after,guard⟩:=by
 intro E D β S a w n r y k b m h K Q v;have ex:=h.ev x;simp[step]at y;split at y
 .rename_i g e
  rw[e]at ex;let⟨p,d,j⟩:=ex;split at y
  .rename_i c o
   subst y;let⟨u,f,z⟩:=Z.get g i c j o;exact ju h (by simp[execOp,Instr.extract,d,f]) z rfl rfl b v
  .exact bad y k
 .exact bad y k
def aqJ{t:TypeId}(h:fK P t=ab)(x:lj P t=ah){us:bG}{o:Nat}{v:Value}(y:us[o]? =O v)(w:World):(part t us.toArray o).run P w=.ok v w:=by simp[part,Qz h,x,y]
def aqI{t:TypeId}(h:fK P t=ab)(x:lj P t=ab)(us:bG)(o:Nat)(w:World):(part t us.toArray o).run P w=.ok (.agg ((us.drop o).take<|aT P t).toArray) w:=by have:us.toArray.extract o (o+aT P t)=((us.drop o).take<|aT P t).toArray:=aj;simp[part,Qz h,x,we<|sW h,this]
def aza{xs:N}:∀{cs:bL},ZM cs=O (z,xs)->lC z cs=O xs:=by
 intro cs h;unfold ZM at h;split at h
 .split at h
  .rename_i e x k r y
   cases h;unfold lC;rw[y];have:lS z z=ab:=by cases z<;>rfl
   simp[SV.Nq,this]
  .cases h
 .cases h
def acO{c:SV}{cs:bL}{xs:N}(h:lC z (c::cs)=O xs):∃x y,xs=x::y/\lC z cs=O y:=by unfold lC at h;grind
def acP:∀(cs:bL) {xs:N},lC z cs=O xs->cs.length=xs.length
 | [],xs,h=>by simp[lC,Option.some.injEq]at h;subst h;rfl
 |c::cs,xs,h=>by obtain⟨x,k,rfl,y⟩:=acO h;simp[acP cs y]
def aoO:∀(cs:bL) {xs:N} {o:Nat},lC z cs=O xs->lC z (cs.drop o)=O (xs.drop o)
 |cs,xs,0,h=>h
 | [],xs,o+1,h=>by simp[lC,Option.some.injEq]at h;subst h;rfl
 |c::cs,xs,o+1,h=>by obtain⟨x,k,rfl,y⟩:=acO h;exact aoO cs y
def aoP:∀(cs:bL) {xs:N} {n:Nat},lC z cs=O xs->lC z (cs.take n)=O (xs.take n)
 |cs,xs,0,h=>by simp[lC]
 | [],xs,n+1,h=>by simp[lC,Option.some.injEq]at h;subst h;rfl
 |c::cs,xs,n+1,h=>by
  obtain⟨x,v,rfl,k⟩:=acO h;have u:=aoP cs k (n:=n);unfold lC at h|-;split at h
  .rename_i i a w r y
   rw[k]at y;cases y;rw[aiy];simp[r,u];cases e:lS z i
   .rw[e]at h;cases h
   .rw[e]at h;cases h;rfl
  .cases h
def aLp{xs:N}{o n:Nat}(h:o+n<=xs.length):((fM n).map λj=>SV.v<|.int z<|xs.getD (o+j) 0)=((xs.drop o).take n).map λx=>SV.v (.int z x):=by
 apply List.ext_getElem
 .grind
 .grind
def asq{D:aW}{w:World}{β:bp}{k:IntKind}:∀(xs:N),Z D w β (xs.map λx=>SV.v<|.int k x)<|xs.map<|cg k
 | []=>by simp[Z]
 |x::xs=>by have:=asq (D:=D) (w:=w) (β:=β) (k:=k) xs;simp only[kd,Z,F];exact⟨_,_,rfl,rfl,this⟩
def aJN(t:TypeId)(x i:Operand):mc P Γ ⟨dst,.index t x i,type,pos,after,guard⟩:=by
 intro E D β S a w n r z b G hn h K Q C;have ex:=h.ev x;have c:=h.ev i
 have p:∀{len:Nat} {e:TypeId} {us:Array Value} {k:IntKind} {m:Int} {u:Value},f_ P t=.array len e->a.eval x=.agg us->a.eval i=.int k m->fK P e=ab->0<=m->m<len->(part e us<|m.toNat*aT P e).run P w=.ok u w->
   (execOp a.eval ⟨dst,.index t x i,type,pos,after,guard⟩).run P w=.ok (.value u) w:=by
  intro len e us k m u g ex c y d f hp;simp only[execOp,Instr.index,ex,c,asIntOf,fX,iV,gM,gz<|under g aj,we<|sW y,Jc,hp];rw[I ⟨d,f⟩];simp
 simp only[step]at z;split at z
 .rename_i s k m g A B
  rw[A]at ex;rw[B]at c;simp only[F]at ex c;subst z;have d:0<=m:=b (⟨0<=m,inferInstance⟩) aj;have f:=b (⟨m<s.size,inferInstance⟩) aj;have hu:=under g aj;have l:m.toNat<s.size:=Y;refine ju h (u:=.int .u8 (s.data.toList.getD m.toNat 0).toNat) ?_ (by simp only[F]) rfl rfl G C;have V:=getElem?_pos s m.toNat l;have U:s.data.toList.getD m.toNat 0=s[m.toNat]:=by
   simp only[eU,xl];rw[Jd<|l];rfl
  rw[U];simp[execOp,Instr.index,ex,c,asIntOf,gz hu,d,V]
 .rename_i len e k xs k' m g A B
  rw[A]at ex;rw[B]at c;simp only[F]at ex c;cases y:fK P e&& !lj P e&&ap (aT P e) 1<;>rw[y]at z
  .exact bad z b
  .subst z
   simp only[bC,pR]at y;have d:=b (⟨0<=m,inferInstance⟩) aj;have f:=b (⟨m<len,inferInstance⟩) aj;have R:=b (⟨len=xs.length,inferInstance⟩) aj;have l:m.toNat<xs.length:=Y;exact ju h (p g ex c y.1.1 d f<|aqJ y.1.1 y.1.2 (v:=.int k<|xs.getD m.toNat 0) (by rw[cN y.2];simp[pS,eU,kB l]) w) (by simp only[bo,F]) rfl rfl G C
 .rename_i len e cs k m g A B
  rw[A]at ex;rw[B]at c;simp only[F]at ex c;obtain⟨us,M,N⟩:=ex;split at z
  .rename_i k' xs q
   have L:lC k' cs=O xs:=by
    unfold aj5 at q;grind
   have mm:=T7 cs L N;cases y:fK P e&& !lj P e&&ap (aT P e) 1&&ap len xs.length<;>rw[y]at z
   .exact bad z b
   .subst z
    simp only[bC,pR]at y;have d:=b (⟨0<=m,inferInstance⟩) aj;have f:=b (⟨m<len,inferInstance⟩) aj;have R:=cN y.2;have l:m.toNat<xs.length:=Y;rw[mm]at M;exact ju h (p g M c y.1.1.1 d f<|aqJ y.1.1.1 y.1.1.2 (v:=.int k'<|xs.getD m.toNat 0) (by rw[cN y.1.2];simp[pS,eU,kB l]) w) (by simp only[bo,F]) rfl rfl G C
  split at z
  .rename_i T k' xs q
   have J:lj P e=ab:=by
    cases J:lj P e
    .rw[J]at q;cases q
    .rfl
   rw[J]at q;have L:=aza q;cases y:fK P e&&ap (len*aT P e) cs.length<;>rw[y]at z
   .exact bad z b
   .subst z
    simp only[bC]at y;have d:=b (⟨0<=m,inferInstance⟩) aj;have f:=b (⟨m<len,inferInstance⟩) aj;have X:=cN y.2;have H:m.toNat*aT P e+aT P e<=cs.length:=by
     rw[<-X,<-Nat.succ_mul];exact ox _ Y
    have W:=acP cs L;refine ju (r:=⟨_,.ag<|(fM<|aT P e).map λj=>.v<|.int k'<|xs.getD (m.toNat*aT P e+j) 0,[],[],[]⟩) h (p g M c y.1 d f<|aqI y.1 J us _ w) ?_ rfl rfl G C;simp only[F];refine⟨_,rfl,?_⟩;rw[T7 _ (aoP _ (aoO _ L))<|Z.take _ _<|Z.drop cs _ N,aLp Y];exact asq _
  cases y:fK P e&&lj P e<;>rw[y]at z
  .exact bad z b
  .cases H:mF (m.toNat*aT P e+aT P e) cs.length<;>rw[H]at z<;>subst z
   .exact absurd (b (⟨False,inferInstance⟩)<|by simp[c_.fail]) id
   simp only[bC]at y;have d:=b (⟨0<=m,inferInstance⟩) aj;have f:=b (⟨m<len,inferInstance⟩) aj;exact ju h (p g M c y.1 d f<|aqI y.1 y.2 us _ w) (by simp only[bo,c_.ret,F];exact⟨_,rfl,Z.take _ _<|Z.drop cs _ N⟩) rfl rfl G C
 .exact bad z b
def aJ2(x:Operand)(t z:TypeId)(ok:Bool):mc P Γ ⟨dst,.typeAssert x t z ok,type,pos,after,guard⟩:=by
 intro E D β S a w n r y k d s h K Q j;have ex:=h.ev x;simp[step]at y;split at y
 .exact bad y k
 .exact bad y k
 .have e:= ‹S.ev x=SV.fm _ _›
  have o:= ‹f_ P z=TypeDesc.invalid->False›;have i:= ‹∀m,f_ P z=TypeDesc.interface m->False›;rw[e]at ex;simp[F]at ex;let⟨u,f,b⟩:=ex;have c:=under rfl (λe=>o e);revert y;generalize p:ap _ z=g;intro y;cases g
  .exact bad y k
  .simp only[bo]at y
   have q:=cN p;subst q;subst y;cases ok
   .refine ju h ?_ b rfl rfl d j
    simp only[execOp,f,zV,gz c,fX,gM];cases v:f_ P _<;>first|exact absurd v (i _)|simp
   .refine ju h ?_ (by simp only[c_.ret,bo,F,Z];exact⟨[u,.bool ab],rfl,u,[.bool ab],rfl,b,.bool ab,[],C⟩) rfl rfl d j
    simp only[execOp,f,zV,gz c,fX,gM];cases v:f_ P _<;>first|exact absurd v (i _)|simp
 .exact bad y k
end
section
variable{P:Program}{Γ:ll}
variable{dst:Option Tmp}{type:TypeId}{pos:String}{after:Array Edge}{guard:Option (Nat×Bool)}
def aN7{t e:TypeId}(y:P.underlying t=O (.slice e)){h:Nat}{w:World}(x:(sizeOf e).run P w=.ok h w){g o len cap:Nat}{k:IntKind}{i:Int}(h0:0<=i)(h1:i<len):
  (YX t (.slice (O ⟨g,o,ae⟩) len cap)<|.int k i).run P w=.ok (.pointer<|O ⟨g,o+i.toNat*h,ae⟩) w:=by simp only[YX,asIntOf,fX,iV,gM,gz y,Jc,x,wE];rw[I ⟨h0,h1⟩]
def aN6{t e:TypeId}{len:Nat}(y:P.underlying t=O (.array len e)){h:Nat}{w:World}(x:(sizeOf e).run P w=.ok h w){g o:Nat}{k:IntKind}{i:Int}(h0:0<=i)(h1:i<len):
  (YX t (.pointer<|O ⟨g,o,ae⟩)<|.int k i).run P w=.ok (.pointer<|O ⟨g,o+i.toNat*h,ae⟩) w:=by simp only[YX,asIntOf,fX,iV,gM,gz y,Jc,x,wE,A6];rw[I ⟨h0,h1⟩]
def aJO(t:TypeId)(x i:Operand):mc P Γ ⟨dst,.indexAddr t x i,type,pos,after,guard⟩:=by
 intro E D β S a w n r y z I hn h K Q H;have ex:=h.ev x;have N:=h.ev i;simp[step]at y;split at y
 .rename_i k m Z
  rw[Z]at N;simp[F]at N;unfold HT at y;split at y
  . --an array
    rename_i len e R;cases M:fK P e<;>rw[M]at y
    .exact bad y z
    simp[bo]at y;split at y
    .rename_i l W j B
     rw[B]at ex;simp[F]at ex;let⟨L,s,C,q⟩:=ex;have b:∀{u},0<=m->m<len->u=Value.pointer (O ⟨L.g,W*L.wd+j+m.toNat*aT P e,ae⟩)->(execOp a.eval ⟨dst,.indexAddr t x i,type,pos,after,guard⟩).run P w=.ok (.value u) w:=by
      rintro u f p rfl;simp[execOp,q,N,fX,aN6 (under R aj) (we (sW M) w) f p,gM,iV]
     split at y
     .subst y
      exact ju h (b (z (⟨0<=m,inferInstance⟩) aj) (z (⟨m<len,inferInstance⟩) aj) rfl) (by simp[F];exact⟨L,s,C,by simp[I9]⟩) rfl rfl I H
     .rename_i ty d T
      cases v:(ap W 0&&ap j 0&&ap (aT P e) d.wd)<;>rw[v]at y
      .exact bad y z
      .subst y
       simp only[bC]at v;have X:=cN v.1.1;have j0:=cN v.1.2;have V:=(h.od T s).2.1;exact ju h (b (z (⟨0<=m,inferInstance⟩) aj) (z (⟨m<len,inferInstance⟩) aj) rfl) (by simp[bo,F];exact⟨L,s,C,by simp[X,j0,cN v.2,V]⟩) rfl rfl I H
     .exact bad y z
    .exact bad y z
  . --a slice
    rename_i e R;cases M:fK P e<;>rw[M]at y
    .exact bad y z
    simp[bo]at y;have b:∀{u g o len c},a.eval x=.slice (O ⟨g,o,ae⟩) len c->0<=m->m<len->u=Value.pointer (O ⟨g,o+m.toNat*aT P e,ae⟩)->(execOp a.eval ⟨dst,.indexAddr t x i,type,pos,after,guard⟩).run P w=.ok (.value u) w:=by
     rintro u g o len c q f p rfl;simp[execOp,q,N,fX,aN7 (under R aj) (we (sW M) w) f p,gM,iV]
    split at y
    . --data
      rename_i d B;rw[B]at ex;simp[F,va]at ex;let⟨A,c,q,_,mg⟩:=ex;cases v:ap (aT P e) d.wd<;>rw[v]at y
      .exact bad y z
      .subst y
       have f:=z (⟨0<=m,inferInstance⟩) aj;have p:=z (⟨m<d.len,inferInstance⟩) aj;obtain⟨g,G,rfl,hD,U⟩:=mg Y;exact ju h (b q f p rfl) (by simp only[bo,F];exact⟨g,G,by rw[cN v];rfl,hD,λj' oo=>U m.toNat j' Y oo⟩) rfl rfl I H
    .rename_i l B
     rw[B]at ex;simp[F]at ex;let⟨L,s,q⟩:=ex;split at y
     .rename_i ty d T
      cases v:ap (aT P e) d.wd<;>rw[v]at y
      .exact bad y z
      .subst y
       have f:=z (⟨0<=m,inferInstance⟩) aj;have p:=z (⟨m<d.len,inferInstance⟩) aj;let⟨V,J,hB⟩:=h.od T s;have C:L.nil=ah:=by
        rcases hB with⟨_,f⟩|⟨h2,_⟩
        .omega
        .exact h2
       exact ju h (b (by rw[q];simp only[Loc.val,C,J];rfl) f p rfl) (by simp[bo,F];exact⟨L,s,C,by simp[cN v,V]⟩) rfl rfl I H
     .exact bad y z
    .rename_i l G len cap B
     rw[B]at ex;simp[F]at ex;let⟨L,s,A,c',q,_,lR,_,_⟩:=ex;split at y
     .cases v:ap G 0<;>rw[v]at y
      .exact bad y z
      .subst y
       have f:=z (⟨0<=m,inferInstance⟩) aj;have p:=z (⟨m<len,inferInstance⟩) aj;obtain⟨C,rfl⟩:=lR Y;exact ju h (b q f p rfl) (by simp[bo,F];exact⟨L,s,C,by simp[cN v]⟩) rfl rfl I H
     .exact bad y z
    .exact bad y z
  .exact bad y z
 .exact bad y z
def agn{isS:Bool}{len cap:Nat}{lo hi:Option Value}{a b:Int}{w:World}(h:(match lo with|none=>a=0|some v=>∃k,v=.int k a))(x:(match hi with|none=>b=len|some v=>∃k,v=.int k b))
  (h0:0<=a) (h1:a<=b) (e:b<=cap):(GQ isS len cap lo hi ae).run P w=.ok (a.toNat,b.toNat,cap) w:=by
 have bd:∀k (i:Int) (y:Nat) c,0<=i->i<=y->(YY (.int k i) y c).run P w=.ok i.toNat w:=by
  intro k i y c p q;simp only[YY,asIntOf,fX,iV,gM,Jc];rw[I ⟨p,q⟩]
 cases hi with
 |none=>
  cases lo with
  |none=>
   simp[GQ,h,x]
  |some v=>
   obtain⟨k,rfl⟩:=h;have:=bd k a len (if(ae:Option Value).isSome then .slice3C else .sliceB) h0 Y;simp only[GQ,fX,iV,gM,this];simp[x]
 |some u=>
  obtain⟨j,rfl⟩:=x;have z:=bd j b cap (if isS then .sliceAcap else .sliceAlen) Y e;cases lo with
  |none=>
   simp[GQ,fX,iV,gM,z];simp[h]
  |some v=>
   obtain⟨k,rfl⟩:=h;have r:=bd k a b.toNat (if(ae:Option Value).isSome then .slice3C else .sliceB) h0 Y;simp only[GQ,fX,iV,gM,z,r]
def atI{isS:Bool}{len cap:Nat}{lo:Option Value}{a b c:Int}{kb kc:IntKind}{w:World}(h:(match lo with|none=>a=0|some v=>∃k,v=.int k a))
  (h0:0<=a) (h1:a<=b) (u:b<=c) (e:c<=cap):(GQ isS len cap lo (O<|.int kb b)<|O<|.int kc c).run P w=.ok (a.toNat,b.toNat,c.toNat) w:=by
 have bd:∀k (i:Int) (y:Nat) c,0<=i->i<=y->(YY (.int k i) y c).run P w=.ok i.toNat w:=by
  intro k i y c p q;simp only[YY,asIntOf,fX,iV,gM,Jc];rw[I ⟨p,q⟩]
 have x:=bd kc c cap (if isS then .slice3Acap else .slice3Alen) Y e;have z:=bd kb b c.toNat .slice3B Y Y;cases lo with
 |none=>
  simp[GQ,fX,iV,gM,x,z];simp[h]
 |some v=>
  obtain⟨k,rfl⟩:=h;have r:=bd k a b.toNat (if(O (cg kc c):Option Value).isSome then .slice3C else .sliceB) h0 Y;simp only[GQ,fX,iV,gM,x,z,r]
def an6{E:Env}{D:aW}{β:bp}{S:aq}{a:Act}{w:World}(h:St E D β S a w){o:Option Operand}{d z:Int}(y:xy (o.map S.ev) d=O z)(r:(o.map S.ev).isSome=ab):
  ∃k,o.map a.eval=O (.int k z):=by
 cases o with
 |none=>cases r
 |some x=>
  simp[xm]at y|-;have:=h.ev x;unfold xy at y;split at y
  .grind
  .rename_i e
   simp[Option.some.injEq]at e y;rw[e]at this;exact⟨_,by rw[this,y]⟩
  .cases y
def apQ{E:Env}{D:aW}{β:bp}{S:aq}{a:Act}{w:World}(h:St E D β S a w){o:Option Operand}{k:IntKind}{z:Int}(y:o.map S.ev=O (.v<|.int k z)):
  o.map a.eval=O (.int k z):=by
 cases o with
 |none=>cases y
 |some x=>
  simp[xm,Option.some.injEq]at y|-;have:=h.ev x;rw[y]at this;simpa only[F]using this
def EB{E:Env}{D:aW}{β:bp}{S:aq}{a:Act}{w:World}(h:St E D β S a w){o:Option Operand}{d z:Int}(y:xy (o.map S.ev) d=O z):
  (match o.map a.eval with|none=>z=d|some v=>∃k,v=.int k z):=by
 cases o with
 |none=>simp[YA,xy,Option.some.injEq]at y|-;exact y.symm
 |some x=>
  simp[xm]at y|-;have:=h.ev x;unfold xy at y;split at y
  .grind
  .rename_i e
   simp[Option.some.injEq]at e y;rw[e]at this;exact⟨_,by rw[this,y]⟩
  .cases y
def IS(d:aA){a n:Nat}(h:a+n<=d.len):(d.sub a n).len=n:=by cases d<;>simp[aA.sub,aA.len,mT,nW]at h|- <;>lia
def Mu(d:aA)(a n):(d.sub a n).wd=d.wd:=by cases d<;>rfl
def aCY{α:Type}(l:List α){a n i:Nat}(z:α)(hi:i<n):((l.drop a).take n).getD i z=l.getD (a+i) z:=c9
def XQ(d:aA){a n i j:Nat}{x:Value}(hi:i<n)(h:d.ok (a+i) j x):(d.sub a n).ok i j x:=by cases d<;>simp only[aA.sub,aA.ok,aA.vl,aCY _ _ hi]at h|- <;>exact h
def avl{t:TypeId}{d:aA}(h:XH P t d=ab):∃e,P.underlying t=O (.slice e)/\fK P e=ab/\aT P e=d.wd:=by
 unfold XH at h;split at h
 .rename_i e x
  simp only[bC]at h;exact⟨e,under x aj,h.1,cN h.2⟩
 .cases h
def aj9{t:TypeId}{d:aA}(h:ZR P t d=ab):∃len e,P.underlying t=O (.array len e)/\f_ P t=.array len e/\fK P e=ab/\aT P e=d.wd:=by
 unfold ZR at h;split at h
 .rename_i len e x
  simp only[bC]at h;exact⟨len,e,under x aj,x,h.1,cN h.2⟩
 .cases h
def atJ{t e:TypeId}(i:P.underlying t=O (.slice e)){h:Nat}{w:World}(u:(sizeOf e).run P w=.ok h w){A:Option Addr}{len cap:Nat}{lo hi:Option Value}{a b:Int}
  (r:(match lo with|none=>a=0|some v=>∃k,v=.int k a)) (z:(match hi with|none=>b=len|some v=>∃k,v=.int k b)) (h0:0<=a) (h1:a<=b) (x:b<=cap):
  (M0 t (.slice A len cap) lo hi ae).run P w=.ok (.slice (if cap=a.toNat then A else A.map (·.add<|a.toNat*h)) (b.toNat-a.toNat)<|cap-a.toNat) w:=by have y:=agn (P:=P) (isS:=true) (w:=w) r z h0 h1 x;simp[M0,YZ,gz i,y,u]
def ok_slice(t:TypeId)(x:Operand)(lo hi mx:Option Operand):mc P Γ ⟨dst,.slice t x lo hi mx,type,pos,after,guard⟩:=by
 intro E D β S a w n r f b hd hn h K Q hK;have ex:=h.ev x;have Bt:=ex;simp only[step]at f;generalize hX:S.ev x=X at f ex;unfold Mq at f;split at f
 . --a string
   rename_i s;split at f
   .rename_i p q H I J e4
    subst f;have C:=EB h H;have B:=EB h I;have M:=b (⟨0<=p,inferInstance⟩) aj;have N:=b (⟨p<=q,inferInstance⟩) aj;have Z:=b (⟨q<=s.size,inferInstance⟩) aj;have hu:P.underlying t=O .string:=by
     unfold zd at J;split at J
     .rename_i o;exact under o aj
     .cases J
    have hm:mx=ae:=by cases mx<;>simp_all
    subst hm;simp only[F]at ex;have T:=agn (P:=P) (isS:=false) (len:=s.size) (cap:=s.size) (w:=w) C B M N Z;refine ju h (u:=.string<|s.extract p.toNat q.toNat) ?_ (by simp only[F]) rfl rfl hd hK;simp[execOp,M0,YZ,gz hu,ex,T]
   .exact bad f b
 . --data
   rename_i d;split at f
   .rename_i p q kc z H I J e4
    cases hs:(hi.map S.ev).isSome
    .rw[hs]at f;exact bad f b
    .rw[hs]at f
     simp only[bo]at f;subst f;have C:=EB h H;obtain⟨kb,B⟩:=an6 h I hs;have hmx:=apQ h J;have M:=b (⟨0<=p,inferInstance⟩) aj;have N:=b (⟨p<=q,inferInstance⟩) aj;have Z:=b (⟨q<=d.len,inferInstance⟩) aj;have h3:z=q:=b (⟨z=q,inferInstance⟩) aj;subst h3;simp only[F]at ex;obtain⟨e,o,U,fB⟩:=avl e4;obtain⟨A,c,W,rP,hA⟩:=ex;have tg:=atI (P:=P) (isS:=true) (len:=d.len) (cap:=c) (kb:=kb) (kc:=kc) (w:=w) C M N (jj z) Y;refine ju h (u:=.slice (if z.toNat=p.toNat then A else A.map (·.add<|p.toNat*d.wd)) (z.toNat-p.toNat)<|z.toNat-p.toNat) ?_ ?_ rfl rfl hd hK
     .rw[<-fB]
      simp only[execOp,W,B,hmx,M0,YZ,fX,gz o,tg,we (sW U) w,gM,iV]
     .simp only[F,va]
      rw[IS d Y,Mu];refine⟨⟨_,_,rfl,gL _,λhn=>?_⟩,_,rfl⟩;obtain⟨g,off,hA,hD,kK⟩:=hA Y;subst hA;rw[V Y];refine⟨g,off+p.toNat*d.wd,by simp[wE],hD,λi j hi hj=>?_⟩;obtain⟨x,h3,h4⟩:=kK (p.toNat+i) j Y hj;refine⟨x,?_,XQ d hi h4⟩;rw[<-h3];congr 2;rw[pQ];omega
   .exact bad f b
 . --a row
   rename_i l;split at f
   .rename_i ty d T
    split at f
    .rename_i p q H I J e4
     subst f;have C:=EB h H;have B:=EB h I;have M:0<=p:=b (⟨0<=p,inferInstance⟩) aj;have N:p<=q:=b (⟨p<=q,inferInstance⟩) aj;have Z:q<=d.len:=b (⟨q<=d.len,inferInstance⟩) aj;have hm:mx=ae:=by cases mx<;>simp_all
     subst hm;simp only[F]at ex;obtain⟨L,m,W⟩:=ex;have hB:=h.od T m;obtain⟨hw,hlen,hB⟩:=hB;obtain⟨e,o,U,fB⟩:=avl e4;rcases hB with⟨R,h00⟩|⟨R,rP,Ku,_⟩
     .have p0:p=0:=Y
      have q0:q=0:=Y;subst p0 q0;have KI:a.eval x=.slice ae 0 0:=by rw[W];simp[Loc.val,R]
      refine ju h (u:=.slice ae 0 0) ?_ (by simp only[F];exact⟨L,m,ae,0,rfl,aj,λh=>by simp at h,(λk h=>by cases h),aj⟩) rfl rfl hd hK;have aEc:(match hi.map a.eval with|none=>0=(0:Int)|some v=>∃k,v=.int k 0):=by
       cases hi with
       |none=>simp
       |some y=>simpa using B
      simp only[execOp,KI,YA,fX,atJ o (we (sW U) w) C aEc Y Y<|show 0<=(0)by omega,gM,iV];simp
     .have KI:a.eval x=.slice (O ⟨L.g,0,ae⟩) d.len L.cap:=by rw[W];simp[Loc.val,R,hlen]
      refine ju h (u:=.slice (if L.cap=p.toNat then O ⟨L.g,0,ae⟩else O ⟨L.g,p.toNat*L.wd,ae⟩) (q.toNat-p.toNat)<|L.cap-p.toNat) ?_
       (by simp only[F];exact⟨L,m,_,_,rfl,Y,λai=>⟨R,by rw[V Y]⟩,(λk h=>by cases h),Y⟩) rfl rfl hd hK
      simp only[execOp,KI,YA,fX,atJ o (we (sW U) w) C B M N<|show q<=(L.cap)by omega,gM,iV,fB,hw];simp[wE]
    .exact bad f b
   .exact bad f b
 . --an array
   rename_i l;split at f
   .rename_i len e ty d e0 T
    split at f
    .rename_i p q H I J e4
     subst f;have C:=EB h H;have B:=EB h I;have M:0<=p:=b (⟨0<=p,inferInstance⟩) aj;have N:p<=q:=b (⟨p<=q,inferInstance⟩) aj;have Z:q<=len:=b (⟨q<=len,inferInstance⟩) aj;have h3:len=d.len:=b (⟨len=d.len,inferInstance⟩) aj;have hm:mx=ae:=by cases mx<;>simp_all
     subst hm;simp only[F]at ex;obtain⟨L,m,R,W⟩:=ex;have hB:=h.od T m;have hw:L.wd=d.wd:=hB.2.1;obtain⟨aF5,e',o,Dg,U,fB⟩:=aj9 e4;rw[e0]at Dg;cases Dg;have tg:=agn (P:=P) (isS:=false) (len:=len) (cap:=len) (w:=w) C B M N Z;refine ju h (u:=.slice (O<|if len=p.toNat then⟨L.g,0,ae⟩else⟨L.g,p.toNat*L.wd,ae⟩) (q.toNat-p.toNat)<|len-p.toNat) ?_
      (by simp only[F];exact⟨L,m,_,_,rfl,Y,λai=>⟨R,by rw[V Y]⟩,(λk h=>by cases h;rfl),by have:=hB.2.2;obtain⟨_,_,_,_,h6⟩:=this;omega⟩) rfl rfl hd hK
     simp[execOp,M0,gz o,W,A6,tg,we<|sW U,fB,hw,wE]
    .rename_i p q kc z H I J e4
     cases hs:(hi.map S.ev).isSome
     .rw[hs]at f;exact bad f b
     .rw[hs]at f
      simp only[bo]at f;subst f;have C:=EB h H;obtain⟨kb,B⟩:=an6 h I hs;have hmx:=apQ h J;have M:p=0:=b (⟨p=0,inferInstance⟩) aj;have N:0<=q:=b (⟨0<=q,inferInstance⟩) aj;have Z:q<=z:=b (⟨q<=z,inferInstance⟩) aj;have HS:0<z:=b (⟨0<z,inferInstance⟩) aj;have h3:z<=len:=b (⟨z<=len,inferInstance⟩) aj;have h4:len=d.len:=b (⟨len=d.len,inferInstance⟩) aj;have h5:len<=4294967296:=b (⟨len<=4294967296,inferInstance⟩) aj;subst M;simp only[F]at ex;obtain⟨L,m,R,W⟩:=ex;have hB:=h.od T m;have hw:L.wd=d.wd:=hB.2.1;obtain⟨aF5,e',o,Dg,U,fB⟩:=aj9 e4;rw[e0]at Dg;cases Dg;have tg:=atI (P:=P) (isS:=false) (len:=len) (cap:=len) (kb:=kb) (kc:=kc) (w:=w) C (jj 0) N Z h3;have fF:¬z.toNat=(0:Int).toNat:=Y;have bR:=h.afU (L':=⟨L.g,d.wd,q.toNat,z.toNat,ah⟩) (b':=.row e<|d.sub 0 q.toNat) T m (hn n aj) (World.grownBy.refl w _) (λ_=>.inl ⟨R,rfl⟩) (λ_=>(h.eJ l _ L T m R).1) λG=>by
       obtain⟨_,k2,us,k3,k4,k5,k6⟩:=hB;refine⟨(Mu d _ _).symm,(IS d (a:=0) (n:=q.toNat) Y).symm,.inr ⟨rfl,by rw[IS d Y];show q.toNat<=z.toNat;omega,by simp only[maxLen];show z.toNat<=_;omega,us,ty,(0,0),k3,H9 _,?_,λi j hi hj=>?_⟩⟩
       .rw[Mu,k4]
        exact ox _<|show z.toNat<=d.len by omega
       .rw[IS d Y]at hi
        rw[Mu]at hj|-
        obtain⟨x,jq,kK⟩:=k5 i j (by have:z.toNat<=d.len:=by omega
                                    omega) hj
        exact⟨x,jq,(XQ d hi<|by simpa using kK)⟩
      refine vA (u:=.slice (O ⟨L.g,0,ae⟩) q.toNat z.toNat) ?_ bR (by simp only[F];exact⟨_,gK _ _ _,by simp[Loc.val]⟩) hd hK;simp[execOp,M0,YZ,gz o,W,B,hmx,A6,tg,we<|sW U,fB,hw,wE]
    .exact bad f b
   .exact bad f b
 .exact bad f b
end
section
variable{P:Program}{Γ:ll}
variable{dst:Option Tmp}{type:TypeId}{pos:String}{after:Array Edge}{guard:Option (Nat×Bool)}
def aj0(D:aW)(w:World)(d:aA)(u:Value):Prop:=
 ∃A c,u=.slice A d.len c/\(0<d.len->∃g h,A=O ⟨g,h,ae⟩/\∀i j,i<d.len->j<d.wd->∃x,w.cell? ⟨g,h+(i*d.wd+j),ae⟩=O x/\d.ok i j x)
def avO{E:Env}{D:aW}{β:bp}{S:aq}{a:Act}{w:World}(h:St E D β S a w){x:SV}{u:Value}{d:aA}{T:cf}
  (z:IR S.H x=O (d,T)) (v:F D w β x u):aj0 D w d u:=by
 unfold IR at z;split at z
 .cases z
  simp[F,va]at v;let⟨A,c,N,_,n⟩:=v;exact⟨A,c,N,λr=>let⟨g,e,o,_,b⟩:=n r;⟨g,e,o,b⟩⟩
 .rename_i l
  split at z
  .rename_i X C q
   cases z;simp[F]at v;let⟨L,p,m⟩:=v;have hB:=h.od q p;let⟨J,y,hB⟩:=hB;rcases hB with⟨f,G⟩|⟨f,R,_,Z,U,M,n,_,o,b⟩
   .exact⟨ae,0,by rw[m,G];simp[Loc.val,f],λr=>by lia⟩
   .refine⟨O ⟨L.g,0,ae⟩,L.cap,by rw[m];simp[Loc.val,f,y],λr=>⟨L.g,0,rfl,λi j W s=>?_⟩⟩
    let⟨x,t,B⟩:=b i j W s;exact⟨x,by rw[CZ n,rA];exact t,B⟩
  .cases z
 .rename_i l e len cap
  split at z
  .rename_i X C q
   cases z;let⟨L,p,J,y,hB⟩:=h.hp l _ q;simp[F]at v;let⟨L',I,A,K,m,V,Q,_,k⟩:=v;rw[p]at I;cases I;rw[y]at k;refine⟨A,K,by rw[IS _ k];exact m,λr=>?_⟩;rw[IS _ k]at r|-;rcases hB with⟨f,G⟩|⟨f,R,_,Z,U,M,n,_,o,b⟩
   .omega
   rw[Mu];refine⟨L.g,e*L.wd,(Q r).2,λi j W s=>?_⟩;let⟨x,t,B⟩:=b (e+i) j Y s;refine⟨x,?_,XQ C W B⟩;rw[CZ n,<-t,J];congr 1;rw[pQ];lia
  .cases z
 .cases z
def aJZ{d:aA}{i j:Nat}{x:Value}(h:d.ok i j x):x.oneCell'=ab:=by cases d<;>(simp[aA.ok,aA.vl]at h;subst h;rfl)
theorem avP{D:aW}{w:World}{d:aA}{u:Value}(h:aj0 D w d u):
  ∃A c,∃z:List Value,u=.slice A d.len c/\z.length=d.len*d.wd/\(∀x∈z,x.oneCell'=ab)/\
   (∀i j,i<d.len->j<d.wd->∃x,z[i*d.wd+j]? =O x/\d.ok i j x)/\(A=ae->z= [])/\∀ad,A=O ad->∀j x,z[j]? =O x->w.cell? (ad.add j)=O x:=by
 obtain⟨A,c,n,h⟩:=h;rcases yx d.len with h0|h0
 ·exact⟨A,c,[],n,by simp[h0],aj,fun i j hi _=>by omega,fun _=>rfl,fun ad _ j x r=>by simp at r⟩
 ·obtain⟨g,p,rfl,r⟩:=h h0
  have at_:∀i j,i<d.len->j<d.wd->((fM (d.len*d.wd)).map fun m=>d.vl (m/d.wd) (m%d.wd))[i*d.wd+j]? =O (d.vl i j):=by
   intro i j hi e;have k:i*d.wd+j<d.len*d.wd:=by
    calc i*d.wd+j<(i+1)*d.wd:=by rw[pQ];omega
     _<=d.len*d.wd:=ox _ hi
   have b:(i*d.wd+j)/d.wd=i:=by rw[AY,Nat.mul_add_div Y,Nat.div_eq_of_lt e];rfl
   have f:(i*d.wd+j)%d.wd=j:=by rw[AY,Nat.mul_add_mod,MK e]
   simp[pS,k,b,f]
  refine⟨_,c,(fM (d.len*d.wd)).map fun m=>d.vl (m/d.wd) (m%d.wd),n,aj,?_,fun i j hi e=>⟨_,at_ i j hi e,rfl⟩,nofun,?_⟩
  ·intro x a
   simp only[List.mem_map]at a;obtain⟨m,_,rfl⟩:=a;exact aJZ rfl
  ·rintro ad ⟨⟩ m x e
   have k:=(List.getElem?_eq_some_iff.1 e).1;simp only[qk,YB]at k;have o:0<d.wd:=Nat.pos_of_ne_zero fun h=>by simp[h]at k
   have hi:m/d.wd<d.len:=Nat.div_lt_of_lt_mul (by rw[AY];exact k);obtain⟨y,v,rfl⟩:=r _ _ hi (CC m o);rw[show m/d.wd*d.wd+m%d.wd=m by rw[AY];exact Nat.div_add_mod m d.wd]at v;rw[wE,v];simpa [k]using e
def aj7{d d2 y:aA}{xs g:bG}(h:d.wF d2=O y)(u:xs.length=d.len*d.wd)
  (h1:∀i j,i<d.len->j<d.wd->∃x,xs[i*d.wd+j]? =O x/\d.ok i j x) (c:∀i j,i<d2.len->j<d2.wd->∃x,g[i*d2.wd+j]? =O x/\d2.ok i j x):
  y.len=d.len+d2.len/\y.wd=d.wd/\d2.wd=d.wd/\∀i j,i<y.len->j<y.wd->∃x,(xs++g)[i*y.wd+j]? =O x/\y.ok i j x:=by
 have n:y.len=d.len+d2.len/\y.wd=d.wd/\d2.wd=d.wd/\(∀i j,i<d.len->y.vl i j=d.vl i j)/\∀i j,y.vl (d.len+i) j=d2.vl i j:=by
  unfold aA.wF at h;split at h
  .rename_i k a t b
   cases z:lS k t<;>rw[z]at h<;>cases h;have:=vK z;simp[aA.len,aA.wd,aA.vl];grind
  .rename_i k a t b
   cases z:ap k t<;>rw[z]at h<;>cases h;have:=cN z;simp[aA.len,aA.wd,aA.vl];grind
  .cases h
 let⟨o,f,k3,p,q⟩:=n;refine⟨o,f,k3,λi j l e=>?_⟩;rw[f]at e|-;rw[k3]at c;by_cases r:i<d.len
 .obtain⟨x,v,w⟩:=h1 i j r e
  refine⟨x,?_,w.trans (p i j r).symm⟩;rw[GJ ?_]
  .exact v
  .rw[u]
   calc i*d.wd+j<(i+1)*d.wd:=by rw[pQ];lia
    _<=d.len*d.wd:=ox _ r
 .obtain⟨m,rfl⟩:∃m,i=d.len+m:=⟨i-d.len,Y⟩
  let⟨x,v,w⟩:=c m j Y e;refine⟨x,?_,w.trans (q m j).symm⟩;rw[GI<|by rw[u,pQ];lia,<-v,u];congr 1;rw[pQ];lia
def QA(g o)(t:TypeId)(z:Nat×Nat):∀(k:bG) i (h:Array Value) w,w.heap[g]? =O (.cells h t z)->vO z h.size->o+i+k.length<=h.size->(∀v∈k,v.oneCell'=ab)->
  (storeCells ⟨g,o,ae⟩ k i).run P w=.ok () (w.setRow g (h.toList.take (o+i)++k++h.toList.drop (o+i+k.length)).toArray)
 | [],i,h,w,y,_,_,_=>by
   simp only[storeCells,zK,D_,uS,Ra,CB];rw[setRow_self w g h t z y];rfl
 |v::rest,i,h,w,y,u,r,h1=>by
  have j:o+i<h.size:=by simp at r;lia
  have n:w.cell? ⟨g,o+i,ae⟩=O h[o+i]:=by simp[World.cell?,y,j]
  have a:w.frozen? ⟨g,o+i,ae⟩=ah:=by
   simp only[World.frozen?,y];exact u.at _ j
  have one:(store ((⟨g,o,ae⟩:Addr).add i) v).run P w=.ok () (w.setRow g<|h.setIfInBounds (o+i) v):=by
   rw[wE,run_store P w _ v _<|h1 v aj,n];simp[a,YC w g (o+i) h t z v y]
  have c:=QA g o t z rest (i+1) (h.setIfInBounds (o+i) v) (w.setRow g<|h.setIfInBounds (o+i) v) (zN w g h _ t _ y) (by simpa using u) (by simp at r|-;lia) λx b=>h1 x (by simp[b]);simp only[storeCells,fX,one,gM,c,setRow_setRow];congr 3;have e:=list_seg_step h.toList (o+i) v rest (by simp at r|-;lia);simpa [Array.toList_setIfInBounds,I9]using e
def azn(w:World)(t ty e:TypeId)(i:TypeInfo)(h:Nat)(x:P.underlying t=O (.slice e))(hi:P.info? e=O i)
  (v:Value) (n:Nat) (xs:bG) (z:oD w h v n xs) (c:Nat):(n9 #[t,t] ty #[v,.slice ae 0 c]).run P w=.ok v w:=by
 rcases z.2 with⟨rfl,rfl⟩|⟨g,j,k,u,r,rfl,_,_,y,_⟩
 .simp[n9,gz x,sizeOf,typeInfo,hi,Jt,Ju]
 .simp[n9,gz x,sizeOf,typeInfo,hi,Jt,Ju,y,storeCells]
def azo{w:World}{t ty e:TypeId}{i:TypeInfo}(p:P.underlying t=O (.slice e))(hi:P.info? e=O i){k:TypeId}
  {z:Nat×Nat} (g Gn x) (y:Array Value) (n:w.heap[g]? =O (.cells y k z)) (v:vO z y.size)
  (a:Addr) (m c) (h:bG) (b:h.length=m*i.size) (d:∀j u,h[j]? =O u->w.cell? (a.add j)=O u) (h1:∀u∈h,u.oneCell'=ab)
  (f:Gn+m<=x) (q:Gn*i.size+h.length<=y.size):
  (n9 #[t,t] ty #[.slice (O ⟨g,0,ae⟩) Gn x,.slice (O a) m c]).run P w=
    .ok (.slice (O ⟨g,0,ae⟩) (Gn+m) x) (w.setRow g (y.toList.take (Gn*i.size)++h++y.toList.drop (Gn*i.size+h.length)).toArray):=by have r:=run_firstCells_some (P:=P) w i.size m a m c h b d;have o:=QA (P:=P) g (Gn*i.size) k z h 0 y w n v Y h1;simp[n9,gz p,sizeOf,typeInfo,hi,Jt,f,r,Addr.add_lit,o]
def JP{w:World}{size:Nat}{e:TypeId}{z:Value}{xs h:List Value}{n m:Nat}(c:z.cells.size=size)(b:xs.length=n*size)(a:h.length=m*size)(u:n+m<=maxLen)(x:Nat)(d:x<n+m)(r:Option Nat):
   oD (w.drew.alloc<|.cells (xs.toArray++h.toArray++pf z.cells (grownCap w (n+m) x e- (n+m))) e) size
    (.slice (O ⟨w.heap.size,0,ae⟩) (n+m)<|grownCap w (n+m) x e) (n+m) (xs++h)/\
   w.grownBy (w.drew.alloc<|.cells (xs.toArray++h.toArray++pf z.cells (grownCap w (n+m) x e- (n+m))) e) r:=by
 have y:(xs++h).length=(n+m)*size:=c9;have i:=grownCap_ge w (n+m) x e;have v:=YD w (n+m) x e u;refine⟨⟨y,.inr ⟨w.heap.size,_,_,e,(0,0),rfl,D4 w.drew _,H9 _,i,v,?_,?_⟩⟩,rfl,rfl,rfl,aj,λk j _=>nY w.drew _ k j⟩
 .simp only[aiA,zO,size_zeroCells,c,b,a,<-pQ]
  grind
 .grind
def aj8{w:World}{t ty e:TypeId}{i:TypeInfo}{z:Value}{size:Nat}(p:P.underlying t=O (.slice e))(hi:P.info? e=O i)(J:i.zero=O z)
  (V:i.size=size) (K:z.cells.size=size) (X:0<size) {v:Value} {n:Nat} {xs:bG} (a:oD w size v n xs)
  {A:Option Addr} {m c:Nat} {y:bG} (r:y.length=m*size) (h1:∀x∈y,x.oneCell'=ab) (U:A=ae->y= [])
  (N:∀ad,A=O ad->∀j x,y[j]? =O x->w.cell? (ad.add j)=O x) (l:n+m<=maxLen) (G:(n+m)*i.bytes<=140737488355328):
  ∃q w',(n9 #[t,t] ty #[v,.slice A m c]).run P w=.ok q w'/\oD w' size q (n+m) (xs++y)/\w.grownBy w' v.ownBlock/\(q.ownBlock=v.ownBlock\/q.ownBlock=O w.heap.size):=by
 subst V;rcases A with _|ad
 .have C:=U rfl
  subst C;have B:m=0:=by
   simp only[D_]at r;rcases yx m with h|h
   .exact h
   .have:=Nat.mul_pos h X;omega
  subst B;exact⟨v,w,azn w t ty e i i.size p hi v n xs a c,by simpa using a,World.grownBy.refl w _,.inl rfl⟩
 .have W:n+m<=9223372036854775807:=by simp only[maxLen]at l;omega
  have b:(xs++y).length=(n+m)*i.size:=by rw[gn,a.1,r,pQ]
  have D:=N ad rfl;rcases a.2 with⟨rfl,rfl⟩|⟨g,cap,s,L,F,rfl,I,H,Di,Q,R,Z⟩
  .have hx:=r9<|by simpa using a.1
   subst hx;by_cases B:m=0
   .subst B
    have C:=r9 (by simpa using r);subst C;refine⟨.slice ae 0 0,w,?_,oD.nil w i.size,World.grownBy.refl w _,.inl rfl⟩;simp[n9,gz p,sizeOf,typeInfo,hi,Jt,Ju,loadCells,loadCellsFrom]
   .have o:=run_append_nil w t ty e i z p hi J ad m c y r D Y Y<|by have M:=G;simp only[rA]at M;omega
    have f:=JP (w:=w) (e:=e) K a.1 r l 0 Y<|ni<|.slice ae 0 0;simp only[rA,rB,aiB]at f|-;exact⟨_,_,o,f.1,f.2,.inr rfl⟩
  .by_cases E:n+m<=cap
   .have S:n*i.size+y.length<=s.size:=by
     rw[r,<-pQ];exact sY (ox _ E) R
    have o:=azo (ty:=ty) p hi g n cap s I H ad m c y r D h1 E S;refine⟨_,_,o,⟨b,.inr ⟨g,cap,_,L,F,rfl,zN w g s _ L _ I,?_,E,Q,?_,?_⟩⟩,⟨rfl,rfl,rfl,aj,λk _ T=>D7 w g k _ λe=>T<|by simp[ni,e]⟩,.inl rfl⟩
    .refine Eq.mp (dR (vO F) ?_) H
     simp only[zO,gn,mT,nW,uT];omega
    .simp only[zO,gn,mT,nW,uT]
     omega
    .rw[Z,<-b]
     exact Je
   .have d:=a.cells rfl
    have o:=run_append_grow w t ty e i z p hi J ⟨g,0,ae⟩ n cap xs a.1 d ad m c y r D Y Y<|Jf Y G;have f:=JP (w:=w) (e:=e) K a.1 r l cap Y<|ni<|.slice (O ⟨g,0,ae⟩) n cap;exact⟨_,_,o,f.1,f.2,.inr rfl⟩
def azp{w:World}{t u ty e:TypeId}{i:TypeInfo}(f:P.underlying t=O (.slice e))(o:P.underlying u=O .string)(hi:P.info? e=O i)(J:i.zero=O (.int .u8 0))
  (A:i.size=1) (E:i.bytes=1) {v:Value} {n:Nat} {xs:bG} (a:oD w 1 v n xs) {s:M} (l:n+s.size<=maxLen) (W:n+s.size<=140737488355328):
  ∃p w',(n9 #[t,u] ty #[v,.string s]).run P w=.ok p w'/\oD w' 1 p (n+s.size) (xs++rH s)/\w.grownBy w' v.ownBlock/\(p.ownBlock=v.ownBlock\/p.ownBlock=O w.heap.size):=by
 have S:n+s.size<=9223372036854775807:=by simp only[maxLen]at l;omega
 have C:xs.length=n:=by simpa using a.1
 have B:(rH s).length=s.size*1:=by rw[AZ,xj]
 have h:(xs++rH s).length=(n+s.size)*1:=by rw[gn,C,B];omega
 have K:(cg CM 0).cells.size=1:=rfl;rcases a.2 with⟨rfl,rfl⟩|⟨g,cap,r,D,q,rfl,G,F,Z,N,X,U⟩
 .have V:=r9 C
  subst V;by_cases d:s.size=0
  .have R:=r9<|by rw[AZ];exact d
   refine⟨.slice ae 0 0,w,?_,by rw[d,R];exact oD.nil w 1,World.grownBy.refl w _,.inl rfl⟩;have c:=axI (P:=P) w 1 s;rw[d]at c;simp[n9,gz f,gz o,sizeOf,typeInfo,hi,A,Jt,d,c]
  .have z:=run_append_nil_string (P:=P) w t u ty e i (.int .u8 0) f o hi J s Y Y<|by rw[E];omega
   have y:=JP (w:=w) (e:=e) (n:=0) (m:=s.size) K a.1 B l 0 Y<|ni<|.slice ae 0 0;simp only[rA,rB,aiB]at y|-;have L:(s.data.map λb=>cg .u8 b.toNat)=(rH s).toArray:=by
    apply Array.ext';simp[rH]
   rw[L]at z;exact⟨_,_,z,y.1,y.2,.inr rfl⟩
 .by_cases H:n+s.size<=cap
  .have I:=QA (P:=P) g n D q (rH s) 0 r w G F (by rw[AZ];omega)<|Lib.strCells_oneCell s
   have c:=axI (P:=P) w 1 s;simp only[uS,AZ]at I;have z:(n9 #[t,u] ty #[.slice (O ⟨g,0,ae⟩) n cap,.string s]).run P w=.ok (.slice (O ⟨g,0,ae⟩) (n+s.size) cap) (w.setRow g (r.toList.take n++rH s++r.toList.drop (n+s.size)).toArray):=by
    simp[n9,gz f,gz o,sizeOf,typeInfo,hi,A,Jt,H,c,Addr.add_lit,I]
   refine⟨_,_,z,⟨h,.inr ⟨g,cap,_,D,q,rfl,zN w g r _ D _ G,?_,H,N,?_,?_⟩⟩,⟨rfl,rfl,rfl,aj,λk _ Q=>D7 w g k _ λe=>Q<|by simp[ni,e]⟩,.inl rfl⟩
   .refine Eq.mp (dR (vO q) ?_) F
    simp only[zO,gn,mT,nW,uT,AZ];omega
   .simp only[zO,gn,mT,nW,uT,AZ]
    omega
   .have T:r.toList.take n=xs:=by simpa using U
    rw[T,<-h];exact Je
  .have x:=a.cells (g:=g) rfl
   have z:=Lib.run_append_grow_string (P:=P) w t u ty e i (.int .u8 0) f o hi J ⟨g,0,ae⟩ n cap xs (by rw[A];simpa using C) x s Y Y (by rw[E];exact Jf Y Y);have y:=JP (w:=w) (e:=e) (m:=s.size) K a.1 B l cap Y<|ni<|.slice (O ⟨g,0,ae⟩) n cap;exact⟨_,_,z,y.1,y.2,.inr rfl⟩
structure Full (w:World) (size:Nat) (v:Value) (n:Nat) (xs:List Value):Prop where
 len:xs.length=n*size
 sl:∃A,v=.slice A n n/\(0<n->∃ad,A=O ad/\∀j x,xs[j]? =O x->w.cell? (ad.add j)=O x)
def azm{w:World}{t ty e:TypeId}{i:TypeInfo}{z:Value}{size:Nat}(s:P.underlying t=O (.slice e))(hi:P.info? e=O i)(F:i.zero=O z)
  (M:i.size=size) (R:z.cells.size=size) (Q:0<size) {v:Value} {n:Nat} {xs:bG} (r:Full w size v n xs)
  {A:Option Addr} {m c:Nat} {y:bG} (b:y.length=m*size) (h1:∀x∈y,x.oneCell'=ab) (L:A=ae->y= [])
  (I:∀ad,A=O ad->∀j x,y[j]? =O x->w.cell? (ad.add j)=O x) (l:n+m<=maxLen) (C:(n+m)*i.bytes<=140737488355328):
  ∃f w',(n9 #[t,t] ty #[v,.slice A m c]).run P w=.ok f w'/\((m=0/\f=v/\w'=w)\/(0<m/\oD w' size f (n+m) (xs++y)/\w.grownBy w' ae/\f.ownBlock=O w.heap.size)):=by
 subst M;have N:n+m<=9223372036854775807:=by simp only[maxLen]at l;omega
 obtain⟨B,rfl,hB⟩:=r.sl;by_cases J:m=0
 .subst J
  have p:y= []:=r9 (by simpa using b);subst p;refine⟨_,w,?_,.inl ⟨rfl,rfl,rfl⟩⟩;rcases A with _|ad<;>rcases B with _|bd<;>simp[n9,gz s,sizeOf,typeInfo,hi,Jt,Ju,loadCells,loadCellsFrom,storeCells]
 .have o:0<m:=Y
  obtain⟨ad,rfl⟩:∃ad,A=O ad:=by
   rcases A with _|ad
   .have p:=L rfl
    subst p;simp only[D_]at b;have:=Nat.mul_pos o Q;omega
   .exact⟨ad,rfl⟩
  have E:=I ad rfl;have a:=JP (w:=w) (e:=e) R r.len b l n Y ae;rcases B with _|bd
  .have K:n=0:=by
    rcases yx n with h|h
    .exact h
    .obtain⟨bd,g,_⟩:=hB h;cases g
   subst K;have d:xs= []:=r9 (by simpa using r.len);subst d;have q:=run_append_nil (P:=P) w t ty e i z s hi F ad m c y b E Y Y (by have H:=C;simp only[rA]at H;omega);simp only[rA,rB,aiB]at a|-;exact⟨_,_,q,.inr ⟨o,a.1,a.2,rfl⟩⟩
  ·have k:∀j u,xs[j]? =O u->w.cell? (bd.add j)=O u:=by
    intro j u D;rcases yx n with h|h
    ·subst h
     have d:xs= []:=r9 (by simpa using r.len);subst d;simp at D
    ·obtain⟨G,g,d⟩:=hB h
     cases g;exact d j u D
   have q:=run_append_grow (P:=P) w t ty e i z s hi F bd n n xs r.len k ad m c y b E Y Y (Jf Y C);exact⟨_,_,q,.inr ⟨o,a.1,a.2,rfl⟩⟩
end
section
variable{P:Program}{Γ:ll}
variable{dst:Option Tmp}{type:TypeId}{pos:String}{after:Array Edge}{guard:Option (Nat×Bool)}
def St.born{E:Env}{D:aW}{β:bp}{S:aq}{a:Act}{w:World}(h:St E D β S a w){n:Nat}{b':bm}{L':Loc}{w':World}(J:S.U n=ah)
  (j:w.grownBy w' ae) (s:L'.nil=ah->L'.g=w.heap.size) (f:L'.nil=ah->L'.g<w'.heap.size)
  (K:jx D w β D w' (jD β n<|O L')->gk D w' (jD β n<|O L') L' b'):
  St E D (jD β n<|O L') {S with H:=cc S.H [(n,O b')],U:=cc S.U [(n,ab)]} a w':=by
 have L:=h.ib n J;have qB:=λg f=>j.block g f aj;have G:jx D w β D w' (jD β n<|O L'):=⟨λ_ h=>h,λg q=>qB g<|h.eZ g q,λx u r=>by
  by_cases e:x=n
  .grind
  .rw[gy _ _ e];exact r⟩
 have hB:=K G;have k:∀x y,cc S.H [(n,O b')] x=O y->(x=n/\y=b')\/(x≠n/\S.H x=O y):=by
  intro x y z;simp[cc]at z;by_cases e:x=n
  .subst e;rw[gK]at z;cases z;exact .inl ⟨rfl,rfl⟩
  .rw[gy _ _ e]at z;exact .inr ⟨e,z⟩
 refine h.change G rfl rfl ?_ ?_ ?_ (λg t=>ng (h.eZ g t) j.size) (λg t=>.inl t) ?_ j.os j.tape j.output j.size (λg f _=>qB g<|ng f h.grow) (QT S.U [n]) (aia J _)
 .intro x y z
  rcases k x y z with⟨rfl,rfl⟩|⟨b,z⟩
  .exact⟨L',gK _ _ _,hB⟩
  .obtain⟨u,r,p⟩:=h.hp x y z
   exact⟨u,by rw[gy _ _ b];exact r,p.mono G y λm=>qB _ (h.eJ x y u z r m).1⟩
 .intro x y u z r m
  rcases k x y z with⟨rfl,rfl⟩|⟨b,z⟩
  .rw[gK]at r
   cases r;have l:=s m;exact⟨f m,λq=>by have:=h.eZ _ q;lia,.inl<|by rw[l];exact h.grow⟩
  .rw[gy _ _ b]at r
   let⟨v,i,k3⟩:=h.eJ x y u z r m;exact⟨ng v j.size,i,k3⟩
 .intro l1 l2 y o u C r p v i A B l
  rcases k l1 y r with⟨rfl,rfl⟩|⟨b,F⟩<;>rcases k l2 o p with⟨c,e4⟩|⟨c,I⟩
  .exact c.symm
  .rw[gK]at v;cases v
   rw[gy _ _ c]at i;have:=(h.eJ l2 o C I i B).1;have:=s A;lia
  .subst c;rw[gK]at i;cases i
   rw[gy _ _ b]at v;have:=(h.eJ l1 y u F v A).1;have:=s B;lia
  .rw[gy _ _ b]at v
   rw[gy _ _ c]at i;exact h.inj l1 l2 y o u C F I v i A B l
 .intro x d
  simp[cc]at d;by_cases e:x=n
  .subst e;rw[gK]at d;cases d
  .rw[gy _ _ e]at d|-;exact h.ib x d
def aji{l:bG}{n j:Nat}(h:(yG z l&&ap l.length n)=ab)(x:j<n):l[j]? =O (.int z 0)/\l.length=n:=by simp only[bC]at h;have y:=cN h.2;rw[Y8 l h.1,yy];grind
def ayc{e:TypeId}{n:Nat}{d:aA}(h:Y7 P e n=O d):∃z,r7 P e=O z/\z.cells.size=d.wd/\d.len=n/\
  ∀(i j),i<n->j<d.wd->∃x,z.cells[j]? =O x/\d.ok i j x:=by
 unfold Y7 at h;split at h
 .rename_i k z _ u
  cases y:(yG k z.cells.toList&&ap z.cells.toList.length 1)<;>rw[y]at h<;>cases h;refine⟨z,u,by simpa [aA.wd]using(aji y (j:=0) Y).2,by simp[aA.len],λi j a r=>⟨.int k 0,?_,by simp[aA.ok,aA.vl,eU,yy,a]⟩⟩;rw[<-xl];exact(aji y r).1
 .rename_i b _ u
  cases b<;>cases h;refine⟨.bool ah,u,rfl,by simp[aA.len],λi j a r=>⟨.bool ah,?_,by simp[aA.ok,aA.vl,eU,yy,a]⟩⟩;simp[aA.wd]at r;have:j=0:=Y;subst this;rfl
 .rename_i f c _ u
  cases y:(yG .i64 c.toList&&ap c.toList.length (aT P e))<;>rw[y]at h<;>cases h;have v:=cN (Bool.and_eq_true_iff.1 y).2;refine⟨.agg c,u,by simpa [aA.wd,CO]using v,by simp[aA.len],λi j a r=>⟨.int .i64 0,?_,by simp[aA.ok,aA.vl,eU,yy,a,show j<aT P e from r]⟩⟩;rw[<-xl];exact(aji y r).1
 .cases h
def ayb(z:Array Value)(n m)(y:m<n*z.size):(pf z n)[m]? =z[m%z.size]? :=by have h:0<z.size:=c9;have x:=CC m h;simp[pf,YE];grind
def azq{w:World}{t B ty e:TypeId}{i:TypeInfo}{z:Value}{T kq:IntKind}(l:P.underlying t=O (.slice e))(A:P.underlying B=O (.int T))(hi:P.info? e=O i)(Q:i.zero=O z)
  (R:z.cells.size=i.size) (fB:0<i.size) (Dp:∀x∈z.cells.toList,x.oneCell'=ab) {v:Value} {n:Nat} {xs:bG} (a:oD w i.size v n xs)
  {m:Nat} (U:n+m<=maxLen) (hm:m<=4294967296) (W:(n+m)*i.bytes<=140737488355328):
  ∃F w',(n9 #[t,B] ty #[v,.int kq m]).run P w=.ok F w'/\oD w' i.size F (n+m) (xs++(pf z.cells m).toList)/\w.grownBy w' v.ownBlock/\
   (F.ownBlock=v.ownBlock\/F.ownBlock=O w.heap.size):=by
 have acv:n+m<=9223372036854775807:=by simp only[maxLen]at U;omega
 have r:(pf z.cells m).toList.length=m*i.size:=by simp[pf,R]
 have y:(xs++(pf z.cells m).toList).length=(n+m)*i.size:=by rw[gn,a.1,r,pQ]
 have hw:IntKind.i64.wrap m=m:=by rw[Rf];omega
 have M:¬((m:Int)<0):=Y;have o:¬(281474976710656<m*(i.bytes:Int)):=by
  have:m*i.bytes<=(n+m)*i.bytes:=ox _ Y;rw[<-Int.natCast_mul];omega
 have one:∀x∈(pf z.cells m).toList,x.oneCell'=ab:=by
  intro x N;obtain⟨j,K,rfl⟩:=List.mem_iff_getElem.1 N;have oo:j<m*z.cells.size:=by rw[r,<-R]at K;exact K
  have p:=ayb z.cells m j oo;rw[<-xl,kB K]at p;refine Dp _ ?_;rw[Array.mem_toList_iff];exact Array.mem_of_getElem? p.symm
 have grown:∀f,f<n+m->∀d,
   oD (w.drew.alloc<|.cells (xs.toArray++pf z.cells m++pf z.cells (grownCap w (n+m) f e- (n+m))) e) i.size
    (.slice (O ⟨w.heap.size,0,ae⟩) (n+m)<|grownCap w (n+m) f e) (n+m) (xs++(pf z.cells m).toList)/\
   w.grownBy (w.drew.alloc<|.cells (xs.toArray++pf z.cells m++pf z.cells (grownCap w (n+m) f e- (n+m))) e) d:=by
  intro f ho d;have:=JP (w:=w) (e:=e) R a.1 r U f ho d;simpa using this
 rcases yx m with TG|Z
 .subst TG
  refine⟨v,w,?_,by simpa [pf]using a,World.grownBy.refl w _,.inl rfl⟩;have O5:IntKind.i64.wrap 0=0:=by rw[Rf];rfl
  rcases a.2 with⟨rfl,rfl⟩|⟨g,cap,h,E,C,rfl,_,_,Di,_⟩
  .simp[n9,gz l,gz A,sizeOf,typeInfo,hi,asInt,asIntOf,O5]
  .simp[n9,gz l,gz A,sizeOf,typeInfo,hi,asInt,asIntOf,O5,Di,storeCells]
 rcases a.2 with⟨rfl,rfl⟩|⟨g,cap,h,E,C,rfl,p,X,Di,ti,jf,Ap⟩
 .have N:xs= []:=r9<|by simpa using a.1
  subst N;have s:=axJ (P:=P) w t B ty e i z kq T l A hi Q ae 0 0 [] (by simp[Ju]) m Z fB Y Y
   (by have:m*i.bytes<=(0+m)*i.bytes:=ox _ Y;omega)<|Jf Y W
  have q:=grown 0 Y<|ni<|.slice ae 0 0;exact⟨_,_,s,q.1,q.2,Or.inr rfl⟩
 .by_cases D:n+m<=cap
  .have H:n*i.size+(pf z.cells m).toList.length<=h.size:=by rw[r,<-pQ];exact sY (ox _ D) jf
   have bR:=QA (P:=P) g (n*i.size) E C (pf z.cells m).toList 0 h w p X (by simpa using H) one;have L:¬(m*i.size=0):=Nat.mul_ne_zero Y Y
   have s:(n9 #[t,B] ty #[.slice (O ⟨g,0,ae⟩) n cap,.int kq m]).run P w=.ok (.slice (O ⟨g,0,ae⟩) (n+m) cap)
     (w.setRow g (h.toList.take (n*i.size+0)++(pf z.cells m).toList++h.toList.drop (n*i.size+0+(pf z.cells m).toList.length)).toArray):=by
    have S:(zeroValue e).run P w=.ok z w:=by simp[zeroValue,typeInfo,hi,Q]
    simp only[n9,Jg,CI,A4,fX,iV,gM,gz l,gz A,sizeOf,typeInfo,run_program,hi,asInt,asIntOf,hw,if_true,
     Jc,V M,o,xi,yz,V L,S,I D,YF,rz,wE,rA]
    simp[bR,o,D]
   refine⟨_,_,s,⟨y,.inr ⟨g,cap,_,E,C,rfl,zN w g h _ E _ p,?_,D,ti,?_,?_⟩⟩,⟨rfl,rfl,rfl,aj,λk _ hk=>D7 w g k _ λe=>hk<|by simp[ni,e]⟩,Or.inl rfl⟩
   .have J:n*i.size+m*i.size<=h.size:=by rw[<-r];exact H
    refine Eq.mp (dR (vO C) ?_) X;simp only[zO,gn,mT,nW,uT];have b:(pf z.cells m).size=m*i.size:=by rw[<-uT];exact r
    rw[b];omega
   .have J:n*i.size+m*i.size<=h.size:=by rw[<-r];exact H
    simp only[zO,gn,mT,nW,uT];have b:(pf z.cells m).size=m*i.size:=by rw[<-uT];exact r
    rw[b];omega
   .simp only[uS]
    rw[Ap,<-y];exact Je
  .have c:∀j u,xs[j]? =O u->w.drew.cell? ((⟨g,0,ae⟩:Addr).add j)=O u:=a.cells (g:=g) rfl
   have G:(Ju i.size n<|.slice (O ⟨g,0,ae⟩) n cap).run P w.drew=.ok xs.toArray w.drew:=by
    have:=run_loadCells_list (P:=P) w.drew ⟨g,0,ae⟩ xs c;rw[a.1]at this;simpa [Ju]using this
   have s:=axJ (P:=P) w t B ty e i z kq T l A hi Q (O ⟨g,0,ae⟩) n cap xs G m Z fB Y Y
    (by have:m*i.bytes<=(n+m)*i.bytes:=ox _ Y;omega)<|Jf Y W
   have q:=grown cap Y<|ni<|.slice (O ⟨g,0,ae⟩) n cap;exact⟨_,_,s,q.1,q.2,Or.inr rfl⟩
end
section
variable{P:Program}{Γ:ll}
variable{dst:Option Tmp}{type:TypeId}{pos:String}{after:Array Edge}{guard:Option (Nat×Bool)}
structure tZ (D:Nat->Prop) (β:Nat->Option Loc) (w:World) (hp:List (Nat×bm)) (ret:SV) (hp':List (Nat×bm)) (v:Value) (D':Nat->Prop) (β':Nat->Option Loc) (w':World):Prop where
 vB:jx D w β D' w' β'
 ret:F D' w' β' ret v
 vI:xr D' w' β' hp'
 d:∀g,D' g->(D g\/w.heap.size<=g\/nJ β hp g)/\g<w'.heap.size
 ib:∀l L,β' l=O L->β l=O L\/l∈hp'.map (·.1)
 own:∀l b L,(l,b)∈hp'->β' l=O L->L.nil=ah->w.heap.size<=L.g\/nJ β hp L.g
 os:w'.os=w.os
 tape:w'.tape=w.tape
 output:w'.output=w.output
 size:w.heap.size<=w'.heap.size
 block:∀g,g<w.heap.size->¬nJ β hp g->w'.heap[g]? =w.heap[g]?
def Sat(P:Program)(f:FuncId)(args:bL)(hp:bN)(ret:SV)(hp':bN):Prop:=
 ∀D β w (h:bG),Z D w β args h->xr D w β hp->A9 D w->(∀l,β l≠ae->l∈hp.map (·.1))->
  Calls P f h.toArray w λe w'=>∃v D' β',e=.returned v/\tZ D β w hp ret hp' v D' β' w'
def dK(H:h_)(uses:cf):bN:=uses.filterMap λl=>(H l).map λb=>(l,b)
def Sound(P:Program)(f:FuncId)(c:u9):Prop:=
 uc P f=ab/\∀h H n,(∀p∈(c.fn h H n).pre,p.p)->Sat P f h (dK H (c.fn h H n).uses) (c.fn h H n).ret (c.fn h H n).hp
def xK{l:cf}{k:Nat}:mX l k=ab↔k∈l:=by unfold mX;simp_all
def tq{l r:cf}:nc l r=ab↔∀k∈r,k∈l:=by unfold nc;rw[List.all_eq_true];exact⟨λh k x=>xK.1<|h k x,λh k x=>xK.2<|h k x⟩
def adr{l r:cf}:H6 l r=ah↔∀k∈l,k∉r:=by unfold H6;rw[aiC];exact⟨λh k x y=>h k x<|xK.2 y,λh k x y=>h k x<|xK.1 y⟩
def nj(β:bp)(l:cf):bp:=λk=>if k∈l then β k else ae
section
variable{D D2:aW}{w w2:World}{β:bp}{l:cf}
mutual
theorem F.cut:∀(x:SV) {u:Value},(∀k∈ids x,k∈l)->F D w β x u->F D w (nj β l) x u
 |.v _,_,_,h=>by simpa [F]using h
 |.bl _,_,_,h=>by simpa [F]using h
 |.p k i j,_,hi,h=>by
  simp only[F]at h|-;obtain⟨L,z,e,b⟩:=h;exact⟨L,by rw[nj,I (hi k (by simp[ids]))];exact z,e,b⟩
 |.o k,_,hi,h=>by
  simp only[F]at h|-;obtain⟨L,z,e⟩:=h;exact⟨L,by rw[nj,I (hi k (by simp[ids]))];exact z,e⟩
 |.s k off n c,_,hi,h=>by
  simp only[F]at h|-;obtain⟨L,z,e⟩:=h;exact⟨L,by rw[nj,I (hi k (by simp[ids]))];exact z,e⟩
 |.bZ d,_,_,h=>by simpa [F]using h
 |.dc d,_,_,h=>by simp only[F]at h|-;exact h
 |.m k,_,hi,h=>by
  simp only[F]at h|-;obtain⟨L,z,e⟩:=h;exact⟨L,by rw[nj,I (hi k (by simp[ids]))];exact z,e⟩
 |.dp d i j,_,_,h=>by simpa [F]using h
 |.av d,_,_,h=>by cases d<;>first|exact h|(simp only[F]at h)
 |.fn f a c,_,hi,h=>by
  simp only[F]at h|-;obtain⟨us,g,z,e,b⟩:=h;exact⟨us,g,z,Z.cut a (fun k r=>hi k (by simp[ids,r])) e,Z.cut c (fun k r=>hi k (by simp[ids,r])) b⟩
 |.ag cs,_,hi,h=>by
  simp only[F]at h|-;obtain⟨us,z,e⟩:=h;exact⟨us,z,Z.cut cs (fun k r=>hi k (by simpa [ids]using r)) e⟩
 |.tu cs,_,hi,h=>by
  simp only[F]at h|-;obtain⟨us,z,e⟩:=h;exact⟨us,z,Z.cut cs (fun k r=>hi k (by simpa [ids]using r)) e⟩
 |.fm t x,_,hi,h=>by
  simp only[F]at h|-;obtain⟨y,z,e⟩:=h;exact⟨y,z,F.cut x (fun k r=>hi k (by simpa [ids]using r)) e⟩
 |.any,_,_,_=>by simp only[F]
theorem Z.cut:∀(cs:bL) {us:bG},(∀k∈kp cs,k∈l)->Z D w β cs us->Z D w (nj β l) cs us
 | [],_,_,h=>by simpa [Z]using h
 |c::cs,_,hi,h=>by
  simp only[Z]at h|-;obtain⟨x,xs,z,e,r⟩:=h;exact⟨x,xs,z,F.cut c (fun k y=>hi k (by simp[kp,y])) e,Z.cut cs (fun k y=>hi k (by simp[kp,y])) r⟩
end
mutual
theorem F.free:∀(x:SV) {u:Value},ug x=ab->F D w β x u->F D2 w2 β x u
 |.v _,_,_,h=>by simpa [F]using h
 |.bl _,_,_,h=>by simpa [F]using h
 |.p k i j,_,hi,h=>by simpa [F]using h
 |.o k,_,hi,h=>by simpa [F]using h
 |.s k off n c,_,hi,h=>by simpa [F]using h
 |.bZ d,_,hi,h=>by simp[ug]at hi
 |.dc d,_,hi,h=>by simp[ug]at hi
 |.m k,_,hi,h=>by simp only[F]at h|-;exact h
 |.dp d i j,_,hi,h=>by simp[ug]at hi
 |.av d,_,_,h=>by cases d<;>first|exact h|(simp only[F]at h)
 |.fn f a c,_,hi,h=>by
  simp only[F]at h|-;simp only[ug,bC]at hi;obtain⟨us,b,z,e,r⟩:=h;exact⟨us,b,z,Z.free a hi.1 e,Z.free c hi.2 r⟩
 |.ag cs,_,hi,h=>by
  simp only[F]at h|-;obtain⟨us,z,e⟩:=h;exact⟨us,z,Z.free cs (by simpa [ug]using hi) e⟩
 |.tu cs,_,hi,h=>by
  simp only[F]at h|-;obtain⟨us,z,e⟩:=h;exact⟨us,z,Z.free cs (by simpa [ug]using hi) e⟩
 |.fm t x,_,hi,h=>by
  simp only[F]at h|-;obtain⟨y,z,e⟩:=h;exact⟨y,z,F.free x (by simpa [ug]using hi) e⟩
 |.any,_,_,_=>by simp only[F]
theorem Z.free:∀(cs:bL) {us:bG},C4 cs=ab->Z D w β cs us->Z D2 w2 β cs us
 | [],_,_,h=>by simpa [Z]using h
 |c::cs,_,hi,h=>by
  simp only[Z]at h|-;simp only[C4,bC]at hi;obtain⟨x,xs,y,z,e⟩:=h;exact⟨x,xs,y,F.free c hi.1 z,Z.free cs hi.2 e⟩
end
def gk.free{L:Loc}(b:bm)(k:NP b=ab)(h:gk D w β L b):gk D2 w β L b:=by
 cases b with
 |cells j i=>
  let⟨x,c,y,z,e⟩:=h;exact⟨x,c,y,Z.free i k z,e⟩
 |ob j r s=>
  let⟨x,a,u,y,z,e⟩:=h;exact⟨x,a,u,y,z,F.free _ rfl e⟩
 |rc j wd n i=>
  let⟨x,y,d,z,e,v⟩:=h;exact⟨x,y,d,z,Z.free i k e,v⟩
 |_=>exact h
def gk.cut{L:Loc}(b:bm)(hi:∀k∈na b,k∈l)(h:gk D w β L b):gk D w (nj β l) L b:=by
 cases b with
 |cells j i=>
  let⟨x,c,y,z,e⟩:=h;exact⟨x,c,y,Z.cut i hi z,e⟩
 |ob j r s=>
  let⟨x,a,u,y,z,e⟩:=h;exact⟨x,a,u,y,z,F.cut _ hi e⟩
 |rc j wd n i=>
  let⟨x,y,d,z,e,v⟩:=h;exact⟨x,y,d,z,Z.cut i hi e,v⟩
 |_=>exact h
end
def Pa{α:Type}{l:List α}:isNil l=ab↔l= []:=by cases l<;>simp[isNil]
def aG1{k:Nat}{l:cf}(h:Fu (k::l)=ab):k∉l/\Fu l=ab:=by simp[Fu,bC,pR]at h;exact⟨λx=>by rw[xK.2 x]at h;simp at h,h.2⟩
def aib{α:Type}(f:Nat->α):∀l r,cc f (l++r)=cc (cc f l) r
 | [],_=>rfl
 |(k,x)::l,r=>by simp[yw,cc];exact aib _ l r
def uM{α:Type}:∀l (f:Nat->α) k,k∉l.map (·.1)->cc f l k=f k
 | [],_,_,_=>rfl
 |(i,x)::l,f,k,h=>by simp only[kd,nZ,not_or]at h;simp[cc];rw[uM l _ k h.2,gy _ _ h.1]
def awQ(uses:cf)(f:h_)(k:Nat)(h:k∈uses):cc f (uses.map λl=>(l,ae)) k=ae:=by
 induction uses generalizing f with
 |nil=>cases h
 |cons i r y=>
  simp[kd,cc];by_cases x:k∈r
  .grind
  .have:k=i:=by simpa [x]using h
   subst this;rw[uM _ _ _ c9,gK]
def aSm(hp:bN)(f:h_)(y:Fu (hp.map (·.1))=ab){l:Nat}{b:bm}(h:(l,b)∈hp):cc f (hp.map λx=>(x.1,O x.2)) l=O b:=by
 induction hp generalizing f with
 |nil=>cases h
 |cons x r k=>
  simp[kd,cc];let⟨z,e⟩:=aG1 y;simp[nZ,Prod.mk.injEq]at h;rcases h with⟨rfl,rfl⟩|h
  .rw[uM _ _ _ c9,gK]
  .grind
def aSn(f:Nat->Bool)(l:Nat):cc f (k.map λi=>(i,ab)) l=ah->l∉k/\f l=ah:=by
 induction k generalizing f with
 |nil=>intro h;exact⟨aj,h⟩
 |cons i r e=>
  intro h;let⟨z,x⟩:=e _ h;by_cases y:l=i
  .subst y;rw[gK]at x;cases x
  .rw[gy _ _ y]at x
   exact⟨by simp[y,z],x⟩
def u7(β:bp)(H:h_)(br:cf)(g:Nat):Prop:=∃l b L,l∈br/\H l=O b/\β l=O L/\L.nil=ah/\L.g=g
section
variable{E:Env}{D:aW}{β:bp}{S:aq}{a:Act}{w:World}
def Ah{D2:aW}(h:∀g,D g->D2 g):jx D w β D2 w β:=⟨h,λ_ _=>rfl,λ_ _ h=>h⟩
def Sz(P:Program)(h:St E D β S a w){br:cf}{x:SV}{u:Value}(y:F D w β x u)(e:∀k∈(uf S.H x).2,k∈br):
  F (λg=>D g\/u7 β S.H br g) w β (uf S.H x).1 u:=by
 have G:=Ah (w:=w) (β:=β) (D2:=λg=>D g\/u7 β S.H br g) λg h=>.inl h;unfold uf at e|-;split
 .rename_i l
  simp at e;split
  .rename_i V d z
   rw[z]at e;simp[F]at y;let⟨L,n,c⟩:=y;let⟨C,o,I⟩:=h.od z n;simp[F,va];rcases I with⟨r,B⟩|⟨r,K,_,W,T,Q,p,_,_,y⟩
   .exact⟨ae,0,by rw[c,B];simp[Loc.val,r],Y,λh=>by lia⟩
   .exact⟨O ⟨L.g,0,ae⟩,L.cap,by rw[c];simp[Loc.val,r,o],K,λ_=>⟨L.g,0,rfl,.inr ⟨l,_,L,e l aj,z,n,r,rfl⟩,λi j U q=>let⟨x,f,m⟩:=y i j U q;⟨x,by rw[CZ p,rA];exact f,m⟩⟩⟩
  .simp only[F]
 .rename_i l v len cap
  simp at e;split
  .rename_i V d z
   rw[z]at e;simp[F]at y;let⟨L,n,A,t,c,M,s,_,N⟩:=y;let⟨C,o,W,p,R,y,J⟩:=h.od z n;have b:v+len<=d.len:=Y;simp[F,va];rw[IS _ b,Mu];exact⟨A,t,c,M,λr=>⟨L.g,v*L.wd,(s r).2,.inr ⟨l,_,L,e l aj,z,n,(s r).1,rfl⟩,λi j U q=>let⟨x,f,m⟩:=y (v+i) j Y q;⟨x,by rw[CZ p,<-f,o];congr 1;rw[pQ];lia,XQ d U m⟩⟩⟩
  .simp only[F]
 .exact F.mono G _ y
def alz(P:Program)(h:St E D β S a w){br:cf}:∀(cs:bL) {r:bG},Z D w β cs r->(∀k∈(cs.map λc=>(uf S.H c).2).flatten,k∈br)->
  Z (λg=>D g\/u7 β S.H br g) w β (cs.map λc=>(uf S.H c).1) r
 | [],_,x,_=>by simpa [Z]using x
 |c::cs,_,x,z=>by simp[Z]at x;obtain⟨y,i,rfl,u,v⟩:=x;simp only[kd,aiD,jv]at z;simp only[kd,Z];exact⟨y,i,rfl,Sz P h u λk e=>z k<|.inl e,alz P h cs v λk e=>z k<|.inr e⟩
def aAk(P:Program)(h:St E D β S a w){br:cf}{x:SV}{u:Value}(z:F D w β x u)(y:∀k∈(J6 S.H x).2,k∈br):F (λg=>D g\/u7 β S.H br g) w β (J6 S.H x).1 u:=by
 cases x with
 |ag i=>
  let⟨v,r,e⟩:=z;exact⟨v,r,alz P h i e y⟩
 |_=>exact Sz P h z y
def alB(P:Program)(h:St E D β S a w){br:cf}:∀(l:bL) {us:bG},Z D w β l us->(∀k∈(xA S.H l).2,k∈br)->Z (λg=>D g\/u7 β S.H br g) w β (xA S.H l).1 us
 | [],_,y,_=>by simpa [xA,Z]using y
 |x::l,_,y,z=>by simp[Z]at y;obtain⟨u,us,rfl,r,v⟩:=y;simp[xA,jv]at z|-;exact⟨u,us,rfl,aAk P h r λk e=>z k<|.inl e,alB P h l v λk e=>z k<|.inr e⟩
end
def apR{H:h_}{uses:cf}{l:Nat}{b:bm}:(l,b)∈dK H uses↔l∈uses/\H l=O b:=by unfold dK;simp_all
def aic{H:h_}{uses:cf}:∀{r:cf},I3 H uses r=ab->∀l∈r,∃b,H l=O b/\∀k∈na b,k∈uses
 | [],_,l,y=>by cases y
 |x::r,h,l,y=>by
  simp[I3,bC]at h;simp[nZ]at y;rcases y with rfl|y
  .obtain⟨z,_⟩:=h
   split at z
   .rename_i b e;exact⟨b,e,tq.1 z⟩
   .cases z
  .exact aic h.2 l y
def aa1{α γ:Type}{f g:α->Option γ}:∀{l:List α},(∀x∈l,f x=g x)->l.filterMap f=l.filterMap g
 | [],_=>rfl
 |x::l,h=>by rw[iF,iF,h x aj,aa1 λy z=>h y<|by simp[z]]
def Ya{br:cf}{H:h_}{l:Nat}{b:bm}(h:cc H (br.map λk=>(k,ae)) l=O b):l∉br/\H l=O b:=by
 by_cases x:l∈br
 .rw[awQ br H l x]at h;cases h
 .rw[uM _ _ _ c9]at h
  exact⟨x,h⟩
def St.frz{E:Env}{D:aW}{β:bp}{S:aq}{a:Act}{w:World}(h:St E D β S a w)(br:cf):
  St E (λg=>D g\/u7 β S.H br g) β {S with H:=cc S.H<|br.map λk=>(k,ae)} a w:=by
 refine h.change (Ah λg h=>.inl h) rfl rfl ?_ ?_ ?_ ?_ ?_ h.ib rfl rfl rfl (gL _) (λ_ _ _=>rfl) (λ_ h=>h) (λ_ _ h=>.inl h)
 .intro l b j
  let⟨L,r,u⟩:=h.hp l b (Ya j).2;exact⟨L,r,u.mono (Ah λg h=>.inl h) b λ_=>rfl⟩
 .intro l b L j d m
  let⟨p,f⟩:=Ya j;let⟨c,o,k3⟩:=h.eJ l b L f d m;refine⟨c,?_,k3⟩;rintro(v|⟨x,A,t,n,z,y,e,i⟩)
  .grind
  .exact p<|h.inj x l A b t L z f y d e m i▸n
 .intro l x b A L t r u c o q s i
  exact h.inj l x b A L t (Ya r).2 (Ya u).2 c o q s i
 .rintro g (v|⟨x,A,t,n,z,y,e,rfl⟩)
  .exact h.eZ g v
  .exact(h.eJ x A t z y e).1
 .rintro g (v|⟨x,A,t,n,z,y,e,rfl⟩)
  .grind
  .exact .inr (h.eJ x A t z y e).2.2
def qn(C:(Ending->World->Prop)->Prop)(en:Value->Ending)(w:World)(us:bG)(args:bL)(hp:bN)(ret:SV)(hp':bN):Prop:=
 ∀D β,Z D w β args us->xr D w β hp->A9 D w->(∀l,β l≠ae->l∈hp.map (·.1))->
  C λe w'=>∃v D' β',e=en v/\tZ D β w hp ret hp' v D' β' w'
def aae{C:(Ending->World->Prop)->Prop}(hC:∀{R R':Ending->World->Prop},C R->(∀e w,R e w->R' e w)->C R'){en:Value->Ending}{E:Env}{D:aW}{β:bp}{S:aq}{a:Act}{w:World}(h:St E D β S a w){cs:bL}{us:bG}{br uses:cf}{ret:SV}{hp:bN}
  (Kk:Z (λg=>D g\/u7 β S.H br g) w β cs us) (q1:∀k∈kp cs,k∈uses) (q2:∀l∈uses,∃b,S.H l=O b/\∀k∈na b,k∈uses) (q3:∀k∈br,k∉uses) (q4:Fu (hp.map (·.1))=ab)
  (q5:∀x∈hp,∀k∈na x.2,k∈hp.map (·.1)) (q6:∀k∈ids ret,k∈hp.map (·.1)) (q7:(isNil br||(ug ret&&hp.all (λx=>NP x.2)))=ab) (zb:qn C en w us cs (dK S.H uses) ret hp)
  (hn:∀k∈(hp.map (·.1)).filter (λl=> !mX uses l),S.U k=ah):
  C λe w'=>∃v D' β',e=en v/\F D' w' β' ret v/\St E D' β' {S with H:=cc S.H<|uses.map (λl=>(l,ae))++hp.map (λx=>(x.1,O x.2)),U:=cc S.U<|((hp.map (·.1)).filter λl=> !mX uses l).map λk=>(k,ab)} a w':=by
 obtain⟨Q,Oe⟩:∃Q,Q=λg=>D g\/u7 β S.H br g:=⟨_,rfl⟩;have Da:∀g,D g->Q g:=λg z=>by rw[Oe];exact .inl z
 have GD:jx D w β Q w β:=Ah Da;have hA:Z Q w (nj β uses) cs us:=by
  apply Z.cut cs q1 ?_;rw[Oe];exact Kk
 have HG:∀{l b},(l,b)∈dK S.H uses->l∈uses/\S.H l=O b:=λu=>apR.1 u;have O9:∀{l},l∈uses->nj β uses l=β l:=λr=>I r;have hH:xr Q w (nj β uses) (dK S.H uses):=by
  refine⟨λl b u=>?_,λl p b b' L L' u uv y q n1 W z=>?_⟩
  .obtain⟨r,m⟩:=HG u
   let⟨L,y,hB⟩:=h.hp l b m;refine⟨L,by rw[O9 r];exact y,?_,λj=>?_⟩
   .obtain⟨b',jy,aEl⟩:=q2 l r
    rw[m]at jy;cases jy;exact gk.cut b aEl<|hB.mono GD b λ_=>rfl
   .obtain⟨d1,d2,_⟩:=h.eJ l b L m y j
    refine⟨λt=>?_,d1⟩;rw[Oe]at t;rcases t with t|⟨l2,B,A,n,M,k3,k4,k5⟩
    .exact d2 t
    .have:=h.inj l l2 b B L A m M y k3 j k4 k5.symm
     subst this;exact q3 l n r
  .obtain⟨r,m⟩:=HG u
   let⟨cn,jy⟩:=HG uv;rw[O9 r]at y;rw[O9 cn]at q;exact h.inj l p b b' L L' m jy y q n1 W z
 have ai:∀g,Q g->g<w.heap.size:=by
  intro g z;rw[Oe]at z;rcases z with z|⟨l2,B,A,n,M,k3,k4,k5⟩
  .exact h.eZ g z
  .rw[<-k5];exact(h.eJ l2 B A M k3 k4).1
 have Tw:∀l,nj β uses l≠ae->l∈(dK S.H uses).map (·.1):=by
  intro l r;unfold nj at r;split at r
  .rename_i hlu
   let⟨b,m,_⟩:=q2 l hlu;exact List.mem_map.2 ⟨(l,b),apR.2 ⟨hlu,m⟩,rfl⟩
  .exact absurd rfl r
 have Ks:∀g,nJ (nj β uses) (dK S.H uses) g->∃l b L,l∈uses/\S.H l=O b/\β l=O L/\L.nil=ah/\L.g=g:=by
  rintro g ⟨l,b,L,u,y,j,z⟩;let⟨r,m⟩:=HG u;rw[O9 r]at y;exact⟨l,b,L,r,m,y,j,z⟩
 have zb:=zb Q (nj β uses) hA hH ⟨ai,h.eZ.laid.qB GD.d GD.h⟩ Tw;apply hC zb λe w'=>?_;rintro⟨v,D1,mG,rfl,i⟩;have BJ:∀l,l∈hp.map (·.1)->l∉uses->S.U l=ah:=by
  intro l r f;apply hn l ?_;simp only[List.mem_filter,pR];refine⟨r,?_⟩;cases o:mX uses l
  .rfl
  .exact absurd (xK.1 o) f
 obtain⟨K,Au⟩:∃K,K=λl=>if l∈hp.map (·.1)then mG l else β l:=⟨_,rfl⟩;have N:∀{l},l∈hp.map (·.1)->K l=mG l:=λr=>by rw[Au];exact I r
 have T:∀{l},l∉hp.map (·.1)->K l=β l:=λr=>by rw[Au];exact V r
 have Y:∀l L,β l=O L->K l=O L:=by
  intro l L y;by_cases r:l∈hp.map (·.1)
  .rw[N r]
   by_cases f:l∈uses
   .exact i.vB.b l L<|by rw[O9 f];exact y
   .rw[h.ib l<|BJ l r f]at y;cases y
  .rw[T r];exact y
 obtain⟨D2,Hz,abt,Kz,X,ko⟩:∃D2,(∀g,D g->D2 g)/\(∀g,D2 g->(D g\/w.heap.size<=g\/nJ (nj β uses) (dK S.H uses) g)/\g<w'.heap.size)/\F D2 w' K ret v/\
   (∀l b,(l,b)∈hp->∃L,mG l=O L/\gk D2 w' K L b/\(L.nil=ah->¬D2 L.g/\L.g<w'.heap.size))/\True:=by
  have alM:∀D,jx D w' (nj mG<|hp.map (·.1)) D w' K:=λD=>⟨λ_ h=>h,λ_ _=>rfl,λl L y=>by
   unfold nj at y;split at y
   .rename_i r;rw[N r];exact y
   .cases y⟩
  have r1:=F.mono (alM D1) ret<|F.cut ret q6 i.ret;have b1:∀l b,(l,b)∈hp->∃L,mG l=O L/\gk D1 w' K L b/\(L.nil=ah->¬D1 L.g/\L.g<w'.heap.size):=by
   intro l b u;let⟨L,h1,J,c⟩:=i.vI.1 l b u;exact⟨L,h1,gk.mono (alM D1) b (λ_=>rfl)<|gk.cut b (q5 (l,b) u) J,c⟩
  simp only[GK,bC]at q7;rcases q7 with q7|⟨q7,q8⟩
  .have kS:=Pa.1 q7
   have aDi:∀g,Q g->D g:=by
    intro g z;rw[Oe]at z;rcases z with z|⟨l2,B,A,n,_⟩
    .exact z
    .rw[kS]at n;cases n
   exact⟨D1,λg z=>i.vB.d g<|Da g z,λg z=>⟨(i.d g z).1.imp (aDi g) id,(i.d g z).2⟩,r1,b1,trivial⟩
  .refine⟨D,λ_ h=>h,λg z=>⟨.inl z,ng (h.eZ g z) i.size⟩,F.free ret q7 r1,λl b u=>?_,trivial⟩
   let⟨L,h1,J,c⟩:=b1 l b u;exact⟨L,h1,gk.free b (List.all_eq_true.1 q8 (l,b) u) J,λj=>⟨λt=>(c j).1<|i.vB.d _<|Da _ t,(c j).2⟩⟩
 have G:jx D w β D2 w' K:=⟨Hz,λg z=>i.vB.h g<|Da g z,Y⟩;have s:∀l b,cc S.H (uses.map (λl=>(l,ae))++hp.map (λx=>(x.1,O x.2))) l=O b->(l,b)∈hp\/(l∉hp.map (·.1)/\l∉uses/\S.H l=O b):=by
  intro l b o;rw[aib]at o;by_cases r:l∈hp.map (·.1)
  .obtain⟨x,hx,rfl⟩:=List.mem_map.1 r
   rw[aSm hp _ q4 hx]at o;cases o;exact .inl hx
  .rw[uM _ _ _<|by simpa using r]at o
   by_cases f:l∈uses
   .rw[awQ _ _ _ f]at o;cases o
   .rw[uM _ _ _<|by simpa using f]at o
    exact .inr ⟨r,f,o⟩
 have Hw:∀l b L,l∉uses->S.H l=O b->β l=O L->L.nil=ah->¬nJ (nj β uses) (dK S.H uses) L.g:=by
  intro l b L f m y j z;let⟨l2,B,A,n,M,k3,k4,k5⟩:=Ks _ z;have:=h.inj l l2 b B L A m M y k3 j k4 k5.symm;subst this;exact f n
 refine⟨v,D2,K,rfl,Kz,h.change G rfl rfl ?_ ?_ ?_ (λg z=>(abt g z).2) (λg z=>?_) ?_ i.os i.tape i.output i.size ?_ (λl r=>QT S.U _ l r) (λl L y=>?_)⟩
 .intro l b o
  rcases s l b o with u|⟨h1,J,c⟩
  .obtain⟨L,n,M,_⟩:=X l b u
   exact⟨L,by rw[N<|List.mem_map.2 ⟨(l,b),u,rfl⟩];exact n,M⟩
  .obtain⟨L,n,M⟩:=h.hp l b c
   refine⟨L,by rw[T h1];exact n,M.mono G b λj=>i.block _ (h.eJ l b L c n j).1<|Hw l b L J c n j⟩
 .intro l b L o y j
  rcases s l b o with u|⟨h1,J,c⟩
  .rw[N<|List.mem_map.2 ⟨(l,b),u,rfl⟩]at y
   let⟨L',n,_,k3⟩:=X l b u;rw[y]at n;cases n;refine⟨(k3 j).2,(k3 j).1,?_⟩;rcases i.own l b L u y j with ho|ho
   .exact .inl<|sY h.grow ho
   .obtain⟨l2,B,A,j1,j2,j3,j4,j5⟩:=Ks _ ho
    rw[<-j5];exact(h.eJ l2 B A j2 j3 j4).2.2
  .rw[T h1]at y
   let⟨n,M,k3⟩:=h.eJ l b L c y j;refine⟨ng n i.size,λt=>?_,k3⟩;rcases(abt _ t).1 with t|t|t
   .exact M t
   .omega
   .exact Hw l b L J c y j t
 .have mixed:∀l p b b' L L',(l,b)∈hp->p∉uses->S.H p=O b'->mG l=O L->β p=O L'->L.nil=ah->L'.nil=ah->L.g≠L'.g:=by
   intro l p b b' L L' u f jy y q n1 W z;have:=(h.eJ p b' L' jy q W).1;rcases i.own l b L u y n1 with ho|ho
   .omega
   .exact Hw p b' L' f jy q W<|z▸ho
  intro l p b b' L L' o hh' y q n1 W z;rcases s l b o with u|⟨h1,J,c⟩<;>rcases s p b' hh' with uv|⟨wK,Th,xI⟩
  .rw[N<|List.mem_map.2 ⟨(l,b),u,rfl⟩]at y
   rw[N<|List.mem_map.2 ⟨(p,b'),uv,rfl⟩]at q;exact i.vI.2 l p b b' L L' u uv y q n1 W z
  .rw[N<|List.mem_map.2 ⟨(l,b),u,rfl⟩]at y
   rw[T wK]at q;exact absurd z (mixed l p b b' L L' u Th xI y q n1 W)
  .rw[T h1]at y
   rw[N<|List.mem_map.2 ⟨(p,b'),uv,rfl⟩]at q;exact absurd z.symm (mixed p l b' b L' L uv J c q y W n1)
  .rw[T h1]at y
   rw[T wK]at q;exact h.inj l p b b' L L' c xI y q n1 W z
 .rcases(abt g z).1 with h1|h1|h1
  .exact .inl h1
  .exact .inr<|.inl<|sY h.grow h1
  .obtain⟨l2,B,A,j1,j2,j3,j4,j5⟩:=Ks _ h1
   rw[<-j5];exact .inr<|(h.eJ l2 B A j2 j3 j4).2.2
 .intro l r
  let⟨h1,J⟩:=aSn _ _ _ r;by_cases hlh:l∈hp.map (·.1)
  .have f:l∈uses:=by
    simp only[List.mem_filter,pR,not_and,Bool.not_eq_false]at h1;exact xK.1<|h1 hlh
   let⟨b,m,_⟩:=q2 l f;let⟨L,y,_⟩:=h.hp l b m;rw[h.ib l J]at y;cases y
  .rw[T hlh];exact h.ib l J
 .intro g m_ hw
  apply i.block g (ng m_ h.grow) λz=>?_;let⟨l2,B,A,j1,j2,j3,j4,j5⟩:=Ks _ z;rcases(h.eJ l2 B A j2 j3 j4).2.2 with c|c
  .omega
  .exact hw<|j5▸c
 .by_cases r:l∈hp.map (·.1)
  .by_cases f:l∈uses
   .rw[N r]at y
    let⟨b,m,_⟩:=q2 l f;let⟨L1,h1,_⟩:=h.hp l b m;have:=Y l L1 h1;rw[N r,y]at this;cases this;exact .inl h1
   .exact .inr<|BJ l r f
  .rw[T r]at y;exact .inl y
def akZ{f:FuncId}{E:Env}{D:aW}{β:bp}{S:aq}{a:Act}{w:World}(h:St E D β S a w){cs:bL}{us:bG}{br uses:cf}{ret:SV}{hp:bN}
  (y:Z (λg=>D g\/u7 β S.H br g) w β cs us) (u:∀k∈kp cs,k∈uses) (i:∀l∈uses,∃b,S.H l=O b/\∀k∈na b,k∈uses) (j:∀k∈br,k∉uses) (q4:Fu (hp.map (·.1))=ab)
  (n:∀x∈hp,∀k∈na x.2,k∈hp.map (·.1)) (c:∀k∈ids ret,k∈hp.map (·.1)) (d:(isNil br||(ug ret&&hp.all (λx=>NP x.2)))=ab) (r:Sat P f cs (dK S.H uses) ret hp)
  (z:∀k∈(hp.map (·.1)).filter (λl=> !mX uses l),S.U k=ah):=
 aae (λh k=>h.mono k) h y u i j q4 n c d (λD β=>r D β w us) z
def az4{f:FuncId}{c:u9}(hs:Sound P f c){E:Env}{D:aW}{β:bp}{S:aq}{a:Act}{w:World}(h:St E D β S a w){args:bL}{us:bG}(R:Z D w β args us)
  {n:Nat} {r:c_} (eF:Γ f=O c) (y:ED Γ S.H f args n=r) (T:∀c∈r.vc,c.p) (X:∀k∈r.news,S.U k=ah):
  Calls P f us.toArray w λe w'=>∃v D' β',e=.returned v/\F D' w' β' r.val v/\St E D' β' {S with H:=cc S.H r.fT,U:=cc S.U<|r.news.map λk=>(k,ab)} a w':=by
 let⟨own,tr⟩:=c;obtain⟨fn,W⟩:∃fn,fn=(u9.mk own tr).fn:=⟨_,rfl⟩;have iC:∀args H n,(∀p∈(fn args H n).pre,p.p)->Sat P f args (dK H (fn args H n).uses) (fn args H n).ret (fn args H n).hp:=by rw[W];exact hs.2
 unfold ED at y;rw[eF]at y
 try simp at y
 rw[<-W]at y;generalize z:EG own S.H args=cv at y;let⟨cs,br⟩:=cv
 try simp at y
 generalize d:fn cs (Bl S.H<|uH S.H args) n=cr at y;let⟨pre,uses,ret,hp⟩:=cr;unfold II at y
 try simp at y
 cases q:nc (uH S.H args) uses&&J2 S.H cs br uses ret hp
 .rw[q]at y;exact bad y T
 rw[q]at y;simp[bo]at y;subst y;simp only[J2,bC,pR]at q;let⟨q0,t,A,m,q4,B,C⟩:=q;have t:=tq.1 t;have A:=aic A;have m:=adr.1 m;have B:=λx hx=>tq.1<|List.all_eq_true.1 B x hx;have C:=tq.1 C;have V:Z (λg=>D g\/u7 β S.H br g) w β cs us:=by
  unfold EG at z;cases Y:own
  .rw[Y]at z
   have J:(xA S.H args).1=cs:=by rw[<-iw (args,[]) (xA S.H args),z]
   have K:(xA S.H args).2=br:=by rw[<-iw (args,[]) (xA S.H args),z]
   rw[<-J];exact alB P h args R λk o=>by rw[K]at o;exact o
  .rw[Y]at z
   simp[bo,Prod.mk.injEq]at z;rw[<-z.1];exact Z.mono (Ah λg M=>.inl M) args R
 have I:dK (Bl S.H<|uH S.H args) uses=dK S.H uses:=by
  unfold dK;apply aa1 λl i=>?_;have:=xK.2<|tq.1 q0 l i;simp[Bl,this,bo]
 have s:=iC cs (Bl S.H<|uH S.H args) n (by rw[d];exact T);rw[d]at s;simp[I]at s;cases Q:isNil br||(ug ret&&hp.all (λx=>NP x.2))
 .have hF:=h.frz br
  have e2:dK (cc S.H<|br.map λk=>(k,ae)) uses=dK S.H uses:=by
   unfold dK;apply aa1 λl i=>?_;rw[uM _ _ _<|by simpa using λj=>m l j i]
  have u:=akZ (br:=[]) hF (Z.mono (Ah λg M=>.inl M) cs V) t (λl i=>by
   let⟨b,j,jn⟩:=A l i;exact⟨b,by show cc S.H (br.map λk=>(k,ae)) l=O b;rw[uM _ _ _<|by simpa using λj=>m l j i];exact j,jn⟩) (λk o=>by cases o) q4 B C rfl (by rw[e2];exact s) X
  apply u.mono λe w'=>?_;rintro⟨v,D',β',L,y,N⟩;refine⟨v,D',β',L,y,?_⟩;have G:Kc br ret hp=br:=by unfold Kc;rw[Q];rfl
  simp[G];rw[aib];exact N
 .have u:=akZ h V t A m q4 B C Q s X
  apply u.mono λe w'=>?_;rintro⟨v,D',β',L,y,N⟩;refine⟨v,D',β',L,y,?_⟩;have G:Kc br ret hp= []:=by unfold Kc;rw[Q];rfl
  simp[G,uU,rB];exact N
end
end Go.Proofs.YtegnkfbnmepmpaaGreatDoor

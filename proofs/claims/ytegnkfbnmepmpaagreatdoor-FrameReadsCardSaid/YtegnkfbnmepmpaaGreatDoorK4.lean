/-
  Texts joined: PnA, PnB, PnC, PnD, PnE, Av, Bo, Bp, Bq, Bs, Ea, Eb, Ec, BitsM, CuF, Cu, Cut, Cv, HdF, Hd, Hdt, He, XhF, Xh. Conditions: each theorem's own.
-/
import Derived.Test.YtegnkfbnmepmpaaGreatDoorK3
import Derived.Test.YtegnkfbnmepmpaaGreatDoorK2
import Derived.RecoverIn
import Derived.Test.YtegnkfbnmepmpaaGreatDoorK1
import Derived.Lib.FrozenHead2
import Derived.Lib.UnsafeStr
import Derived.LaidEql
import Derived.Stop.Asserts
import Derived.RowKitTokens
set_option maxRecDepth 100000
set_option linter.all false
open Array renaming replicate->sb
open BitVec renaming ofInt->lk
open Bool renaming false->ah,true->ab
open ByteArray renaming empty->aJ,extract->Ry,size->kD
open Go renaming method->GX
open Go.Builtin renaming append_->n9,unsafeSliceData_->Y2,unsafeString_->axR
open Go.Ending renaming returned->Ef
open Go.Fence renaming wide->ke
open Go.FrameMode renaming returning->axG
open Go.Instr renaming typeAssert->zV
open Go.IntKind renaming bits->cZ,i64->bW,u64->fh,u8->CM,wrap->Q
open Go.Lib renaming byteCells->ai6,run_unsafeSliceData_row->axS,strCells->rH
open Go.Oper renaming upon_value->ai4,wp->yF
open Go.Proofs.Tryz renaming func78->Y3,ntmps78->Y4,prog->ar,underlying251->axT
open Go.Region renaming wanted->CN
open Go.Result renaming andThen->Eh
open Go.Value renaming cells->CO,int->cg,oneCell'->tY,ownBlock->ni
open Go.World renaming shape?->ai5
open Int renaming fdiv->kQ,toNat->X
open List renaming range->fM,replicate->au
open Min renaming min->aB
open Nat renaming beq->ap,ble->mF,blt->cK,pow_mul->M3,sub->fj,two_pow_add_eq_or_of_lt->axQ
open Option renaming map->gN,none->ae,some->O
open UInt8 renaming ofNat->zW
namespace Go.Proofs.YtegnkfbnmepmpaaGreatDoor
open Go Go.RowKit
def YK:=@Go.World.ownsRowF_of
def rG:=@List.length_singleton
def aiL:=@Go.Proofs.Tryz.underlying106
def YL:=@Go.Proofs.Tryz.underlying9
def aiM:=@Go.heap_setCell_other
def YM:=@Go.Proofs.Tryz.underlying121
def aiN:=@Go.Proofs.Tryz.underlying214
def uW:=@Go.run_callFunc_extern
def wz:=@Go.Lib.cell_of_heap
def aiO:=@Go.Lib.frozen_of_heap
def zP:=@Go.Lib.hid
def MS:=@List.map_map
def aiP:=@Go.Proofs.Tryz.underlying157
def iN:=@List.filterMap_nil
def MT:=@Go.run_typeAssert_lacksB
def aiQ:=@Go.Proofs.Tryz.underlying367
def GN:=@Go.wp_loop_rounds
def yE:=@Go.rounds_succ
def aUa:=@M3
def Jk:=@Nat.pow_add
def axB:=@Nat.div_div_eq_div_mul
def r8:=@ByteArray.size_extract
def aiR:=@Nat.dvd_of_mod_eq_zero
def MI:=@axQ
def r_:=@Nat.sub_eq
inductive XP where
 |x (e:XE)
 |nP (v:SV)
abbrev Nl:=FuncId->Option (List SV->Option (lq×SV))
def J1:List lq->Prop
 | []=>True
 |c::r=>c.p/\J1 r
section
variable(P:Program)(Γ:ll)(Ξ:Nl)
def HV(h:Array Oper):Option Oper:=h.toList.getLast?
def aqG(h:Array Oper):Bool:=match HV h with
 |some o=>match o.op with
  |.panic _=>ab
  |.call c=>match c.callee with
   |.value (.func f)=>(Ξ f).isSome
   |_=>ah
  |_=>ah
 |none=>ah
def Ic(o:Oper)(S:aq):Option (List lq×SV):=match o.guard with
 |some _=>ae
 |none=>match o.op with
  |.panic x=>match S.ev x with
   |.fm t y=>O ([],.fm t y)
   |_=>ae
  |.call c=>match c.callee with
   |.value (.func f)=>match Ξ f with
    |some t=>match t (c.args.toList.map S.ev)with
     |some (q,v)=>cond (isNil (ids v)&&isNil (kp (c.args.toList.map S.ev))) (O ([q],v)) ae
     |none=>ae
    |none=>ae
   |_=>ae
  |_=>ae
def az3(h:Array Oper)(i:Nat):Bool:=match h[i]?with
 |some o=>match o.op with
  |.call c=>match c.callee with
   |.value (.func f)=>(Ξ f).isSome
   |_=>ah
  |_=>ah
 |none=>ah
def aGF(h:Array Oper):Option Nat:=(fM (h.size-1)).find? (az3 Ξ h)
def aij(h:Array Oper):Bool:=(fM (h.size-1)).all fun i=>((waits h).getD (h.size-1) 0).testBit i
def aa_(P:Program)(h:Array Oper)(i:Nat)(S:aq)(j:Nat):Bool:=match h[j]?with
 |some ⟨O d,.alloc t,_,_,_,ae⟩=>(match S.T d with
  |.any=>ab
  |_=>ah)&&(cK d S.n&&((r7 P t).isSome&&(h.toList.take i).all fun o=>match o.dst with
   |some x=> !ap x d
   |none=>ab))
 |_=>ah
def Pq(P:Program)(h:Array Oper)(i:Nat)(S:aq)(x:List FP):Bool:=JU h&&(Ds (waits h) x 0&&(((fM i).all fun k=>((waits h).getD i 0).testBit k)&&
 (fM h.size).all fun j=>mF j i||(((waits h).getD j 0).testBit i||aa_ P h i S j)))
def ad0(h:Array Oper)(x:Bool)(y:List FP):Bool:= !x||(JU h&&(Ds (waits h) y 0&&aij h))
def aAZ(I:dV)(S:aq)(y z:aq->(XP->aq->Prop)->Prop)(K:XP->aq->Prop):Prop:=
 (y S fun e h=>match e with
   |.x .normal=>cond (ap h.n S.n) (∃x,I.p x/\s7 (yI 1000 h (I.tm x) (I.hp x) [] [])) False
   |e=>K e h)/\∀x,I.p x->z (lK 1000 S.n (I.tm x) (I.hp x)) K
def flat:Code->Bool
 |.region _ _ _=>ab
 |.seq x y=>flat x&&flat y
 |.cond _ x y=>flat x&&flat y
 |.block _ c=>flat c
 |.skip=>ab
 |.label _=>ab
 |.exit _=>ab
 |.ret=>ab
 |_=>ah
def pb(Ω:bO):Nat->Code->aq->(XP->aq->Prop)->Prop
 |k,.skip,S,K=>K (.x .normal) S
 |k,.label _,S,K=>K (.x .normal) S
 |k,.exit id,S,K=>K (.x (.exit id)) S
 |k,.ret,S,K=>K (.x .ret) S
 |k,.region id ops draw,S,K=>cond (H8 ops) (match aGF Ξ ops with
  |some i=>zG P Γ ops (fun i=>(id+1)*100000+8*i) (ops.toList.take i) 0 S [] fun h z=>match ops[i]?with
   |some o=>match Ic Ξ o h with
    |some (cs,v)=>cond (!draw||Pq P ops i S z) ((J1 cs->K (.nP v) h)/\(¬J1 cs->(zG P Γ ops (fun i=>(id+1)*100000+8*i) ops.toList 0 S [] fun h z=>cond draw (cond (indep ops z) (K (.x .normal) h) False) (K (.x .normal) h)))) False
    |none=>False
   |none=>False
  |none=>cond (aqG Ξ ops)
   (zG P Γ ops (fun i=>(id+1)*100000+8*i) ops.toList.dropLast 0 S [] fun h z=>cond (ad0 ops draw z)
     (match HV ops with
     |some o=>match Ic Ξ o h with
      |some (cs,v)=>J1 cs/\K (.nP v) h
      |none=>False
     |none=>False) False)
   (zG P Γ ops (fun i=>(id+1)*100000+8*i) ops.toList 0 S [] fun h z=>cond draw (cond (indep ops z) (K (.x .normal) h) False) (K (.x .normal) h))) False
 |k,.seq x y,S,K=>match SC Ω y with
  |none=>pb Ω k x S fun e h=>match e with
   |.x .normal=>pb Ω (k+qd x) y h K
   |e=>K e h
  |some (.one I)=>aAZ I S (pb Ω k x) (pb Ω (k+qd x) y) K
  |_=>False
 |k,.cond c x y,S,K=>match S.ev c with
  |.bl ab=>pb Ω k x S K
  |.bl ah=>pb Ω (k+qd x) y S K
  |.v (.bool v)=>(v=ab->pb Ω k x S K)/\(v=ah->pb Ω (k+qd x) y S K)
  |_=>False
 |k,.block id c,S,K=>pb Ω k c S fun e h=>match e with
  |.x (.exit r)=>cond (ap r id) (K (.x .normal) h) (K (.x (.exit r)) h)
  |e=>K e h
 |k,c,S,K=>vc P Γ Ω 1000 k c S fun e h=>K (.x e) h
structure DC where
 ret:List SV->(Nat->Option bm)->Option s4
 nP:SV->List SV->(Nat->Option bm)->Option s4
def alP(h:Array Oper):Bool:=match HV h with
 |some o=>Dt o.op
 |none=>ah
def SI:Code->Bool
 |.region _ ops _=>alP ops
 |_=>ah
def SJ(o:Oper):Option Nat:=match o.guard,o.dst,o.op with
 |none,ae,.defer c=>match c.callee,c.args.toList with
  |.value (.tmp t),[]=>O t
  |_,_=>ae
 |_,_,_=>ae
def QU(Ω:bO)(z:SV->XP->aq->Prop):Nat->Code->aq->(XE->aq->Prop)->Prop
 |k,.seq x y,S,K=>cond (SI x) (match x with
  |.region id ops draw=>cond (!draw&&ops.toList.dropLast.all fun o=> !Dt o.op) (zG P Γ ops (fun i=>(id+1)*100000+8*i) ops.toList.dropLast 0 S [] fun h _=>
     match(HV ops).bind SJ with
     |some t=>match h.T t,SC Ω y with
      |.fn (.func f) [] cap,O (.one I)=>(∃g,I.p g/\s7 (yI 500 h (I.tm g) (I.hp g) [] []))/\
         ∀g,I.p g->pb P Γ Ξ Ω k y (lK 1000 h.n (I.tm g) (I.hp g)) (z ((cu (I.tm g) t).getD .any))
      |_,_=>False
     |none=>False) False
  |_=>False)
  (cond (flat x) (pb P Γ Ξ Ω k x S fun e r=>match e with
    |.x .normal=>QU Ω z (k+qd x) y r K
    |.x e=>K e r
    |.nP _=>False) False)
 |_,_,_,_=>False
def NA(cap:bL):Bool:=cap.all fun x=>match x with
 |.p l _ _=>cK l 1000
 |_=>ah
def aaA(Δ:FuncId->Option DC)(fn:Func)(h:Out)(x:SV)(e:XP)(S:aq):Prop:=
 match x with
 |.fn (.func f) [] cap=>match Δ f with
  |some d=>match(match e with
    |.x (.exit _)=>ae
    |.x _=>d.ret cap S.H
    |.nP v=>cond (isNil (ids v)&&ug v) (d.nP v cap S.H) ae)with
   |some r=>cond (NA cap) (match II S.H cap cap [] r with
    |⟨c,val,_,fT,news⟩=>cond (news.all fun k=> !S.U k) (conds c (xE P fn {S with H:=cc S.H fT,U:=cc S.U (news.map fun k=>(k,ab))} h)) False) False
   |none=>False
  |none=>False
 |_=>False
def MC(Ω:bO)(Δ:FuncId->Option DC)(fn:Func)(args:bL)(hp:bN)(h:Out):Prop:=
 match fn.body with
 |none=>False
 |some c=>cond (mF args.length fn.ntmps&&qD (hp.map (·.1))&&(hp.all fun x=>cK x.1 500)) (QU P Γ Ξ Ω (aaA P Δ fn h) 0 c (oP fn args hp) fun e S=>match e with
  |.exit _=>False
  |_=>xE P fn S h) False
def QV(Ω:bO)(fn:Func)(args:bL)(hp:bN)(h:Out):Prop:=
 match fn.body with
 |none=>False
 |some c=>cond (mF args.length fn.ntmps&&(qD (hp.map (·.1))&&((hp.all fun x=>cK x.1 1000)&&flat c))) (pb P Γ (fun _=>ae) Ω 0 c (oP fn args hp) fun e S=>match e with
  |.x (.exit _)=>False
  |.x _=>xE P fn S h
  |.nP _=>False) False
def Yf(Ω:bO)(fn:Func)(args:bL)(v:SV):Prop:=
 match fn.body with
 |none=>False
 |some c=>cond (mF args.length fn.ntmps&&(isNil (ids v)&&flat c)) (pb P Γ Ξ Ω 0 c (oP fn args []) fun e S=>match e with
  |.nP u=>s7 (HX [] u v)
  |_=>False) False
end
theorem ac3{α:Type}{l:List α}{o:α}(h:l.getLast?=O o):l=l.dropLast++ [o]:=by
 obtain⟨x,rfl⟩:=List.getLast?_eq_some_iff.1 h;simp
def XP.is(D:aW)(w:World)(β:bp):XP->Exit->Prop
 |.x e,ex=>ex=e.ex
 |.nP v,ex=>∃u,F D w β v u/\ex=.panic [{v:=u,recovered:=ah}]
def Hc(P:Program)(f:FuncId)(t:List SV->Option (lq×SV)):Prop:=
 uc P f=ab/\∀args q v,t args=O (q,v)->q.p->∀w us,qn (fun R=>Calls P f us.toArray w R) (fun u=>.panicked [{v:=u,recovered:=ah}]) w us args [] v []
section
variable{P:Program}{Γ:ll}{Ξ:Nl}{ops:Array Oper}{base:Nat->Nat}
theorem T9{α:Type}{l:List α}(h:isNil l=ab):l= []:=Pa.1 h
theorem aN4{a:Act}{w:World}{f:FuncId}{args:Array Operand}{v:Array TypeId}{dst:Option Tmp}{y:TypeId}{pos:String}{h:Array Edge}{x:Option (Nat×Bool)}(z:uc P f=ab):
  (execOp a.eval ⟨dst,.call {callee:=.value (.func f),args:=args,argTypes:=v},y,pos,h,x⟩).run P w=.ok (.enter f (args.toList.map a.eval).toArray) w:=by
 unfold uc at z;split at z
 ·rename_i fn u
  simp only[bC,pR]at z;have k:fn.body.isNone=ah:=by simp_all
  have e:(#[]:Array Value)++args.map a.eval++ #[]=(args.toList.map a.eval).toArray:=c9;have r:a.eval (.func f)=.func (.func f) #[] #[]:=rfl;simp only[execOp,resolve,r,Deferred.ofValue,fX,iV,gM,invoke,callFunc,run_program,u,z.1,k,rz,xi,e]
 ·grind
theorem aqH(L:∀f t,Ξ f=O t->Hc P f t){o:Oper}{S:aq}{v:SV}{cs:List lq}(z:Ic Ξ o S=O (cs,v))(A:J1 cs){E:Env}{D:aW}{β:bp}{a:Act}{w:World}(h:St E D β S a w){K':Act->World->Prop}{Q:Exit->Act->World->Prop}
  (p:∀D' β' w' u,St E D' β' S a w'->F D' w' β' v u->Q (.panic [{v:=u,recovered:=ah}]) a w'):o.guard=ae/\o.wp P a w K' Q:=by
 obtain⟨dst,R,j,pos,r,guard⟩:=o;unfold Ic at z;simp only at z;split at z
 ·cases z
 refine⟨rfl,?_⟩;split at z
 ·rename_i x
  split at z
  ·rename_i t y e
   have d:=h.ev x;rw[e]at d;simp only[F]at d;obtain⟨u,J,b⟩:=d;simp only[Option.some.injEq,Prod.mk.injEq]at z;obtain⟨rfl,rfl⟩:=z;unfold yF;have C:(execOp a.eval ⟨dst,.panic x,j,pos,r,ae⟩).run P w=.halt (.panic (.iface t u)) w:=by
    simp only[execOp,J];rfl
   rw[C];exact p D β w _ h ⟨u,rfl,b⟩
  ·cases z
 ·rename_i c
  obtain⟨n,args,U⟩:=c;simp only at z;split at z
  ·rename_i f
   split at z
   ·rename_i t I
    split at z
    ·rename_i T q K
     cases i:isNil (ids q)&&isNil (kp (args.toList.map S.ev))
     ·rw[i]at z;cases z
     ·rw[i]at z
      simp only[bo,Option.some.injEq,Prod.mk.injEq]at z;obtain⟨rfl,rfl⟩:=z;simp only[bC]at i;have M:=T9 i.1;have N:=T9 i.2;obtain⟨l,G⟩:=L f t I;have s:=Mh h args.toList;have m:=aae (fun h k=>h.mono k) (en:=fun u=>.panicked [{v:=u,recovered:=ah}]) h (br:=[]) (uses:=[]) (hp:=[]) (ret:=q) (cs:=args.toList.map S.ev) (us:=args.toList.map a.eval)
       (Z.mono (Ah fun g B=>.inl B) _ s) (by rw[N];simp) aj aj rfl aj (by rw[M];simp) rfl (G _ _ _ K A.1 w _) aj
      unfold yF;rw[aN4 l,Oper.upon_enter];refine m.mono fun e w'=>?_;rintro⟨u,D',β',rfl,b,H⟩;exact p D' β' w' u H b
    ·cases z
   ·cases z
  ·cases z
 ·cases z
theorem Sk(r:∀f c,Γ f=O c->Sound P f c){E:Env}{Q:Exit->Act->World->Prop}{Sn:aq}{e:List Oper}
  (k:∀D β a w,St E D β Sn a w->wpList P ops Q e a w):∀(l:List Oper) (i:Nat) (fs:List FP) (S:aq) (D:aW) (β:bp) (a:Act) (w:World),fs.length=l.length->
  s5 P Γ ops base (rows i l fs) S Sn->St E D β S a w->wpList P ops Q (l++e) a w
 | [],i,fs,S,D,β,a,w,y,x,h=>by
   cases fs<;>·unfold rows at x;cases x;exact k D β a w h
 |o::l,i,[],S,D,β,a,w,y,x,h=>by simp at y
 |o::l,i,f::fs,S,D,β,a,w,y,x,h=>by
  unfold rows at x;cases x with
  |cons j v=>
   have:=SY (Q:=Q) r h j (K':=wpList P ops Q (l++e)) fun D' β' a' w' u=>Sk r k l (i+1) fs _ D' β' a' w' (by simpa using y) v u;rw[yw];unfold wpList;split at this
   ·rename_i z;rw[I z];exact .inl this
   ·rename_i z;rw[V z];exact this
theorem aKX{S:aq}{d:Nat}(h:S.T d=.any):S.put (O d) .any=S:=by
 unfold aq.put;cases S;simp only[aq.mk.injEq,sZ,xo];funext t;unfold jD;cases x:ap t d<;>simp_all
theorem azd{E:Env}{D:aW}{β:bp}{S:aq}{a:Act}{w:World}{d:Nat}{t:TypeId}{z:Value}{k:TypeId}{pos:String}{y:Array Edge}{e:Option (Nat×Bool)}(r:r7 P t=O z)(h:St E D β S a w)(f:cK d S.n=ab)(b:S.T d=.any){K:Act->World->Prop}{Q:Exit->Act->World->Prop}
  (j:∀a' w',St E D β S a' w'->K a' w'):(⟨O d,.alloc t,k,pos,y,e⟩:Oper).wp P a w K Q:=by
 have c:(execOp a.eval ⟨O d,.alloc t,k,pos,y,e⟩).run P w=.ok (.value (.pointer (O ⟨w.heap.size,0,ae⟩))) (w.alloc (.cells z.cells.toList.toArray t)):=by
  unfold r7 at r;split at r
  ·rename_i i hi
   simp[execOp,Instr.alloc,zeroValue,typeInfo,hi,r,newVar,newRow]
  ·cases r
 unfold yF;rw[c];have v:=(h.ZP (.cells z.cells.toList.toArray t)).put (dst:=some d) (x:=.any) (u:=.pointer (O ⟨w.heap.size,0,ae⟩)) c9 (by simp[F]);rw[aKX b]at v;exact j _ _ v
theorem aCJ{i:Nat}{S:aq}{j:Nat}{o:Oper}(h:aa_ P ops i S j=ab)(u:ops[j]? =O o):
  ∃d t z,o.guard=ae/\o.dst=O d/\o.op=.alloc t/\r7 P t=O z/\cK d S.n=ab/\S.T d=.any/\∀x∈ops.toList.take i,x.dst≠O d:=by
 unfold aa_ at h;rw[u]at h;split at h
 ·rename_i d t ty g a e
  simp only[Option.some.injEq]at e;subst e;simp only[bC]at h;obtain⟨c,y,k,r⟩:=h;obtain⟨z,w⟩:=Option.isSome_iff_exists.1 k;refine⟨d,t,z,rfl,rfl,rfl,w,y,?_,fun x v=>?_⟩
  ·grind
  ·have:=List.all_eq_true.1 r x v
   cases f:x.dst with
   |none=>simp
   |some b=>
    intro e;simp_all
 ·cases h
theorem asj(C:∀f c,Γ f=O c->Sound P f c){E:Env}{Q:Exit->Act->World->Prop}{S Sn:aq}{D:aW}{β:bp}{a:Act}{w:World}{fs:List FP}{n:Nat}{oN:Oper}(e:ops[n]? =O oN)
  (h1:fs.length=(ops.toList.take n).length) (g:s5 P Γ ops base (rows 0 (ops.toList.take n) fs) S Sn) (r:Pq P ops n S fs=ab) (h:St E D β S a w) (s:oN.guard=ae)
  (p:∀D β a w K',St E D β Sn a w->oN.wp P a w K' Q):wpAny P .any ops Q ops.size (sb ops.size ah) a {w with drawn:=w.drawn+1}:=by
 simp only[Pq,bC]at r;obtain⟨K,L,M,q4⟩:=r;have A:=(Array.getElem?_eq_some_iff.1 e).1;refine asl C (Nat.le_of_lt A) h1 g K L h (fun _ k l=>List.all_eq_true.1 M k (List.mem_range.2 l)) (fun j o R x q=>?_) (fun o x=>by rw[e]at x;cases x;exact⟨s,p⟩) fun h=>by omega
 have:=List.all_eq_true.1 q4 j (List.mem_range.2 (Array.getElem?_eq_some_iff.1 x).1);simp only[GK]at this;rcases this with h|h|h
 ·have:=nh h;omega
 ·rw[q]at h;cases h
 ·obtain⟨d,t,z,F,u,k3,G,H,I,J⟩:=aCJ h x
  refine⟨F,fun D β N a w K' i b B m=>?_⟩;obtain⟨dst,T,v,pos,y,guard⟩:=o;simp only at u k3;subst u k3;exact azd G B (by rw[i];exact H) (b d ⟨I,J⟩) m
theorem aL'(i:∀f c,Γ f=O c->Sound P f c){E:Env}{Q:Exit->Act->World->Prop}{S Sn:aq}{D:aW}{β:bp}{a:Act}{w:World}{fs:List FP}{oN:Oper}(v:HV ops=O oN)
  (h1:fs.length=ops.toList.dropLast.length) (y:s5 P Γ ops base (rows 0 ops.toList.dropLast fs) S Sn) (x:(JU ops&&(Ds (waits ops) fs 0&&aij ops))=ab) (h:St E D β S a w) (r:oN.guard=ae)
  (k:∀D β a w K',St E D β Sn a w->oN.wp P a w K' Q):wpAny P .any ops Q ops.size (sb ops.size ah) a {w with drawn:=w.drawn+1}:=by
 simp only[bC]at x;have z:=ac3 v;rw[List.dropLast_eq_take,uT]at h1 y;have n:0<ops.size:=by rw[<-uT,z];simp
 have e:ops[ops.size-1]? =O oN:=by
  rw[<-xl,z,GI aj];simp
 refine asj i e h1 y ?_ h r k;simp only[Pq,bC];refine⟨x.1,x.2.1,x.2.2,List.all_eq_true.2 fun j u=>?_⟩;have:=List.mem_range.1 u;rw[yB Y,uV]
end
section
variable{P:Program}{Γ:ll}{Ξ:Nl}
theorem QW(Y:∀f c,Γ f=O c->Sound P f c)(hm:P.follows .mixedOrders=ab)(Ar:∀f t,Ξ f=O t->Hc P f t){Ω:bO}(c:Code):∀(k:Nat) (E:Env) (S:aq) (K:XP->aq->Prop) (D:aW) (β:bp) (a:Act) (w:World) (Q:Exit->Act->World->Prop),
  (∀l,E.G l->l<1000)->pb P Γ Ξ Ω k c S K->St E D β S a w->
  (∀E' e S D β a w ex,iO E E'->(flat c=ab->E'=E)->K e S->St E' D β S a w->XP.is D w β e ex->Q ex a w)->c.wpIn (FR ae) 0 P Q a w:=by
 have gd:∀{E E':Env},(∀l,E.G l->l<1000)->iO E E'->∀l,E'.G l->l<1000:=fun h d l hl=>h l (d.g l hl)
 have rV:∀(c:Code),flat c=ah->∀(k:Nat) (E:Env) (S:aq) (K:XP->aq->Prop) (D:aW) (β:bp) (a:Act) (w:World) (Q:Exit->Act->World->Prop),
   (∀l,E.G l->l<1000)->(vc P Γ Ω 1000 k c S fun e F=>K (.x e) F)->St E D β S a w->
   (∀E' e S D β a w ex,iO E E'->(flat c=ab->E'=E)->K e S->St E' D β S a w->XP.is D w β e ex->Q ex a w)->c.wpIn (FR ae) 0 P Q a w:=
  fun c b k E S K D β a w Q C h p m=>awV Y hm c ae 1000 k E S _ D β a w Q (.inl ⟨rfl,rfl⟩) C h p fun E' e S D β a w q A p=>m E' (.x e) S D β a w e.ex q (fun h=>by rw[b]at h;cases h) A p rfl
 induction c with
 |skip=>intro k E S K D β a w Q C h p m;simp only[pb]at h;exact wpIn_skip (m E (.x .normal) S D β a w _ (iO.refl E) (fun _=>rfl) h p rfl)
 |label l=>intro k E S K D β a w Q C h p m;simp only[pb]at h;exact wpIn_label (m E (.x .normal) S D β a w _ (iO.refl E) (fun _=>rfl) h p rfl)
 |exit id=>intro k E S K D β a w Q C h p m;simp only[pb]at h;exact wpIn_exit (m E (.x (.exit id)) S D β a w _ (iO.refl E) (fun _=>rfl) h p rfl)
 |ret=>intro k E S K D β a w Q C h p m;simp only[pb]at h;exact wpIn_ret (m E (.x .ret) S D β a w _ (iO.refl E) (fun _=>rfl) h p rfl)
 |region id ops draw=>
  intro k E S K D β a w Q C h p m;simp only[pb]at h;cases T:H8 ops
  ·rw[T]at h;exact h.elim
  rw[T]at h;simp only[bo]at h;obtain⟨M,wN⟩:∃M:Exit->Act->World->Prop,M=fun e a w=>e≠.outgrown/\Q e a w:=⟨_,rfl⟩;have Z:¬LetsOut M:=by
   rintro⟨a,w,h⟩;rw[wN]at h;exact h.1 rfl
  refine wpIn_mono (Q:=M) ?_ (fun e a w h=>by rw[wN]at h;exact h.2);have norm:(zG P Γ ops (fun i=>(id+1)*100000+8*i) ops.toList 0 S [] fun F acc=>cond draw (cond (indep ops acc) (K (.x .normal) F) False) (K (.x .normal) F))->(Code.region id ops draw).wpIn (FR ae) 0 P M a w:=fun h=>by
   have Fg:∀D β S a w,K (.x .normal) S->St E D β S a w->M .normal a w:=fun D β S a w hk h=>by
    rw[wN];exact⟨aj,m E (.x .normal) S D β a w _ (iO.refl E) (fun _=>rfl) hk h rfl⟩
   cases draw
   ·obtain⟨fs,Sn,s,B,j⟩:=yN _ _ _ _ h
    exact MP (KP Z _ T _ _ (Sj Y (fun D β a w h=>Fg D β Sn a w j h) _ _ _ _ _ _ _ _ s B p))
   ·obtain⟨fs,Sn,s,B,j⟩:=yN _ _ _ _ h
    rw[rB]at j;cases hi:indep ops fs
    ·rw[hi]at j;exact j.elim
    rw[hi]at j;exact MQ hm (JM Z T _ _ _ _ (W5 Y s B hi p fun D β a w h=>Fg D β Sn a w j h))
  split at h
  ·rename_i i aU4
   obtain⟨fs,Sn,s,B,j⟩:=yN _ _ _ _ h;split at j
   ·rename_i o ho
    split at j
    ·rename_i cs v R
     rw[rB]at j;cases BG: !draw||Pq P ops i S fs
     ·rw[BG]at j;exact j.elim
     rw[BG]at j;simp only[bo]at j;by_cases jf:J1 cs
     ·have j:=j.1 jf
      have hg:o.guard=ae:=by
       unfold Ic at R;cases E_:o.guard with
       |none=>rfl
       |some g=>rw[E_]at R;cases R
      have Fi:ops.toList=ops.toList.take i++o::ops.toList.drop (i+1):=by
       have ai:i<ops.toList.length:=by
        rw[uT];exact(Array.getElem?_eq_some_iff.1 ho).1
       have HL:ops.toList[i]=o:=by
        have:=(Array.getElem?_eq_some_iff.1 ho).2;simpa using this
       rw[<-HL,<-zJ ai,Ra]
      have N:∀D β a w K',St E D β Sn a w->o.wp P a w K' M:=fun D β a w K' X=>(aqH Ar R jf X fun D' β' w' u h' W=>by
       rw[wN];exact⟨aj,m E (.nP v) Sn D' β' a w' _ (iO.refl E) (fun _=>rfl) j h' ⟨u,W,rfl⟩⟩).2
      cases draw
      ·have key:wpList P ops M ops.toList a w:=by
        rw[Fi];refine Sk Y (fun D β a w X=>?_) _ _ _ _ _ _ _ _ s B p;unfold wpList;rw[I (MF hg _)];exact .inl (N D β a w _ X)
       exact MP (KP Z _ T _ _ key)
      ·exact MQ hm (JM Z T _ _ _ _ (asj Y ho s B (by simpa using BG) p hg N))
     ·exact norm (j.2 jf)
    ·exact j.elim
   ·exact j.elim
  cases hp:aqG Ξ ops
  ·rw[hp]at h
   simp only[iw]at h;have Fg:∀D β S a w,K (.x .normal) S->St E D β S a w->M .normal a w:=fun D β S a w hk h=>by
    rw[wN];exact⟨aj,m E (.x .normal) S D β a w _ (iO.refl E) (fun _=>rfl) hk h rfl⟩
   cases draw
   ·obtain⟨fs,Sn,s,B,j⟩:=yN _ _ _ _ h
    exact MP (KP Z _ T _ _ (Sj Y (fun D β a w h=>Fg D β Sn a w j h) _ _ _ _ _ _ _ _ s B p))
   ·obtain⟨fs,Sn,s,B,j⟩:=yN _ _ _ _ h
    rw[rB]at j;cases hi:indep ops fs
    ·rw[hi]at j;exact j.elim
    rw[hi]at j;exact MQ hm (JM Z T _ _ _ _ (W5 Y s B hi p fun D β a w h=>Fg D β Sn a w j h))
  ·rw[hp]at h
   simp only[bo]at h;obtain⟨fs,Sn,s,B,j⟩:=yN _ _ _ _ h;rw[rB]at j;cases hi:ad0 ops draw fs
   ·rw[hi]at j;exact j.elim
   rw[hi]at j;simp only[bo]at j;cases hl:HV ops with
   |none=>rw[hl]at j;exact j.elim
   |some o=>
   rw[hl]at j;simp only at j;cases R:Ic Ξ o Sn with
   |none=>rw[R]at j;exact j.elim
   |some v=>
   obtain⟨cs,v⟩:=v;rw[R]at j;simp only at j;obtain⟨jf,j⟩:=j;have N:∀D β a w K',St E D β Sn a w->o.guard=ae/\o.wp P a w K' M:=fun D β a w K' X=>aqH Ar R jf X fun D' β' w' u h' W=>by
    rw[wN];exact⟨aj,m E (.nP v) Sn D' β' a w' _ (iO.refl E) (fun _=>rfl) j h' ⟨u,W,rfl⟩⟩
   have hg:o.guard=ae:=by
    unfold Ic at R;cases E_:o.guard with
    |none=>rfl
    |some g=>rw[E_]at R;cases R
   have Fi:=ac3 hl;cases draw
   ·have key:wpList P ops M ops.toList a w:=by
     rw[Fi];refine Sk Y (fun D β a w X=>?_) _ _ _ _ _ _ _ _ s B p;unfold wpList;rw[I (MF hg _)];exact .inl (N D β a w _ X).2
    exact MP (KP Z _ T _ _ key)
   ·have gq:(JU ops&&(Ds (waits ops) fs 0&&aij ops))=ab:=by
     unfold ad0 at hi;simpa using hi
    exact MQ hm (JM Z T _ _ _ _ (aL' Y hl s B gq p hg fun D β a w K' X=>(N D β a w K' X).2))
 |seq x y tp sr=>
  intro k E S K D β a w Q C h p m;simp only[pb]at h;have fl:∀{L J:Env},(flat x=ab->L=E)->(flat y=ab->J=L)->flat (.seq x y)=ab->J=E:=fun s B b=>by
   simp only[flat,bC]at b;rw[B b.2,s b.1]
  have fx:∀{L:Env},(flat x=ab->L=E)->flat (.seq x y)=ab->L=E:=fun s b=>by
   simp only[flat,bC]at b;exact s b.1
  split at h
  ·refine Jj (tp k E S _ D β a w _ C h p fun E' e F D' β' a' w' ex q b A H hx=>?_)
   cases e with
   |nP v=>
    obtain⟨u,W,rfl⟩:=hx;exact m E' (.nP v) F D' β' a' w' _ q (fx b) A H ⟨u,W,rfl⟩
   |x e=>
    cases hx;cases e with
    |normal=>exact sr _ E' F K D' β' a' w' Q (gd C q) A H fun J e S D β a w ex B hf2=>m J e S D β a w ex (q.trans B) (fl b hf2)
    |exit id=>exact m E' (.x (.exit id)) F D' β' a' w' _ q (fx b) A H rfl
    |ret=>exact m E' (.x .ret) F D' β' a' w' _ q (fx b) A H rfl
  ·rename_i r hI
   obtain⟨s,B⟩:=h;refine Jj (tp k E S _ D β a w _ C s p fun E' e F D' β' a' w' ex q b A H hx=>?_);cases e with
   |nP v=>
    obtain⟨u,W,rfl⟩:=hx;exact m E' (.nP v) F D' β' a' w' _ q (fx b) A H ⟨u,W,rfl⟩
   |x e=>
    cases hx;cases e with
    |normal=>
     simp only at A;cases U:ap F.n S.n
     ·rw[U]at A;exact A.elim
     ·rw[U]at A
      obtain⟨z,hz,vJ⟩:=A;obtain⟨cI,iC,_⟩:=Eo (gd C q) H vJ;rw[cN U]at iC;exact sr _ E' _ K D' cI a' w' Q (gd C q) (B z hz) iC fun J e S D β a w ex B hf2=>m J e S D β a w ex (q.trans B) (fl b hf2)
    |exit id=>exact m E' (.x (.exit id)) F D' β' a' w' _ q (fx b) A H rfl
    |ret=>exact m E' (.x .ret) F D' β' a' w' _ q (fx b) A H rfl
  ·exact h.elim
 |cond c x y tp sr=>
  intro k E S K D β a w Q C h p m;simp only[pb]at h;have hc:=p.ev c;have fx:∀{L:Env},(flat x=ab->L=E)->flat (.cond c x y)=ab->L=E:=fun s b=>by
   simp only[flat,bC]at b;exact s b.1
  have fy:∀{L:Env},(flat y=ab->L=E)->flat (.cond c x y)=ab->L=E:=fun s b=>by
   simp only[flat,bC]at b;exact s b.2
  split at h
  ·rename_i e
   rw[e]at hc;exact wpIn_cond_true hc (tp _ _ _ _ _ _ _ _ _ C h p fun J e S D β a w ex q b=>m J e S D β a w ex q (fx b))
  ·rename_i e
   rw[e]at hc;exact wpIn_cond_false hc (sr _ _ _ _ _ _ _ _ _ C h p fun J e S D β a w ex q b=>m J e S D β a w ex q (fy b))
  ·rename_i v e
   rw[e]at hc;exact wpIn_cond_split hc (fun U=>tp _ _ _ _ _ _ _ _ _ C (h.1 U) p fun J e S D β a w ex q b=>m J e S D β a w ex q (fx b)) (fun U=>sr _ _ _ _ _ _ _ _ _ C (h.2 U) p fun J e S D β a w ex q b=>m J e S D β a w ex q (fy b))
  ·exact h.elim
 |block id c ih=>
  intro k E S K D β a w Q C h p m;simp only[pb]at h;refine wpIn_block (ih k E S _ D β a w _ C h p fun E' e F D' β' a' w' ex q b A H hx=>?_);cases e with
  |nP v=>
   obtain⟨u,W,rfl⟩:=hx;exact m E' (.nP v) F D' β' a' w' _ q b A H ⟨u,W,rfl⟩
  |x e=>
   cases hx;cases e with
   |normal=>exact m E' (.x .normal) F D' β' a' w' _ q b A H rfl
   |exit px=>
    simp only[XE.ex,Exit.inBlock];by_cases hid:px=id
    ·subst hid
     simp only[MN,bo]at A;rw[I rfl];exact m E' (.x .normal) F D' β' a' w' _ q b A H rfl
    ·have:ap px id=ah:=by
      cases U:ap px id
      ·rfl
      ·exact absurd (cN U) hid
     simp only[this,iw]at A;rw[V hid];exact m E' (.x (.exit px)) F D' β' a' w' _ q b A H rfl
   |ret=>exact m E' (.x .ret) F D' β' a' w' _ q b A H rfl
 |_=>intro k E S K D β a w Q C h p m;simp only[pb]at h;exact rV _ rfl k E S K D β a w Q C h p m
theorem avn(U:∀f c,Γ f=O c->Sound P f c)(K:P.follows .mixedOrders=ab)(V:∀f t,Ξ f=O t->Hc P f t){Ω:bO}{f:FuncId}{fn:Func}(H:P.funcs[f]? =O fn){args:bL}{v:SV}
  (h:Yf P Γ Ξ Ω fn args v) (w:World) (us:bG):qn (fun R=>Calls P f us.toArray w R) (fun u=>.panicked [{v:=u,recovered:=ah}]) w us args [] v []:=by
 intro D β F J s W;unfold Yf at h;cases p:fn.body with
 |none=>rw[p]at h;exact h.elim
 |some c=>
 rw[p]at h;simp only at h;cases a:mF args.length fn.ntmps&&(isNil (ids v)&&flat c)
 ·rw[a]at h;exact h.elim
 rw[a]at h;simp only[bC]at a;have X:=nh a.1;have Y:=a.2.2;obtain⟨E,i⟩:∃E:Env,E=⟨w,nJ β [],D,β,fun l=>l<1000,[]⟩:=⟨_,rfl⟩;have S:St E D β (oP fn args []) {tmps:=us.toArray++sb (fn.ntmps-us.toArray.size) undef,defers:=[]} w:=by
  subst i;exact O_ (gL _) X F J s W
 refine callsIn_wide.1 (aiK (n:=0) H p trivial ?_);refine QW U K V c 0 E _ _ D β _ w _ (by rw[i];exact fun l h=>h) h S fun E' e S' D' β' a' w' ex hd I A z T=>?_;cases e with
 |x e=>exact A.elim
 |nP u0=>
 obtain⟨u,N,rfl⟩:=T;have C:=I Y;subst C;have G:a'.defers= []:=by rw[z.df,i]
 show LeavesInM ke 0 P fn a'.tmps _ a'.defers (.panicking _) w';rw[G];have Q:=Ph (m:=[]) (hp:=[]) (fun l r=>by cases r) (JL A) N;have k:E'.w0=w:=by rw[i]
 have o:E'.Wr=nJ β []:=by rw[i]
 have q:E'.D0=D:=by rw[i]
 show∃Z B aVD,_;refine⟨u,D',β,rfl,?_⟩;exact{
  vB:=⟨fun g y=>z.d0 g (by rw[q];exact y),fun g y=>by
   have:=z.block g (by rw[k];exact s g y) (by rw[o];rintro⟨l,b,L,r,_⟩;cases r);rw[this,k],fun l L j=>j⟩
  ret:=Q.mono ⟨fun g y=>y,fun _ _=>rfl,fun l L j=>by
   unfold jO at j;cases j⟩ v
  vI:=⟨fun l b r=>(by cases r),fun l l' b b' L L' r=>(by cases r)⟩
  d:=fun g y=>⟨by have:=z.d1 g y;rw[k,o,q]at this;exact this,z.eZ g y⟩
  ib:=fun l L j=>.inl j
  own:=fun l b L r=>by cases r
  os:=by rw[z.os,k]
  tape:=by rw[z.tape,k]
  output:=by rw[z.output,k]
  size:=by have:=z.grow;rw[k]at this;exact this
  block:=fun g y M=>by
   have:=z.block g (by rw[k];exact y) (by rw[o];exact M);rw[this,k]}
end
def rI(P:Program)(f:FuncId)(d:DC):Prop:=
 uc P f=ab/\
 (∀cap H r,d.ret cap H=O r->(∀p∈r.pre,p.p)->∀w us,qn (fun R=>CallsDIn ke 0 P f us.toArray .returning w fun e h w'=>h=.returning/\R e w') .returned w us cap (dK H r.uses) r.ret r.hp)/\
 (∀v cap H r,d.nP v cap H=O r->(∀p∈r.pre,p.p)->∀w pv us,qn (fun R=>CallsDIn ke 0 P f us.toArray (.panicking [{v:=pv,recovered:=ah}]) w fun e h w'=>h=.panicking [{v:=pv,recovered:=ab}]/\R e w') .returned w (pv::us) (v::cap) (dK H r.uses) r.ret r.hp)
section
variable{P:Program}{Γ:ll}{Ξ:Nl}
theorem aCf{c:Code}(h:SI c=ab):∃z y x,c=.region z y x/\alP y=ab:=by
 cases c with
 |region z y x=>exact⟨z,y,x,rfl,h⟩
 |_=>simp[SI]at h
theorem aN5{o:Oper}{t:Nat}(x:SJ o=O t){a:Act}{w:World}{f:FuncId}{e:bG}(j:a.tmps.getD t undef=.func (.func f) #[] e.toArray):
  o.guard=ae/\∀(K:Act->World->Prop) (Q:Exit->Act->World->Prop),K {a with defers:={target:=.fn (.func f) e.toArray,args:=#[]}::a.defers} w->o.wp P a w K Q:=by
 obtain⟨dst,d,z,pos,y,guard⟩:=o;unfold SJ at x;simp only at x;split at x
 ·rename_i c
  split at x
  ·rename_i k r b
   simp only[Option.some.injEq]at x;subst x;obtain⟨callee,args,n⟩:=c;subst r;have u:args=#[]:=c9;subst u;refine⟨rfl,fun K Q h=>?_⟩;unfold yF;have v:a.eval (.tmp k)=.func (.func f) #[] e.toArray:=j;have i:(execOp a.eval ⟨ae,.defer {callee:=.value (.tmp k),args:=#[],argTypes:=n},z,pos,y,ae⟩).run P w=.ok (.defer {target:=.fn (.func f) e.toArray,args:=#[]}) w:=by
    simp[execOp,resolve,v,Deferred.ofValue,fX,iV,gM]
   rw[i,Oper.upon_defer];exact h
  ·cases x
 ·cases x
theorem aSr(eF:∀f c,Γ f=O c->Sound P f c)(hm:P.follows .mixedOrders=ab)(Ar:∀f t,Ξ f=O t->Hc P f t){Ω:bO}{KD:SV->XP->aq->Prop}{E:Env}(hE:E.df= [])(hG:∀l,E.G l->l<500){Q:Exit->Act->World->Prop}
  (hD:∀(f:FuncId) (d:bG) (x:SV) (D1:aW) (w1:World) (j:bp),F D1 w1 j x (.func (.func f) #[] d.toArray)->(∀l L,E.G l->j l=O L->E.gB l=O L)->
    ∀s e S D β a w ex,iO {E with df:=[{target:=.fn (.func f) d.toArray,args:=#[]}],G:=fun l=>l<1000,gB:=j} s->KD x e S->St s D β S a w->XP.is D w β e ex->Q ex a w) (c:Code):
  ∀(k:Nat) (S:aq) (K:XE->aq->Prop) (D:aW) (β:bp) (a:Act) (w:World),QU P Γ Ξ Ω KD k c S K->St E D β S a w->(∀e S D β a w,K e S->St E D β S a w->Q e.ex a w)->c.wpIn (FR ae) 0 P Q a w:=by
 have M:∀l,E.G l->l<1000:=fun l u=>by have:=hG l u;omega
 induction c with
 |seq x y tp sr=>
  intro k S K D β a w h C N;simp only[QU]at h;cases b:SI x
  ·rw[b]at h
   simp only[iw]at h;cases U:flat x
   ·rw[U]at h;exact h.elim
   rw[U]at h;simp only[bo]at h;refine Jj (QW eF hm Ar x k E S _ D β a w _ M h C fun E' e H D' β' a' w' ex b HF m V hx=>?_);have:=HF U;subst this;cases e with
   |nP v=>exact m.elim
   |x e=>
    cases hx;cases e with
    |normal=>exact sr _ H K D' β' a' w' m V N
    |exit id=>exact N (.exit id) H D' β' a' w' m V
    |ret=>exact N .ret H D' β' a' w' m V
  ·rw[b]at h
   simp only[bo]at h;obtain⟨id,q,p,rfl,Df⟩:=aCf b;simp only at h;cases B: !p&&q.toList.dropLast.all fun o=> !Dt o.op
   ·rw[B]at h;exact h.elim
   rw[B]at h;simp only[bo]at h;simp only[bC,pR]at B;obtain⟨Tx,_⟩:=B;subst Tx;obtain⟨fs,Sn,h1,h2,i⟩:=yN _ _ _ _ h;cases u:HV q with
   |none=>rw[u]at i;exact i.elim
   |some o=>
   rw[u]at i;simp only[Option.bind_some]at i;cases X:SJ o with
   |none=>rw[X]at i;exact i.elim
   |some t=>
   rw[X]at i;simp only at i;split at i
   ·rename_i f cap z eT eI
    obtain⟨⟨g,hg,vJ⟩,h4⟩:=i;have Fi:=ac3 u;refine Jj (wpIn_wide.2 (wp_region_list ?_));rw[Fi];refine Sk eF (fun D' β' a' w' W=>?_) _ _ _ _ _ _ _ _ h1 h2 C;have T:=W.tm t;rw[eT]at T;simp only[F]at T;obtain⟨us,d,hu,mm,uz⟩:=T;simp only[Z]at mm;subst mm;obtain⟨E_,OT⟩:=aN5 (P:=P) X hu;unfold wpList;rw[I (MF E_ _)];refine .inl (OT _ _ ?_);unfold wpList;show y.wpIn (FR ae) 0 P Q _ w';obtain⟨j,r,_⟩:=Eo hG W vJ;obtain⟨A,J⟩:∃A:Env,A={E with df:=[{target:=.fn (.func f) d.toArray,args:=#[]}],G:=fun l=>l<1000,gB:=j}:=⟨_,rfl⟩;have BL:St A D' j (lK 1000 Sn.n (z.tm g) (z.hp g)) {a' with defers:={target:=.fn (.func f) d.toArray,args:=#[]}::a'.defers} w':=by
     subst J;exact{
      size:=r.size,tm:=r.tm,hp:=r.hp,eJ:=r.eJ,inj:=r.inj,eZ:=r.eZ,d0:=r.d0,d1:=r.d1
      ib:=fun l u=>r.ib l (by
       simp only[lK,qS]at u|-;refine⟨?_,u.2⟩;cases hb:cK l 500
       ·rfl
       ·have h5:l<500:=nh hb
        have:cK l 1000=ab:=yB Y;rw[this]at u;cases u.1)
      os:=r.os,tape:=r.tape,output:=r.output,grow:=r.grow,block:=r.block
      df:=by show _::a'.defers=_;rw[W.df,hE]
      low:=fun l u=>by
       simp only[lK];have:cK l 1000=ab:=yB u;rw[this];rfl
      k9:=fun l L _ R=>R}
    have hx:F D' w' j ((cu (z.tm g) t).getD .any) (.func (.func f) #[] d.toArray):=by
     have:=r.tm t;rw[hu]at this;exact this
    refine QW eF hm Ar y k A _ _ D' j _ w' Q (by rw[J];exact fun l h=>h) (h4 g hg) BL fun s e S D β a w ex b _ m C kK=>?_;exact hD f d _ D' w' j hx (fun l L u R=>r.k9 l L u R) s e S D β a w ex (by rw[J]at b;exact b) m C kK
   ·exact i.elim
 |_=>intro k S K D β a w h;simp only[QU]at h
theorem ak1{D c:aW}{w q:World}{β a:bp}{H:h_}(r:∀l b,H l=O b->∃L,β l=O L)(n:∀l L,l<1000->β l=O L->a l=O L):
  ∀(cap:bL) {z:bG},NA cap=ab->(∀l∈kp cap,∃b,H l=O b)->Z c q a cap z->Z D w β cap z
 | [],z,_,_,h=>by simpa [Z]using h
 |x::cap,z,y,hi,h=>by
  simp only[Z]at h|-;obtain⟨u,us,rfl,k,d⟩:=h;unfold NA at y;simp only[uR,bC]at y;refine⟨u,us,rfl,?_,ak1 r n cap y.2 (fun l g=>hi l (by simp[kp,g])) d⟩;have e:=y.1;split at e
  ·rename_i l i j
   have m:l<1000:=nh e;simp only[F]at k|-;obtain⟨L,o,p,k3⟩:=k;obtain⟨b,f⟩:=hi l (by simp[kp,ids]);obtain⟨L',v⟩:=r l b f;have:=n l L' m v;rw[o]at this;cases this;exact⟨L,v,p,k3⟩
  ·cases e
theorem aBa{Δ:FuncId->Option DC}(hΔ:∀f d,Δ f=O d->rI P f d){fn:Func}{hp:bN}{o:Out}{ret:SV}{hp':bN}(ho:o.get=(ret,hp')){B:aW}{gB:bp}{w0:World}
  (fk:xr B w0 gB hp) (hD0:A9 B w0) (As:∀l,gB l≠ae->l∈hp.map (·.1)) (q3:(hp.all fun x=>cK x.1 500)=ab) {E:Env} (T:E=⟨w0,nJ gB hp,B,gB,fun l=>l<500,[]⟩)
  {f:FuncId} {i:bG} {x:SV} {D1:aW} {w1:World} {cI:bp} (hx:F D1 w1 cI x (.func (.func f) #[] i.toArray)) (vE:∀l L,E.G l->cI l=O L->E.gB l=O L)
  {Ei:Env} {e:XP} {S:aq} {D:aW} {β:bp} {a:Act} {w:World} {ex:Exit} (hd:iO {E with df:=[{target:=.fn (.func f) i.toArray,args:=#[]}],G:=fun l=>l<1000,gB:=cI} Ei) (y:aaA P Δ fn o x e S) (hs:St Ei D β S a w) (K:XP.is D w β e ex):
  bodyPostM ke 0 P fn (fun e w'=>∃v D' β',e=.returned v/\tZ B gB w0 hp ret hp' v D' β' w') ex a w:=by
 obtain⟨I,J⟩:∃I:Env,I={E with df:=[{target:=.fn (.func f) i.toArray,args:=#[]}],G:=fun l=>l<1000,gB:=cI}:=⟨_,rfl⟩;rw[<-J]at hd;have ok:JD I.w0.heap.size [{target:=.fn (.func f) i.toArray,args:=#[]}] I:=⟨gL _,[],by rw[J];rfl,aj,aj⟩;unfold aaA at y;split at y
 ·rename_i f' cap
  simp only[F]at hx;obtain⟨qP,I4,M,mm,uz⟩:=hx;simp only[Z]at mm;subst mm;simp only[Value.func.injEq,Fn.func.injEq]at M;obtain⟨hff,_,KH⟩:=M;subst hff;have KH:i=I4:=by simpa using dR Array.toList KH
  subst KH;cases Ot:Δ f with
  |none=>rw[Ot]at y;exact y.elim
  |some d=>
  rw[Ot]at y;simp only at y;obtain⟨qy,Kz,aEM⟩:=hΔ f d Ot
  have go:∀(r:s4) (u u1:FrameMode) (args:bL) (us:bG),u≠.run->Go.settle u1=axG->
    (cond (NA cap) (match II S.H cap cap [] r with
      |⟨c,val,_,fT,news⟩=>cond (news.all fun k=> !S.U k) (conds c (xE P fn {S with H:=cc S.H fT,U:=cc S.U (news.map fun k=>(k,ab))} o)) False) False)->
    (∀k∈kp args,k∈kp cap)->(∀z,(Z D z β cap i)->St {I with df:=[]} D β S {a with defers:=[]} z->Z D z β args us)->
    ((∀p∈r.pre,p.p)->∀z,qn (fun R=>CallsDIn ke 0 P f i.toArray u z fun e A w'=>A=u1/\R e w') .returned z us args (dK S.H r.uses) r.ret r.hp)->
    LeavesInM ke 0 P fn a.tmps (fun e w'=>∃v D' β',e=.returned v/\tZ B gB w0 hp ret hp' v D' β' w') a.defers u w:=by
   intro r u u1 args us hu wS y hia hra zb;refine aqO hu ok hd hs fun z X=>?_;cases s:NA cap
   ·rw[s]at y;exact y.elim
   rw[s]at y;simp only[bo]at y;obtain⟨pre,uses,rt,q⟩:=r;unfold II at y;simp only at y;cases W:nc (uH S.H cap) uses&&J2 S.H cap [] uses rt q
   ·rw[W]at y
    simp only[iw]at y;have y:cond (List.all [] fun k=> !S.U k) _ False:=y;simp only[ML,bo]at y;have:=(Sx y).1 ⟨False,inferInstance⟩ (by simp[c_.fail]);exact this.elim
   rw[W]at y;simp only[bo]at y;simp only[J2,bC,pR]at W;obtain⟨q0,q1,q2,q3',q4,q5,q6⟩:=W;have q1:=tq.1 q1;have q2:=aic q2;have q5:∀x∈q,∀k∈na x.2,k∈q.map (·.1):=fun x hx=>tq.1 (List.all_eq_true.1 q5 x hx);have q6:=tq.1 q6;cases OR:((q.map (·.1)).filter fun l=> !mX uses l).all fun k=> !S.U k
   ·rw[OR]at y;exact y.elim
   rw[OR]at y;simp only[bo]at y;obtain⟨t,Ty⟩:=Sx y;have rP:Z D z β cap i:=ak1 (H:=S.H) (fun l b hb=>let⟨L,h1,_⟩:=X.hp l b hb;⟨L,h1⟩) (fun l L m hL=>by
    have:=X.k9 l L (by rw[J];exact m) hL;rw[J]at this;exact this) cap s (fun l m=>let⟨b,hb,_⟩:=q2 l (q1 l m);⟨b,hb⟩) uz
   have key:=aae (C:=fun R=>CallsDIn ke 0 P f i.toArray u z fun e A w'=>A=u1/\R e w') (fun h k=>h.mono fun e A w' h2=>⟨h2.1,k e w' h2.2⟩) (en:=.returned) X (br:=[]) (uses:=uses) (hp:=q) (ret:=rt) (cs:=args) (us:=us)
    (Z.mono (Ah fun g hg=>.inl hg) _ (hra z rP X)) (fun k y=>q1 k (hia k y)) q2 aj q4 q5 q6 rfl (zb t z) (fun k y=>by simpa using List.all_eq_true.1 OR k y)
   have N:(invoke (.fn (.func f) i.toArray) #[]).run P z=.ok (.enter f i.toArray) z:=by
    have:=akY qy (#[]++i.toArray) z;simpa [invoke]using this
   refine⟨hu,.inr ⟨fun h=>(by cases h),.func f,i.toArray,f,i.toArray,rfl,N,fun _ _=>trivial,key.mono fun e A w'=>?_⟩⟩;rintro⟨rfl,v,D',β',rfl,wR,j⟩;show LeavesInM ke 0 P fn a.tmps _ [] (Go.settle A) w';rw[wS];have acw:St E D' β' {S with H:=cc S.H (uses.map (fun l=>(l,ae))++q.map (fun x=>(x.1,O x.2))),U:=cc S.U (((q.map (·.1)).filter fun l=> !mX uses l).map fun k=>(k,ab))} {a with defers:=[]} w':=by
    rw[J]at j;exact{
     size:=j.size,tm:=j.tm,hp:=j.hp,eJ:=j.eJ,inj:=j.inj,eZ:=j.eZ,d0:=j.d0,d1:=j.d1,ib:=j.ib
     os:=j.os,tape:=j.tape,output:=j.output,grow:=j.grow,block:=j.block
     df:=by rw[T]
     low:=fun l m=>j.low l (by rw[T]at m;show l<1000;have:l<500:=m;omega)
     k9:=fun l L m hL=>vE l L m (j.k9 l L (by rw[T]at m;show l<1000;have:l<500:=m;omega) hL)}
   have V:=Ht o Ty;rw[ho]at V;have Dh:Kc [] rt q= []:=rfl;rw[Dh]at V;simp only[uU,rB]at V;exact NU (fn:=fn) (a:={a with defers:=[]}) Y fk hD0 As q3 T acw V
  cases e with
  |x e=>
   cases K;cases e with
   |exit id=>exact y.elim
   |normal=>
    cases n:d.ret cap S.H with
    |none=>rw[n]at y;exact y.elim
    |some r=>
     rw[n]at y;exact go r .returning .returning cap i aj rfl y (fun k y=>y) (fun z h _=>h) (fun t z=>Kz cap S.H r n t z i)
   |ret=>
    cases n:d.ret cap S.H with
    |none=>rw[n]at y;exact y.elim
    |some r=>
     rw[n]at y;exact go r .returning .returning cap i aj rfl y (fun k y=>y) (fun z h _=>h) (fun t z=>Kz cap S.H r n t z i)
  |nP v=>
   obtain⟨u,hru,rfl⟩:=K;simp only at y;cases Q:isNil (ids v)&&ug v
   ·rw[Q]at y;exact y.elim
   rw[Q]at y;simp only[bo]at y;simp only[bC]at Q;have n1:=T9 Q.1;cases n:d.nP v cap S.H with
   |none=>rw[n]at y;exact y.elim
   |some r=>
    rw[n]at y;exact go r (.panicking [{v:=u,recovered:=ah}]) (.panicking [{v:=u,recovered:=ab}]) (v::cap) (u::i) aj rfl y (fun k y=>by simpa [kp,n1]using y) (fun z h _=>by
     simp only[Z];exact⟨u,i,rfl,F.free v Q.2 hru,h⟩) (fun t z=>aEM v cap S.H r n t z u i)
 ·exact y.elim
theorem aQE(Q:∀f c,Γ f=O c->Sound P f c)(L:P.follows .mixedOrders=ab)(R:∀f t,Ξ f=O t->Hc P f t){Δ:FuncId->Option DC}(o:∀f d,Δ f=O d->rI P f d){Ω:bO}{f:FuncId}{fn:Func}(I:P.funcs[f]? =O fn){args:bL}{hp:bN}{y:Out}{ret:SV}{hp':bN}
  (A:y.get=(ret,hp')) (h:MC P Γ Ξ Ω Δ fn args hp y):Sat P f args hp ret hp':=by
 intro D β w us G g i p;unfold MC at h;cases j:fn.body with
 |none=>rw[j]at h;exact h.elim
 |some c=>
 rw[j]at h;cases m:mF args.length fn.ntmps&&qD (hp.map (·.1))&&hp.all fun x=>cK x.1 500
 ·grind
 rw[m]at h;simp only[bC]at m;obtain⟨⟨q,U⟩,B⟩:=m;have q:=nh q;obtain⟨E,k⟩:∃E:Env,E=⟨w,nJ β hp,D,β,fun l=>l<500,[]⟩:=⟨_,rfl⟩;have M:St E D β (oP fn args hp) {tmps:=us.toArray++sb (fn.ntmps-us.toArray.size) undef,defers:=[]} w:=by
  subst k;exact O_ Y q G g i p
 refine callsIn_wide.1 (aiK (n:=0) I j trivial ?_);refine aSr Q L R (by rw[k]) (by rw[k];exact fun l h=>h) (fun f V x F W Z N J T e S D' β' a w' ex H K u b=>aBa o A g i p B k N J H K u b) c 0 _ _ D β _ w h M fun e S F X a w' r u=>?_;have z:xE P fn S y->∃v,(results fn a.tmps).run P w'=.ok v w'/\∃C D' β',(Ef v)=.returned C/\tZ D β w hp ret hp' C D' β' w':=fun r=>NU Y g i p B k u (by have:=Ht y r;rw[A]at this;exact this);have s:a.defers= []:=by rw[u.df,k]
 cases e with
 |normal=>
  show LeavesInM ke 0 P fn a.tmps _ a.defers .returning w';rw[s];exact z r
 |ret=>
  show LeavesInM ke 0 P fn a.tmps _ a.defers .returning w';rw[s];exact z r
 |exit id=>exact r.elim
theorem ag9(H:∀f c,Γ f=O c->Sound P f c)(B:P.follows .mixedOrders=ab){Ω:bO}{f:FuncId}{fn:Func}(s:P.funcs[f]? =O fn){args:bL}{hp:bN}{y:Out}{ret:SV}{hp':bN}
  (C:y.get=(ret,hp')) (h:QV P Γ Ω fn args hp y) (u:FrameMode) (w:World) (us:bG):qn (fun R=>CallsDIn ke 0 P f us.toArray u w fun e J w'=>J=u/\R e w') .returned w us args hp ret hp':=by
 intro D β q d a m;unfold QV at h;cases i:fn.body with
 |none=>rw[i]at h;exact h.elim
 |some c=>
 rw[i]at h;simp only at h;cases j:mF args.length fn.ntmps&&(qD (hp.map (·.1))&&((hp.all fun x=>cK x.1 1000)&&flat c))
 ·grind
 rw[j]at h;simp only[bC]at j;obtain⟨n,L,I,q4⟩:=j;have n:=nh n;obtain⟨E,r⟩:∃E:Env,E=⟨w,nJ β hp,D,β,fun l=>l<1000,[]⟩:=⟨_,rfl⟩;have F:St E D β (oP fn args hp) {tmps:=us.toArray++sb (fn.ntmps-us.toArray.size) undef,defers:=[]} w:=by
  subst r;exact O_ (gL _) n q d a m
 refine callsDIn_of_wp s i trivial ?_;refine QW H B (fun f t h=>by cases h) c 0 E _ _ D β _ w _ (by rw[r];exact fun l h=>h) h F fun E' e p D' β' a' w' ex K A k g G=>?_;have:=A q4;subst this;have b:a'.defers= []:=by rw[g.df,r]
 have z:xE P fn p y->∃v,(results fn a'.tmps).run P w'=.ok v w'/\∃o D' β',(Ef v)=.returned o/\tZ D β w hp ret hp' o D' β' w':=fun k=>NU (gL _) d a m I r g (by have:=Ht y k;rw[C]at this;exact this);cases e with
 |nP v=>exact k.elim
 |x e=>
  cases G;cases e with
  |normal=>exact⟨b,z k⟩
  |ret=>exact⟨b,z k⟩
  |exit id=>exact k.elim
end
def WZ:Code->Option (Nat×Nat×Code)
 |.seq (.region _ ops ah) y=>match ops.toList with
  | [⟨O t,.call c,_,_,_,ae⟩,⟨O h,.assign (.tmp t2),_,_,_,ae⟩]=>match c.callee with
    |.builtin .recover=>cond (ap t2 t&&isNil c.args.toList) (O (t,h,y)) ae
    |_=>ae
  |_=>ae
 |_=>ae
section
variable(P:Program)(Γ:ll)
def QX(Ω:bO)(fn:Func)(v:SV)(args:bL)(hp:bN)(h:Out):Prop:=
 match fn.body with
 |none=>False
 |some c=>match WZ c with
  |none=>False
  |some (t,z,y)=>cond (mF args.length fn.ntmps&&(qD (hp.map (·.1))&&((hp.all fun x=>cK x.1 1000)&&(flat y&&(cK t fn.ntmps&&cK z fn.ntmps)))))
   (pb P Γ (fun _=>ae) Ω 0 y (((oP fn args hp).put (O t) v).put (O z) v) fun e S=>match e with
     |.x (.exit _)=>False
     |.x _=>xE P fn S h
     |.nP _=>False) False
end
section
variable{P:Program}{Γ:ll}
theorem aLW{c:Code}{t a:Nat}{y:Code}(h:WZ c=O (t,a,y)):∃r w u z i v k j,c=.seq (.region r #[⟨O t,.call {callee:=.builtin .recover,args:=#[],argTypes:=j},w,u,z,ae⟩,⟨O a,.assign (.tmp t),i,v,k,ae⟩] ah) y:=by
 unfold WZ at h;split at h
 ·rename_i r f p
  split at h
  ·rename_i g c1 w u z m o i v k e
   split at h
   ·rename_i n
    cases x:ap o g&&isNil c1.args.toList
    ·rw[x]at h;cases h
    ·rw[x]at h
     obtain⟨rfl,rfl,rfl⟩:=h;simp only[bC]at x;have b:=cN x.1;subst b;have d:=T9 x.2;obtain⟨callee,args,j⟩:=c1;simp only at n d;subst n;have e4:args=#[]:=c9;subst e4;refine⟨r,w,u,z,i,v,k,j,?_⟩;congr 2;grind
   ·cases h
  ·cases h
 ·cases h
theorem aQD(eF:∀f c,Γ f=O c->Sound P f c)(hm:P.follows .mixedOrders=ab){Ω:bO}{f:FuncId}{fn:Func}(hf:P.funcs[f]? =O fn){v:SV}{args:bL}{hp:bN}{i:Out}{ret:SV}{hp':bN}
  (ho:i.get=(ret,hp')) (h:QX P Γ Ω fn v args hp i) (w:World) (us:bG) {u r:FrameMode} {pv:Value}
  (sq:∀(z:Frame) (cs:List Frame),z.mode=u->(recoverD (z::cs)=O (pv,{z with mode:=r}::cs))\/(recoverD (z::cs)=ae/\pv=.nilIface/\r=u)):
  qn (fun R=>CallsDIn ke 0 P f us.toArray u w fun e a w'=>a=r/\R e w') .returned w (pv::us) (v::args) hp ret hp':=by
 intro D β g Y W gR;simp only[Z]at g;obtain⟨x,xs,Aq,hv,kj⟩:=g;simp only[List.cons.injEq]at Aq;obtain⟨rfl,rfl⟩:=Aq;unfold QX at h;cases B:fn.body with
 |none=>rw[B]at h;exact h.elim
 |some c=>
 rw[B]at h;simp only at h;cases K:WZ c with
 |none=>rw[K]at h;exact h.elim
 |some tt=>
 obtain⟨t,m,y⟩:=tt;rw[K]at h;simp only at h;cases s:mF args.length fn.ntmps&&(qD (hp.map (·.1))&&((hp.all fun x=>cK x.1 1000)&&(flat y&&(cK t fn.ntmps&&cK m fn.ntmps))))
 ·rw[s]at h;exact h.elim
 rw[s]at h;simp only[bo]at h;simp only[bC]at s;obtain⟨S,q2,q3,q4,q5,q6⟩:=s;have S:=nh S;obtain⟨E,q⟩:∃E:Env,E=⟨w,nJ β hp,D,β,fun l=>l<1000,[]⟩:=⟨_,rfl⟩;obtain⟨k,d⟩:∃k:Act,k={tmps:=us.toArray++sb (fn.ntmps-us.toArray.size) undef,defers:=[]}:=⟨_,rfl⟩;have bR:St E D β (oP fn args hp) k w:=by
  subst q d;exact O_ (gL _) S kj Y W gR
 have L:=bR.put (dst:=some t) (x:=v) (u:=pv) (by simpa [oP]using q5) hv;have M:=L.put (dst:=some m) (x:=v) (u:=pv) (by simpa [oP,aq.put]using q6) hv;obtain⟨id,Mz,Lg,U,I0,Lh,V,lM,rfl⟩:=aLW K;refine callsDIn_of_wpSIn hf B trivial fun z cs hu=>?_;rw[<-d];refine wpSIn_seq (wpSIn_region ?_);have fB:t<k.tmps.size:=by
  rw[bR.size];exact nh q5
 have rf:(k.put (O t) pv).eval (.tmp t)=pv:=by
  show((k.put (O t) pv).tmps).getD t undef=pv;simp only[Act.put];rw[D6,aiz fB];rfl
 have A:∀(j:List Frame),j={z with mode:=r}::cs->Code.wpSIn ke 0 P y (bodyPostS P fn z cs fun e a w'=>a=r/\∃v D' β',e=.returned v/\tZ D β w hp ret hp' v D' β' w') ((k.put (O t) pv).put (O m) pv) j w:=by
  intro j C;subst C;refine wpSIn_of_wpIn rfl ?_;refine QW eF hm (Ξ:=fun _=>ae) (fun f t h=>by cases h) y 0 E _ _ D β _ w _ (by rw[q];exact fun l h=>h) h M fun E' e S' D' β' a' w' ex hd HF b b9 hx=>?_;have:=HF q4;subst this;have X:a'.defers= []:=by rw[b9.df,q]
  have n:xE P fn S' i->∃v,(results fn a'.tmps).run P w'=.ok v w'/\∃v' D' β',(Ef v)=.returned v'/\tZ D β w hp ret hp' v' D' β' w':=fun b=>NU (gL _) Y W gR q3 q b9 (by have:=Ht i b;rw[ho]at this;exact this);cases e with
  |nP v=>exact b.elim
  |x e=>
   cases hx;cases e with
   |normal=>obtain⟨T,N,Q⟩:=n b;exact⟨X,r,rfl,T,N,rfl,Q⟩
   |ret=>obtain⟨T,N,Q⟩:=n b;exact⟨X,r,rfl,T,N,rfl,Q⟩
   |exit id=>exact b.elim
 have H:(execOp k.eval ⟨O t,.call {callee:=.builtin .recover,args:=#[],argTypes:=lM},Mz,Lg,U,ae⟩).run P w=.ok .recover w:=by rfl
 have J:(execOp (k.put (O t) pv).eval ⟨O m,.assign (.tmp t),I0,Lh,V,ae⟩).run P w=.ok (.value pv) w:=by
  simp only[execOp,rf];rfl
 show wpOpsSIn ke 0 P _ _ [0,1] k (z::cs) w;have hw:∀(o:Oper) (h:o.guard=ae) (y:Nat->Option Bool),CN o y=ab:=fun o h y=>MF h y;unfold wpOpsSIn;simp only[Jg,CI];refine⟨fun _ _=>trivial,?_⟩;rw[I (hw _ rfl _),H];simp only
 have p:∀(j:List Frame),j={z with mode:=r}::cs->wpOpsSIn ke 0 P #[⟨O t,.call {callee:=.builtin .recover,args:=#[],argTypes:=lM},Mz,Lg,U,ae⟩,⟨O m,.assign (.tmp t),I0,Lh,V,ae⟩]
   (Exit.thenS (y.wpSIn ke 0 P (bodyPostS P fn z cs fun e a w'=>a=r/\∃v D' β',e=.returned v/\tZ D β w hp ret hp' v D' β' w')) (bodyPostS P fn z cs fun e a w'=>a=r/\∃v D' β',e=.returned v/\tZ D β w hp ret hp' v D' β' w')) [1] (k.put (O t) pv) j w:=by
  intro j C;unfold wpOpsSIn;simp only[Jg,A4,CI];refine⟨fun _ _=>trivial,?_⟩;rw[I (hw _ rfl _),J];simp only;unfold wpOpsSIn;exact A j C
 rcases sq z cs hu with G|⟨G,F,KE⟩
 ·rw[G]
  exact p _ rfl
 ·rw[G]
  simp only;rw[<-F];refine p _ ?_;rw[KE,<-hu]
theorem aLY{pv:Value}:∀(x:Frame) (cs:List Frame),x.mode=.panicking [{v:=pv,recovered:=ah}]->(recoverD (x::cs)=O (pv,{x with mode:=.panicking [{v:=pv,recovered:=ab}]}::cs))\/(recoverD (x::cs)=ae/\pv=.nilIface/\FrameMode.panicking [{v:=pv,recovered:=ab}]=.panicking [{v:=pv,recovered:=ah}]):=
 fun x cs h=>.inl (by simp[recoverD,h])
theorem aLZ:∀(x:Frame) (cs:List Frame),x.mode=.returning->(recoverD (x::cs)=O (.nilIface,{x with mode:=.returning}::cs))\/(recoverD (x::cs)=ae/\Value.nilIface=.nilIface/\axG=.returning):=
 fun x cs h=>.inr ⟨by simp[recoverD,h],rfl,rfl⟩
theorem Spec.au8(S:Spec){C:(Ending->World->Prop)->Prop}(d:∀{R r:Ending->World->Prop},C R->(∀e w,R e w->r e w)->C r){en:Value->Ending}{w:World}{us:bG}
  (f:∀l H n i y,S.dec l H=O (i,y)->l=qU (v_ y n) (S.args i)/\dK H y=qI (v_ y n) (S.hp i))
  (h:∀i,(∀c∈S.pre i,c.p)->qn C en w us (S.args i) (S.hp i) (S.ret i) (S.hp' i)) (l:bL) (H:h_) (n:Nat) (hp:∀p∈(S.iY.fn l H n).pre,p.p):
  qn C en w us l (dK H (S.iY.fn l H n).uses) (S.iY.fn l H n).ret (S.iY.fn l H n).hp:=by
 simp only[Spec.iY,u9.fn]at hp|-;cases k:S.dec l H with
 |none=>
  rw[k]at hp;exact(hp ⟨False,inferInstance⟩ (by simp[s4.none,CT.get])).elim
 |some x=>
  obtain⟨i,y⟩:=x;rw[k]at hp;simp only at hp|-;cases z:S.cJ i y n
  ·rw[z]at hp
   exact(hp ⟨False,inferInstance⟩ (by simp[s4.none,CT.get])).elim
  ·rw[z]at hp
   rw[Out.SA]at hp|-;obtain⟨u,v⟩:=f l H n i y k;rw[v];rw[u];simp only[Spec.cJ,bC]at z;have j:=Out.Bd z.1;exact qn.js d (h i hp) (v_ y n) (fun a b g m e=>acM (List.all_eq_true.1 j a g) b m e) z.2.1 z.2.2
def Spec.no:Spec where
 ι:=Unit
 dec:=fun _ _=>ae
 args:=fun _=>[]
 out:=fun _=>.leaf .any []
theorem Spec.adD:∀l H n i x,Spec.no.dec l H=O (i,x)->l=qU (v_ x n) (Spec.no.args i)/\dK H x=qI (v_ x n) (Spec.no.hp i):=fun l H n i x h=>by cases h
def DC.of(x h:Spec):DC:=⟨fun cap H=>O (x.iY.fn cap H 99000),fun v cap H=>O (h.iY.fn (v::cap) H 99000)⟩
theorem ajk{f:FuncId}{us:Array Value}{u r:FrameMode}{w:World}{R y:Ending->World->Prop}(h:CallsDIn ke 0 P f us u w fun e x w'=>x=r/\R e w')(k:∀e w,R e w->y e w):CallsDIn ke 0 P f us u w fun e x w'=>x=r/\y e w':=
 h.mono fun e x w' z=>⟨z.1,k e w' z.2⟩
theorem rI.of{f:FuncId}{x h:Spec}(d:uc P f=ab)
  (j:∀l H n i y,x.dec l H=O (i,y)->l=qU (v_ y n) (x.args i)/\dK H y=qI (v_ y n) (x.hp i))
  (b:∀i,(∀c∈x.pre i,c.p)->∀w us,qn (fun R=>CallsDIn ke 0 P f us.toArray .returning w fun e k w'=>k=.returning/\R e w') .returned w us (x.args i) (x.hp i) (x.ret i) (x.hp' i))
  (u:∀l H n i y,h.dec l H=O (i,y)->l=qU (v_ y n) (h.args i)/\dK H y=qI (v_ y n) (h.hp i))
  (a:∀i,(∀c∈h.pre i,c.p)->∀w pv us,qn (fun R=>CallsDIn ke 0 P f us.toArray (.panicking [{v:=pv,recovered:=ah}]) w fun e k w'=>k=.panicking [{v:=pv,recovered:=ab}]/\R e w') .returned w (pv::us) (h.args i) (h.hp i) (h.ret i) (h.hp' i)):
  rI P f (DC.of x h):=by
 refine⟨d,fun cap H r z hp w us=>?_,fun v cap H r z hp w pv us=>?_⟩
 ·simp only[DC.of,Option.some.injEq]at z
  subst z;exact x.au8 ajk j (fun i hi=>b i hi w us) cap H 99000 hp
 ·simp only[DC.of,Option.some.injEq]at z
  subst z;exact h.au8 ajk u (fun i hi=>a i hi w pv us) (v::cap) H 99000 hp
def En(X:List (Nat×(List SV->Option (lq×SV)))):Nl:=fun f=>cu X f
def JC(X:List (Nat×DC)):FuncId->Option DC:=fun f=>cu X f
def yH(P:Program)(X:List (Nat×(List SV->Option (lq×SV)))):Prop:=∀f t,En X f=O t->Hc P f t
def A7(P:Program)(X:List (Nat×DC)):Prop:=∀f d,JC X f=O d->rI P f d
theorem yH.nil:yH P []:=fun f c h=>by cases h
theorem A7.nil:A7 P []:=fun f c h=>by cases h
theorem yH.cons{f:Nat}{c:List SV->Option (lq×SV)}{X:List (Nat×(List SV->Option (lq×SV)))}(h1:Hc P f c)(y:yH P X):yH P ((f,c)::X):=by
 intro g x h;simp only[En,cu]at h;cases z:ap g f
 ·rw[z]at h;exact y g x h
 ·simp_all
theorem A7.cons{f:Nat}{c:DC}{X:List (Nat×DC)}(h1:rI P f c)(y:A7 P X):A7 P ((f,c)::X):=by
 intro g x h;simp only[JC,cu]at h;cases z:ap g f
 ·rw[z]at h;exact y g x h
 ·simp_all
theorem ag_{G:xp}(z:m P G){X:List (Nat×(List SV->Option (lq×SV)))}(k:yH P X){Δ:List (Nat×DC)}(y:A7 P Δ)(u:P.follows .mixedOrders=ab){Ω:bO}{f:FuncId}{fn:Func}(r:P.funcs[f]? =O fn){args:bL}{hp:bN}{x:Out}
 {T:Prop} (e:T=MC P (oC G) (En X) Ω (JC Δ) fn args hp x) (h:T):Sat P f args hp x.get.1 x.get.2:=aQE z u k y r rfl (e▸h)
end
def Hd(k:IntKind)(xs:N):SV:=.ag (xs.map fun x=>.v (.int k x))
section
variable{D:aW}{w:World}{β:bp}
theorem asr{k:IntKind}:∀(xs:N),Z D w β (xs.map fun x=>.v (.int k x)) (xs.map (cg k))
 | []=>by simp[Z]
 |x::xs=>by
  simp only[kd,Z];exact⟨_,_,rfl,by simp[F],asr xs⟩
theorem aoQ{k:IntKind}:∀(xs:N) {us:bG},Z D w β (xs.map fun x=>.v (.int k x)) us->us=xs.map (cg k)
 | [],_,h=>by simpa [Z]using h
 |x::xs,_,h=>by
  simp only[kd,Z]at h;obtain⟨u,e,rfl,y,z⟩:=h;simp only[F]at y;rw[y,aoQ xs z,kd]
theorem akd{k:IntKind}{xs:N}{u:Value}(h:F D w β (.av (.ints k xs)) u):F D w β (Hd k xs) u:=by
 unfold Hd;simp only[F]at h|-;subst h;exact⟨_,rfl,asr xs⟩
theorem azb{k:IntKind}{xs:N}{u:Value}(h:F D w β (Hd k xs) u):F D w β (.av (.ints k xs)) u:=by
 unfold Hd at h;simp only[F]at h|-;obtain⟨us,rfl,h⟩:=h;rw[aoQ xs h]
end
theorem qn.aMi{C:(Ending->World->Prop)->Prop}{en:Value->Ending}{w:World}{us:bG}{args:bL}{hp:bN}{ret:SV}{hp':bN}(h:qn C en w (.nilIface::us) (.v .nilIface::args) hp ret hp'):qn C en w us args hp ret hp':=by
 intro D β x y z e;refine h D β ?_ y z e;simp only[Z];exact⟨_,_,rfl,by simp[F],x⟩
theorem au9{P:Program}{G:xp}(k:m P G)(i:P.follows .mixedOrders=ab){Ω:bO}{f:FuncId}{fn:Func}(r:P.funcs[f]? =O fn){v:SV}{args:bL}{hp:bN}{x:Out}
 {T:Prop} (e:T=QX P (oC G) Ω fn v args hp x) (h:T) (w:World) (us:bG) {u z:FrameMode} {pv:Value}
 (j:∀(y:Frame) (cs:List Frame),y.mode=u->(recoverD (y::cs)=O (pv,{y with mode:=z}::cs))\/(recoverD (y::cs)=ae/\pv=.nilIface/\z=u)):
 qn (fun R=>CallsDIn ke 0 P f us.toArray u w fun e n w'=>n=z/\R e w') .returned w (pv::us) (v::args) hp x.get.1 x.get.2:=aQD k i r rfl (e▸h) w us j
def JE(v h:Value)(w:World):Prop:=h.ownBlock=v.ownBlock\/∀g,h.ownBlock=O g->w.heap.size<=g
section
variable{w:World}{t u ty e:TypeId}{i:TypeInfo}{v:Value}{n:Nat}{xs:bG}
theorem aN3(p:(ar).underlying t=O (.slice e))(q:(ar).underlying u=O .string)(hi:(ar).info? e=O i)(C:i.zero=O (.int .u8 0))(o:i.size=1)(A:i.bytes=1)
  (c:w.ownsRowF 0 e 1 v n xs) (s:M) (F:n+s.size<=140737488355328):
  ∃r w',(n9 #[t,u] ty #[v,.string s]).run ar w=.ok r w'/\w'.ownsRowF 0 e 1 r (n+s.size) (xs++rH s)/\w.grownBy w' v.ownBlock/\JE v r w:=by
 have d:n+s.size<=maxLen:=by unfold maxLen;omega
 rcases c.2 with⟨rfl,rfl⟩|⟨g,cap,y,a,rfl,E,b,J,U,G,H,N⟩
 ·obtain⟨r,w',S,D,T,W⟩:=Lib.run_append_own_string (P:=ar) w w.heap.size t u ty e i p q hi C o A (.slice ae 0 0) 0 xs ⟨c.1,.inl ⟨rfl,rfl⟩⟩ s d F (gL _)
  refine⟨r,w',S,?_,T,.inr fun g b=>?_⟩
  ·have:=YK D
   refine⟨this.1,this.2.imp id ?_⟩;rintro⟨g,cap,y,a,R,V,k3⟩;exact⟨g,cap,y,a,R,dx _,k3⟩
  ·exact((YK D).lt g b).1
 ·have l:xs.length=n:=by simpa using c.1
  have h:(xs++rH s).length=(n+s.size)*1:=by rw[gn,l,AZ,xj]
  by_cases B:n+s.size<=cap
  ·have I:y.size=cap:=by simpa using H
   have m:=Lib.run_append_room_stringF (P:=ar) w t u ty e i p q hi o g n cap y a b (by simpa using J) s B Y;refine⟨_,_,m,⟨h,.inr ⟨g,cap,_,a,rfl,E,zN w g y _ e _ b,Y,B,G,?_,?_⟩⟩,⟨rfl,rfl,rfl,aj,fun k _ z=>D7 w g k _ (fun e=>z (by simp[ni,e]))⟩,.inl rfl⟩
   ·simp only[zO,gn,mT,nW,uT,AZ]
    omega
   ·have L:y.toList.take n=xs:=by simpa using N
    rw[L,<-h];exact Je
  ·have x:∀j u,xs[j]? =O u->w.cell? ((⟨g,0,ae⟩:Addr).add j)=O u:=c.cells (g:=g) rfl
   have m:=Lib.run_append_grow_string (P:=ar) w t u ty e i (.int .u8 0) p q hi C ⟨g,0,ae⟩ n cap xs (by rw[o];simpa using l) x s Y (by unfold maxLen at d;omega) (by rw[A];exact Jf Y Y);have K:=grownCap_ge w (n+s.size) cap e;have f:grownCap w (n+s.size) cap e<=maxLen:=YD w (n+s.size) cap e d;refine⟨_,_,m,⟨h,.inr ⟨w.heap.size,_,_,(0,0),rfl,dx _,D4 w.drew _,dx _,K,f,?_,?_⟩⟩,⟨rfl,rfl,rfl,aj,fun k z _=>nY w.drew _ k z⟩,.inr fun k z=>by simp[ni]at z;omega⟩
   ·have Q:(cg CM 0).cells.size=1:=rfl
    simp only[aiA,zO,size_zeroCells,Q,l,AZ];omega
   ·simp only[MO,qQ]
    rw[<-qQ,<-h];exact Je
theorem aN2(B:(ar).underlying t=O (.slice e))(hi:(ar).info? e=O i)(G:i.zero=O (.int .u8 0))(z:i.size=1)(E:i.bytes=1)
  (p:w.ownsRowF 0 e 1 v n xs) (a:Addr) (c:Nat) (x:Value) (W:w.cell? a=O x) (h1:x.oneCell'=ab) (oJ:n+1<=140737488355328):
  ∃d w',(n9 #[t,t] ty #[v,.slice (O a) 1 c]).run ar w=.ok d w'/\w'.ownsRowF 0 e 1 d (n+1) (xs++ [x])/\w.grownBy w' v.ownBlock/\JE v d w:=by
 have s:n+1<=maxLen:=by unfold maxLen;omega
 have I:(cg CM 0).cells.size=1:=rfl;have K:a.add 0=a:=by cases a;simp[Addr.add]
 have A:∀j u,[x][j]? =O u->w.cell? (a.add j)=O u:=fun j u o=>by
  match j,o with
  |0,o=>simp at o;subst o;rw[K];exact W
 have D:∀u∈[x],u.oneCell'=ab:=fun u V=>by rw[List.mem_singleton.1 V];exact h1
 rcases p.2 with⟨rfl,rfl⟩|⟨g,cap,r,f,rfl,L,m,R,Di,M,N,U⟩
 ·obtain⟨d,w',Z,J,r3,r4⟩:=run_append_own (P:=ar) w w.heap.size t ty e i (.int .u8 0) 1 1 B hi G z E I H (.slice ae 0 0) 0 xs ⟨p.1,.inl ⟨rfl,rfl⟩⟩ a 1 c [x] rfl A D s Y (gL _)
  refine⟨d,w',Z,?_,r3,.inr fun g m=>?_⟩
  ·have:=YK J
   refine⟨this.1,this.2.imp id ?_⟩;rintro⟨g,cap,r,f,X,k2,k3⟩;exact⟨g,cap,r,f,X,dx _,k3⟩
  ·exact((YK J).lt g m).1
 ·have C:xs.length=n:=by simpa using p.1
  have h:(xs++ [x]).length=(n+1)*1:=by rw[gn,C];simp
  by_cases F:n+1<=cap
  ·have Q:r.size=cap:=by simpa using N
   have q:=run_append_roomF (P:=ar) w t ty e i B hi g n cap r f m (by rw[z];simpa using R) a 1 c [x] (by rw[z];rfl) A D F (by rw[z];show n*1+1<=_;omega);rw[z,xj]at q;refine⟨_,_,q,⟨h,.inr ⟨g,cap,_,f,rfl,L,zN w g r _ e _ m,Y,F,M,?_,?_⟩⟩,⟨rfl,rfl,rfl,aj,fun k _ b=>D7 w g k _ (fun e=>b (by simp[ni,e]))⟩,.inl rfl⟩
   ·simp only[zO,gn,mT,nW,uT,rG]
    omega
   ·have T:r.toList.take n=xs:=by simpa using U
    rw[T,<-h];exact Je
  ·have y:∀j u,xs[j]? =O u->w.cell? ((⟨g,0,ae⟩:Addr).add j)=O u:=p.cells (g:=g) rfl
   have q:=run_append_grow (P:=ar) w t ty e i (.int .u8 0) B hi G ⟨g,0,ae⟩ n cap xs (by rw[z];simpa using C) y a 1 c [x] (by rw[z];rfl) A Y (by unfold maxLen at s;omega) (by rw[E];exact Jf Y Y);have S:=grownCap_ge w (n+1) cap e;have l:grownCap w (n+1) cap e<=maxLen:=YD w (n+1) cap e s;refine⟨_,_,q,⟨h,.inr ⟨w.heap.size,_,_,(0,0),rfl,dx _,D4 w.drew _,dx _,S,l,?_,?_⟩⟩,⟨rfl,rfl,rfl,aj,fun k b _=>nY w.drew _ k b⟩,.inr fun k b=>by simp[ni]at b;omega⟩
   ·simp only[aiA,zO,size_zeroCells,I,C,rG]
    omega
   ·simp only[MO,qQ]
    rw[<-qQ,<-h];exact Je
end
theorem aSM{z:Array Oper}{y:List Oper}{o:Oper}{a:Act}{w:World}{Q:Exit->Act->World->Prop}(c:o.guard=ae)(k x:Operand)
  (d:o.op=.call {callee:=.builtin .append,args:=#[k,x],argTypes:=#[106,9]}) {v:Value} {n:Nat} {xs:bG} (m:a.eval k=v) (f:w.ownsRowF 0 5 1 v n xs) {s:M} (p:a.eval x=.string s) (b:n+s.size<=140737488355328)
  (h:∀e w',w'.ownsRowF 0 5 1 e (n+s.size) (xs++rH s)->w.grownBy w' v.ownBlock->JE v e w->wpList ar z Q y (a.put o.dst e) w'):wpList ar z Q (o::y) a w:=by
 refine wpList_plain c fun K j=>?_;obtain⟨i,hi,q,r,u⟩:=info_parts (show((ar).info? 5).map (fun i=>(i.zero,i.size,i.bytes))=O (O (.int .u8 0),1,1)by kernel_rfl);obtain⟨e,w',g,t,l,k3⟩:=aN3 (ty:=o.type) aiL YL hi q r u f s b;unfold yF execOp;simp only[d,resolve,invoke,builtin,fX,iV,gM,Jh,kd,uU,m,p,g];exact j _ _ (h e w' t l k3)
theorem aSL{e:Array Oper}{z:List Oper}{o:Oper}{a:Act}{w:World}{Q:Exit->Act->World->Prop}(b:o.guard=ae)(r x:Operand)
  (d:o.op=.call {callee:=.builtin .append,args:=#[r,x],argTypes:=#[106,106]}) {v:Value} {n:Nat} {xs:bG} (m:a.eval r=v) (f:w.ownsRowF 0 5 1 v n xs) {ad:Addr} {c:Nat} {y:Value} (p:a.eval x=.slice (O ad) 1 c) (q:w.cell? ad=O y) (h1:y.oneCell'=ab) (j:n+1<=140737488355328)
  (h:∀k w',w'.ownsRowF 0 5 1 k (n+1) (xs++ [y])->w.grownBy w' v.ownBlock->JE v k w->wpList ar e Q z (a.put o.dst k) w'):wpList ar e Q (o::z) a w:=by
 refine wpList_plain b fun K u=>?_;obtain⟨i,hi,s,t,l⟩:=info_parts (show((ar).info? 5).map (fun i=>(i.zero,i.size,i.bytes))=O (O (.int .u8 0),1,1)by kernel_rfl);obtain⟨k,w',g,A,B,C⟩:=aN2 (ty:=o.type) aiL hi s t l f ad c y q h1 j;unfold yF execOp;simp only[d,resolve,invoke,builtin,fX,iV,gM,Jh,kd,uU,m,p,g];exact u _ _ (h k w' A B C)
theorem dv.rfl'{X:aW}{w:World}:dv X w w:=⟨gL _,rfl,rfl,rfl,fun _ _ _=>rfl⟩
theorem dv.tr{X Y Z:aW}{a b c:World}(h:dv X a b)(k:dv Y b c)(i:∀g,X g->Z g)(j:∀g,g<a.heap.size->Y g->Z g):dv Z a c:=by
 obtain⟨z,r,u,v,w⟩:=h;obtain⟨n,d,k3,f,m⟩:=k;exact⟨sY z n,d.trans r,k3.trans u,f.trans v,fun g x e=>(m g (ng x z) fun y=>e (j g x y)).trans (w g x fun y=>e (i g y))⟩
theorem dv.setCell(w:World)(b o:Nat)(x:Value):dv (fun g=>g=b) w (w.setCell ⟨b,o,ae⟩ x):=⟨aj,rfl,rfl,rfl,fun g _ h=>aiM w ⟨b,o,ae⟩ g x h⟩
theorem dv.grown{w w':World}{r:Option Nat}(h:w.grownBy w' r):dv (fun g=>O g=r) w w':=⟨h.size,h.os,h.tape,h.output,fun g x y=>h.block g x y⟩
section
variable{b:Nat}{w:World}{a v:Value}{s x:M}{xs:N}
def slf(b:Nat):Value:=.pointer (O ⟨b,0,ae⟩)
def Pu(b:Nat)(a:Value):Prop:=a=.pointer ae\/a=slf b
theorem az8(h0:w.cell? ⟨b,0,ae⟩=O (.pointer (O ⟨b,0,ae⟩))):Calls ar 110 #[.pointer (O ⟨b,0,ae⟩)] w fun e w'=>e=.returned (.tuple #[])/\w'=w:=by
 obtain⟨j,hj,TE⟩:=Option.map_eq_some_iff.1 (show((ar).info? 123).map (·.size)=O 2 by kernel_rfl)
 go_wp2
 rw[Lib.run_neq_ptr_same w _ YM hj]
 go_wp2
 go_end0
 grind
theorem az7(h0:w.cell? ⟨b,0,ae⟩=O (.pointer ae))(hsh:w.shape? b=O (183,3))(Dh:w.frozen? ⟨b,0,ae⟩=ah):
  Calls ar 110 #[.pointer (O ⟨b,0,ae⟩)] w fun e w'=>e=.returned (.tuple #[])/\w'=w.setCell ⟨b,0,ae⟩ (.pointer (O ⟨b,0,ae⟩)):=by
 obtain⟨j,hj,TE⟩:=Option.map_eq_some_iff.1 (show((ar).info? 123).map (·.size)=O 2 by kernel_rfl)
 go_enter Tryz.func110,Tryz.ntmps110
 go_wp2
 rw[Lib.run_to_unsafe w ⟨b,0,ae⟩ YM aiN hj (by rw[TE];decide) hsh (Nat.zero_lt_succ 2)];simp only[Eh];rw[ai4]
 go_wp2
 rw[uW Tryz.func155 ax ax ax (e:=Extern.AbiNoEscape.same) ax];rw[Lib.run_noEscape];simp only[Eh];rw[ai4]
 go_wp2
 rw[Lib.run_from_unsafe w ⟨b,0,ae⟩ aiN YM hj hsh ax];simp only[Eh];rw[ai4]
 go_wp2
 go_end0
 exact⟨rfl,rfl⟩
theorem ak3(h:w.heap[b]? =O (.cells #[a,v,.string s] 183 (0,0)))(z:Pu b a):Calls ar 110 #[.pointer (O ⟨b,0,ae⟩)] w fun e w'=>
  e=.returned (.tuple #[])/\w'.heap[b]? =O (.cells #[slf b,v,.string s] 183 (0,0))/\dv (fun g=>g=b) w w'/\w'.heap.size=w.heap.size:=by
 have y:w.cell? ⟨b,0,ae⟩=O a:=by rw[wz h];rfl
 rcases z with rfl|rfl
 ·refine(az7 y (by simp[ai5,h]) (aiO h 0)).mono ?_
  rintro e w' ⟨rfl,rfl⟩;refine⟨rfl,?_,dv.setCell w b 0 _,aj⟩;rw[YC w b 0 _ _ _ _ h,zN w b _ _ _ _ h];rfl
 ·refine(az8 y).mono ?_
  grind [dv.rfl']
theorem PA{w w':World}{e:TypeId}{n:Nat}{y:bG}(h:w.ownsRowF 0 e 1 v n y)(r:∀g,v.ownBlock=O g->w'.heap[g]? =w.heap[g]?):w'.ownsRowF 0 e 1 v n y:=by
 refine⟨h.1,?_⟩;rcases h.2 with u|⟨g,cap,z,k,rfl,i,j,k3⟩
 ·grind
 ·grind [ni]
structure RP (b:Nat) (v:Value) (s:M) (ys:List Value) (w w':World):Prop where
 ex:∃v',w'.heap[b]? =O (.cells #[slf b,v',.string s] 183 (0,0))/\w'.ownsRowF 0 5 1 v' ys.length ys/\JE v v' w
 QJ:dv (fun g=>g=b\/v.ownBlock=O g) w w'
theorem Mp{w:World}{b:Nat}{o:Obj}(h:w.heap[b]? =O o):b<w.heap.size:=(Array.getElem?_eq_some_iff.1 h).1
set_option maxHeartbeats 2000000 in
theorem aSP(hb:w.heap[b]? =O (.cells #[a,v,.string s] 183 (0,0)))(ha:Pu b a)(cD:w.ownsRowF 0 5 1 v xs.length (xs.map (cg .u8)))(fF:v.ownBlock≠O b)(hlen:xs.length+x.size<=140737488355328):
  Calls ar 76 #[.pointer (O ⟨b,0,ae⟩),.string x] w fun e w'=>e=.returned (.tuple #[.int .i64 x.size,.nilIface])/\RP b v s (xs.map (cg .u8)++rH x) w w':=by
 go_enter Tryz.func76,Tryz.ntmps76
 go_wp2_with (go_at_call 110;refine(ak3 hb ha).mono ?_)
 rintro e w1 ⟨rfl,po,KB,mP⟩;have c0:w1.cell? ⟨b,0,ae⟩=O (.pointer (O ⟨b,0,ae⟩)):=by rw[wz po];rfl
 have c1:w1.cell? ⟨b,1,ae⟩=O v:=by rw[wz po];rfl
 have acg:w1.ownsRowF 0 5 1 v xs.length (xs.map (cg .u8)):=PA cD fun g hg=>KB.2.2.2.2 g (cD.lt g hg).2 (fun e=>fF (e▸hg))
 go_wp2_with (at_builtin;refine aSM rfl _ _ rfl rfl acg rfl hlen ?_)
 intro v' w2 tj Oz iZ;have ai:b<w1.heap.size:=Mp po;have jn:w2.heap[b]? =O (.cells #[.pointer (O ⟨b,0,ae⟩),v,.string s] 183 (0,0)):=by
  rw[Oz.block b ai (fun e=>fF e.symm)];exact po
 have d0:w2.cell? ⟨b,0,ae⟩=O (.pointer (O ⟨b,0,ae⟩)):=by rw[wz jn];rfl
 have d1:w2.cell? ⟨b,1,ae⟩=O v:=by rw[wz jn];rfl
 have f1:w2.frozen? ⟨b,1,ae⟩=ah:=aiO jn 1;have OQ:v'.ownBlock≠O b:=by
  rcases iZ with h|h
  ·rw[h];exact fF
  ·exact fun h2=>absurd (h b h2) Y
 have vH:v'.oneCell'=ab:=by
  rcases tj.2 with⟨rfl,_⟩|⟨g,cap,cj,fz,rfl,_⟩<;>rfl
 have fin:RP b v s (xs.map (cg .u8)++rH x) w (w2.setCell ⟨b,1,ae⟩ v'):=by
  refine⟨⟨v',?_,?_,?_⟩,?_⟩
  ·rw[YC w2 b 1 _ _ _ _ jn,zN w2 b _ _ _ _ jn];rfl
  ·rw[gn,qk,AZ]
   exact PA tj fun g hg=>aiM w2 ⟨b,1,ae⟩ g _ (fun e=>OQ (by rw[hg];exact dR O e))
  ·rcases iZ with h|h
   ·exact .inl h
   ·exact .inr fun g hg=>by have:=h g hg;omega
  ·refine dv.tr (dv.tr KB (dv.grown Oz) (Z:=fun g=>g=b\/v.ownBlock=O g) (fun g h=>.inl h) (fun g _ h=>.inr h.symm)) (dv.setCell w2 b 1 v') (fun g h=>h) (fun g _ h=>.inl h)
 obtain⟨ao,n',cap,rfl⟩:∃ao n' cap,v'=.slice ao n' cap:=by
  rcases tj.2 with⟨hv,_⟩|⟨g,cap,cj,fz,hv,_⟩
  ·exact⟨_,_,_,hv⟩
  ·exact⟨_,_,_,hv⟩
 go_wp2
 go_ret2
 exact⟨rfl,fin⟩
set_option maxHeartbeats 2000000 in
theorem aSI{c:Int}(hb:w.heap[b]? =O (.cells #[a,v,.string s] 183 (0,0)))(ha:Pu b a)(cD:w.ownsRowF 0 5 1 v xs.length (xs.map (cg .u8)))(fF:v.ownBlock≠O b)(hlen:xs.length+1<=140737488355328):
  Calls ar 126 #[.pointer (O ⟨b,0,ae⟩),.int .u8 c] w fun e w'=>e=.returned .nilIface/\RP b v s (xs.map (cg .u8)++ [.int .u8 c]) w w':=by
 go_enter Tryz.func126,Tryz.ntmps126
 go_wp2_with (go_at_call 110;refine(ak3 hb ha).mono ?_)
 rintro e w1 ⟨rfl,po,KB,mP⟩;have c0:w1.cell? ⟨b,0,ae⟩=O (.pointer (O ⟨b,0,ae⟩)):=by rw[wz po];rfl
 have c1:w1.cell? ⟨b,1,ae⟩=O v:=by rw[wz po];rfl
 have ai:b<w1.heap.size:=Mp po;have hle:=zP KB.1;clear mP;have acg:(w1.alloc (.cells #[.int .u8 c] 5)).ownsRowF 0 5 1 v xs.length (xs.map (cg .u8)):=PA cD fun g hg=>by
  have h1:=(cD.lt g hg).2;rw[nY w1 _ g (ng h1 hle.out)];exact KB.2.2.2.2 g h1 (fun e=>fF (e▸hg))
 go_wp2_with (at_builtin;refine aSL rfl _ _ rfl rfl acg (ad:=⟨w1.heap.size,0,ae⟩) (c:=1) (y:=.int .u8 c) rfl ?cy rfl hlen ?_)
 case cy=>simp
 intro v' w2 tj Oz iZ;have jn:w2.heap[b]? =O (.cells #[.pointer (O ⟨b,0,ae⟩),v,.string s] 183 (0,0)):=by
  rw[Oz.block b (by simp;omega) (fun e=>fF e.symm),nY w1 _ b ai];exact po
 have d0:w2.cell? ⟨b,0,ae⟩=O (.pointer (O ⟨b,0,ae⟩)):=by rw[wz jn];rfl
 have d1:w2.cell? ⟨b,1,ae⟩=O v:=by rw[wz jn];rfl
 have f1:w2.frozen? ⟨b,1,ae⟩=ah:=aiO jn 1;have OQ:v'.ownBlock≠O b:=by
  rcases iZ with h|h
  ·rw[h];exact fF
  ·exact fun h2=>absurd (h b h2) (by simp;omega)
 have ki:dv (fun _=>False) w1 (w1.alloc (.cells #[.int .u8 c] 5)):=⟨aj,rfl,rfl,rfl,fun g hg _=>nY w1 _ g hg⟩;have fin:RP b v s (xs.map (cg .u8)++ [.int .u8 c]) w (w2.setCell ⟨b,1,ae⟩ v'):=by
  refine⟨⟨v',?_,?_,?_⟩,?_⟩
  ·rw[YC w2 b 1 _ _ _ _ jn,zN w2 b _ _ _ _ jn];rfl
  ·rw[gn,qk,rG]
   exact PA tj fun g hg=>aiM w2 ⟨b,1,ae⟩ g _ (fun e=>OQ (by rw[hg];exact dR O e))
  ·rcases iZ with h|h
   ·exact .inl h
   ·exact .inr fun g hg=>sY hle.out (sY aj (h g hg))
  ·refine dv.tr (dv.tr (dv.tr KB ki (Z:=fun g=>g=b) (fun g h=>h) (fun g _ h=>h.elim)) (dv.grown Oz) (Z:=fun g=>g=b\/v.ownBlock=O g) (fun g h=>.inl h) (fun g _ h=>.inr h.symm)) (dv.setCell w2 b 1 v') (fun g h=>h) (fun g _ h=>.inl h)
 obtain⟨ao,n',cap,rfl⟩:∃ao n' cap,v'=.slice ao n' cap:=by
  rcases tj.2 with⟨hv,_⟩|⟨g,cap,cj,fz,hv,_⟩
  ·exact⟨_,_,_,hv⟩
  ·exact⟨_,_,_,hv⟩
 go_wp2
 go_ret
 exact⟨rfl,fin⟩
theorem Ug(hb:w.heap[b]? =O (.cells #[a,v,.string s] 183 (0,0)))(cD:w.ownsRowF 0 5 1 v xs.length (xs.map (cg .u8))):
  Calls ar 77 #[.pointer (O ⟨b,0,ae⟩)] w fun e w'=>e=.returned (.int .i64 xs.length)/\w'=w:=by
 have c1:w.cell? ⟨b,1,ae⟩=O v:=by rw[wz hb];rfl
 obtain⟨ao,cap,rfl⟩:∃ao cap,v=.slice ao xs.length cap:=by
  rcases cD.2 with⟨hv,h0⟩|⟨g,cap,cj,fz,hv,_⟩
  ·grind
  ·grind
 go_wp2
 go_ret
 simp
end
section
variable{b:Nat}{w:World}{a v:Value}{s x:M}{xs:N}
structure pU (b:Nat) (a v:Value) (s:M) (xs:N) (w w':World):Prop where
 od:w'.heap[b]? =O (.cells #[a,v,.string s] 183 (0,0))
 row:w'.ownsRowF 0 5 1 v xs.length (xs.map (cg .u8))
 QJ:dv (fun g=>v.ownBlock=O g) w w'
theorem dv.freeze(w:World)(g n:Nat):dv (fun k=>k=g) w (w.freeze ⟨g,0,ae⟩ n):=by
 unfold World.freeze;split
 ·exact dv.rfl'
 ·exact⟨aj,rfl,rfl,rfl,fun k _ h=>by simp only[aiI];rw[V (GG h)]⟩
theorem dv.alloc(w:World)(o:Obj):dv (fun _=>False) w (w.alloc o):=⟨aj,rfl,rfl,rfl,fun g h _=>nY w o g h⟩
theorem u8s(h:∀x∈xs,0<=x/\x<256):xs.map (cg .u8)=ai6 (xs.map fun n=>zW n.toNat):=by
 unfold ai6;rw[MS];refine CD fun n y=>?_;have:=h n y;show cg .u8 n=cg .u8 _;grind [UInt8.toNat_ofNat']
theorem aKj{g n cap:Nat}{e:bG}(h:w.ownsRowF 0 5 1 (.slice (O ⟨g,0,ae⟩) n cap) n e):(w.freeze ⟨g,0,ae⟩ n).ownsRowF 0 5 1 (.slice (O ⟨g,0,ae⟩) n cap) n e:=by
 unfold World.freeze;split
 ·exact h
 ·refine⟨h.1,?_⟩
  rcases h.2 with⟨y,_⟩|⟨i,k,r,u,y,j,d,c,z⟩
  ·cases y
  ·grind
set_option maxHeartbeats 2000000 in
theorem avX(hb:w.heap[b]? =O (.cells #[a,v,.string s] 183 (0,0)))(cD:w.ownsRowF 0 5 1 v xs.length (xs.map (cg .u8)))(fF:v.ownBlock≠O b)(hx:∀x∈xs,0<=x/\x<256):
  Calls ar 78 #[.pointer (O ⟨b,0,ae⟩)] w fun e w'=>e=.returned (.string (strOfNums xs))/\pU b a v s xs w w':=by
 have ai:=Mp hb;have c1:∀w':World,w'.heap[b]? =w.heap[b]? ->w'.cell? ⟨b,1,ae⟩=O v:=fun w' h=>by rw[wz (h.trans hb)];rfl
 by_cases h0:xs= []
 ·subst h0
  have hUS:∀(W:World) (q:Option Addr),(axR #[157,3] 9 #[.pointer q,.int .i64 0]).run ar W=.ok (.string .empty) W:=fun W q=>Lib.run_unsafeString_none W _ _ _ q;rcases cD.2 with⟨rfl,_⟩|⟨g,cap,cj,fz,rfl,Kj,hg,r⟩
  ·have d1:=c1 w.drew rfl
   have hSD:(Y2 #[106] 157 #[.slice ae 0 0]).run ar w.drew=.ok (.pointer ae) w.drew:=rfl;have fin:pU b a (.slice ae 0 0) s [] w w.drew:=⟨hb,cD,dv.rfl'⟩
   go_enter Y3,Y4
   go_wp2
   go_region
   all_goals(go_wp2;go_ret;exact⟨rfl,fin⟩)
  ·by_cases hc0:cap=0
   ·subst hc0
    have d1:=c1 w.drew rfl;have hSD:(Y2 #[106] 157 #[.slice (O ⟨g,0,ae⟩) 0 0]).run ar w.drew=.ok (.pointer (O ⟨w.drew.heap.size,0,ae⟩)) (w.drew.alloc (.view ⟨g,0,ae⟩ 5)):=
     Lib.run_unsafeSliceData_zero w.drew _ _ 5 aiP ⟨g,0,ae⟩ 0 (5,cj.size) (by have np:w.drew.heap[g]? =O (.cells cj 5 fz):=hg;simp[ai5,np])
    have c2:=c1 (w.drew.alloc (.view ⟨g,0,ae⟩ 5)) (nY w.drew _ b ai);have c3:(w.alloc (.view ⟨g,0,ae⟩ 5)).drew.cell? ⟨b,1,ae⟩=O (.slice (O ⟨g,0,ae⟩) 0 0):=c2;have c0:w.cell? ⟨b,1,ae⟩=O (.slice (O ⟨g,0,ae⟩) 0 0):=d1;have fin:pU b a (.slice (O ⟨g,0,ae⟩) 0 0) s [] w (w.drew.alloc (.view ⟨g,0,ae⟩ 5)):=⟨(nY w.drew _ b ai).trans hb,PA cD fun k hk=>nY w.drew _ k (cD.lt k hk).2,dv.tr (Z:=fun k=>_) (b:=w.drew) dv.rfl' (dv.alloc w.drew _) (fun _ (h:False)=>h.elim) (fun _ _ h=>h.elim)⟩
    go_enter Y3,Y4
    go_wp2
    go_region
    all_goals(go_wp2;go_ret;exact⟨rfl,fin⟩)
   ·have d1:=c1 w.drew rfl
    have hSD:(Y2 #[106] 157 #[.slice (O ⟨g,0,ae⟩) 0 cap]).run ar w.drew=.ok (.pointer (O ⟨g,0,ae⟩)) w.drew:=axS _ _ _ _ _ _ hc0;have fin:pU b a (.slice (O ⟨g,0,ae⟩) 0 cap) s [] w w.drew:=⟨hb,cD,dv.rfl'⟩;clear hc0
    go_enter Y3,Y4
    go_wp2
    go_region
    all_goals(go_wp2;go_ret;exact⟨rfl,fin⟩)
 ·obtain⟨l,hl⟩:∃l:List UInt8,l=xs.map fun n=>zW n.toNat:=⟨_,rfl⟩
  have ON:l.length=xs.length:=by rw[hl,qk]
  have wP:l≠[]:=fun h=>by rw[h]at hl;exact h0 (List.map_eq_nil_iff.1 hl.symm)
  have rb:xs.length≠0:=fun h=>h0 (r9 h);have anC:=u8s hx;rw[<-hl]at anC;obtain⟨g,cap,cj,fz,rfl,Kj,hg,Dh,Di,ti,jf,Ap⟩:∃g cap cj fz,v=.slice (O ⟨g,0,ae⟩) xs.length cap/\0<=g/\w.heap[g]? =O (.cells cj 5 fz)/\fz.2<=xs.length*1/\xs.length<=cap/\cap<=maxLen/\cj.size=cap*1/\cj.toList.take (xs.length*1)=xs.map (cg .u8):=by
   rcases cD.2 with⟨_,hz⟩|⟨g,cap,cj,fz,hv,r⟩
   ·exact absurd hz rb
   ·exact⟨g,cap,cj,fz,hv,r⟩
  have d1:=c1 w.drew rfl;have Ks:g≠b:=fun e=>fF (by simp[ni,e]);have hSD:(Y2 #[106] 157 #[.slice (O ⟨g,0,ae⟩) xs.length cap]).run ar w.drew=.ok (.pointer (O ⟨g,0,ae⟩)) w.drew:=axS _ _ _ _ _ _ Y;have hUS:(axR #[157,3] 9 #[.pointer (O ⟨g,0,ae⟩),.int .i64 xs.length]).run ar w.drew=.ok (.string (strOfNums xs)) (w.drew.freeze ⟨g,0,ae⟩ xs.length):=by
   have:=Lib.run_unsafeString_row (P:=ar) w.drew 157 3 9 5 aiP ax g cj.size (by have np:w.drew.heap[g]? =O (.cells cj 5 fz):=hg;simp[ai5,np]) l wP Y (by unfold maxLen at ti;omega) (by
    intro j y hy;exact cD.cells (g:=g) rfl j (.int .u8 y.toNat) (by rw[anC];simp[ai6,hy]))
   rw[ON]at this;rw[this,hl];rfl
  have fin:pU b a (.slice (O ⟨g,0,ae⟩) xs.length cap) s xs w (w.drew.freeze ⟨g,0,ae⟩ xs.length):=⟨((dv.freeze w.drew g xs.length).2.2.2.2 b ai (GG Ks)).trans hb,aKj cD,dv.tr (Z:=fun k=>_) (b:=w.drew) dv.rfl' (dv.freeze w.drew g xs.length) (fun _ (h:False)=>h.elim) (fun k _ (h:k=g)=>by rw[h];rfl)⟩
  go_enter Y3,Y4
  go_wp2
  go_region
  all_goals(go_wp2;go_ret;exact⟨rfl,fin⟩)
end
section
variable{b:Nat}{w:World}{a v:Value}{s x:M}{xs:N}{d:Int}
theorem pU.tr{y z:World}(h:pU b a v s xs w y)(k:pU b a v s xs y z):pU b a v s xs w z:=⟨k.od,k.row,dv.tr h.QJ k.QJ (fun _ h=>h) (fun _ _ h=>h)⟩
theorem pU.cell{y:World}(h:pU b a v s xs w y):y.cell? ⟨b,2,ae⟩=O (.string s):=by rw[wz h.od];rfl
def sc(T:M)(i:Int):Int:=((T.data.toList.getD i.toNat 0).toNat:Nat)
theorem aoH(T:M)(i:Int)(h0:0<=i)(h1:i<T.size)(w:World):(Instr.index 9 (.string T) (.int .i64 i)).run ar w=.ok (.int .u8 (sc T i)) w:=by
 rw[run_index_string w 9 T .i64 i YL,dif_pos ⟨h0,h1⟩];unfold sc;have h:i.toNat<T.data.toList.length:=by simp_all
 rw[jR,kB h];rfl
set_option maxHeartbeats 4000000 in
theorem azv(hb:w.heap[b]? =O (.cells #[a,v,.string s] 183 (0,0)))(cD:w.ownsRowF 0 5 1 v xs.length (xs.map (cg .u8)))(fF:v.ownBlock≠O b)(hx:∀x∈xs,0<=x/\x<256)(h0:1<=d)(h1:d<=xs.length)(h2:xs.length<=4611686018427387904):
  Calls ar 127 #[.pointer (O ⟨b,0,ae⟩),.int .i64 d] w fun e w'=>e=.returned (.int .u8 (sc (strOfNums xs) (xs.length-d)))/\pU b a v s xs w w':=by
 have fB:(strOfNums xs).size=xs.length:=by unfold strOfNums;show(List.toArray _).size=_;simp
 have o1:pU b a v s xs w w.drew:=⟨hb,cD,dv.rfl'⟩;have hw:Q .i64 ((xs.length:Int)-d)=xs.length-d:=wr Y Y;have hi:=aoH (strOfNums xs) (xs.length-d) Y (by rw[fB];omega);clear fB;obtain⟨Qw,HM⟩:∃Qw,sc (strOfNums xs) (xs.length-d)=Qw:=⟨_,rfl⟩;rw[HM]at hi|-;clear HM h2
 go_enter Tryz.func127,Tryz.ntmps127
 go_wp2_with (go_at_call 77;refine(Ug hb cD).mono ?_;rintro e w' ⟨rfl,hq⟩;replace hq:=hq.symm;subst hq)
 go_region_held3 (fun w'=>w'.cell? ⟨b,2,ae⟩=O (.string s)/\pU b a v s xs w w')
  (first|exact⟨k0,k1⟩|exact⟨o1.cell,o1⟩|exact⟨o0.cell,o0⟩)
  (first|(go_at_call 77;obtain⟨q0,q1⟩:= ‹_/\pU b a v s xs w _›;refine(Ug q1.od q1.row).mono ?_;rintro e w' ⟨rfl,hq⟩;replace hq:=hq.symm;subst hq;have k0:=q0;have k1:=q1)|(go_at_call 78;obtain⟨q0,q1⟩:= ‹_/\pU b a v s xs w _›;refine(avX q1.od q1.row fF hx).mono ?_;rintro e w' ⟨rfl,hr⟩;have k1:=q1.tr hr;have k0:=k1.cell))
 all_goals(go_wp2;go_ret;exact⟨rfl,k1⟩)
set_option maxHeartbeats 4000000 in
theorem azw(hb:w.heap[b]? =O (.cells #[a,v,.string s] 183 (0,0)))(cD:w.ownsRowF 0 5 1 v xs.length (xs.map (cg .u8)))(h0:(xs.length:Int)<d)(h1:d<=s.size+xs.length)(h2:xs.length<=1152921504606846976)(h3:s.size<=1152921504606846976):
  Calls ar 127 #[.pointer (O ⟨b,0,ae⟩),.int .i64 d] w fun e w'=>e=.returned (.int .u8 (sc s (s.size+xs.length-d)))/\pU b a v s xs w w':=by
 have o0:pU b a v s xs w w:=⟨hb,cD,dv.rfl'⟩;have o1:pU b a v s xs w w.drew:=⟨hb,cD,dv.rfl'⟩;have hw1:Q .i64 ((s.size:Int)+xs.length)=s.size+xs.length:=wr Y Y;have hw2:Q .i64 ((s.size:Int)+xs.length-d)=s.size+xs.length-d:=wr Y Y;have hi:=aoH s (s.size+xs.length-d) Y Y;obtain⟨Qw,HM⟩:∃Qw,sc s (s.size+xs.length-d)=Qw:=⟨_,rfl⟩;rw[HM]at hi|-;have hd:¬d<=xs.length:=Y;clear HM h1 h2 h3 h0
 go_enter Tryz.func127,Tryz.ntmps127
 go_wp2_with (go_at_call 77;refine(Ug hb cD).mono ?_;rintro e w' ⟨rfl,hq⟩;replace hq:=hq.symm;subst hq)
 go_region_held3 (fun w'=>w'.cell? ⟨b,2,ae⟩=O (.string s)/\pU b a v s xs w w')
  (first|exact⟨k0,k1⟩|exact⟨o1.cell,o1⟩|exact⟨o0.cell,o0⟩)
  (first|(go_at_call 77;obtain⟨q0,q1⟩:= ‹_/\pU b a v s xs w _›;refine(Ug q1.od q1.row).mono ?_;rintro e w' ⟨rfl,hq⟩;replace hq:=hq.symm;subst hq;have k0:=q0;have k1:=q1))
 all_goals(go_wp2;go_ret;exact⟨rfl,k1⟩)
end
theorem UI{D:aW}{β:bp}{w w':World}{v k:Loc}{s:M}{xs j:N}{a n rv:Value}{ret:SV}(G:xr D w β [(0,.ob 183 1 s),(1,.fr 5 xs)])(p:A9 D w)(gR:∀l,β l≠ae->l∈[0,1])
  (h0:β 0=O v) (h1:β 1=O k) (o:v.nil=ah) (X:w'.heap[v.g]? =O (.cells #[a,n,.string s] 183 (0,0))) (W:Pu v.g a) (m:w'.ownsRowF 0 5 1 n j.length (j.map (cg .u8))) (J:∀x∈j,0<=x/\x<256)
  (iZ:JE k.val n w) (ht:dv (fun g=>g=v.g\/k.val.ownBlock=O g) w w') (fF:k.val.ownBlock≠O v.g) (ai:v.g<w.heap.size) (Kz:∀(D:aW) (w:World) (β:bp),F D w β ret rv):
  ∃D' β',tZ D β w [(0,.ob 183 1 s),(1,.fr 5 xs)] ret [(0,.ob 183 2000 s),(2000,.fr 5 j)] rv D' β' w':=by
 obtain⟨La,C,ba,B⟩:=G.1 0 _ (.head _);obtain⟨Lb,E,bb,T⟩:=G.1 1 _ (.tail _ (.head _));rw[h0]at C;cases C;rw[h1]at E;cases E;have c:∀g,k.val.ownBlock=O g->k.nil=ah/\g=k.g:=fun g y=>by
  unfold Loc.val at y;cases u:k.nil
  ·rw[u]at y;simp[ni]at y;exact⟨rfl,y.symm⟩
  ·rw[u]at y;simp[ni]at y
 obtain⟨t,t2,t3,t4,P⟩:=ht;have qB:∀g,D g->w'.heap[g]? =w.heap[g]? :=fun g y=>P g (p g y) fun h=>by
  rcases h with rfl|h
  ·exact(B o).1 y
  ·obtain⟨b,rfl⟩:=c g h;exact(T b).1 y
 obtain⟨e,U,Q,K⟩:∃e:Loc,e.val=n/\(∀β,gk D w' β e (.fr 5 j))/\(e.nil=ah->n.ownBlock=O e.g):=by
  rcases m.2 with⟨rfl,hz⟩|⟨g,cap,S,V,rfl,r⟩
  ·exact⟨⟨0,1,j.length,0,ab⟩,rfl,fun β=>⟨J,rfl,rfl,m.1,.inl ⟨rfl,hz⟩⟩,fun h=>by cases h⟩
  ·exact⟨⟨g,1,j.length,cap,ah⟩,rfl,fun β=>⟨J,rfl,rfl,m.1,.inr ⟨g,cap,S,V,rfl,r⟩⟩,fun _=>rfl⟩
 have q:∀{l:Nat},l∈[0,1]->l≠2000:=fun h=>by simp at h;omega
 have d:e.nil=ah->e.g≠v.g/\¬D e.g/\(w.heap.size<=e.g\/(k.nil=ah/\e.g=k.g)):=fun u=>by
  have ho:=K u;rcases iZ with h|h
  ·grind
  ·have:=h _ ho
   exact⟨Y,fun Z=>by have:=p _ Z;omega,.inl this⟩
 refine⟨D,jD β 2000 (O e),⟨⟨fun _ h=>h,qB,fun l L z=>?_⟩,Kz _ _ _,⟨fun l A i=>?_,fun l l' A R L L' i I z f n1 n2 y=>?_⟩,fun g y=>⟨.inl y,ng (p g y) t⟩,fun l L z=>?_,fun l A L i z u=>?_,t2,t3,t4,t,fun g y u=>P g y fun h=>?_⟩⟩
 ·rw[gy _ _ (q (gR l (by rw[z];simp)))];exact z
 ·simp only[nZ,Prod.mk.injEq,Rj,or_false]at i
  rcases i with⟨rfl,rfl⟩|⟨rfl,rfl⟩
  ·exact⟨v,by rw[gy _ _ H];exact h0,⟨o,a,n,X,W,by simp only[F];exact⟨e,gK _ _ _,U.symm⟩⟩,fun _=>⟨(B o).1,ng ai t⟩⟩
  ·exact⟨e,gK _ _ _,Q _,fun u=>⟨(d u).2.1,(m.lt _ (K u)).2⟩⟩
 ·simp only[nZ,Prod.mk.injEq,Rj,or_false]at i I
  rcases i with⟨rfl,rfl⟩|⟨rfl,rfl⟩<;>rcases I with⟨rfl,rfl⟩|⟨rfl,rfl⟩
  ·rfl
  ·rw[gy _ _ H,h0]at z;cases z
   rw[gK]at f;cases f;exact absurd y.symm (d n2).1
  ·rw[gy _ _ H,h0]at f;cases f
   rw[gK]at z;cases z;exact absurd y (d n1).1
  ·rfl
 ·by_cases h:l=2000
  ·subst h;exact .inr aj
  ·rw[gy _ _ h]at z;exact .inl z
 ·simp only[nZ,Prod.mk.injEq,Rj,or_false]at i
  rcases i with⟨rfl,rfl⟩|⟨rfl,rfl⟩
  ·rw[gy _ _ H,h0]at z;cases z
   exact .inr ⟨0,_,v,.head _,h0,u,rfl⟩
  ·rw[gK]at z;cases z
   rcases(d u).2.2 with h|⟨b,k2⟩
   ·exact .inl h
   ·exact .inr ⟨1,_,k,.tail _ (.head _),h1,b,k2.symm⟩
 ·refine u ?_
  rcases h with rfl|h
  ·exact⟨0,_,v,.head _,h0,o,rfl⟩
  ·obtain⟨b,rfl⟩:=c g h
   exact⟨1,_,k,.tail _ (.head _),h1,b,rfl⟩
structure ayV (w:World) (L0 L1:Loc) (s:M) (xs:N):Prop where
 n0:L0.nil=ah
 ex:∃a,w.heap[L0.g]? =O (.cells #[a,L1.val,.string s] 183 (0,0))/\Pu L0.g a
 own:w.ownsRowF 0 5 1 L1.val xs.length (xs.map (cg .u8))
 JZ:∀x∈xs,0<=x/\x<256
 ne:L1.val.ownBlock≠O L0.g
 lt:L0.g<w.heap.size
theorem UJ{D:aW}{β:bp}{w:World}{s:M}{xs:N}(k:xr D w β [(0,.ob 183 1 s),(1,.fr 5 xs)]):∃y x,β 0=O y/\β 1=O x/\ayV w y x s xs:=by
 obtain⟨y,v,⟨r,a,u,b,n,d⟩,j⟩:=k.1 0 _ (.head _);obtain⟨x,z,⟨f,_,_,c⟩,g⟩:=k.1 1 _ (.tail _ (.head _));obtain⟨L,e,rfl⟩:=d;rw[z]at e;cases e;refine⟨y,x,v,z,r,⟨a,b,n⟩,c,f,fun h=>?_,(j r).2⟩;unfold Loc.val at h;cases i:x.nil
 ·rw[i]at h;simp[ni]at h
  have:=k.2 0 1 _ _ y x (.head _) (.tail _ (.head _)) v z r i h.symm;cases this
 ·grind [ni]
def Xu:Spec where
 ι:=M×N×M
 own:=ab
 dec l H:=match l with
  | [.p l0 0 0,.v (.string x)]=>match H l0 with
    |some (.ob 183 l1 s)=>match H l1 with
     |some (.fr 5 xs)=>O ((s,xs,x),[l0,l1])
     |_=>ae
    |_=>ae
  |_=>ae
 args:=fun(s,xs,x)=>[U 0,aD x]
 hp:=fun(s,xs,x)=>[(0,.ob 183 1 s),(1,.fr 5 xs)]
 pre:=fun(s,xs,x)=>[E (xs.length<=4294967296),E (x.size<=4294967296)]
 out:=fun(s,xs,x)=>.leaf (.tu [B x.size,.v .nilIface]) [(0,.ob 183 2000 s),(2000,.fr 5 (xs++dY x))]
theorem aPm:Xu.dn:=by
 intro l H n i x h;simp only[Xu]at h
 repeat' split at h
 all_goals first|(cases h;done)|(cases h;exact⟨rfl,rfl⟩)|(cases h;refine⟨rfl,?_⟩;simp only[dK,iF,iN,gN, *];rfl)
def Xt:Spec where
 ι:=M×N×Int
 own:=ab
 dec l H:=match l with
  | [.p l0 0 0,.v (.int .u8 c)]=>match H l0 with
    |some (.ob 183 l1 s)=>match H l1 with
     |some (.fr 5 xs)=>O ((s,xs,c),[l0,l1])
     |_=>ae
    |_=>ae
  |_=>ae
 args:=fun(s,xs,c)=>[U 0,.v (.int .u8 c)]
 hp:=fun(s,xs,c)=>[(0,.ob 183 1 s),(1,.fr 5 xs)]
 pre:=fun(s,xs,c)=>[E (xs.length<=4294967296),E (0<=c),E (c<256)]
 out:=fun(s,xs,c)=>.leaf (.v .nilIface) [(0,.ob 183 2000 s),(2000,.fr 5 (xs++ [c]))]
theorem aPl:Xt.dn:=by
 intro l H n i x h;simp only[Xt]at h
 repeat' split at h
 all_goals first|(cases h;done)|(cases h;exact⟨rfl,rfl⟩)|(cases h;refine⟨rfl,?_⟩;simp only[dK,iF,iN,gN, *];rfl)
def Xv:Spec where
 ι:=M×N
 own:=ab
 dec l H:=match l with
  | [.p l0 0 0]=>match H l0 with
    |some (.ob 183 l1 s)=>match H l1 with
     |some (.fr 5 xs)=>O ((s,xs),[l0,l1])
     |_=>ae
    |_=>ae
  |_=>ae
 args:=fun(s,xs)=>[U 0]
 hp:=fun(s,xs)=>[(0,.ob 183 1 s),(1,.fr 5 xs)]
 pre:=fun(s,xs)=>[E (xs.length<=4294967296)]
 out:=fun(s,xs)=>.leaf (aD (strOfNums xs)) [(0,.ob 183 2000 s),(2000,.fr 5 xs)]
theorem aPn:Xv.dn:=by
 intro l H n i x h;simp only[Xv]at h
 repeat' split at h
 all_goals first|(cases h;done)|(cases h;exact⟨rfl,rfl⟩)|(cases h;refine⟨rfl,?_⟩;simp only[dK,iF,iN,gN, *];rfl)
def Xs:Spec where
 ι:=M×N×Int
 own:=ab
 dec l H:=match l with
  | [.p l0 0 0,.v (.int .i64 d)]=>match H l0 with
    |some (.ob 183 l1 s)=>match H l1 with
     |some (.fr 5 xs)=>O ((s,xs,d),[l0,l1])
     |_=>ae
    |_=>ae
  |_=>ae
 args:=fun(s,xs,d)=>[U 0,B d]
 hp:=fun(s,xs,d)=>[(0,.ob 183 1 s),(1,.fr 5 xs)]
 pre:=fun(s,xs,d)=>[E (xs.length<=4294967296),E (s.size<=4294967296),E (1<=d),E (d<=s.size+xs.length)]
 out:=fun(s,xs,d)=>.leaf (.v (.int .u8 (if d<=xs.length then sc (strOfNums xs) (xs.length-d)else sc s (s.size+xs.length-d)))) [(0,.ob 183 2000 s),(2000,.fr 5 xs)]
theorem aPk:Xs.dn:=by
 intro l H n i x h;simp only[Xs]at h
 repeat' split at h
 all_goals first|(cases h;done)|(cases h;exact⟨rfl,rfl⟩)|(cases h;refine⟨rfl,?_⟩;simp only[dK,iF,iN,gN, *];rfl)
theorem aRm(x:M):rH x=(dY x).map (cg .u8):=by unfold rH dY;rw[MS];rfl
theorem azZ(x:M):∀y∈dY x,0<=y/\y<256:=fun y h=>by
 unfold dY at h;obtain⟨z,_,rfl⟩:=List.mem_map.1 h;have:=z.toNat_lt;omega
theorem aJv(s:M)(xs:N)(x:M)(h1:xs.length<=4294967296)(A:x.size<=4294967296):Sat ar 76 [.p 0 0 0,.v (.string x)] [(0,.ob 183 1 s),(1,.fr 5 xs)] (.tu [.v (.int .i64 x.size),.v .nilIface]) [(0,.ob 183 2000 s),(2000,.fr 5 (xs++dY x))]:=by
 intro D β w us f i b m;obtain⟨t,l,k,n,h⟩:=UJ i;obtain⟨a,d,c⟩:=h.ex;obtain⟨u,_,rfl,⟨L,r,_,rfl⟩,C,_,rfl,rfl,rfl⟩:=f;rw[k]at r;cases r;have z:=aSP (x:=x) d c h.own h.ne Y;simp only[CJ,uS];refine z.mono ?_;rintro e w' ⟨rfl,⟨E,o,j,k3⟩,q⟩;rw[aRm,<-yA,qk]at j;obtain⟨D',β',B⟩:=UI i b m k n h.n0 o (.inr rfl) j (fun y g=>(List.mem_append.1 g).elim (h.JZ y) (azZ x y)) k3 q h.ne h.lt (ret:=.tu [.v (.int .i64 x.size),.v .nilIface]) fun D w β=>by simp only[F,Z];exact⟨_,rfl,_,_,rfl,rfl,_,_,rfl,rfl,rfl⟩
 grind
theorem aJt(s:M)(xs:N)(c:Int)(h1:xs.length<=4294967296)(b:0<=c)(d:c<256):Sat ar 126 [.p 0 0 0,.v (.int .u8 c)] [(0,.ob 183 1 s),(1,.fr 5 xs)] (.v .nilIface) [(0,.ob 183 2000 s),(2000,.fr 5 (xs++ [c]))]:=by
 intro D β w us o i f t;obtain⟨B,C,k,n,x⟩:=UJ i;obtain⟨a,m,g⟩:=x.ex;obtain⟨u,_,rfl,⟨L,r,_,rfl⟩,G,_,rfl,rfl,rfl⟩:=o;rw[k]at r;cases r;have z:=aSI (c:=c) m g x.own x.ne Y;simp only[CJ,uS];refine z.mono ?_;rintro e w' ⟨rfl,⟨H,l,j,k3⟩,A⟩;rw[show xs.map (cg .u8)++ [cg .u8 c]=(xs++ [c]).map (cg .u8)by rw[yA];rfl,qk]at j;obtain⟨D',β',E⟩:=UI i f t k n x.n0 l (.inr rfl) j (fun y q=>(List.mem_append.1 q).elim (x.JZ y) fun h=>by rw[List.mem_singleton.1 h];exact⟨b,d⟩) k3 A x.ne x.lt (ret:=.v .nilIface) (rv:=.nilIface) fun D w β=>by simp only[F]
 grind
theorem aJx(s:M)(xs:N):Sat ar 78 [.p 0 0 0] [(0,.ob 183 1 s),(1,.fr 5 xs)] (.v (.string (strOfNums xs))) [(0,.ob 183 2000 s),(2000,.fr 5 xs)]:=by
 intro D β w us d i n f;obtain⟨g,m,z,j,x⟩:=UJ i;obtain⟨a,c,b⟩:=x.ex;obtain⟨u,_,rfl,⟨L,r,_,rfl⟩,rfl⟩:=d;rw[z]at r;cases r;have y:=avX c x.own x.ne x.JZ;simp only[CJ,uS];refine y.mono ?_;rintro e w' ⟨rfl,k⟩;obtain⟨D',β',o⟩:=UI i n f z j x.n0 k.od b k.row x.JZ (.inl rfl) (dv.tr k.QJ (dv.rfl' (X:=fun _=>False)) (fun _ h=>.inr h) fun _ _ h=>h.elim) x.ne x.lt (ret:=.v (.string (strOfNums xs))) (rv:=.string (strOfNums xs)) fun D w β=>by simp only[F]
 grind
theorem aJr(s:M)(xs:N)(d:Int)(h1:xs.length<=4294967296)(C:s.size<=4294967296)(o:1<=d)(q:d<=s.size+xs.length):Sat ar 127 [.p 0 0 0,.v (.int .i64 d)] [(0,.ob 183 1 s),(1,.fr 5 xs)] (.v (.int .u8 (if d<=xs.length then sc (strOfNums xs) (xs.length-d)else sc s (s.size+xs.length-d)))) [(0,.ob 183 2000 s),(2000,.fr 5 xs)]:=by
 intro D β w us A b t B;obtain⟨c,f,i,m,x⟩:=UJ b;obtain⟨a,n,l⟩:=x.ex;obtain⟨u,_,rfl,⟨L,j,_,rfl⟩,G,_,rfl,rfl,rfl⟩:=A;rw[i]at j;cases j;simp only[CJ,uS];have y:∀r e w',e=Ef (cg .u8 r)/\pU c.g a f.val s xs w w'->∃v D' β',e=.returned v/\tZ D β w [(0,.ob 183 1 s),(1,.fr 5 xs)] (.v (.int .u8 r)) [(0,.ob 183 2000 s),(2000,.fr 5 xs)] v D' β' w':=by
  rintro r e w' ⟨rfl,k⟩;obtain⟨D',β',E⟩:=UI b t B i m x.n0 k.od l k.row x.JZ (.inl rfl) (dv.tr k.QJ (dv.rfl' (X:=fun _=>False)) (fun _ h=>.inr h) fun _ _ h=>h.elim) x.ne x.lt (ret:=.v (.int .u8 r)) (rv:=.int .u8 r) fun D w β=>by simp only[F]
  grind
 by_cases z:d<=xs.length
 ·rw[I z]
  exact(azv n x.own x.ne x.JZ o z Y).mono fun e w' h=>y _ e w' h
 ·rw[V z]
  exact(azw n x.own Y q Y Y).mono fun e w' h=>y _ e w' h
theorem aJw:Sound ar 76 Xu.iY:=Xu.sound ax aPm fun(s,xs,x) h=>aJv s xs x (h _ (.head _)) (h _ (.tail _ (.head _)))
theorem aJu:Sound ar 126 Xt.iY:=Xt.sound ax aPl fun(s,xs,c) h=>aJt s xs c (h _ (.head _)) (h _ (.tail _ (.head _))) (h _ (.tail _ (.tail _ (.head _))))
theorem aJy:Sound ar 78 Xv.iY:=Xv.sound ax aPn fun(s,xs) h=>aJx s xs
theorem aJs:Sound ar 127 Xs.iY:=Xs.sound ax aPk fun(s,xs,d) h=>aJr s xs d (h _ (.head _)) (h _ (.tail _ (.head _))) (h _ (.tail _ (.tail _ (.head _)))) (h _ (.tail _ (.tail _ (.tail _ (.head _)))))
end Go.Proofs.YtegnkfbnmepmpaaGreatDoor
namespace Go.Proofs.YtegnkfbnmepmpaaGreatDoor
open Go Go.RowKit Go.Extern.Stop Go.Stop Go.Extern
def QZ(a:Addr):Value:=.agg #[.pointer (O ⟨2,251,ae⟩),.pointer (O a),.int .u64 150]
theorem aTU(t:Addr)(w:World):(ReflectliteValue.unpack (.iface 251 (.pointer (O t)))).run ar w
 =.ok (.agg #[.pointer (O ⟨2,251,ae⟩),.pointer (O ⟨w.heap.size,0,ae⟩),.int .u64 150]) (w.alloc (.cells #[.pointer (O t)] 251)):=by rfl
theorem aTR(a:Addr)(w:World):(ReflectliteValue.methodAny (ReflectliteValue.valueError "reflectlite.Value.Type" 0) (fun t _ _ _=>ReflectliteType.toType t) #[.agg #[.pointer (O ⟨2,251,ae⟩),.pointer (O a),.int .u64 150]]).run ar w
 =.ok (.iface 360 (.agg #[.pointer (O ⟨2,251,ae⟩)])) w:=by rfl
theorem aTi(w:World):((ReflectliteType.abiMethod fun t=>(fun a:Nat=>cg CM (a:Int))<$>Rtype.kind t) #[.pointer (O ⟨2,251,ae⟩)]).run ar w=.ok (.int .u8 22) w:=by rfl
theorem aTj(w:World):((ReflectliteType.abiMethod fun t=>(fun a:Nat=>cg CM (a:Int))<$>Rtype.kind t) #[.pointer (O ⟨2,246,ae⟩)]).run ar w=.ok (.int .u8 25) w:=by rfl
theorem axr(z:Sem Value)(f:TypeId->Addr->Nat->Nat->Sem Value)(v:Value):ReflectliteValue.method z f #[v]=(do match<-ReflectliteValue.parts v with|none=>z|some (t,a,h)=>f t a h (h%32)):=rfl
theorem axo(a:Addr)(w:World):(ReflectliteValue.parts (.agg #[.pointer (O ⟨2,251,ae⟩),.pointer (O a),.int .u64 150])).run ar w=.ok (O (251,a,150)) w:=by rfl
theorem aTh(a p:Addr)(W:World)(h:W.cell? a=O (.pointer (O p))):
  (ReflectliteValue.method (ReflectliteValue.valueError "reflectlite.Value.IsNil" 0) ReflectliteValue.isNil #[.agg #[.pointer (O ⟨2,251,ae⟩),.pointer (O a),.int .u64 150]]).run ar W=.ok (.bool ah) W:=by
 rw[axr];simp only[fX,axo,Eh];simp[ReflectliteValue.isNil,loadVar,isAgg,underlying,axT,h,Eh]
theorem aTo(h:Value)(w:World):(GX 304 360 (.agg #[h]) "Kind").run ar w=.ok (347,h) w:=by rfl
theorem aTm(h:Value)(w:World):(GX 304 360 (.agg #[h]) "Elem").run ar w=.ok (362,.agg #[h]) w:=by rfl
theorem aTn(h:Value)(w:World):(GX 304 360 (.agg #[h]) "Implements").run ar w=.ok (363,.agg #[h]) w:=by rfl
theorem axk(h:Value)(w:World):(GX 304 360 (.agg #[h]) "AssignableTo").run ar w=.ok (360,.agg #[h]) w:=by rfl
theorem aS'(w:World):(ReflectliteType.method ReflectliteType.elem #[.agg #[.pointer (O ⟨2,251,ae⟩)]]).run ar w=.ok (.iface 360 (.agg #[.pointer (O ⟨2,246,ae⟩)])) w:=by rfl
theorem aTg(w:World):(ReflectliteType.relation "Implements" ReflectliteType.implements_ #[.agg #[.pointer (O ⟨2,246,ae⟩)],.iface 360 (.agg #[.pointer (O ⟨2,126,ae⟩)])]).run ar w=.ok (.bool ab) w:=ax
theorem aTS(v:Value)(w:World):(ReflectliteType.typeOf #[.iface 246 v]).run ar w=.ok (.iface 360 (.agg #[.pointer (O ⟨2,246,ae⟩)])) w:=by rfl
theorem aTT(v:Value)(w:World):(ReflectliteType.typeOf #[.iface 294 v]).run ar w=.ok (.iface 360 (.agg #[.pointer (O ⟨2,294,ae⟩)])) w:=by rfl
theorem aS4(w:World):(ReflectliteType.relation "AssignableTo" ReflectliteType.assignableTo #[.agg #[.pointer (O ⟨2,246,ae⟩)],.iface 360 (.agg #[.pointer (O ⟨2,246,ae⟩)])]).run ar w=.ok (.bool ab) w:=ax
theorem aS5(w:World):(ReflectliteType.relation "AssignableTo" ReflectliteType.assignableTo #[.agg #[.pointer (O ⟨2,294,ae⟩)],.iface 360 (.agg #[.pointer (O ⟨2,246,ae⟩)])]).run ar w=.ok (.bool ah) w:=ax
theorem aTV(e i:Int)(w:World):(ReflectliteValue.unpack (.iface 246 (.agg #[.int .i64 e,.int .i64 i]))).run ar w
 =.ok (.agg #[.pointer (O ⟨2,246,ae⟩),.pointer (O ⟨w.heap.size,0,ae⟩),.int .u64 153]) (w.alloc (.cells #[.int .i64 e,.int .i64 i] 246)):=by rfl
theorem aTa(w:World):(Rtype.elem? 251).run ar w=.ok (O 246) w:=by rfl
theorem xMk(p:Addr)(w:World):(ReflectliteValue.mk 246 p ReflectliteValue.flagAddr).run ar w=.ok (.agg #[.pointer (O ⟨2,246,ae⟩),.pointer (O p),.int .u64 409]) w:=by rfl
theorem aTb(a p:Addr)(W:World)(h:W.cell? a=O (.pointer (O p))):
  (ReflectliteValue.method (ReflectliteValue.valueError "reflectlite.Value.Elem" 0) ReflectliteValue.elem #[.agg #[.pointer (O ⟨2,251,ae⟩),.pointer (O a),.int .u64 150]]).run ar W
    =.ok (.agg #[.pointer (O ⟨2,246,ae⟩),.pointer (O p),.int .u64 409]) W:=by
 rw[axr];simp only[fX,axo,Eh];simp[ReflectliteValue.elem,loadVar,isAgg,underlying,axT,h,Eh,aTa,xMk]
theorem aTD(v x:Value):ReflectliteValue.set #[v,x]=(do
 let(O (dst,a,h),O (src,b,_)):=(<-ReflectliteValue.parts v,<-ReflectliteValue.parts x)
  |unsupported (.noEntry "extern/(internal/reflectlite.Value).Set.zeroValue")
 if h/ReflectliteValue.flagAddr%2==0 then unsupported (.noEntry "extern/(internal/reflectlite.Value).Set.unaddressable")
 let val<-loadVar src b
 if<-Rtype.directlyAssignable dst src then storeVar dst a val
 else if<-Rtype.implements dst src then
  if(<-Rtype.kind src)==20 then
   match val with
   |.nilIface=>unsupported (.noEntry "extern/reflectlite: a nil value of one interface type handed on as a value of another")
   |_=>storeVar dst a val
  else storeVar dst a (.iface src val)
 else panicString ("reflectlite.Set: value of type "++(<-Rtype.spelt src)++ " is not assignable to type "++(<-Rtype.spelt dst))
 pure (.tuple #[])):=rfl
theorem aTy(a:Addr)(w:World):(ReflectliteValue.parts (.agg #[.pointer (O ⟨2,246,ae⟩),.pointer (O a),.int .u64 409])).run ar w=.ok (O (246,a,409)) w:=by rfl
theorem aTz(a:Addr)(w:World):(ReflectliteValue.parts (.agg #[.pointer (O ⟨2,246,ae⟩),.pointer (O a),.int .u64 153])).run ar w=.ok (O (246,a,153)) w:=by rfl
theorem aS6(w:World):(Rtype.directlyAssignable 246 246).run ar w=.ok ab w:=by rfl
theorem aGU(v:Value)(w:World):(zV (.iface 294 v) 126 364 ab).run ar w=.ok (.tuple #[.nilIface,.bool ah]) w:=MT Tryz.underlying364 ax ax v _ w
theorem aGZ(v:Value)(w:World):(zV (.iface 294 v) 126 367 ab).run ar w=.ok (.tuple #[.nilIface,.bool ah]) w:=MT aiQ ax ax v _ w
theorem aDy(v:Value)(w:World):(zV (.iface 294 v) 126 369 ab).run ar w=.ok (.tuple #[.iface 294 v,.bool ab]) w:=run_typeAssert_hasB Tryz.underlying369 ax v _ w
theorem aTp(v:Value)(w:World):(GX 369 294 v "Unwrap").run ar w=.ok (354,v) w:=by rfl
theorem aTJ(T B:Nat)(e i h x:Int)(W:World)(k:W.heap[T]? =O (.cells #[.int .i64 h,.int .i64 x] 246 (0,0)))(hB:W.heap[B]? =O (.cells #[.int .i64 e,.int .i64 i] 246 (0,0))):
  (ReflectliteValue.set #[.agg #[.pointer (O ⟨2,246,ae⟩),.pointer (O ⟨T,0,ae⟩),.int .u64 409],.agg #[.pointer (O ⟨2,246,ae⟩),.pointer (O ⟨B,0,ae⟩),.int .u64 153]]).run ar W
    =.ok (.tuple #[]) (W.setRow T #[.int .i64 e,.int .i64 i]):=by
 have y:W.cell? ⟨B,0,ae⟩=O (.int .i64 e):=by rw[wz hB];rfl
 have z:W.cell? ⟨B,1,ae⟩=O (.int .i64 i):=by rw[wz hB];rfl
 obtain⟨j,r,u⟩:=Option.map_eq_some_iff.1 (show((ar).info? 246).map (·.size)=O 2 by kernel_rfl);have v:=run_storeCells_at ar T 0 246 [.int .i64 e,.int .i64 i] 0 #[.int .i64 h,.int .i64 x] W k aj (by simp[tY]);rw[aTD];simp only[fX,aTy,aTz,Eh];simp[ReflectliteValue.flagAddr,loadVar,isAgg,underlying,Tryz.underlying246,Eh,aS6,storeVar,sizeOf,typeInfo,r,u,loadCells,loadCellsFrom,Addr.add,y,z,CO,v]
section
variable{w:World}{T A g0 g1 cap:Nat}{e i o0 o1:Int}{tgt:Value}
def xg(A:Nat):Obj:=.cells #[.pointer (O ⟨2,251,ae⟩),.pointer (O ⟨A,0,ae⟩),.int .u64 150] 301 (0,0)
def QS:Value:=.iface 360 (.agg #[.pointer (O ⟨2,246,ae⟩)])
theorem aQI{W:World}{T:Nat}{cs:Array Value}:dv (fun g=>g=T) W (W.setRow T cs):=⟨aj,rfl,rfl,rfl,fun g _ h=>D7 W T g cs h⟩
theorem Bj{W y:World}{g o:Nat}{x:Value}(h:W.cell? ⟨g,o,ae⟩=O x)(z:y.heap[g]? =W.heap[g]?):y.cell? ⟨g,o,ae⟩=O x:=(aah z).trans h
set_option maxHeartbeats 4000000 in
theorem azr(hA:w.cell? ⟨A,0,ae⟩=O (.pointer (O ⟨T,0,ae⟩)))(hAl:A<w.heap.size)(hT:w.heap[T]? =O (.cells #[.int .i64 o0,.int .i64 o1] 246 (0,0))):
  Calls ar 234 #[.iface 246 (.agg #[.int .i64 e,.int .i64 i]),tgt,QZ ⟨A,0,ae⟩,QS] w fun ev w'=>ev=.returned (.bool ab)/\w'.heap[T]? =O (.cells #[.int .i64 e,.int .i64 i] 246 (0,0))/\dv (fun g=>g=T) w w':=by
 have dt:=@uW ar 269 _ ReflectliteType.typeOf Tryz.func269 ax ax ax ax;have h35:=@uW ar 360 _ (ReflectliteType.relation "AssignableTo" ReflectliteType.assignableTo) Tryz.func360 ax ax ax ax;have gW:=@uW ar 281 _ (ReflectliteValue.method (ReflectliteValue.valueError "reflectlite.Value.Elem" 0) ReflectliteValue.elem) Tryz.func281 ax ax ax ax;have gp:=@uW ar 282 _ ReflectliteValue.set Tryz.func282 ax ax ax ax;have h6:=@uW ar 231 _ (fun args=>ReflectliteValue.unpack (args.getD 0 (.tuple #[]))) Tryz.func231 ax ax ax ax;have tO:=aTS;have mA:=axk;have a25:=aS4;have v25:=aTV e i;have Kf:=Mp hT;have el:=aTb ⟨A,0,ae⟩ ⟨T,0,ae⟩ (w.alloc (xg A)) (Bj hA (nY w _ A hAl));have hB1:(w.alloc (xg A)).heap.size=w.heap.size+1:=aj;have st:=aTJ T (w.heap.size+1) e i o0 o1 ((w.alloc (xg A)).alloc (.cells #[.int .i64 e,.int .i64 i] 246)) ((nY _ _ T (by simp;omega)).trans ((nY w _ T Kf).trans hT)) (by rw[<-hB1];exact D4 _ _);have fin:∀W,W=((w.alloc (xg A)).alloc (.cells #[.int .i64 e,.int .i64 i] 246)).setRow T #[.int .i64 e,.int .i64 i]->W.heap[T]? =O (.cells #[.int .i64 e,.int .i64 i] 246 (0,0))/\dv (fun g=>g=T) w W:=fun W hW=>by
  subst hW;refine⟨zN _ T _ _ _ _ ((nY _ _ T (by simp;omega)).trans ((nY w _ T Kf).trans hT)),?_⟩;exact dv.tr (dv.tr (dv.alloc w _) (dv.alloc _ _) (Z:=fun _=>False) (fun _ h=>h) (fun _ _ h=>h)) aQI (fun _ h=>h.elim) (fun _ _ h=>h)
 unfold xg at el st fin;unfold QZ QS
 go_enter Tryz.func234,Tryz.ntmps234
 go_wp2
 refine GN 1 ?_;rw[yE]
 go_wp2
 go_ret
 exact⟨rfl,fin _ rfl⟩
end
section
variable{w:World}{T A g0 g1 cap:Nat}{e i o0 o1:Int}{tgt:Value}
theorem aSl{v:Value}(h:w.cell? ⟨g0,0,ae⟩=O v):Calls ar 354 #[.pointer (O ⟨g0,0,ae⟩)] w fun e w'=>e=.returned v/\w'=w:=by
 go_wp2
 go_ret
 simp
set_option maxHeartbeats 4000000 in
theorem azs(hA:w.cell? ⟨A,0,ae⟩=O (.pointer (O ⟨T,0,ae⟩)))(hAl:A<w.heap.size)(hT:w.heap[T]? =O (.cells #[.int .i64 o0,.int .i64 o1] 246 (0,0)))
  (h0:w.cell? ⟨g0,0,ae⟩=O (.slice (O ⟨g1,0,ae⟩) 1 cap)) (h1:w.cell? ⟨g1,0,ae⟩=O (.iface 246 (.agg #[.int .i64 e,.int .i64 i]))) (l0:g0<w.heap.size) (l1:g1<w.heap.size):
  Calls ar 234 #[.iface 294 (.pointer (O ⟨g0,0,ae⟩)),tgt,QZ ⟨A,0,ae⟩,QS] w fun ev w'=>ev=.returned (.bool ab)/\w'.heap[T]? =O (.cells #[.int .i64 e,.int .i64 i] 246 (0,0))/\dv (fun g=>g=T) w w':=by
 have dt:=@uW ar 269 _ ReflectliteType.typeOf Tryz.func269 ax ax ax ax;have h35:=@uW ar 360 _ (ReflectliteType.relation "AssignableTo" ReflectliteType.assignableTo) Tryz.func360 ax ax ax ax;have tO:=aTT;have mA:=axk;have a25:=aS5;have n1:=aGU;have n2:=aGZ;have n3:=aDy;have n4:=aTp;have Kf:=Mp hT;have al:∀g,g<w.heap.size->(w.alloc (xg A)).heap[g]? =w.heap[g]? :=fun g hg=>nY w _ g hg;have c0:=Bj h0 (al g0 l0);have c1:=Bj h1 (al g1 l1);have key:=azr (e:=e) (i:=i) (tgt:=tgt) (Bj hA (al A hAl)) (by simp;omega) ((al T Kf).trans hT);have kt:=dv.alloc w (xg A);unfold xg at c0 c1 key kt;unfold QZ QS at key|-
 go_enter Tryz.func234,Tryz.ntmps234
 go_wp2
 refine GN 1 ?_;rw[yE]
 go_wp2_with (go_at_call 354;refine(aSl c0).mono ?_;rintro ev w' ⟨rfl,hw⟩;replace hw:=hw.symm;subst hw)
 refine GN 2 ?_;rw[yE]
 go_wp2_with (go_at_call 234;refine key.mono ?_;rintro ev w' ⟨rfl,ra,sm⟩)
 go_ret
 exact⟨rfl,ra,dv.tr kt sm (fun _ h=>h.elim) (fun _ _ h=>h)⟩
set_option maxHeartbeats 4000000 in
theorem ayd(hg:w.cell? ⟨1,0,ae⟩=O Nj)(hT:w.heap[T]? =O (.cells #[.int .i64 o0,.int .i64 o1] 246 (0,0)))
  (h0:w.cell? ⟨g0,0,ae⟩=O (.slice (O ⟨g1,0,ae⟩) 1 cap)) (h1:w.cell? ⟨g1,0,ae⟩=O (.iface 246 (.agg #[.int .i64 e,.int .i64 i]))) (l0:g0<w.heap.size) (l1:g1<w.heap.size) (lg:1<w.heap.size):
  Calls ar 176 #[.iface 294 (.pointer (O ⟨g0,0,ae⟩)),.iface 251 (.pointer (O ⟨T,0,ae⟩))] w fun ev w'=>ev=.returned (.bool ab)/\w'.heap[T]? =O (.cells #[.int .i64 e,.int .i64 i] 246 (0,0))/\dv (fun g=>g=T) w w':=by
 have h6:=@uW ar 231 _ (fun args=>ReflectliteValue.unpack (args.getD 0 (.tuple #[]))) Tryz.func231 ax ax ax ax;have h7:=@uW ar 232 _ (ReflectliteValue.methodAny (ReflectliteValue.valueError "reflectlite.Value.Type" 0) (fun t _ _ _=>ReflectliteType.toType t)) Tryz.func232 ax ax ax ax;have h8:=@uW ar 233 _ (ReflectliteValue.method (ReflectliteValue.valueError "reflectlite.Value.IsNil" 0) ReflectliteValue.isNil) Tryz.func233 ax ax ax ax;have h27:=@uW ar 347 _ (ReflectliteType.abiMethod fun t=>do pure (.int .u8 (<-Rtype.kind t))) Tryz.func347 ax ax ax ax;have h37:=@uW ar 362 _ (ReflectliteType.method ReflectliteType.elem) Tryz.func362 ax ax ax ax;have h38:=@uW ar 363 _ (ReflectliteType.relation "Implements" ReflectliteType.implements_) Tryz.func363 ax ax ax ax;have f6:=aTU ⟨T,0,ae⟩;have f7:=aTR;have mK:=aTo;have mE:=aTm;have mI:=aTn;have k27:=aTi;have k25:=aTj;have e27:=aS';have i25:=aTg;have Kf:=Mp hT;have w1:∀g,g<w.heap.size->((w.alloc (.cells #[.pointer (O ⟨T,0,ae⟩)] 251)).alloc (xg w.heap.size)).heap[g]? =w.heap[g]? :=fun g hg=>(nY _ _ g (by simp;omega)).trans (nY w _ g hg);have cA:((w.alloc (.cells #[.pointer (O ⟨T,0,ae⟩)] 251)).alloc (xg w.heap.size)).cell? ⟨w.heap.size,0,ae⟩=O (.pointer (O ⟨T,0,ae⟩)):=by
  rw[aiw _ _ ⟨w.heap.size,0,ae⟩ aj];simp
 have n8:=aTh ⟨w.heap.size,0,ae⟩ ⟨T,0,ae⟩ ((w.alloc (.cells #[.pointer (O ⟨T,0,ae⟩)] 251)).alloc (xg w.heap.size)) cA;have vE:=Bj hg (w1 _ lg);have key:=azs (e:=e) (i:=i) (tgt:=.iface 251 (.pointer (O ⟨T,0,ae⟩))) (w:=(w.alloc (.cells #[.pointer (O ⟨T,0,ae⟩)] 251)).alloc (xg w.heap.size)) cA (by simp;omega) ((w1 T Kf).trans hT) (Bj h0 (w1 g0 l0)) (Bj h1 (w1 g1 l1)) (by simp;omega) (by simp;omega);have kt:dv (fun _=>False) w ((w.alloc (.cells #[.pointer (O ⟨T,0,ae⟩)] 251)).alloc (xg w.heap.size)):=dv.tr (dv.alloc w _) (dv.alloc _ _) (fun _ h=>h) (fun _ _ h=>h);clear cA w1 hg;unfold xg at n8 vE key kt;unfold Nj at vE;unfold QZ QS at key
 go_enter Tryz.func176,Tryz.ntmps176
 go_wp2_with (go_at_call 234;refine key.mono ?_;rintro ev w' ⟨rfl,ra,sm⟩)
 go_ret
 exact⟨rfl,ra,dv.tr kt sm (fun _ h=>h.elim) (fun _ _ h=>h)⟩
set_option maxHeartbeats 4000000 in
theorem aRX(hg:w.cell? ⟨1,0,ae⟩=O Nj)(h0:w.cell? ⟨g0,0,ae⟩=O (.slice (O ⟨g1,0,ae⟩) 1 cap))(h1:w.cell? ⟨g1,0,ae⟩=O (.iface 246 (.agg #[.int .i64 e,.int .i64 i])))(l0:g0<w.heap.size)(l1:g1<w.heap.size)(lg:1<w.heap.size):
  Calls ar 125 #[.iface 294 (.pointer (O ⟨g0,0,ae⟩))] w fun ev w'=>ev=.returned (.int .i64 e)/\Below w.heap.size w w':=by
 have al:∀g,g<w.heap.size->(w.alloc (.cells #[.int .i64 0,.int .i64 0] 246)).heap[g]? =w.heap[g]? :=fun g hg=>nY w _ g hg;have hT:(w.alloc (.cells #[.int .i64 0,.int .i64 0] 246)).heap[w.heap.size]? =O (.cells #[.int .i64 0,.int .i64 0] 246 (0,0)):=D4 w _;have key:=ayd (Bj hg (al _ lg)) hT (Bj h0 (al g0 l0)) (Bj h1 (al g1 l1)) c9 (by simp;omega) (by simp;omega);have kt:=dv.alloc w (.cells #[.int .i64 0,.int .i64 0] 246)
 go_enter Tryz.func125,Tryz.ntmps125
 go_wp2_with (go_at_call 176;refine key.mono ?_;rintro ev w' ⟨rfl,ra,sm⟩;have c0:w'.cell? ⟨w.heap.size,0,ae⟩=O (.int .i64 e):=by rw[wz ra];rfl)
 go_ret
 obtain⟨t1,t2,t3,t4,t5⟩:=dv.tr kt sm (fun _ h=>h.elim) (fun _ _ h=>h);exact⟨rfl,t2,t3,t4,t1,fun g hg=>t5 g hg Y⟩
def XC:Spec where
 ι:=Int×Int
 own:=ab
 dec l H:=match l with
  | [.fm 294 (.p l0 0 0)]=>match H l0 with
    |some (.cells 296 [.o l1])=>match H l1 with
     |some (.rc 126 1 1 [.fm 246 (.ag [.v (.int .i64 e),.v (.int .i64 i)])])=>O ((e,i),[l0,l1])
     |_=>ae
    |_=>ae
  |_=>ae
 args:=fun(e,i)=>[.fm 294 (U 0)]
 hp:=fun(e,i)=>[(0,.cells 296 [.o 1]),(1,.rc 126 1 1 [.fm 246 (.ag [B e,B i])])]
 out:=fun(e,i)=>.leaf (B e) [(0,.cells 296 [.o 1]),(1,.rc 126 1 1 [.fm 246 (.ag [B e,B i])])]
theorem aP':XC.dn:=by
 intro l H n i x h;simp only[XC]at h
 repeat' split at h
 all_goals first|(cases h;done)|(cases h;exact⟨rfl,rfl⟩)|(cases h;refine⟨rfl,?_⟩;simp only[dK,iF,iN,gN, *];rfl)
theorem aRY(e i:Int):Sat ar 125 [.fm 294 (.p 0 0 0)] [(0,.cells 296 [.o 1]),(1,.rc 126 1 1 [.fm 246 (.ag [.v (.int .i64 e),.v (.int .i64 i)])])] (.v (.int .i64 e)) [(0,.cells 296 [.o 1]),(1,.rc 126 1 1 [.fm 246 (.ag [.v (.int .i64 e),.v (.int .i64 i)])])]:=by
 intro D β w us t a u gR;obtain⟨H,M,C,J⟩:=a.1 0 _ (.head _);obtain⟨y,N,E,K⟩:=a.1 1 _ (.tail _ (.head _));obtain⟨U,V,P,j,_⟩:=C;obtain⟨k1,S,xs,rR,n,q⟩:=E;simp only[Z,F]at j n t;obtain⟨x0,_,rfl,⟨L,s,rfl⟩,rfl⟩:=j;rw[N]at s;cases s;obtain⟨y0,_,rfl,⟨z0,rfl,zs,rfl,X,_,rfl,rfl,Y,_,rfl,rfl,rfl⟩,rfl⟩:=n;obtain⟨u0,_,rfl,⟨p0,rfl,L',r,_,rfl⟩,rfl⟩:=t;rw[M]at r;cases r;rcases q with⟨_,h⟩|⟨B,hc,hm,W,fZ,fr,q,_,k,Q⟩
 ·omega
 have R:y.val=.slice (O ⟨y.g,0,ae⟩) 1 y.cap:=by unfold Loc.val;rw[B,S];rfl
 have I:w.cell? ⟨H.g,0,ae⟩=O (.slice (O ⟨y.g,0,ae⟩) 1 y.cap):=by rw[<-R];simp[World.cell?,P]
 have c1:w.cell? ⟨y.g,0,ae⟩=O (.iface 246 (.agg #[.int .i64 e,.int .i64 i])):=by
  have:=dR (·[0]?) Q;simp at this;simp[World.cell?,q,this]
 simp only[CJ,uS];refine(aRX u.laid.2 I c1 (J U).2 (K B).2 (u _ u.laid.1)).mono ?_;rintro ev w' ⟨rfl,x⟩;have G:jx D w β D w' β:=⟨fun _ h=>h,fun g z=>x.block g (u g z),fun _ _ h=>h⟩;refine⟨_,D,β,rfl,G,by simp only[F],⟨fun l b k=>?_,a.2⟩,fun g z=>⟨.inl z,ng (u g z) x.size⟩,fun l L k=>.inl k,fun l b L k d f=>.inr ⟨l,b,L,k,d,f,rfl⟩,x.os,x.tape,x.output,x.size,fun g z _=>x.block g z⟩;obtain⟨L,d,f,m⟩:=a.1 l b k;exact⟨L,d,f.mono G b fun c=>x.block _ (m c).2,fun c=>⟨(m c).1,ng (m c).2 x.size⟩⟩
theorem aRZ:Sound ar 125 XC.iY:=XC.sound ax aP' fun(e,i) _=>aRY e i
end
end Go.Proofs.YtegnkfbnmepmpaaGreatDoor
namespace Go.Proofs.YtegnkfbnmepmpaaGreatDoor
def lT:List UInt8->Nat
 | []=>0
 |b::l=>b.toNat+256*lT l
theorem aqP(k:Nat):256^k=2^(8*k):=by rw[aUa]
theorem Ue(l:List UInt8):lT l<256^l.length:=by
 induction l with
 |nil=>simp[lT]
 |cons b l x=>
  have h:=b.toNat_lt;grind [lT]
theorem apg(a b:List UInt8):lT (a++b)=lT a+256^a.length*lT b:=by
 induction a with
 |nil=>simp[lT]
 |cons x a h=>grind [lT]
theorem aph:∀(l:List UInt8) (i:Nat) (h:i<l.length),l[i].toNat=lT l/256^i%256
 |b::l,0,h=>by
  have x:b.toNat<256:=b.toNat_lt;simp[lT]
 |b::l,i+1,h=>by
  have x:b.toNat<256:=b.toNat_lt;have e:(b.toNat+256*lT l)/256=lT l:=Y;have:=aph l i c9;grind [lT,Nat.div_div_eq_div_mul]
theorem aF3(l:List UInt8)(k:Nat)(h:k/8<l.length):l[k/8].toNat/2^(k%8)%2=lT l/2^k%2:=by
 rw[aph l _ h];have e:(2:Nat)^k=256^(k/8)*2^(k%8):=by
  rw[aqP,<-Jk];congr 1;omega
 rw[e,<-axB];have y:k%8<8:=CC _ Y;generalize k%8=r at y;have x:(256:Nat)=2^r*2^(8-r):=by rw[<-Jk];rw[show r+(8-r)=8 from by omega]
 rw[x,Nat.mod_mul_right_div_self,Nat.mod_mod_of_dvd];exact⟨2^(7-r),by rw[<-Nat.pow_succ'];congr 1;omega⟩
theorem aF2(l:List UInt8)(k:Nat)(h:8*l.length<=k):lT l/2^k=0:=by
 apply Nat.div_eq_of_lt;grind [Nat.lt_of_lt_of_le,Ue,aqP,Nat.pow_le_pow_right]
theorem aGI(v i:Nat):v%2^(i+1)=v%2^i+(v/2^i%2)*2^i:=by
 rw[Nat.pow_succ,Nat.mod_mul,AY (2^i)]
theorem aGJ(v i:Nat):v%2^i<2^i:=CC _ (Nat.pow_pos Y)
end Go.Proofs.YtegnkfbnmepmpaaGreatDoor
namespace Go.Proofs.YtegnkfbnmepmpaaGreatDoor
open Go
def vL(s:M)(a:Int):Bool:=decide (0<=a)&&decide (a<=(s.size:Int))
def fu(s:M)(a e f:Int):Bool:=cond (e==0) (vL s a&&(f==0)) (vL s a&&(decide (1<=e)&&(decide (e<=31)&&vL s f)))
def lc(s:M)(a:Int):Bool:=decide (a<0)||decide ((s.size:Int)<a)
def d_(s:M)(a:Int):Int:=cond (lc s a) 0 a
def dS(s:M)(a:Int):Int:=cond (lc s a) 2 0
def Fp(s:M)(a e:Int):Int:=cond (e==0) ((s.size:Int)-a) 0
def dI(s:M)(a e n:Int):Int:=cond (e==0) (cond (decide (n<0)) 2 (cond (decide ((s.size:Int)-a<n)) 5 0)) e
def gf(s:M)(a e f n:Int):Int:=cond (e==0) (cond (decide (n<0)) a (cond (decide ((s.size:Int)-a<n)) (s.size:Int) f)) f
def ee(s:M)(a e n:Int):Int:=cond (dI s a e n==0) (a+n) a
def ch(s:M)(a e n:Int):M:=cond (dI s a e n==0) (s.extract a.toNat (a+n).toNat) aJ
def Be(e h:Int):Int:=cond (h !=0) (cond (e !=0) e h) e
def Bf(e f x h:Int):Int:=cond (x !=0) (cond (e !=0) f h) f
def fo(s:M):Int:=(lT s.data.toList:Nat)
def Bu(e x:Int):Int:=cond (e !=0) e x
def Ae(s:M)(e f x:Int):Int:=cond (e !=0) f (min (max x 0) (s.size:Int))
def jg(s:M)(i:Nat):Nat:=(s.data.toList.getD i 0).toNat
def rJ:Nat:=281474976710656
def xz:Nat:=72057594037927936
def p_(s:M):Nat:=cond (ap s.size 8) (jg s 7*xz+jg s 6*rJ) (cond (ap s.size 7) (jg s 6*rJ) 0)
def zg(s:M)(i:Nat):Nat:=lT (s.data.toList.take i)
end Go.Proofs.YtegnkfbnmepmpaaGreatDoor
namespace Go.Proofs.YtegnkfbnmepmpaaGreatDoor
open Go Go.RowKit
def SB(s:M)(a e f:Int):bL:=[.v (.string s),.v (.int .i64 a),.v (.int .i64 e),.v (.int .i64 f)]
def aOE:Spec:=Sp (M×Int) [.s,.i] fun(s,a)=>([],aE (.ag [aD s,B (d_ s a),B (dS s a),B 0]))
def agu:Spec where
 ι:=Int×M×Int×Int×Int
 dec l H:=match l with
  | [.v (.int .i64 x),.p l0 0 0]=>match H l0 with
    |some (.cells 70 [.v (.string s),.v (.int .i64 a),.v (.int .i64 e),.v (.int .i64 f)])=>O ((x,s,a,e,f),[l0])
    |_=>ae
  |_=>ae
 args:=fun(x,s,a,e,f)=>[B x,U 0]
 hp:=fun(x,s,a,e,f)=>[(0,.cells 70 [aD s,B a,B e,B f])]
 out:=fun(x,s,a,e,f)=>.leaf (fN (vL s x)) [(0,.cells 70 [aD s,B a,B e,B f])]
theorem aOB:agu.dn:=by
 intro l H n i x h;simp only[agu]at h
 repeat' split at h
 all_goals first|(cases h;done)|(cases h;exact⟨rfl,rfl⟩)|(cases h;refine⟨rfl,?_⟩;simp only[dK,iF,iN,gN, *];rfl)
def aOI:Spec:=Sp (M×Int×Int×Int) [.g [.s,.i,.i,.i]] fun(s,a,e,f)=>([],aE (fN (fu s a e f)))
def aOG:Spec:=Sp (M×Int×Int×Int) [.g [.s,.i,.i,.i]] fun(s,a,e,f)=>([E (fu s a e f=ab)],.leaf (U 2000) [(2000,.cells 117 [aD s,B a,B e,B f])])
def ags:Spec where
 ι:=M×Int×Int×Int
 dec l H:=match l with
  | [.p l0 0 0]=>match H l0 with
    |some (.cells 117 [.v (.string s),.v (.int .i64 a),.v (.int .i64 e),.v (.int .i64 f)])=>O ((s,a,e,f),[l0])
    |_=>ae
  |_=>ae
 args:=fun(s,a,e,f)=>[U 0]
 hp:=fun(s,a,e,f)=>[(0,.cells 117 [aD s,B a,B e,B f])]
 out:=fun(s,a,e,f)=>.leaf (fN (e !=0)) [(0,.cells 117 [aD s,B a,B e,B f])]
theorem aOu:ags.dn:=by
 intro l H n i x h;simp only[ags]at h
 repeat' split at h
 all_goals first|(cases h;done)|(cases h;exact⟨rfl,rfl⟩)|(cases h;refine⟨rfl,?_⟩;simp only[dK,iF,iN,gN, *];rfl)
def agv:Spec where
 ι:=M×Int×Int×Int
 dec l H:=match l with
  | [.p l0 0 0]=>match H l0 with
    |some (.cells 117 [.v (.string s),.v (.int .i64 a),.v (.int .i64 e),.v (.int .i64 f)])=>O ((s,a,e,f),[l0])
    |_=>ae
  |_=>ae
 args:=fun(s,a,e,f)=>[U 0]
 hp:=fun(s,a,e,f)=>[(0,.cells 117 [aD s,B a,B e,B f])]
 pre:=fun(s,a,e,f)=>[E (fu s a e f=ab),E (s.size<=9223372036854775807)]
 out:=fun(s,a,e,f)=>.leaf (B (Fp s a e)) [(0,.cells 117 [aD s,B a,B e,B f])]
theorem aOC:agv.dn:=by
 intro l H n i x h;simp only[agv]at h
 repeat' split at h
 all_goals first|(cases h;done)|(cases h;exact⟨rfl,rfl⟩)|(cases h;refine⟨rfl,?_⟩;simp only[dK,iF,iN,gN, *];rfl)
def Xo:Spec where
 ι:=Int×Int×M×Int×Int×Int
 own:=ab
 dec l H:=match l with
  | [.p l0 0 0,.p l1 0 0]=>match H l0 with
    |some (.cells 25 [.v (.int .i64 h),.v (.int .i64 x)])=>match H l1 with
     |some (.cells 114 [.p l2 0 0])=>match H l2 with
      |some (.cells 117 [.v (.string s),.v (.int .i64 a),.v (.int .i64 e),.v (.int .i64 f)])=>O ((h,x,s,a,e,f),[l0,l1,l2])
      |_=>ae
     |_=>ae
    |_=>ae
  |_=>ae
 args:=fun(h,x,s,a,e,f)=>[U 0,U 1]
 hp:=fun(h,x,s,a,e,f)=>[(0,.cells 25 [B h,B x]),(1,.cells 114 [U 2]),(2,.cells 117 [aD s,B a,B e,B f])]
 out:=fun(h,x,s,a,e,f)=>.leaf (.tu []) [(0,.cells 25 [B h,B x]),(1,.cells 114 [U 2]),(2,.cells 117 [aD s,B a,B (Be e h),B (Bf e f h x)])]
theorem aOv:Xo.dn:=by
 intro l H n i x h;simp only[Xo]at h
 repeat' split at h
 all_goals first|(cases h;done)|(cases h;exact⟨rfl,rfl⟩)|(cases h;refine⟨rfl,?_⟩;simp only[dK,iF,iN,gN, *];rfl)
def Xn:Spec where
 ι:=Int×M×Int×Int×Int
 dec l H:=match l with
  | [.p l0 0 0,.v (.int .i64 n)]=>match H l0 with
    |some (.cells 117 [.v (.string s),.v (.int .i64 a),.v (.int .i64 e),.v (.int .i64 f)])=>O ((n,s,a,e,f),[l0])
    |_=>ae
  |_=>ae
 args:=fun(n,s,a,e,f)=>[U 0,B n]
 hp:=fun(n,s,a,e,f)=>[(0,.cells 117 [aD s,B a,B e,B f])]
 pre:=fun(n,s,a,e,f)=>[E (fu s a e f=ab),E (s.size<=9223372036854775807)]
 out:=fun(n,s,a,e,f)=>.leaf (aD (ch s a e n)) [(0,.cells 117 [aD s,B (ee s a e n),B (dI s a e n),B (gf s a e f n)])]
theorem aOw:Xn.dn:=by
 intro l H n i x h;simp only[Xn]at h
 repeat' split at h
 all_goals first|(cases h;done)|(cases h;exact⟨rfl,rfl⟩)|(cases h;refine⟨rfl,?_⟩;simp only[dK,iF,iN,gN, *];rfl)
def aOF:Spec:=Sp M [.s] fun s=>([E (s.size<=8)],aE (dy (fo s)))
def agt:Spec where
 ι:=Int×M×Int×Int×Int
 dec l H:=match l with
  | [.p l0 0 0,.v (.int .i64 n)]=>match H l0 with
    |some (.cells 117 [.v (.string s),.v (.int .i64 a),.v (.int .i64 e),.v (.int .i64 f)])=>O ((n,s,a,e,f),[l0])
    |_=>ae
  |_=>ae
 args:=fun(n,s,a,e,f)=>[U 0,B n]
 hp:=fun(n,s,a,e,f)=>[(0,.cells 117 [aD s,B a,B e,B f])]
 out:=fun(n,s,a,e,f)=>.leaf (.tu [.ag [aD s,B a,B e,B f],B (cond (e !=0) 0 n)]) [(0,.cells 117 [aD s,B a,B e,B f])]
theorem aOz:agt.dn:=by
 intro l H n i x h;simp only[agt]at h
 repeat' split at h
 all_goals first|(cases h;done)|(cases h;exact⟨rfl,rfl⟩)|(cases h;refine⟨rfl,?_⟩;simp only[dK,iF,iN,gN, *];rfl)
def aOy:Spec:=Sp (M×Int×Int×Int) [.g [.s,.i,.i,.i]] fun(s,a,e,f)=>([E (fu s a e f=ab),E (s.size<=9223372036854775807)],aE (.tu [.ag [aD s,B (ee s a e 1),B (dI s a e 1),B (gf s a e f 1)],B (fo (ch s a e 1))]))
def aOD:Spec:=Sp (M×Int×Int×Int×Int) [.g [.s,.i,.i,.i],.i] fun(s,a,e,f,n)=>([E (fu s a e f=ab),E (s.size<=9223372036854775807),E (1<=n),E (n<=8)],aE (.tu [.ag [aD s,B (ee s a e n),B (dI s a e n),B (gf s a e f n)],dy (fo (ch s a e n))]))
def aOx:Spec:=Sp (M×Int×Int×Int×Int) [.g [.s,.i,.i,.i],.i] fun(s,a,e,f,n)=>([E (fu s a e f=ab),E (s.size<=9223372036854775807)],aE (.tu [.ag [aD s,B (ee s a e n),B (dI s a e n),B (gf s a e f n)],aD (ch s a e n)]))
def aOH:Spec:=Sp (M×Int×Int×Int×Int) [.g [.s,.i,.i,.i],.i] fun(s,a,e,f,n)=>([E (fu s a e f=ab),E (s.size<=9223372036854775807)],aE (.ag [aD s,B (ee s a e n),B (dI s a e n),B (gf s a e f n)]))
def aOA:Spec:=Sp (M×Int×Int×Int×Int×Int) [.g [.s,.i,.i,.i],.i,.i] fun(s,a,e,f,x,y)=>([E (fu s a e f=ab),E (1<=x),E (x<=31)],aE (.ag [aD s,B a,B (Bu e x),B (Ae s e f y)]))
def aHW(s:M):dV:=bi Nat fun i=>(i<=s.size/\i<=6,[(0,aD s),(3,dy ((p_ s+zg s i:Nat):Int)),(25,B (min (s.size:Int) 6)),(26,cP i)],[],6-i)
def aHX(s:M):bO:=fun k=>cond (ap k 0) (O (.one (aHW s))) (cond (ap k 1007) (O (.one (bi Unit fun _=>(True,[(0,aD s),(3,dy ((p_ s:Nat):Int))],[],0)))) ae)
def oBy(n:Int)(s:M)(a e f:Int):bO:=fun k=>cond (ap k 1003) (O (.one (bi Unit fun _=>(True,[(1,B n),(2,U 501),(5,U 500),(6,.fn (.func 106) [] [U 500,U 501])],[(0,.cells 117 [aD s,B a,B e,B f]),(500,.cells 25 [B 0,B 0]),(501,.cells 114 [U 0])],0)))) ae
def DCb:List (Nat×DC):=(106,DC.of Xo Spec.no):: []
def aO(h0:M):Int:=Zq h0.size
def nS(h0:Int)(h1 h:Prop)(x:Int)(y z:Prop):Prop:=Dq (h0<0) (h1/\h) (Dq (h0>x) y z)
def a_:Prop:=(0:Int)=0
def alG(x:Int)(s:M)(a e f:Int):Prop:=
 (decide (x>=(0:Int))=ab->decide (x<=(↑(kD s):Int))=vL s x/\s=s/\a=a/\e=e/\f=f)/\
 (decide (x>=(0:Int))=ah->ah=vL s x/\s=s/\a=a/\e=e/\f=f)
def aAD(s:M)(a e f:Int):Prop:=
 (e !=(0:Int))=(e !=(0:Int))/\s=s/\a=a/\e=e/\f=f
def aL(h0:Prop):Prop:=∃(h:Unit),h0
def o9(h0:Int)(h1:IntKind):Int:=2^aB h0.toNat h1.bits
def mr(h0 h1:Prop):Prop:=∀(h:Unit),h0->h1
def ja(h0 h1:Prop):Prop:=aL (True/\h0/\h1)
def vS(h0:Array UInt8)(h1:Int):UInt8:=h0.toList.getD h1.toNat (0:UInt8)
def cE(h0:Int):Prop:=0<=Wq h0
def ay(h0:Int):Int:=Wq (h0+1)
def gH(h0 h1:Nat):Int:=2^aB h0 h1
def zt(h0:UInt8):Int:=Q .u64 (Zq h0.toNat)
def aF(h0:Int)(h1 h:Prop):Prop:=0<=h0/\h1/\h
def alJ(s:M)(D:Int):Prop:=Bq (aO s==8) ((0:Int)<=7/\7<aO s/\(0:Int)<=56/\(0:Int)<=6/\6<aO s/\(0:Int)<=48/\ja (s=s) (bits .or .u64 (bits .or .u64 0 (Q .u64 (zt (s.data.toList.getD (X 7) (0:UInt8))*gH (X 56) IntKind.u64.bits))) D=Zq (p_ s))) (Bq (aO s==7) ((0:Int)<=6/\6<aO s/\(0:Int)<=48/\ja (s=s) (bits .or .u64 0 D=Zq (p_ s))) (ja (s=s) (0=Zq (p_ s))))/\mr True ((∃(x4:Nat),(x4<=s.size/\x4<=6)/\s=s/\Zq (p_ s)=Zq (p_ s+zg s x4)/\aB (aO s) (6:Int)=aB (aO s) (6:Int)/\0=Zq x4)/\(∀(h:Nat),h<=s.size/\h<=6->Dq (Zq h<aB (aO s) (6:Int)) (aF (Zq h) (Zq h<aO s) (cE (8*Zq h)/\(∃(x:Nat),(x<=s.size/\x<=6)/\fj 6 x<fj 6 h/\s=s/\bits .or .u64 (Zq (p_ s+zg s h)) (Q .u64 (zt (vS s.data (Zq h))*o9 (Wq (8*Zq h)) .u64))=Zq (p_ s+zg s x)/\aB (aO s) (6:Int)=aB (aO s) (6:Int)/\ay (Zq h)=Zq x))) (Zq (p_ s+zg s h)=fo s)))
def alI(s:M):Prop:=alJ s (Q .u64 (zt (s.data.toList.getD (X 6) (0:UInt8))*gH (X 48) IntKind.u64.bits))
def alL(s:M)(a e f:Int)(D:Prop):Prop:=Bq (e==0) (Bq (vL s a) ((f==0)=fu s a e f) D) (Bq (vL s a) (Dq (e>=1) (Dq (e<=31) (vL s f=fu s a e f) D) D) D)
def fV(h0:M)(h1:Int)(h x:Prop):Prop:=h0=h0/\h1=h1/\h/\x
def aat(s:M)(a e f:Int):Prop:=Bq (e !=0) (0=Fp s a e/\fV s a (e=e) (f=f)) (Wq (aO s-a)=Fp s a e/\fV s a (e=e) (f=f))
def aAN(n:Int)(s:M)(a e f:Int):Prop:=
 ((e !=(0:Int))=ab->s=s/\a=a/\e=e/\f=f/\((0:Int)=bif e !=(0:Int)then(0:Int)else n)/\s=s/\a=a/\e=e/\f=f)/\
 ((e !=(0:Int))=ah->s=s/\a=a/\e=e/\f=f/\(n=bif e !=(0:Int)then(0:Int)else n)/\s=s/\a=a/\e=e/\f=f)
def alK(s:M)(a e f:Int):Prop:=
 ((!fu s a e f)=ab->aJ=s/\(0:Int)=a/\(10:Int)=e/\(0:Int)=f)/\((!fu s a e f)=ah->s=s/\a=a/\e=e/\f=f)
def aAL(s:M)(a e f:Int):Prop:=
 fu s a e f=ab/\
 fu s a e f=ab/\
 kD s<=(9223372036854775807:Nat)/\
 kD (ch s a e (1:Int))<=(8:Nat)/\
 s=s/\
 ee s a e (1:Int)=ee s a e (1:Int)/\
 dI s a e (1:Int)=dI s a e (1:Int)/\
 gf s a e f (1:Int)=gf s a e f (1:Int)/\
 (bif dI s a e (1:Int) !=(0:Int)then(0:Int)else Q bW (fo (ch s a e (1:Int))))=fo (ch s a e (1:Int))
def alH(s:M)(a e f n:Int):Prop:=
 fu s a e f=ab/\
 ((!e !=(0:Int))=ab->
 (decide (n<(1:Int))=ab->
 fu s a (2:Int) a=ab/\
 kD s<=(9223372036854775807:Nat)/\
 kD (ch s a (2:Int) n)<=(8:Nat)/\
 s=s/\ee s a (2:Int) n=ee s a e n/\dI s a (2:Int) n=dI s a e n/\gf s a (2:Int) a n=gf s a e f n/\fo (ch s a (2:Int) n)=fo (ch s a e n))/\
 (decide (n<(1:Int))=ah->
 (decide (n>(8:Int))=ab->
 fu s a (2:Int) a=ab/\
 kD s<=(9223372036854775807:Nat)/\
 kD (ch s a (2:Int) n)<=(8:Nat)/\
 s=s/\ee s a (2:Int) n=ee s a e n/\dI s a (2:Int) n=dI s a e n/\gf s a (2:Int) a n=gf s a e f n/\fo (ch s a (2:Int) n)=fo (ch s a e n))/\
 (decide (n>(8:Int))=ah->
 fu s a e f=ab/\
 kD s<=(9223372036854775807:Nat)/\
 kD (ch s a e n)<=(8:Nat)/\
 s=s/\ee s a e n=ee s a e n/\dI s a e n=dI s a e n/\gf s a e f n=gf s a e f n/\fo (ch s a e n)=fo (ch s a e n))))/\
 ((!e !=(0:Int))=ah->
 fu s a e f=ab/\
 kD s<=(9223372036854775807:Nat)/\
 kD (ch s a e n)<=(8:Nat)/\s=s/\ee s a e n=ee s a e n/\dI s a e n=dI s a e n/\gf s a e f n=gf s a e f n/\fo (ch s a e n)=fo (ch s a e n))
def alF(s:M)(a e f x y:Int):Prop:=
 fu s a e f=ab/\
 ((e !=(0:Int))=ab->s=s/\a=a/\e=Bu e x/\f=Ae s e f y)/\
 ((e !=(0:Int))=ah->
 (decide (x<(1:Int))=ab->s=s/\a=a/\(3:Int)=Bu e x/\min (max y (0:Int)) (↑(kD s):Int)=Ae s e f y)/\
 (decide (x<(1:Int))=ah->
 (decide (x>(31:Int))=ab->s=s/\a=a/\(3:Int)=Bu e x/\min (max y (0:Int)) (↑(kD s):Int)=Ae s e f y)/\
 (decide (x>(31:Int))=ah->s=s/\a=a/\x=Bu e x/\min (max y (0:Int)) (↑(kD s):Int)=Ae s e f y)))
def aar(h x:Int)(s:M)(a e f:Int):Prop:=
 ((h !=(0:Int))=ab->
 ((!e !=(0:Int))=ab->h=h/\x=x/\s=s/\a=a/\h=Be e h/\x=Bf e f h x)/\
 ((!e !=(0:Int))=ah->h=h/\x=x/\s=s/\a=a/\e=Be e h/\f=Bf e f h x))/\
 ((h !=(0:Int))=ah->h=h/\x=x/\s=s/\a=a/\e=Be e h/\f=Bf e f h x)
def alE(n:Int)(s:M)(a e f:Int):Prop:=
 (∃(g0:Unit),True/\n=n/\s=s/\a=a/\e=e/\f=f/\(0:Int)=(0:Int)/\(0:Int)=(0:Int))/\
 ∀(g1:Unit),
 True->
 ((e !=(0:Int))=ab->aJ=ch s a e n/\s=s/\a=ee s a e n/\Be e (0:Int)=dI s a e n/\Bf e f (0:Int) (0:Int)=gf s a e f n)/\
 ((e !=(0:Int))=ah->
 (decide (n<(0:Int))=ab->aJ=ch s a e n/\s=s/\a=ee s a e n/\Be e (2:Int)=dI s a e n/\Bf e f (2:Int) a=gf s a e f n)/\
 (decide (n<(0:Int))=ah->
 fu s a e f=ab/\
 kD s<=(9223372036854775807:Nat)/\
 (decide (n>Fp s a e)=ab->
 aJ=ch s a e n/\s=s/\a=ee s a e n/\Be e (5:Int)=dI s a e n/\Bf e f (5:Int) (↑(kD s):Int)=gf s a e f n)/\
 (decide (n>Fp s a e)=ah->
 (0:Int)<=a/\
 a<=Q bW (a+n)/\
 Q bW (a+n)<=(↑(kD s):Int)/\
 Ry s (X a) (X (Q bW (a+n)))=ch s a e n/\
 s=s/\Q bW (a+n)=ee s a e n/\Be e (0:Int)=dI s a e n/\Bf e f (0:Int) (0:Int)=gf s a e f n)))
theorem azL{a:Int}(h:(a !=0)=ab):(a==0)=ah:=c9
theorem vj{a:Int}(h:(a !=0)=ah):a=0:=by simpa using h
theorem xw{a b:Int}(h:(a==b)=ab):a=b:=by simpa using h
theorem Ew{a b:Int}(h:(a==b)=ah):a≠b:=c9
theorem oc{a b:Int}(h:a≠b):(a==b)=ah:=c9
theorem Sa{a b:Int}(h:a≠b):(a !=b)=ab:=by simpa using h
theorem aoK{s:M}{a:Int}:vL s a=ab↔0<=a/\a<=(s.size:Int):=by grind [vL]
theorem Gz{s:M}{a e f:Int}:fu s a e f=ab↔(0<=a/\a<=(s.size:Int))/\((e=0/\f=0)\/(1<=e/\e<=31/\0<=f/\f<=(s.size:Int))):=by
 unfold fu;cases h:e==0
 ·have:=Ew h
  simp only[iw,bC,aoK,dJ];omega
 ·have:=xw h
  simp only[bo,bC,aoK,wx];omega
theorem KY(s:M)(a:Int):fu s (d_ s a) (dS s a) 0=ab:=by grind [Gz,d_,dS,lc]
section
variable{s:M}{a e f n:Int}
theorem Nw(h:e≠0):dI s a e n=e/\gf s a e f n=f/\ee s a e n=a/\ch s a e n=aJ:=by
 have x:dI s a e n=e:=by unfold dI;rw[oc h];rfl
 refine⟨x,by unfold gf;rw[oc h];rfl,?_,?_⟩
 ·unfold ee;rw[x,oc h];rfl
 ·unfold ch;rw[x,oc h];rfl
theorem akO(h:n<0):dI s a 0 n=2/\gf s a 0 f n=a/\ee s a 0 n=a/\ch s a 0 n=aJ:=by grind [dI,gf,ee,ch]
theorem Hf(h0:0<=n)(h:(s.size:Int)-a<n):dI s a 0 n=5/\gf s a 0 f n=s.size/\ee s a 0 n=a/\ch s a 0 n=aJ:=by grind [dI,gf,ee,ch]
theorem EC(h0:0<=n)(h:n<=(s.size:Int)-a):dI s a 0 n=0/\gf s a 0 f n=f/\ee s a 0 n=a+n/\ch s a 0 n=s.extract a.toNat (a+n).toNat:=by grind [dI,gf,ee,ch]
theorem akP(h:fu s a e f=ab)(n:Int):fu s (ee s a e n) (dI s a e n) (gf s a e f n)=ab:=by grind [Gz,akO,Hf,EC,Nw]
theorem Nx(h:fu s a e f=ab)(h0:0<=n):((ch s a e n).size:Int)<=n:=by
 by_cases x:e=0
 ·subst x
  by_cases y:(s.size:Int)-a<n
  ·rw[(Hf (f:=0) Y y).2.2.2];exact h0
  ·rw[(EC (f:=0) Y Y).2.2.2,r8];omega
 ·rw[(Nw (f:=0) x).2.2.2];exact h0
end
theorem K8(x y:Nat)(z:x<18446744073709551616)(e:y<18446744073709551616):bits .or .u64 (x:Int) (y:Int)=((x|||y:Nat):Int):=by
 have h:∀a:Nat,a<18446744073709551616->(lk 64 (a:Int)).toNat=a:=fun a k=>by grind
 show IntKind.u64.wrap ((lk 64 (x:Int)|||lk 64 (y:Int)).toNat:Int)=_;rw[Yy,h _ z,h _ e];grind [fW]
theorem UN{k hi lo b:Nat}(e:lo<2^k)(y:b<256)(h:hi%2^(k+8)=0):(hi+lo)|||(b*2^k)=hi+lo+b*2^k:=by
 obtain⟨H,rfl⟩:=aiR h;have p:2^(k+8)=2^k*256:=by rw[Jk]
 have z:b*2^k+lo<2^(k+8):=by
  have:b*2^k<=255*2^k:=ox _ Y;omega
 have x:=MI (i:=k+8) (b:=lo) Y H;grind [axQ,Nat.mul_comm]
theorem Pr(s:M)(i:Nat):jg s i<256:=(s.data.toList.getD i 0).toNat_lt
theorem Ul{s:M}{i:Nat}(h:i<s.size):zg s (i+1)=zg s i+jg s i*2^(8*i):=by
 unfold zg jg;have x:s.data.toList.length=s.size:=rfl;grind [List.take_succ_eq_append_getElem,apg,lT,M3]
theorem aGm(s:M)(i:Nat):zg s i<2^(8*i):=by
 have h:=Ue (s.data.toList.take i);have x:256^(s.data.toList.take i).length<=256^i:=nF Y c9;grind [M3,zg]
theorem adb{s:M}{i:Nat}(h:s.size<=i):zg s i=lT s.data.toList:=by
 unfold zg;rw[nE (show s.data.toList.length<=i from h)]
theorem an4{s:M}(h:s.size=8):p_ s=jg s 7*xz+jg s 6*rJ:=by
 unfold p_;grind [ap]
theorem an3{s:M}(h:s.size=7):p_ s=jg s 6*rJ:=by
 unfold p_;grind [ap]
theorem an2{s:M}(e:s.size≠8)(z:s.size≠7):p_ s=0:=by
 have y:ap s.size 8=ah:=by
  cases h:ap s.size 8
  ·rfl
  ·simp_all
 have x:ap s.size 7=ah:=by
  cases h:ap s.size 7
  ·rfl
  ·simp_all
 grind [p_]
theorem ab0(s:M):(s.size=8/\p_ s=jg s 7*xz+jg s 6*rJ)\/(s.size=7/\p_ s=jg s 6*rJ)\/(s.size≠8/\s.size≠7/\p_ s=0):=by
 rcases Nat.decEq s.size 8 with x|x
 ·rcases Nat.decEq s.size 7 with h|h
  ·grind [an2]
  ·grind [an3]
 ·grind [an4]
theorem Ny:rJ=281474976710656:=by rfl
theorem Nz:xz=72057594037927936:=by rfl
theorem aEi(s:M):p_ s%281474976710656=0:=by
 have x:=Ny;have y:=Nz;rcases ab0 s with⟨_,h⟩|⟨_,h⟩|⟨_,_,h⟩
 ·rw[h,x,y];omega
 ·rw[h,x];omega
 ·rw[h]
theorem aEh(s:M):p_ s<=18446462598732840960:=by
 have x:=Ny;have y:=Nz;have z:=Pr s 6;have e:=Pr s 7;rcases ab0 s with⟨_,h⟩|⟨_,h⟩|⟨_,_,h⟩
 ·rw[h,x,y];omega
 ·rw[h,x];omega
 ·grind
theorem US:(2:Nat)^48=281474976710656:=by decide+kernel
theorem Lc:(2:Nat)^56=72057594037927936:=by decide+kernel
theorem XG{x k:Nat}(e:x<256)(h:k<=56):Q fh (Q fh (x:Int)*(2:Int)^min k (cZ fh))=((x*2^k:Nat):Int):=by
 have hp:(2:Nat)^k<=2^56:=nF Y h;have z:min k (cZ fh)=k:=wy (by show k<=64;omega);have y:x*2^k<=255*72057594037927936:=Nat.mul_le_mul Y hp;grind [fW]
theorem adG{s:M}:fo s<256^s.size:=by
 unfold fo;have:=Ue s.data.toList;have e:s.data.toList.length=s.size:=rfl;grind
theorem UH(s:M):0<=fo s:=Int.natCast_nonneg _
theorem aAR(s:M)(a e f:Int)(h0:fu s a e f=ab)(x:s.size<=9223372036854775807):aat s a e f:=by
 rw[Gz]at h0;unfold aat fV aO Fp Bq Wq Zq;refine⟨fun h=>?_,fun h=>?_⟩
 ·grind
 ·rw[vj h,wr Y Y];exact⟨rfl,rfl,rfl,rfl,rfl⟩
theorem aAG(x h:Int)(s:M)(a e f:Int):aar x h s a e f:=by grind [aar,Be,Bf]
theorem aAI(n:Int)(s:M)(a e f:Int)(h0:fu s a e f=ab)(w:s.size<=9223372036854775807):alE n s a e f:=by
 have r:=h0;rw[Gz]at r;refine⟨⟨(),trivial,rfl,rfl,rfl,rfl,rfl,rfl,rfl⟩,fun _ _=>⟨fun h=>?_,fun h=>?_⟩⟩
 ·obtain⟨y,z,k3,k⟩:=Nw (show e≠0 by simpa using h)
  rw[y,z,k3,k];exact⟨rfl,rfl,rfl,rfl,rfl⟩
 have u:=vj h;subst u;have v:f=0:=Y;subst v;refine⟨fun h=>?_,fun h=>⟨h0,w,fun x=>?_,fun x=>?_⟩⟩
 ·obtain⟨y,z,k3,k⟩:=akO (f:=0) (n:=n) (by simpa using h)
  rw[y,z,k3,k];exact⟨rfl,rfl,rfl,rfl,rfl⟩
 ·have x:(s.size:Int)-a<n:=by simpa [Fp]using x
  obtain⟨y,z,k3,k⟩:=Hf (s:=s) (a:=a) (f:=0) (n:=n) (by simpa using h) x;rw[y,z,k3,k];exact⟨rfl,rfl,rfl,rfl,rfl⟩
 ·have x:n<=(s.size:Int)-a:=by simp[Fp]at x;omega
  have h:0<=n:=by simpa using h
  obtain⟨y,z,k3,k⟩:=EC (s:=s) (a:=a) (f:=0) (n:=n) h x;rw[wr Y Y,y,z,k3,k];exact⟨Y,Y,Y,rfl,rfl,rfl,rfl,rfl⟩
theorem avj{s:M}{n:Int}(h:(s.size:Int)<=n)(x:n<=8):s.size<=8:=Y
theorem aqc{s:M}(h:s.size<=1):fo s<256:=by
 have:=adG (s:=s);have x:(256:Int)^s.size<=256^1:=by
  have:=nF (show 0<256 by omega) h;grind
 omega
theorem mixed:Tryz.prog.follows .mixedOrders=ab:=ax
def aAT:=aOE.gd m.nil Tryz.func35 fun⟨s,a⟩ _=>⟨aK,J (p:=nS a (s=s) (0=d_ s a/\2=dS s a/\a_) (aO s) (s=s/\0=d_ s a/\2=dS s a/\a_) (s=s/\a=d_ s a/\0=dS s a/\a_)) (by
 unfold a_ nS aO d_ dS lc Dq Zq;grind)⟩
def aAP:=agu.gE aOB m.nil Tryz.func154 fun⟨x,s,a,e,f⟩ _=>⟨aK,J (p:=alG x s a e f) (by
 grind [alG,vL])⟩
def aAC:=ags.gE aOu m.nil Tryz.func97 fun⟨s,a,e,f⟩ _=>⟨aK,J (p:=aAD s a e f) (⟨rfl,rfl,rfl,rfl,rfl⟩)⟩
def aAU:=aOF.gd m.nil Tryz.func96 fun(s:M) ⟨T,_⟩=>⟨(aHX s),J (p:=alI s) (by
 have C:=Pr s 6;have y:=Pr s 7;have g:Q fh (Q fh ((jg s 6:Nat):Int)*(2:Int)^min 48 (cZ fh))=((jg s 6*rJ:Nat):Int):=by have:=XG C (k:=48) Y;rw[US,<-Ny]at this;exact this
 have A:Q fh (Q fh ((jg s 7:Nat):Int)*(2:Int)^min 56 (cZ fh))=((jg s 7*xz:Nat):Int):=by have:=XG y (k:=56) Y;rw[Lc,<-Nz]at this;exact this
 unfold alI alJ mr o9 aF zt aO gH ay cE vS ja aL Dq Bq Wq Zq;have N:∀x:Nat,(((s.data.toList.getD (X (6:Int)) (0:UInt8)).toNat:Nat):Int)=((jg s 6:Nat):Int):=fun _=>rfl;have j:xz=2^56:=Nz.trans Lc.symm;have w:rJ=2^48:=Ny.trans US.symm;have L:jg s 7*xz<=18374686479671623680:=by rw[Nz];omega
 have K:jg s 6*rJ<=71776119061217280:=by rw[Ny];omega
 have I:bits .or .u64 0 ((jg s 7*xz:Nat):Int)=((jg s 7*xz:Nat):Int):=by
  have:=K8 0 (jg s 7*xz) Y Y;rw[Nat.zero_or]at this;exact this
 have G:bits .or .u64 0 ((jg s 6*rJ:Nat):Int)=((jg s 6*rJ:Nat):Int):=by
  have:=K8 0 (jg s 6*rJ) Y Y;rw[Nat.zero_or]at this;exact this
 have d:bits .or .u64 ((jg s 7*xz:Nat):Int) ((jg s 6*rJ:Nat):Int)=((jg s 7*xz+jg s 6*rJ:Nat):Int):=by
  rw[K8 _ _ Y Y];have n:jg s 6*rJ<2^56:=by rw[Lc];omega
  have:=MI (i:=56) (b:=jg s 6*rJ) n (jg s 7);rw[<-j,AY]at this;rw[this]
 refine⟨⟨fun h=>?_,fun h=>⟨fun y=>?_,fun y=>⟨(),trivial,rfl,?_⟩⟩⟩,fun _ _=>⟨⟨0,⟨dx _,dx _⟩,rfl,rfl,rfl,rfl⟩,fun i ⟨P,R⟩=>⟨fun n=>?_,fun q=>?_⟩⟩⟩
 ·have a:s.size=8:=by have:=xw h;omega
  refine⟨Y,Y,Y,Y,Y,Y,(),trivial,rfl,?_⟩;show bits .or .u64 (bits .or .u64 0 (Q fh (Q fh ((jg s 7:Nat):Int)*(2:Int)^min 56 (cZ fh)))) (Q fh (Q fh ((jg s 6:Nat):Int)*(2:Int)^min 48 (cZ fh)))=_;rw[A,g,I,d,an4 a]
 ·have a:s.size=7:=by have:=xw y;omega
  refine⟨Y,Y,Y,(),trivial,rfl,?_⟩;show bits .or .u64 0 (Q fh (Q fh ((jg s 6:Nat):Int)*(2:Int)^min 48 (cZ fh)))=_;rw[g,G,an3 a]
 ·have l:s.size≠8:=by have:=Ew h;omega
  have t:s.size≠7:=by have:=Ew y;omega
  rw[an2 l t];rfl
 ·have n:i<s.size/\i<6:=by simp at n;omega
  have o:=Pr s i;have E:=aGm s i;have F:p_ s%2^(8*i+8)=0:=by
   have:=aEi s;obtain⟨H,D⟩:=aiR this;rw[D,<-US,show(48:Nat)=(8*i+8)+(40-8*i)by omega,Jk,Nat.mul_assoc];exact Nat.mul_mod_right _ _
  have c:=UN (k:=8*i) E o F;have hp:(2:Nat)^(8*i)*256<=281474976710656:=by
   have:(2:Nat)^(8*i+8)<=2^48:=nF Y Y;rw[Jk,US]at this;exact this
  have S:jg s i*2^(8*i)<=255*2^(8*i):=ox _ Y;have z:=aEh s;have B:Q bW ((8:Int)*(i:Int))=((8*i:Nat):Int):=by rw[wr Y Y];push_cast;rfl
  rw[B];refine⟨Y,Y,Y,i+1,⟨Y,Y⟩,by rw[r_,r_];omega,rfl,?_,rfl,?_⟩
  ·have e:Q fh (Q fh ((jg s i:Nat):Int)*(2:Int)^min (8*i) (cZ fh))=((jg s i*2^(8*i):Nat):Int):=XG o Y
   show bits .or .u64 _ (Q fh (Q fh ((jg s i:Nat):Int)*(2:Int)^min (8*i) (cZ fh)))=_;rw[e,K8 _ _ Y Y,c,Ul n.1,I9]
  ·rw[wr Y Y];push_cast;rfl
 ·have q:(i:Int)>=min (s.size:Int) 6:=by simp at q;omega
  unfold fo;congr 1;rcases ab0 s with⟨a,z⟩|⟨y,z⟩|⟨l,t,z⟩
  ·have hi:i=6:=Y
   subst hi;have r:=Ul (s:=s) (i:=6) Y;have f:=Ul (s:=s) (i:=7) Y;rw[show 8*6=48 from rfl,<-w]at r;rw[show 8*7=56 from rfl,<-j]at f;rw[<-adb (s:=s) (i:=8) Y,z,f,r];generalize jg s 7*xz=u;generalize jg s 6*rJ=v;omega
  ·have hi:i=6:=Y
   subst hi;have r:=Ul (s:=s) (i:=6) Y;rw[show 8*6=48 from rfl,<-w]at r;rw[<-adb (s:=s) (i:=7) Y,z,r];generalize jg s 6*rJ=v;omega
  ·rw[<-adb (s:=s) (i:=i) Y,z,rA])⟩
def RH:=m.cons aAT<| .cons aAP<| .cons aAC<| .cons aAU<|m.nil
def aAX:=aOI.gd RH Tryz.func105 fun⟨s,a,e,f⟩ _=>⟨aK,J (p:=alL s a e f (ah=fu s a e f)) (by
 unfold alL fu Dq Bq;grind)⟩
def aAQ:=agv.gE aOC RH Tryz.func107 fun⟨s,a,e,f⟩ ⟨h,x,_⟩=>⟨aK,J (p:=aat s a e f) (aAR s a e f h x)⟩
def aAM:=agt.gE aOz RH Tryz.func95 fun⟨n,s,a,e,f⟩ _=>⟨aK,J (p:=aAN n s a e f) (by
 refine⟨fun h=>?_,fun h=>?_⟩<;>rw[h]<;>exact⟨rfl,rfl,rfl,rfl,rfl,rfl,rfl,rfl,rfl⟩)⟩
def JG:=m.cons aAX<| .cons aAQ<| .cons aAM<|RH
theorem aAE(h x:Int)(s:M)(a e f:Int):aar h x s a e f=QV ar (oC (sa JG)) (fun _=>ae) Tryz.f106 [.p 0 0 0,.p 1 0 0] [(0,.cells 25 [.v (.int .i64 h),.v (.int .i64 x)]),(1,.cells 114 [.p 2 0 0]),(2,.cells 117 (SB s a e f))] (.leaf (.tu []) [(0,.cells 25 [.v (.int .i64 h),.v (.int .i64 x)]),(1,.cells 114 [.p 2 0 0]),(2,.cells 117 (SB s a (Be e h) (Bf e f h x)))]):=ax
theorem aAF:rI ar 106 (DC.of Xo Spec.no):=rI.of ax aOv (fun(y,x,s,a,e,f) _ w us=>ag9 JG mixed Tryz.func106 rfl (aAE y x s a e f▸aAG y x s a e f) .returning w us) Spec.adD (fun _ _ w pv us=>fun D β h=>by simp[Spec.no,Z]at h)
theorem ayk:A7 ar DCb:=.cons aAF .nil
theorem aAH:Sound ar 72 Xn.iY:=Xn.sound ax aOw fun(n,s,a,e,f) h=>by
 have x:=h _ (.head _);have y:=h _ (.tail _ (.head _));exact ag_ JG yH.nil ayk mixed Tryz.func72 (ax:alE n s a e f=MC ar (oC (sa JG)) (En []) (oBy n s a e f) (JC DCb) Tryz.f72 [.p 0 0 0,.v (.int .i64 n)] [(0,.cells 117 (SB s a e f))] (.leaf (.v (.string (ch s a e n))) [(0,.cells 117 (SB s (ee s a e n) (dI s a e n) (gf s a e f n)))])) (aAI n s a e f x y)
def aAV:=aOG.gd JG Tryz.func71 fun⟨s,a,e,f⟩ ⟨h,_⟩=>⟨aK,J (p:=alK s a e f) (by
 grind [alK])⟩
def M9:=m.cons aAV<| .cons aAH<|JG
def aAK:=aOy.gd M9 Tryz.func65 fun⟨s,a,e,f⟩ ⟨h,y,_⟩=>⟨aK,J (p:=aAL s a e f) (by
 have z:=Nx (n:=1) h Y;have k:=aqc (s:=ch s a e 1) Y;have r:=UH (ch s a e 1);refine⟨h,h,y,avj z Y,rfl,rfl,rfl,rfl,?_⟩;rw[wr Y Y];cases x:dI s a e 1 !=0
 ·rfl
 ·have:ch s a e 1=aJ:=by unfold ch;rw[azL x];rfl
  rw[this];rfl)⟩
def aAS:=aOD.gd M9 Tryz.func66 fun⟨s,a,e,f,n⟩ ⟨h,z,y,x,_⟩=>⟨aK,J (p:=alH s a e f n) (by
 have k:=avj (Nx h Y) x;grind [alH])⟩
def aAJ:=aOx.gd M9 Tryz.func51 fun⟨s,a,e,f,n⟩ ⟨h,x,_⟩=>⟨aK,J (p:=fu s a e f=ab/\fu s a e f=ab/\kD s<=(9223372036854775807:Nat)/\s=s/\ee s a e n=ee s a e n/\dI s a e n=dI s a e n/\gf s a e f n=gf s a e f n/\ch s a e n=ch s a e n) (⟨h,h,x,rfl,rfl,rfl,rfl,rfl⟩)⟩
def aAO:=aOA.gd M9 Tryz.func67 fun⟨s,a,e,f,x,y⟩ ⟨h,z,k,_⟩=>⟨aK,J (p:=alF s a e f x y) (by
 grind [alF,Bu,Ae])⟩
def ajt:=m.cons aAK<| .cons aAS<| .cons aAJ<| .cons aAO<|M9
def aAW:=aOH.gd ajt Tryz.func64 fun⟨s,a,e,f,n⟩ ⟨h,x,_⟩=>⟨aK,J (p:=fu s a e f=ab/\kD s<=(9223372036854775807:Nat)/\s=s/\ee s a e n=ee s a e n/\dI s a e n=dI s a e n/\gf s a e f n=gf s a e f n) (⟨h,x,rfl,rfl,rfl,rfl⟩)⟩
def M_:=m.cons aAW<|ajt
end Go.Proofs.YtegnkfbnmepmpaaGreatDoor
namespace Go.Proofs.YtegnkfbnmepmpaaGreatDoor
open Go
abbrev jT:=Int×Int×Int
def gv(s:M)(c:jT)(n:Int):jT:=(ee s c.1 c.2.1 n,dI s c.1 c.2.1 n,gf s c.1 c.2.1 c.2.2 n)
def vQ(s:M)(c:jT)(n:Int):Int:=fo (ch s c.1 c.2.1 n)
def pZ(s:M)(c:jT)(n:Int):jT:=cond (n==0) c (gv s c n)
def vx(s:M)(c:jT)(n:Int):Int:=cond (n==0) 0 (vQ s c n)
def xT:M:={data:=#[40,181,47,253]}
def BK(s t:M):Bool:=decide (t.size<=s.size)&&((s.extract 0 t.size).toList==t.toList)
def EP(s:M)(a:Int):M:=s.extract a.toNat (min (s.size:Int) (a+4)).toNat
def s9(s:M)(a:Int):Bool:=BK xT (EP s a)
def uN(b:Int):Int:=2^(10+b/8).toNat+b%8*2^(7+b/8).toNat
def aN(b m:Int):Int:=bits .and .i64 b m
def Km(s:M)(a:Int):jT:=(d_ s a,dS s a,0)
def lB(s:M)(a:Int):jT:=gv s (Km s a) 4
def jX(s:M)(a:Int):Int:=vQ s (lB s a) 1
def kT(s:M)(a:Int):jT:=gv s (lB s a) 1
def jo(s:M)(a:Int):Bool:=aN (jX s a) 32 !=0
def oj(s:M)(a:Int):Bool:=aN (jX s a) 4 !=0
def mL(s:M)(a:Int):jT:=cond (jo s a) (kT s a) (gv s (kT s a) 1)
def ml(s:M)(a:Int):Int:=cond (jo s a) 0 (uN (vQ s (kT s a) 1))
def Kn(s:M)(a:Int):Int:=[(0:Int),1,2,4].getD (aN (jX s a) 3).toNat 0
def kU(s:M)(a:Int):jT:=pZ s (mL s a) (Kn s a)
def xL(s:M)(a:Int):Int:=vx s (mL s a) (Kn s a)
def BC(s:M)(a:Int):Int:=[(0:Int),2,4,8].getD (jX s a/64).toNat 0
def pq(s:M)(a:Int):Int:=cond ((BC s a==0)&&jo s a) 1 (BC s a)
def mY(s:M)(a:Int):jT:=pZ s (kU s a) (pq s a)
def Dd(s:M)(a:Int):Int:=vx s (kU s a) (pq s a)
def mh(s:M)(a:Int):Int:=cond (jX s a/64==1) (Dd s a+256) (Dd s a)
def oL(s:M)(a:Int):Int×Int:=cond (dS s a !=0) (dS s a,0) (cond (!s9 s (d_ s a)) (14,d_ s a) (cond ((lB s a).2.1 !=0) ((lB s a).2.1,(lB s a).2.2)
 (cond (((kT s a).2.1==0)&&(aN (jX s a) 8 !=0)) (15,(kT s a).1-1) (0,0))))
def vD(s:M)(a:Int):Int×Int:=cond ((mY s a).2.1 !=0) ((mY s a).2.1,(mY s a).2.2) (cond (xL s a !=0) (16,(mL s a).1) (cond (jo s a&&decide (134217728<mh s a)) (17,(kU s a).1)
 (cond (!jo s a&&decide (134217728<ml s a)) (17,(kT s a).1) (cond (decide (1099511627776<mh s a)) (2,(kU s a).1) (0,0)))))
def cR(s:M)(a:Int):Int×Int:=cond ((oL s a).1==0) (vD s a) (oL s a)
def xM(s:M)(a:Int):Bool:=(cR s a).1==0
def xO(s:M)(a:Int):Int:=cond (decide (0<pq s a)) (mh s a) (-1)
def bc(s:M)(a:Int):Int:=cond (xM s a) (cond (jo s a) (xO s a) (ml s a)) 0
def dj(s:M)(a:Int):Int:=cond (xM s a) (xO s a) 0
def gQ(s:M)(a:Int):Bool:=xM s a&&jo s a
def dN(s:M)(a:Int):Bool:=xM s a&&oj s a
def bJ(s:M)(a:Int):Int:=cond (xM s a) (mY s a).1 0
end Go.Proofs.YtegnkfbnmepmpaaGreatDoor
namespace Go.Proofs.YtegnkfbnmepmpaaGreatDoor
open Go Go.RowKit
def Ho(s:M)(c:jT):bL:=[.v (.string s),.v (.int .i64 c.1),.v (.int .i64 c.2.1),.v (.int .i64 c.2.2)]
def sHp:Spec:=Sp (M×M) [.s,.s] fun(s,t)=>([],aE (fN (BK s t)))
def aub:Spec:=Sp Int [.i] fun b=>([E (0<=b),E (b<=255)],aE (B (uN b)))
def aO1:Spec:=Sp Unit [] fun _=>([],aE (qT [0,1,2,4]))
def aO3:Spec:=Sp Unit [] fun _=>([],aE (qT [0,2,4,8]))
def agB:Spec where
 ι:=M×Int×Int×Int
 dec l H:=match l with
  | [.p l0 0 0]=>match H l0 with
    |some (.cells 73 [.v (.string s),.v (.int .i64 a),.v (.int .i64 e),.v (.int .i64 f)])=>O ((s,a,e,f),[l0])
    |_=>ae
  |_=>ae
 args:=fun(s,a,e,f)=>[U 0]
 hp:=fun(s,a,e,f)=>[(0,.cells 73 [aD s,B a,B e,B f])]
 pre:=fun(s,a,e,f)=>[E (fu s a e f=ab),E (s.size<=9223372036854775807)]
 out:=fun(s,a,e,f)=>.leaf (B (vQ s (a,e,f) 1)) [(0,.cells 73 (Ho s (gv s (a,e,f) 1)))]
theorem aOZ:agB.dn:=by
 intro l H n i x h;simp only[agB]at h
 repeat' split at h
 all_goals first|(cases h;done)|(cases h;exact⟨rfl,rfl⟩)|(cases h;refine⟨rfl,?_⟩;simp only[dK,iF,iN,gN, *];rfl)
def agD:Spec where
 ι:=Int×M×Int×Int×Int
 dec l H:=match l with
  | [.p l0 0 0,.v (.int .i64 n)]=>match H l0 with
    |some (.cells 73 [.v (.string s),.v (.int .i64 a),.v (.int .i64 e),.v (.int .i64 f)])=>O ((n,s,a,e,f),[l0])
    |_=>ae
  |_=>ae
 args:=fun(n,s,a,e,f)=>[U 0,B n]
 hp:=fun(n,s,a,e,f)=>[(0,.cells 73 [aD s,B a,B e,B f])]
 pre:=fun(n,s,a,e,f)=>[E (fu s a e f=ab),E (s.size<=9223372036854775807),E (0<=n),E (n<=8)]
 out:=fun(n,s,a,e,f)=>.leaf (dy (vx s (a,e,f) n)) [(0,.cells 73 (Ho s (pZ s (a,e,f) n)))]
theorem aO2:agD.dn:=by
 intro l H n i x h;simp only[agD]at h
 repeat' split at h
 all_goals first|(cases h;done)|(cases h;exact⟨rfl,rfl⟩)|(cases h;refine⟨rfl,?_⟩;simp only[dK,iF,iN,gN, *];rfl)
def agC:Spec where
 ι:=M×Int×Int×Int
 dec l H:=match l with
  | [.p l0 0 0]=>match H l0 with
    |some (.cells 73 [.v (.string s),.v (.int .i64 a),.v (.int .i64 e),.v (.int .i64 f)])=>O ((s,a,e,f),[l0])
    |_=>ae
  |_=>ae
 args:=fun(s,a,e,f)=>[U 0]
 hp:=fun(s,a,e,f)=>[(0,.cells 73 [aD s,B a,B e,B f])]
 pre:=fun(s,a,e,f)=>[E (fu s a e f=ab),E (e=0),E (s.size<=9223372036854775000)]
 out:=fun(s,a,e,f)=>.ite (E (s9 s a=ab)) (.leaf (.ag [.v (.int .i64 (gv s (a,e,f) 4).2.1),.v (.int .i64 (gv s (a,e,f) 4).2.2)]) [(0,.cells 73 (Ho s (gv s (a,e,f) 4)))]) (.leaf (.ag [B 14,B a]) [(0,.cells 73 (Ho s (a,e,f)))])
theorem aO0:agC.dn:=by
 intro l H n i x h;simp only[agC]at h
 repeat' split at h
 all_goals first|(cases h;done)|(cases h;exact⟨rfl,rfl⟩)|(cases h;refine⟨rfl,?_⟩;simp only[dK,iF,iN,gN, *];rfl)
def aua:Spec:=Sp (M×Int) [.s,.i] fun(s,a)=>([E (s.size<=1000000)],aE (.tu [.ag [B (bc s a),B (dj s a),fN (gQ s a),fN (dN s a)],B (bJ s a),.ag [.v (.int .i64 (cR s a).1),.v (.int .i64 (cR s a).2)]]))
def dX:List (Nat×xu)->Nat->Option xu
 | [],_=>ae
 |(i,x)::r,k=>cond (ap k i) (O x) (dX r k)
def E6(s:M)(c:jT)(w z:Int)(g m:Bool)(e f:Int):bN:=[(1001,.cells 73 (Ho s c)),(1002,.cells 29 [.v (.int .i64 w),.v (.int .i64 z),.v (.bool g),.v (.bool m)]),(1003,.cells 25 [.v (.int .i64 e),.v (.int .i64 f)])]
def E7(p:Prop)(h:lW)(hp:bN):xu:=.one (bi Unit fun _=>(p,(4,U 1002)::(6,U 1003)::(7,U 1001)::h,hp,0))
def E8(s:M)(a:Int):Prop:=dS s a=0/\s9 s (d_ s a)=ab/\(lB s a).2.1=0
def oHd(s:M)(a:Int):bO:=dX [
 (1007,E7 (E8 s a) [] (E6 s (lB s a) 0 0 ah ah 0 0)),
 (1010,E7 (E8 s a/\(oL s a).1=0) [(8,B (jX s a))] (E6 s (kT s a) 0 0 ah ah 0 0)),
 (1014,E7 (E8 s a/\(oL s a).1=0) [(8,B (jX s a)),(9,.v (.int .i64 (kT s a).1))] (E6 s (mL s a) (ml s a) (-1) (jo s a) (oj s a) 0 0)),
 (1020,E7 (E8 s a/\(oL s a).1=0) [(8,B (jX s a)),(9,.v (.int .i64 (kT s a).1)),(10,.v (.int .i64 (mL s a).1)),(11,dy (xL s a)),(12,.v (.int .i64 (kU s a).1)),(13,B (pq s a))] (E6 s (kU s a) (ml s a) (-1) (jo s a) (oj s a) 0 0)),
 (1023,E7 (E8 s a/\(oL s a).1=0) [(9,.v (.int .i64 (kT s a).1)),(10,.v (.int .i64 (mL s a).1)),(11,dy (xL s a)),(12,.v (.int .i64 (kU s a).1)),(13,B (pq s a)),(14,dy (mh s a))] (E6 s (mY s a) (ml s a) (-1) (jo s a) (oj s a) 0 0)),
 (1033,E7 (E8 s a/\(cR s a).1=0) [(13,B (pq s a)),(14,dy (mh s a))] (E6 s (mY s a) (ml s a) (-1) (jo s a) (oj s a) 0 0)),
 (1035,E7 (E8 s a/\(cR s a).1=0) [] (E6 s (mY s a) (ml s a) (xO s a) (jo s a) (oj s a) 0 0)),
 (1037,E7 (E8 s a/\(cR s a).1=0) [] (E6 s (mY s a) (bc s a) (xO s a) (jo s a) (oj s a) 0 0))]
def ft(h0 h1:Prop):Prop:=(0:Int)<=0/\h0/\h1
def bY:Nat:=X 0
def aEI(s t:M):Prop:=
 BK s t=BK s t
def jd(h0:Int)(h1:IntKind):Int:=Wq (1*2^aB h0.toNat h1.bits)
def anN(b D P:Int):Prop:=(0:Int)<=3/\cE (10+b.fdiv (gH (X 3) IntKind.i64.bits))/\cE D/\Wq (jd P .i64+Wq (bits .and .i64 b 7*o9 (Wq D) .i64))=uN b
def abN(b:Int):Prop:=anN b (Wq (10+b.fdiv (gH (X 3) IntKind.i64.bits))-3) (Wq (10+b.fdiv (gH (X 3) IntKind.i64.bits)))
def gg(h0 h1:N):Prop:=h0.length=h1.length
def sG:N:=[0,1,2,4]
def yd:N:=au 4 (0:Int)
def anK(D:N):Prop:=gg D yd/\(4:Nat)=4/\D=D
def fQ(h0:M):Prop:=h0.size<=9223372036854775807
def V8(h0:M)(h1:Int)(h:jT)(x:Int×Int):Prop:=h0=h0/\h1=h.1/\x.1=h.2.1/\x.2=h.2.2
def anJ(n:Int)(s:M)(a e f:Int)(D:jT)(P:Int):Prop:=Bq (n==0) (0=vx s (a,(e,f)) n/\V8 s a D (e,f)) (fu s a P (e,f).2=ab/\fQ s/\1<=n/\n<=8/\fo (ch s a P n)=vx s (a,(e,f)) n/\s=s/\ee s a P n=D.1/\dI s a P n=D.2.1/\gf s a P (e,f).2 n=D.2.2)
def cU(h0:M)(h1 h:Int):M:=h0.extract h1.toNat h.toNat
def F'(h0:List UInt8):M:=ByteArray.mk ((40:UInt8)::(181:UInt8)::(47:UInt8)::h0).toArray
def anI(s:M)(a e f:Int)(D P:Prop)(i p j:Int)(h:jT)(k z x y:Int):Prop:=aF a (a<=z) (z<=aO s/\Bq (!BK (F' [253]) (cU s a z)) (Cq (s9 s a=ab) (14=p/\a=j/\V8 s a h (e,f)) ((14:Int)=14/\a=a/\fV s a (x=x) (y=y))) (fu s a x y=ab/\fQ s/\Cq (s9 s a=ab) (P/\D/\s=s/\ee s a x 4=h.1/\P/\D) (k=14/\i=a/\s=s/\ee s a x 4=a/\k=x/\i=y)))
def anH(s:M)(a e f:Int):Prop:=anI s a e f (gf s a (e,f).1 (e,f).2 4=(gv s (a,(e,f)) 4).2.2) (dI s a (e,f).1 4=(gv s (a,(e,f)) 4).2.1) (gf s a (e,f).1 (e,f).2 4) (gv s (a,(e,f)) 4).2.1 (gv s (a,(e,f)) 4).2.2 (gv s (a,(e,f)) 4) (dI s a (e,f).1 4) (aB (aO s) (Wq (a+4))) (e,f).1 (e,f).2
def eO(h0:Prop):Prop:=∀(h:Unit),h0
def aw(h0:Int)(h1 h:Prop):Prop:=h0=h0/\h1/\h
def oV(h0:M)(h1:Int)(h:Prop):Prop:=0=bc h0 h1/\0=dj h0 h1/\ah=gQ h0 h1/\ah=dN h0 h1/\0=bJ h0 h1/\h
def AF(h0:M)(h1 h:jT)(x:Prop):Prop:=h0=h0/\h1.1=h.1/\h1.2.1=h.2.1/\h1.2.2=h.2.2/\x
def ca(h0:Prop):Prop:=(0:Int)=0/\(0:Int)=0/\h0
def Dz(h0 h1:Prop):Prop:=ca (ah=ah/\h0/\h1)
def pG(h0:Bool)(h1 h x:Prop):Prop:=Cq (h0=ab) (h1/\h) (h1/\x)
def Im(h0:M)(h1:jT):Prop:=fu h0 h1.1 h1.2.1 h1.2.2=ab
def dO(h0:Int×Int):Prop:=0=h0.1/\0=h0.2
def uD(h0:jT):Int×Int×Int:=(h0.1,(h0.2.1,h0.2.2))
def aet(h0:M)(h1:Int)(h x y:Prop):Prop:=Bq (jo h0 h1) (aL (h/\x)) (aL (h/\y))
def DD(h0:jT)(h1 h:Int)(x y:Prop):Prop:=aw h0.1 (h1=h1) (aw h x y)
def bF(h0:Int):Int:=Wq (h0-1)
def fH:Int:= -1
def Ir(h0 h1:Prop):Prop:=Dz (ah=ah) (h0/\h1)
def o5:Prop:=ah=ah
def aeR(h0:M)(h1:Int)(h:jT)(x:Int×Int):Prop:=oV h0 h1 (h.2.1=x.1/\h.2.2=x.2)
def dE:Prop:=(0:Int)=0/\(0:Int)=0
def DH(h0:M)(h1:Int):Prop:=fu h0 (d_ h0 h1) (dS h0 h1) 0=ab
def iy(h0:Bool)(h1 h x:Prop):Prop:=Bq h0 h1 h/\eO x
def l7(h0:M)(h1:Int):Int×Int×Int:=(d_ h0 h1,(dS h0 h1,0))
def anM(s:M)(a:Int)(D P p j h l x e f n W:Prop)(A:Int)(g m:Prop)(o b:Int)(c:Prop)(q:Int)(t:jT)(d k v r u w y i:Int)(z:jT):Prop:=Bq (dS s a !=0) (oV s a (dS s a=r/\0=u)) (pG (s9 s (d_ s a)) (DH s a) (dS s a=0/\s.size<=9223372036854775000/\Bq ((gv s (l7 s a) 4).2.1 !=0) (aeR s a (gv s (l7 s a) 4) (cR s a)) (aL (n/\AF s (gv s (l7 s a) 4) (lB s a) (Ir ((gv s (l7 s a) 4).2.1=0) ((gv s (l7 s a) 4).2.2=0))))) (dS s a=0/\s.size<=9223372036854775000/\Bq ((14:Int) !=0) (oV s a (14=r/\d_ s a=u)) (aL (n/\s=s/\d_ s a=(lB s a).1/\(dS s a,(0:Int)).1=(lB s a).2.1/\(dS s a,(0:Int)).2=(lB s a).2.2/\Ir ((14:Int)=0) (d_ s a=0))))/\eO (n->Im s (lB s a)/\fQ s/\iy (t.2.1==0) (Bq (bits .and .i64 (vQ s (uD (lB s a)) 1) 8 !=0) (oV s a (15=r/\bF t.1=u)) p) p (x->iy (!bits .and .i64 i 32 !=0) (Im s (kT s a)/\fQ s/\aF d (d<=255) (aL (x/\aw i c (AF s (gv s (uD (kT s a)) 1) (mL s a) (uN d=ml s a/\l))))) (aL (x/\aw i c (AF s (kT s a) (mL s a) (0=ml s a/\l)))) (x->aF q (q<Zq 4) (4=sG.length/\Im s (mL s a)/\fQ s/\aF o (o<=8) ((0:Int)<=6/\aF b (b<Zq 4) (4= [(0:Int),2,4,8].length/\iy (A==0) (aet s a x (aw i c (aw w W (f/\1=y/\j))) P) (aL (x/\P)) (x->Im s (kU s a)/\fQ s/\aF y (y<=8) (((0:Int)<=6/\Bq (b==1) (aL (x/\DD (kT s a) w (xL s a) ((kU s a).1=(kU s a).1) (aw y (Q .u64 (vx s (uD (kU s a)) y+256)=mh s a) h))) (aL (x/\DD (kT s a) w (xL s a) ((kU s a).1=(kU s a).1) (aw y (vx s (uD (kU s a)) y=mh s a) h))))/\eO (x->iy (k !=0) (aeR s a z (cR s a)) (Bq (xL s a !=0) (oV s a (16=r/\w=u)) (Bq (jo s a) (Dq (mh s a>134217728) (oV s a (17=r/\(kU s a).1=u)) D) D)) (e->Dq (y>0) (aL (e/\s=s/\DD z k v (ml s a=ml s a) (Wq (mh s a)=xO s a/\m))) (aL (e/\s=s/\DD z k v (ml s a=ml s a) (fH=xO s a/\m)))/\eO (e->aet s a e (s=s/\DD z k v (xO s a=bc s a) g) (s=s/\DD z k v (ml s a=bc s a) g)/\eO (e->aw (bc s a) (xO s a=dj s a) (jo s a=gQ s a/\oj s a=dN s a/\z.1=bJ s a/\dO (cR s a)))))))))))))))
def anL(s:M)(a:Int):Prop:=anM s a (Bq (!jo s a) (Dq (ml s a>134217728) (oV s a (17=(cR s a).1/\(kT s a).1=(cR s a).2)) (Dq (mh s a>1099511627776) (oV s a (2=(cR s a).1/\(kU s a).1=(cR s a).2)) (aL (((dS s a=0/\s9 s (d_ s a)=ab/\(lB s a).2.1=0)/\(cR s a).1=0)/\aw (pq s a) (mh s a=mh s a) (s=s/\DD (mY s a) (mY s a).2.1 (mY s a).2.2 (ml s a=ml s a) (aw fH (jo s a=jo s a) (oj s a=oj s a/\dE))))))) (Dq (mh s a>1099511627776) (oV s a (2=(cR s a).1/\(kU s a).1=(cR s a).2)) (aL (((dS s a=0/\s9 s (d_ s a)=ab/\(lB s a).2.1=0)/\(cR s a).1=0)/\aw (pq s a) (mh s a=mh s a) (s=s/\DD (mY s a) (mY s a).2.1 (mY s a).2.2 (ml s a=ml s a) (aw fH (jo s a=jo s a) (oj s a=oj s a/\dE))))))) (aw (jX s a) ((kT s a).1=(kT s a).1) (aw (mL s a).1 (vx s (uD (mL s a)) (sG.getD (bits .and .i64 (jX s a) 3).toNat (0:Int))=xL s a) ((pZ s (uD (mL s a)) (sG.getD (bits .and .i64 (jX s a) 3).toNat (0:Int))).1=(kU s a).1/\[(0:Int),2,4,8].getD ((jX s a).fdiv (gH (X 6) IntKind.i64.bits)).toNat (0:Int)=pq s a/\AF s (pZ s (uD (mL s a)) (sG.getD (bits .and .i64 (jX s a) 3).toNat (0:Int))) (kU s a) (aw (ml s a) (fH=fH) (jo s a=jo s a/\oj s a=oj s a/\dE))))) (aL (((dS s a=0/\s9 s (d_ s a)=ab/\(lB s a).2.1=0)/\(oL s a).1=0)/\vQ s (uD (lB s a)) 1=jX s a/\AF s (gv s (uD (lB s a)) 1) (kT s a) (Dz o5 dE))) (AF s (pZ s (uD (mL s a)) (sG.getD (bits .and .i64 (jX s a) 3).toNat (0:Int))) (kU s a) (aw (ml s a) (fH=fH) (jo s a=jo s a/\oj s a=oj s a/\dE))) (AF s (pZ s (uD (kU s a)) (pq s a)) (mY s a) (aw (ml s a) (fH=fH) (jo s a=jo s a/\oj s a=oj s a/\dE))) (aw fH ((bits .and .i64 (jX s a) 32 !=0)=jo s a) ((bits .and .i64 (jX s a) 4 !=0)=oj s a/\dE)) ((dS s a=0/\s9 s (d_ s a)=ab/\(lB s a).2.1=0)/\(oL s a).1=0) ((dS s a=0/\s9 s (d_ s a)=ab/\(lB s a).2.1=0)/\(cR s a).1=0) ((pZ s (uD (mL s a)) (sG.getD (bits .and .i64 (jX s a) 3).toNat (0:Int))).1=(kU s a).1) (dS s a=0/\s9 s (d_ s a)=ab/\(lB s a).2.1=0) (vx s (uD (mL s a)) (sG.getD (bits .and .i64 (jX s a) 3).toNat (0:Int))=xL s a) ([(0:Int),2,4,8].getD ((jX s a).fdiv (gH (X 6) IntKind.i64.bits)).toNat (0:Int)) (aw (xO s a) (jo s a=jo s a) (oj s a=oj s a/\dE)) (jo s a=jo s a/\oj s a=oj s a/\dE) (sG.getD (bits .and .i64 (jX s a) 3).toNat (0:Int)) ((jX s a).fdiv (gH (X 6) IntKind.i64.bits)) ((kT s a).1=(kT s a).1) (bits .and .i64 (jX s a) 3) (gv s (uD (lB s a)) 1) (vQ s (uD (kT s a)) 1) (mY s a).2.1 (mY s a).2.2 (cR s a).1 (cR s a).2 (mL s a).1 (pq s a) (jX s a) (mY s a)
theorem Fv{a:Int}(h:(a !=(0:Int))=ab):a≠0:=c9
theorem aDS:∀k:Fin 256,abN ((k.val:Nat):Int):=by
 unfold abN anN jd o9 gH cE Wq;decide+kernel
section
variable{s:M}{a:Int}
theorem XN{c:jT}(h:fu s c.1 c.2.1 c.2.2=ab)(n:Int):fu s (gv s c n).1 (gv s c n).2.1 (gv s c n).2.2=ab:=akP h n
theorem amC{c:jT}(h:fu s c.1 c.2.1 c.2.2=ab)(n:Int):fu s (pZ s c n).1 (pZ s c n).2.1 (pZ s c n).2.2=ab:=by grind [pZ,XN]
theorem Dl:fu s (Km s a).1 (Km s a).2.1 (Km s a).2.2=ab:=KY s a
theorem oO:fu s (lB s a).1 (lB s a).2.1 (lB s a).2.2=ab:=XN Dl 4
theorem Dm:fu s (kT s a).1 (kT s a).2.1 (kT s a).2.2=ab:=XN oO 1
theorem hv3:fu s (mL s a).1 (mL s a).2.1 (mL s a).2.2=ab:=by grind [mL,XN,Dm]
theorem hv4:fu s (kU s a).1 (kU s a).2.1 (kU s a).2.2=ab:=amC hv3 _
theorem hv5:fu s (mY s a).1 (mY s a).2.1 (mY s a).2.2=ab:=amC hv4 _
theorem ou1{c:jT}(h:fu s c.1 c.2.1 c.2.2=ab):0<=vQ s c 1/\vQ s c 1<=255:=by
 have x:=Nx (n:=1) h Y;have:=aqc (s:=ch s c.1 c.2.1 1) Y;exact⟨UH _,by unfold vQ;omega⟩
theorem anO:0<=jX s a/\jX s a<=255:=ou1 oO
theorem aA0:∀k:Fin 256,0<=bits .and .i64 ((k.val:Nat):Int) 3/\bits .and .i64 ((k.val:Nat):Int) 3<4:=by decide+kernel
theorem aDU:0<=aN (jX s a) 3/\aN (jX s a) 3<4:=by
 have h:=anO (s:=s) (a:=a);have:=aA0 ⟨(jX s a).toNat,Y⟩;exact this
theorem aB5:kQ (jX s a) ((2:Int)^min (X (6:Int)) (cZ bW))=jX s a/64:=by
 have e:(2:Int)^min (X (6:Int)) (cZ bW)=64:=H;grind
theorem am'(l:N)(z:l.length=4)(y:∀x∈l,0<=x/\x<=8)(i:Nat):0<=l.getD i 0/\l.getD i 0<=8:=by
 rw[jR];cases h:l[i]?with
 |none=>simp
 |some x=>exact y x (aiJ h)
theorem aDV:0<=Kn s a/\Kn s a<=8:=am' _ rfl (by simp;try omega) _
theorem aDW:0<=BC s a/\BC s a<=8:=am' _ rfl (by simp;try omega) _
theorem aDX:0<=pq s a/\pq s a<=8:=by
 have:=aDW (s:=s) (a:=a);grind [pq]
theorem aCc(c:jT)(n:Int):0<=vx s c n:=by
 unfold vx;cases n==0
 ·exact UH _
 ·simp
theorem aDY(h:(jX s a/64==1)=ab):Dd s a<=65535:=by
 have e:=xw h;have x:pq s a=2:=by grind [pq,BC]
 have k:=Nx (n:=2) (hv4 (s:=s) (a:=a)) Y;unfold Dd vx;rw[x];show fo _<=_;have z:=adG (s:=ch s (kU s a).1 (kU s a).2.1 2);have y:(256:Int)^(ch s (kU s a).1 (kU s a).2.1 2).size<=256^2:=by
  have:=nF (show 0<256 by omega) (show(ch s (kU s a).1 (kU s a).2.1 2).size<=2 by omega);grind
 omega
theorem wO{e f:Int}(h:cR s a=(e,f))(x:e≠0):(0:Int)=bc s a/\(0:Int)=dj s a/\ah=gQ s a/\ah=dN s a/\(0:Int)=bJ s a/\e=(cR s a).1/\f=(cR s a).2:=by
 have y:xM s a=ah:=by unfold xM;rw[h];exact oc x
 unfold bc dj gQ dN bJ;grind
theorem E9{e f:Int}(h:oL s a=(e,f))(x:e≠0):cR s a=(e,f):=by grind [cR]
theorem De{e f:Int}(hp:(oL s a).1=0)(h:vD s a=(e,f)):cR s a=(e,f):=by grind [cR]
theorem anP(hp:(oL s a).1=0)(y:(mY s a).2.1=0)(hi:xL s a=0)(h1:(jo s a&&decide (134217728<mh s a))=ah)(h:(!jo s a&&decide (134217728<ml s a))=ah)(x:decide (1099511627776<mh s a)=ah):(cR s a).1=0:=by grind [vD,De]
theorem Tv(h:(cR s a).1=0):(cR s a).2=0/\mh s a<=1099511627776:=by grind [cR,vD]
end
def aEJ:=sHp.gd m.nil Tryz.func94 fun⟨s,t⟩ _=>⟨aK,J (p:=Dq (aO s>=aO t) (ft (0<=aO t) (aO t<=aO s/\((s.extract bY (aO t).toNat).toList==t.toList)=BK s t)) (ah=BK s t)) (by
 unfold bY ft aO BK Dq Zq;grind)⟩
def aDT:=aub.gd m.nil Tryz.func38 fun(b:Int) ⟨h,x,_⟩=>⟨aK,J (p:=abN b) (by
 have:=aDS ⟨b.toNat,Y⟩;grind)⟩
def aDO:=aO1.gd m.nil Tryz.func40 fun _ _=>⟨aK,J (p:=gg sG yd/\(4:Nat)=4/\sG=sG) (by
 unfold yd sG gg;first|rfl|trivial|decide)⟩
def aDQ:=aO3.gd m.nil Tryz.func41 fun _ _=>⟨aK,J (p:=anK [0,2,4,8]) (by
 unfold anK yd gg;first|rfl|trivial|decide)⟩
def aDM:=agB.gE aOZ M_ Tryz.func37 fun⟨s,a,e,f⟩ ⟨h,x,_⟩=>⟨aK,J (p:=fu s a (e,f).fst (e,f).snd=ab/\kD s<=(9223372036854775807:Nat)/\fo (ch s a (e,f).fst (1:Int))=vQ s (a,e,f) (1:Int)/\s=s/\ee s a (e,f).fst (1:Int)=(gv s (a,e,f) (1:Int)).fst/\dI s a (e,f).fst (1:Int)=(gv s (a,e,f) (1:Int)).snd.fst/\gf s a (e,f).fst (e,f).snd (1:Int)=(gv s (a,e,f) (1:Int)).snd.snd) (⟨h,x,rfl,rfl,rfl,rfl,rfl⟩)⟩
def aDP:=agD.gE aO2 M_ Tryz.func39 fun⟨n,s,a,e,f⟩ ⟨h,z,k,y,_⟩=>⟨aK,J (p:=anJ n s a e f (pZ s (a,(e,f)) n) (e,f).1) (by
 unfold anJ fQ V8 vx pZ Bq;refine⟨fun x=>?_,fun x=>?_⟩
 ·grind
 ·have:=Ew x
  rw[x];exact⟨h,z,Y,y,rfl,rfl,rfl,rfl,rfl⟩)⟩
def ajC:=m.cons aEJ<| .cons aDT<| .cons aDO<| .cons aDQ<| .cons aDM<| .cons aDP<|M_
def aEH:=sHp.gd ajC Tryz.func63 fun⟨s,t⟩ _=>⟨aK,J (p:=aEI s t) (by
 rfl)⟩
def ajD:=m.cons aEH<|ajC
def aDL:=agC.gE aO0 ajD Tryz.func36 fun⟨s,a,e,f⟩ ⟨h,k,u,_⟩=>⟨aK,J (p:=anH s a e f) (by
 have z:=Gz.1 h;unfold anH anI fV fQ F' aF V8 aO cU Bq Cq Wq Zq;rw[wr Y Y];have y:BK {data:=#[40,181,47,253]} (s.extract a.toNat (min (s.size:Int) (a+4)).toNat)=s9 s a:=rfl;refine⟨Y,Y,Y,fun x=>?_,fun x=>⟨h,Y,fun _=>⟨rfl,rfl,rfl,rfl,rfl,rfl⟩,fun r=>?_⟩⟩
 ·grind
 ·grind)⟩
def ajE:=m.cons aDL<|ajD
def aDR:=aua.gd ajE Tryz.func17 fun⟨s,a⟩ ⟨K,_⟩=>⟨(oHd s a),J (p:=anL s a) (by
 have m:s.size<=9223372036854775807:=Y;have L:0<=Dd s a:=aCc _ _;have H:0<=mh s a:=by unfold mh;cases jX s a/64==1<;>simp only[bo,iw]<;>omega
 have A:=ou1 (Dm (s:=s) (a:=a));have l:=aDU (s:=s) (a:=a);have G:=anO (s:=s) (a:=a);have C:=aDV (s:=s) (a:=a);have D:=aDX (s:=s) (a:=a);unfold anL anM fQ aF l7 iy eO sG DH dE aeR o5 Ir fH bF DD aw aet gH uD dO aL Im pG Dz ca AF oV Dq Bq Cq Wq Zq;rw[aB5];refine⟨fun h=>?_,fun h=>⟨⟨fun d=>⟨KY s a,vj h,Y,fun r=>?_,fun r=>?_⟩,fun d=>⟨KY s a,vj h,Y,fun _=>?_,fun h=>(by cases h)⟩⟩,fun _ ⟨p1,p2,p3⟩=>⟨oO,m,⟨fun v=>⟨fun q=>?_,fun q=>?_⟩,fun v=>?_⟩,fun _ ⟨p,k⟩=>?_⟩⟩⟩
 ·refine wO (E9 ?_ (Fv h)) (Fv h)
  unfold oL;rw[h];rfl
 ·have o:(lB s a).2.1≠0:=Fv r
  refine wO (e:=(lB s a).2.1) (f:=(lB s a).2.2) (E9 ?_ o) o;unfold oL;rw[h,d,Sa o];rfl
 ·have B:(lB s a).2.1=0:=vj r
  have E:(lB s a).2.2=0:=by have:=Gz.1 (oO (s:=s) (a:=a));omega
  exact⟨(),⟨vj h,d,B⟩,rfl,rfl,rfl,rfl,rfl,rfl,rfl,rfl,B,E⟩
 ·refine wO (E9 ?_ Y) Y
  unfold oL;rw[h,show s9 s (d_ s a)=ah by simpa using d];rfl
 ·have F:Q bW ((kT s a).1-1)=(kT s a).1-1:=by
   have:=Gz.1 (Dm (s:=s) (a:=a));exact wr Y Y
  refine wO (e:=15) (f:=Q bW ((kT s a).1-1)) (E9 ?_ Y) Y;rw[F];unfold oL;rw[p1,p2,p3,show((kT s a).2.1==0)=ab from v,show(aN (jX s a) 8 !=0)=ab from q];rfl
 ·refine⟨(),⟨⟨p1,p2,p3⟩,?_⟩,rfl,rfl,rfl,rfl,rfl,rfl,rfl,rfl,rfl,rfl,rfl⟩
  unfold oL;rw[p1,p2,p3,show((kT s a).2.1==0)=ab from v,show(aN (jX s a) 8 !=0)=ah from q];rfl
 ·refine⟨(),⟨⟨p1,p2,p3⟩,?_⟩,rfl,rfl,rfl,rfl,rfl,rfl,rfl,rfl,rfl,rfl,rfl⟩
  unfold oL;rw[p1,p2,p3,show((kT s a).2.1==0)=ah from v];rfl
 refine⟨⟨fun x=>?_,fun x=>?_⟩,fun _ _=>?_⟩
 ·have x:jo s a=ah:=by have:(!jo s a)=ab:=x;simpa using this
  refine⟨Dm,m,A.1,A.2,(),⟨p,k⟩,rfl,rfl,rfl,?_,?_,?_,?_,rfl,rfl,rfl,rfl,rfl⟩<;>(first|unfold mL|unfold ml)<;>rw[x]<;>rfl
 ·have x:jo s a=ab:=by have:(!jo s a)=ah:=x;simpa using this
  refine⟨(),⟨p,k⟩,rfl,rfl,rfl,?_,?_,?_,?_,rfl,rfl,rfl,rfl,rfl⟩<;>(first|unfold mL|unfold ml)<;>rw[x]<;>rfl
 refine⟨l.1,l.2,rfl,hv3,m,C.1,C.2,Y,Y,Y,rfl,⟨fun j=>⟨fun x=>?_,fun x=>?_⟩,fun j=>?_⟩,fun _ _=>?_⟩
 ·refine⟨(),⟨p,k⟩,rfl,rfl,rfl,rfl,rfl,?_,rfl,rfl,rfl,rfl,rfl,rfl,rfl,rfl,rfl,rfl⟩
  unfold pq;rw[show(BC s a==0)=ab from j,x];rfl
 ·refine⟨(),⟨p,k⟩,rfl,rfl,rfl,rfl,rfl,?_,rfl,rfl,rfl,rfl,rfl,rfl,rfl,rfl,rfl,rfl⟩
  unfold pq;rw[show(BC s a==0)=ab from j,x];rfl
 ·refine⟨(),⟨p,k⟩,rfl,rfl,rfl,rfl,rfl,?_,rfl,rfl,rfl,rfl,rfl,rfl,rfl,rfl,rfl,rfl⟩
  unfold pq;rw[show(BC s a==0)=ah from j];rfl
 refine⟨hv4,m,D.1,D.2,⟨Y,fun r=>?_,fun r=>?_⟩,fun _ _=>?_⟩
 ·have I:=aDY r
  refine⟨(),⟨p,k⟩,rfl,rfl,rfl,rfl,rfl,?_,rfl,rfl,rfl,rfl,rfl,rfl,rfl,rfl,rfl,rfl⟩;have e:mh s a=Dd s a+256:=by unfold mh;rw[r];rfl
  rw[e];exact fW (n:=Dd s a+256) Y Y
 ·refine⟨(),⟨p,k⟩,rfl,rfl,rfl,rfl,rfl,?_,rfl,rfl,rfl,rfl,rfl,rfl,rfl,rfl,rfl,rfl⟩
  unfold mh;rw[r];rfl
 have w:∀{e f:Int},vD s a=(e,f)->e≠0->(0:Int)=bc s a/\(0:Int)=dj s a/\ah=gQ s a/\ah=dN s a/\(0:Int)=bJ s a/\e=(cR s a).1/\f=(cR s a).2:=fun h v=>wO (De k h) v;refine⟨⟨fun y=>?_,fun y=>⟨fun hi=>?_,fun hi=>⟨fun x=>⟨fun b=>?_,fun b=>⟨fun i=>?_,fun _=>⟨fun u=>?_,fun u=>?_⟩⟩⟩,fun x=>⟨fun _=>⟨fun c=>?_,fun c=>⟨fun u=>?_,fun u=>?_⟩⟩,fun i=>?_⟩⟩⟩⟩,fun _ ⟨_,z⟩=>⟨⟨fun t=>?_,fun t=>?_⟩,fun _ ⟨_,_⟩=>⟨⟨fun x=>?_,fun x=>?_⟩,fun _ ⟨_,_⟩=>?_⟩⟩⟩
 ·exact w (by unfold vD;rw[y];rfl) (Fv y)
 ·exact w (by unfold vD;rw[y,hi];rfl) Y
 ·exact w (by unfold vD;rw[y,hi,x,show decide (134217728<mh s a)=ab from b];rfl) Y
 ·rw[x]at i;cases i
 ·exact w (by unfold vD;rw[y,hi,x,show decide (134217728<mh s a)=ah from b,show decide (1099511627776<mh s a)=ab from u];rfl) Y
 ·exact⟨(),⟨p,anP k (vj y) (vj hi) (by rw[x,show decide (134217728<mh s a)=ah from b];rfl) (by rw[x];rfl) u⟩,rfl,rfl,rfl,rfl,rfl,rfl,rfl,rfl,rfl,rfl,rfl,rfl⟩
 ·exact w (by unfold vD;rw[y,hi,x,show decide (134217728<ml s a)=ab from c];rfl) Y
 ·exact w (by unfold vD;rw[y,hi,x,show decide (134217728<ml s a)=ah from c,show decide (1099511627776<mh s a)=ab from u];rfl) Y
 ·exact⟨(),⟨p,anP k (vj y) (vj hi) (by rw[x];rfl) (by rw[x,show decide (134217728<ml s a)=ah from c];rfl) u⟩,rfl,rfl,rfl,rfl,rfl,rfl,rfl,rfl,rfl,rfl,rfl,rfl⟩
 ·rw[x]at i;cases i
 ·have:=(Tv z).2
  refine⟨(),⟨p,z⟩,rfl,rfl,rfl,rfl,rfl,?_,rfl,rfl,rfl,rfl⟩;unfold xO;rw[show decide (0<pq s a)=ab from t,wr Y Y];rfl
 ·refine⟨(),⟨p,z⟩,rfl,rfl,rfl,rfl,rfl,?_,rfl,rfl,rfl,rfl⟩
  unfold xO;rw[show decide (0<pq s a)=ah from t];rfl
 ·refine⟨(),⟨p,z⟩,rfl,rfl,rfl,rfl,?_,rfl,rfl,rfl,rfl,rfl⟩
  unfold bc xM;rw[z,x];rfl
 ·refine⟨(),⟨p,z⟩,rfl,rfl,rfl,rfl,?_,rfl,rfl,rfl,rfl,rfl⟩
  unfold bc xM;rw[z,x];rfl
 ·have g:xM s a=ab:=by unfold xM;rw[z];rfl
  refine⟨rfl,?_,?_,?_,?_,z.symm,(Tv z).1.symm⟩
  ·unfold dj;rw[g];rfl
  ·unfold gQ;rw[g];rfl
  ·unfold dN;rw[g];rfl
  ·unfold bJ;rw[g];rfl)⟩
def ajF:=m.cons aDR<|ajE
def u6(x:Int):Int:=Q .u64 x
def FB:Int:=11400714785074694791
def Ld:Int:=14029467366897019727
def pXC:Int:=1609587929392839161
def pXD:Int:=9650029242287828579
def pF:Int:=2870177450012600261
def mU(x y:Int):Int:=Q .u64 (x*y)
def rU(x n:Int):Int:=bits .or .u64 (Q .u64 (x*(2:Int)^min n.toNat (cZ .u64))) (kQ x ((2:Int)^min (Q .u64 (64-n)).toNat (cZ .u64)))
def pL(a x:Int):Int:=mU (rU (u6 (a+mU x Ld)) 31) FB
def GB(x y:Int):Int:=bits .xor .u64 x y
def bh(s:M)(a z:Int):Int:=(lT ((s.data.toList.drop a.toNat).take z.toNat):Nat)
structure L4 where
 a:Int
 b:Int
 c:Int
 d:Int
def fg(h:Int):L4:=⟨u6 (u6 (h+FB)+Ld),u6 (h+Ld),h,u6 (h-FB)⟩
def l_(l:L4)(s:M):L4:=⟨pL l.a (bh s 0 8),pL l.b (bh s 8 8),pL l.c (bh s 16 8),pL l.d (bh s 24 8)⟩
def kP(h:Int)(s:M):Nat->L4
 |0=>fg h
 |i+1=>l_ (kP h s i) (s.extract (32*i) s.size)
def xN(s:M):Nat:=s.size/32
def CA(h x:Int):Int:=u6 (mU (GB h (pL 0 x)) FB+pXD)
def MG(l:L4):Int:=u6 (u6 (u6 (rU l.a 1+rU l.b 7)+rU l.c 12)+rU l.d 18)
def qj(l:L4):Int:=CA (CA (CA (CA (MG l) l.a) l.b) l.c) l.d
def x8(h x:Int):Int:=u6 (mU (rU (GB h (pL 0 x)) 27) FB+pXD)
def x4(h x:Int):Int:=u6 (mU (rU (GB h (mU x FB)) 23) Ld+pXC)
def x1(h x:Int):Int:=mU (rU (GB h (mU x pF)) 11) FB
def jE:Nat->Int->M->Int
 |0,h,_=>h
 |k+1,h,r=>cond (decide ((8:Int)<=r.size)) (jE k (x8 h (bh r 0 8)) (r.extract 8 r.size)) (cond (decide ((4:Int)<=r.size)) (jE k (x4 h (bh r 0 4)) (r.extract 4 r.size)) (cond (decide ((0:Int)<r.size)) (jE k (x1 h (bh r 0 1)) (r.extract 1 r.size)) h))
def xF1(h:Int):Int:=mU (GB h (kQ h ((2:Int)^min (X 33) (cZ .u64)))) Ld
def xF2(h:Int):Int:=mU (GB h (kQ h ((2:Int)^min (X 29) (cZ .u64)))) pXC
def xF3(h:Int):Int:=GB h (kQ h ((2:Int)^min (X 32) (cZ .u64)))
def yt(h:Int)(r:M):Int:=xF3 (xF2 (xF1 (jE (r.size+1) h r)))
def GA(s:M):M:=s.extract (32*xN s) s.size
def yu(s:M)(h:Int):Int:=yt (u6 (cond (decide ((32:Int)<=s.size)) (qj (kP h s (xN s))) (u6 (h+pF))+u6 (s.size:Int))) (GA s)
def pN(s:M):Int:=Q .u32 (yu s 0)
def aQs:Spec:=Sp (Int×Int) [.u,.u] fun(x,y)=>([],aE (dy (mU x y)))
def aQx:Spec:=Sp (Int×Int) [.u,.u] fun(x,n)=>([E (0<=n),E (n<=63)],aE (dy (rU x n)))
def aQv:Spec:=Sp (Int×Int) [.u,.i] fun(x,n)=>([E (0<=n),E (n<=63)],aE (dy (rU x n)))
def auY:Spec:=Sp (Int×Int) [.u,.u] fun(a,x)=>([],aE (dy (pL a x)))
def aQr:Spec:=Sp (Int×Int) [.u,.u] fun(h,x)=>([],aE (dy (CA h x)))
def au0:Spec:=Sp Int [.u] fun s=>([],aE (.ag [.v (.int .u64 (fg s).a),.v (.int .u64 (fg s).b),.v (.int .u64 (fg s).c),.v (.int .u64 (fg s).d)]))
def auX:Spec:=Sp (M×Int×Int) [.s,.i,.i] fun(s,a,z)=>([E (1<=z),E (z<=8),E (0<=a),E (a+z<=s.size),E (s.size<=140737488355328)],aE (.tu [dy (bh s a z),B (a+z),.ag [B 0,B 0]]))
def aQp:Spec:=Sp (M×Int) [.s,.i] fun(s,z)=>([E (1<=z),E (z<=8),E (z<=s.size),E (s.size<=140737488355328)],aE (dy (bh s 0 z)))
def aQu:Spec:=Sp (M×Int×Int) [.s,.i,.i] fun(s,a,z)=>([E (1<=z),E (z<=8),E (0<=a),E (a+z<=s.size),E (s.size<=140737488355328)],aE (dy (bh s a z)))
def aHJ(s:M)(a z:Int):bO:=dX [(0,.one (bi Nat fun i=>((i:Int)<=z,[(0,aD s),(1,B a),(2,B z),(6,dy (bh s a i)),(8,U 1001),(38,B z),(39,cP i)],[(1001,.cells 25 [B 0,B 0])],z.toNat-i)))]
def aH7(s:M)(a z:Int):bO:=dX [(0,.one (bi Nat fun i=>((i:Int)<=z,[(0,aD s),(1,B a),(2,B z),(9,dy (bh s (a+(z- (i:Nat))) i)),(8,U 1001),(10,B (z-1- (i:Nat)))],[(1001,.cells 25 [B 0,B 0])],z.toNat-i)))]
end Go.Proofs.YtegnkfbnmepmpaaGreatDoor

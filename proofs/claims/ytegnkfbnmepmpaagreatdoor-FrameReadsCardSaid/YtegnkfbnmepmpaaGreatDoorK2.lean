/-
  Texts joined: SxI, SxN, SxP, SxQ, SxPm, SxR, SxS, SxT, SxU, SxUi, SxVa, SxVb, SxVc, SxV, SyA. Conditions: each theorem's own.
-/
import Derived.Test.YtegnkfbnmepmpaaGreatDoorK1
import Derived.Deep.LoopGhost
import Derived.Orders
import Derived.OrdersIn
import Derived.TacticsIn
import Derived.RangeFuncIn
import Derived.RangeFuncRecord
import Derived.Scope
import Derived.Sort.LoopGhostIn
set_option maxRecDepth 100000
set_option linter.all false
open Array renaming foldl_toList->axK,getD->M1,mapM_eq_mapM_toList->axL,range->Y0,replicate->sb
open Bool renaming false->ah,true->ab
open ForInStep renaming yield->Ru
open Go.Builtin renaming append_->n9,len_->Y1,max2->aiZ,min2->ai0,zeroCells->pf
open Go.Call renaming operands->ai3
open Go.Ending renaming returned->Ef
open Go.Fence renaming wide->ke
open Go.Instr renaming checkKey->GS,fill->ajf,findAsking->Eg,findKey->Jv,findNow->GR,keyThatStays->ai2,loadAt->GW,sameBits->Rv,sameNow->ai1,storeAt->aje,sureAddr->A6
open Go.Lib renaming strCells->rH
open Go.Op renaming equal->zU,operands->GU
open Go.Oper renaming wp->yF
open Go.Region renaming binds->GV,ready->Rw,wanted->CN
open Go.Value renaming cells->CO,int->cg,oneCell'->tY,ownBlock->ni
open Go.World renaming alloc_heap_new->axO
open List renaming getD->eU,getElem?_take_of_lt->axN,length->cY,range->fM,replicate->au,set_cons_succ->axM
open Nat renaming beq->ap,ble->mF,blt->cK
open Option renaming none->ae,some->O
open PUnit renaming unit->YT
namespace Go.Proofs.YtegnkfbnmepmpaaGreatDoor
open Go.RowKit
variable{s:CK}(n:Operand)(b:Array Value){l:h_}{k:TypeId}{t:Bool}(x:h_){y:cf}{z:Program}{v:FuncId}
def jR:=@List.getD_eq_getElem?_getD
def aiE:=@List.mem_of_mem_drop
def aiF:=@Nat.le_mul_of_pos_right
def Jh:=@List.map_toArray
def dx:=@Nat.zero_le
def aiG:=@Array.getElem?_append_left
def GL:=@List.foldl_cons
def yA:=@List.map_append
def aiH:=@List.mem_replicate
def Rg:=@List.set_cons_zero
def rD:=@List.mem_singleton
def aiI:=@Array.getElem?_modify
def Rh:=@List.getElem?_set
def jS:=@decide_eq_true
def iW:=@decide_eq_false
def Ri:=@List.mem_cons_of_mem
def YG:=@List.mem_cons_self
def MN:=@Nat.beq_refl
def Ji:=@Option.getD_none
def qS:=@Bool.or_eq_false_iff
def yB:=@Nat.ble_eq_true_of_le
def GM:=@Bool.false_or
def CD:=@List.map_congr_left
def ql:=@and_self
def MO:=@Array.toList_append
def Rj:=@List.not_mem_nil
def yC:=@forall_eq
def sZ:=@and_true
def axz:=@List.drop_drop
def Rk:=@Go.getD_set_ne
def axA:=@List.pairwise_cons
def aiJ:=@List.mem_of_getElem?
def nE:=@List.take_of_length_le
def CE:=@Go.World.putObj_heap_other
def uV:=@Bool.true_or
def xn:=@Iff.rfl
def YH:=@Go.World.putObj_heap_same
def mV:=@Classical.byContradiction
def xo:=@true_and
def MP:=@Go.wpIn_region_list
def MQ:=@Go.wpIn_region_any
def Jj:=@Go.wpIn_seq
def YI:=@Go.wpIn_loop_ghost
def CF:=@Nat.lt_succ_self
def aiK:=@Go.callsIn_of_wp_marks
section
variable{P:Program}{Γ:ll}
variable{dst:Option Tmp}{type:TypeId}{pos:String}{after:Array Edge}{guard:Option (Nat×Bool)}
def aN9{t:TypeId}(e:fK P t=ab){w:World}{g o:Nat}{us:bG}{ty:TypeId}{x:Nat×Nat}(z:w.heap[g]? =O (.cells us.toArray ty x))(u:vO x us.length){v:Value}(h:bG)(r:v.cells.toList=h)
  (i:h.length=aT P t) (j:o+aT P t<=us.length) (h1:∀c∈h,c.oneCell'=ab):
  (aje t (.pointer<|O ⟨g,o,ae⟩) v).run P w=.ok () (w.setRow g (us.take o++h++us.drop (o+h.length)).toArray):=by subst r;have k:v.cells.size=aT P t:=Y;have y:=QA (P:=P) g o ty x v.cells.toList 0 us.toArray w z Y c9 h1;simp[aje,A6,storeVar,we<|sW e,k]at y|-;exact y
def aN_{ρ:Operand->Value}{t:TypeId}{x y:Operand}{w w':World}(h:(aje t (ρ x)<|ρ y).run P w=.ok () w'):
  (execOp ρ ⟨dst,.store t x y,type,pos,after,guard⟩).run P w=.ok .skip w':=by simp[execOp,fX,h,gM,iV]
def aJ1(t:TypeId)(x y:Operand):mc P Γ ⟨dst,.store t x y,type,pos,after,guard⟩:=by
 intro E D β S a w n r z f hd hn h K Q hK;have ex:=h.ev x;have M:=h.ev y;simp[step]at z;cases bT:fK P t
 .rw[bT]at z;exact bad z f
 .rw[bT]at z
  simp[bo]at z;split at z
  .rename_i l i j e
   rw[e]at ex;simp[F]at ex;let⟨L,hL,du,hu⟩:=ex;split at z
   .rename_i b hb
    have hB:=h.od hb hL
    have put:∀{us:bG} {ty:TypeId} {R:Nat×Nat} {vs:bG} {b':bm},w.heap[L.g]? =O (.cells us.toArray ty R)->vO R us.length->(a.eval y).cells.toList=vs->vs.length=aT P t->i*L.wd+j+aT P t<=us.length->(∀c∈vs,c.oneCell'=ab)->
      r.val=.v undef->r.fT= [(l,O b')]->r.news= []->(∀w',jx D w β D w' β->w'.heap[L.g]? =O (.cells (us.take (i*L.wd+j)++vs++us.drop (i*L.wd+j+vs.length)).toArray ty R)->gk D w' β L b')->(⟨dst,.store t x y,type,pos,after,guard⟩:Oper).wp P a w K Q:=by
     intro us ty R vs b' A iZ hv W ho C e1 e2 e3 hB;have gF:=aN9 bT A iZ vs hv W ho C;rw[<-hu]at gF;exact avk (aN_ gF) (by rw[e2,e3];exact h.set hb hL du _ λG=>hB _ G<|zN w L.g _ _ ty _ A) e1 hd hK
    have q:∀{ty:TypeId} {k:IntKind} {xs s:N},b=.iA ty (.ints k xs)->i=0->j=0->(a.eval y).cells.toList=s.map (cg k)->s.length=aT P t->s.length=xs.length->r.val=.v undef->r.fT= [(l,O<|.iA ty<|.ints k s)]->r.news= []->(⟨dst,.store t x y,type,pos,after,guard⟩:Oper).wp P a w K Q:=by
     rintro ty k xs s rfl i0 j0 hv W hl2 e1 e2 e3;let⟨_,o,us,T,B,U,h5⟩:=hB;simp[aA.len,aA.wd,xj]at B h5 o;apply put T (H9 _) hv (by simpa using W) (by rw[i0,j0];lia) (by simp[tY]) e1 e2 e3 λw' G A=>⟨du,o,_,A,?_,λi' j' gq oo=>?_,by simp[aA.len];lia⟩
     .simp[aA.len,aA.wd,i0,j0];lia
     .simp only[aA.len,aA.wd]at gq oo
      refine⟨.int k<|s.getD i' 0,?_,rfl⟩;rw[show j'=0 by lia];simp only[i0,j0,aA.wd,CJ,rA,List.take_zero,rB,xj,uS];rw[GJ<|by simpa using gq,pS,jR,kB gq];rfl
    unfold avW at z;cases fB:ap (S.ev y).cellsOf.length (aT P t)<;>rw[fB]at z
    .simp only[iw]at z
     unfold avV at z;split at z
     .rename_i ty k xs k' s ey0
      cases hk:lS k k'&&ap i 0&&ap j 0<;>rw[hk]at z
      .exact bad z f
      .subst z
       simp only[bC]at hk;rw[ey0,<-vK hk.1.1]at M;simp[F]at M;exact q rfl (cN hk.1.2) (cN hk.2) (by rw[M];simp[CO]) (f (⟨s.length=aT P t,inferInstance⟩) aj) (f (⟨s.length=xs.length,inferInstance⟩) aj) rfl rfl rfl
     .exact bad z f
    .simp only[bo]at z
     have aE6:=cN fB;cases b with
     |cells ty cs=>
      simp only at z;cases V:(ap i 0&&(S.ev y).cellsOf.all SV.one&&mF (j+aT P t) cs.length)<;>rw[V]at z
      .exact bad z f
      .subst z
       simp only[bC]at V;let⟨⟨hi,vH⟩,m⟩:=V;have i0:=cN hi;have m:=nh m;let⟨p,C⟩:=F.cells M vH;let⟨_,us,T,B,U⟩:=hB;have H:=Z.len cs B;have W:=Z.len _ p;apply put T (H9 _) rfl Y (by rw[i0];lia) C rfl rfl rfl λw' G A=>⟨du,_,A,Z.mono G _ ?_,λu I=>?_⟩
       .rw[i0,W,aE6,CJ,rA]
        exact Z.append _ (Z.append _ (Z.take cs j B) p)<|Z.drop cs _ B
       .simp only[jv]at I
        rcases I with(I|I)|I
        .exact U u<|List.mem_of_mem_take I
        .exact C u I
        .exact U u<|aiE I
     |iA ty d=>
      simp at z;split at z
      .rename_i d' wS
       cases m:mF (j+aT P t) d.wd<;>rw[m]at z
       .exact bad z f
       .subst z
        have hi:=f (⟨i<d.len,inferInstance⟩) aj;let⟨_,o,us,T,B,U,h5⟩:=hB;let⟨p,C⟩:=F.cells M<|avi wS;have aEq:=nh m;have W:=Z.len _ p;have mZ:i*d.wd+d.wd<=us.length:=by
         rw[B,<-Nat.succ_mul];exact ox _ hi
        obtain⟨J,X,k3⟩:=avh wS p hi Y U;refine put T (H9 _) rfl Y (by rw[o];omega) C rfl rfl rfl λw' G A=>⟨du,by rw[X];exact o,_,A,?_,by rw[J,X,o];exact k3,by rw[J];exact h5⟩;simp only[gn,mT,nW,J,X];rw[o];omega
      .split at z
       .rename_i k xs _
        split at z
        .rename_i s hys
         cases sk:ap i 0&&ap j 0<;>rw[sk]at z
         .exact bad z f
         .subst z
          simp only[bC]at sk;have p:=(F.cells M<|acQ _ _ hys).1;have hv:=O' _ _ _ hys p;have:=Z.len _ p;exact q rfl (cN sk.1) (cN sk.2) hv (by rw[hv]at this;simp at this;omega) (f (⟨s.length=xs.length,inferInstance⟩) aj) rfl rfl rfl
        .exact bad z f
       .exact bad z f
     |row ty d=>
      simp only at z;split at z
      .rename_i d' wS
       cases m:mF (j+aT P t) d.wd<;>rw[m]at z
       .exact bad z f
       .subst z
        have hi:=f (⟨i<d.len,inferInstance⟩) aj;obtain⟨o,H,⟨_,h0⟩|⟨_,rP,Ku,us,fZ,R,T,iZ,B,U⟩⟩:=hB
        .omega
        obtain⟨p,C⟩:=F.cells M<|avi wS;have aEq:=nh m;have W:=Z.len _ p;have mZ:i*d.wd+d.wd<=us.length:=by
         refine sY ?_ B;rw[<-Nat.succ_mul];exact ox _ Y
        obtain⟨J,X,k3⟩:=avh wS p hi Y U;refine put T iZ rfl Y (by rw[o];omega) C rfl rfl rfl λw' G A=>⟨by rw[X];exact o,by rw[J];exact H,.inr ⟨du,by rw[J];exact rP,Ku,_,fZ,R,A,?_,?_,by rw[J,X,o];exact k3⟩⟩
        .refine Eq.mp (dR (vO R) ?_) iZ
         simp only[gn,mT,nW];rw[o];omega
        .simp only[gn,mT,nW,J,X]
         rw[o];omega
      .exact bad z f
     |_=>exact bad z f
   .exact bad z f
  .exact bad z f
end
section
variable{P:Program}{Γ:ll}
variable{dst:Option Tmp}{type:TypeId}{pos:String}{after:Array Edge}{guard:Option (Nat×Bool)}
def Hq{e:TypeId}{wd:Nat}(h:xD P e wd=ab):∃i z,P.info? e=O i/\i.zero=O z/\i.size=wd/\l9 P e=i.bytes/\z.cells.size=wd/\0<wd/\0<i.bytes/\(∀x∈z.cells.toList,x.oneCell'=ab)/\r7 P e=O z:=by
 unfold xD at h;simp only[bC]at h;let⟨⟨⟨⟨v,w⟩,j⟩,n⟩,y⟩:=h;let⟨i,c,a,r,u⟩:=acL<|sW v;split at y
 .rename_i z k
  rw[u]at k;simp only[bC]at y;exact⟨i,z,c,k,by rw[<-a];exact cN w,r,cN y.1,nh j,by rw[<-r];exact nh n,List.all_eq_true.1 y.2,by rw[u];exact k⟩
 .cases y
def Hg{ρ:Operand->Value}{b:Builtin}{args:Array Operand}{x:Array TypeId}{w w':World}{u:Value}(h:(builtin b x type (args.map λ|.const _=>ab|_=>ah)<|args.map ρ).run P w=.ok (.value u) w'):
  (execOp ρ ⟨dst,.call {callee:=.builtin b,args:=args,argTypes:=x},type,pos,after,guard⟩).run P w=.ok (.value u) w':=h
def ZQ{E:Env}{D:aW}{β:bp}{S:aq}{a:Act}{w:World}(h:St E D β S a w){e:TypeId}{s:SV}{d2:aA}{r2:cf}{n:Nat}{r:c_}(t:z7 P S.H e s d2 r2 n=r)(N:∀c∈r.vc,c.p)
  (hn:∀k∈r.news,S.U k=ah) (Ou:xD P e d2.wd=ab) {u:Value} (hs:F D w β s u) {news:bG} (uw:news.length=d2.len*d2.wd)
  (sn:∀i j,i<d2.len->j<d2.wd->∃x,news[i*d2.wd+j]? =O x/\d2.ok i j x) {R:Value->World->Prop}
  (gF:∀m xs,oD w d2.wd u m xs->m+d2.len<=maxLen->(m+d2.len)*l9 P e<=140737488355328->
    ∃v w',R v w'/\oD w' d2.wd v (m+d2.len) (xs++news)/\w.grownBy w' u.ownBlock/\(v.ownBlock=u.ownBlock\/v.ownBlock=O w.heap.size))
  (aEX:Pv s=ah->∀m (xs:bG),Full w d2.wd u m xs->m+d2.len<=maxLen->(m+d2.len)*l9 P e<=140737488355328->
    ∃v w',R v w'/\((d2.len=0/\v=u/\w'=w)\/(0<d2.len/\oD w' d2.wd v (m+d2.len) (xs++news)/\w.grownBy w' ae/\v.ownBlock=O w.heap.size))):
  ∃v w' D' β',R v w'/\F D' w' β' r.val v/\St E D' β' {S with H:=cc S.H r.fT,U:=cc S.U<|r.news.map λk=>(k,ab)} a w':=by
 obtain⟨i0,z0,_,_,_,_,_,O5,Aj,_,_⟩:=Hq Ou;have B:∀m,m*l9 P e<=140737488355328->0<l9 P e->m<=maxLen:=by
  intro m hm hb;have:=aiF m hb;simp only[maxLen];omega
 have Db:0<l9 P e:=by
  obtain⟨i0,z0,C,_,_,V,_,_,h3,_⟩:=Hq Ou;rw[V];exact h3
 unfold z7 at t;split at t
 .rename_i l
  split at t
  .rename_i ty d hb
   split at t
   .rename_i d' Kl
    cases hq:ap ty e
    .rw[hq]at t;exact bad t N
    .rw[hq]at t
     have:=cN hq;subst this;subst t;have M:=N (⟨(d.len+d2.len)*l9 P ty<=140737488355328,inferInstance⟩) aj;simp only[F]at hs;obtain⟨L,hL,hu⟩:=hs;obtain⟨L1,xJ,hB⟩:=h.hp l _ hb;rw[hL]at xJ;cases xJ;obtain⟨xs,cD,O6⟩:=aKl hB;obtain⟨k1,k2,k3,k4⟩:=aj7 Kl cD.1 O6 sn;rw[<-k3]at cD;obtain⟨v,w',hR,T,Q,I⟩:=gF d.len xs (hu▸cD) (B _ M Db) M;have KF:u.ownBlock=if L.nil then ae else O L.g:=by
      rw[hu];unfold Loc.val;cases L.nil<;>simp[ni]
     have Z:=hn n aj;have gR:=h.ib n Z;have Pb:∀g,D g->w'.heap[g]? =w.heap[g]? :=by
      intro g K;refine Q.block g (h.eZ g K) ?_;rw[KF];cases q:L.nil
      .simp only[rz,xi,ne_eq,Option.some.injEq]
       intro e;exact(h.eJ l _ L hb hL q).2.1<|e▸K
      .simp
     have G0:jx D w β D w' β:=⟨λ_ h=>h,Pb,λ_ _ h=>h⟩;rw[k3,<-k2,<-k1]at T;obtain⟨L',rf,z,Fb⟩:=af9 (D:=D) (β:=jD β n ae) (ty:=ty) T λi j hi W=>let⟨x,jq,kK⟩:=k4 i j hi W;⟨x,jq,kK⟩;have HC:L'.nil=ah->(L.nil=ah/\L'.g=L.g)\/L'.g=w.heap.size:=by
      intro q;have f:=Fb q;rcases I with I|I
      .rw[I,KF]at f
       cases Oi:L.nil
       .rw[Oi]at f
        simp only[rz,xi,Option.some.injEq]at f;exact .inl ⟨rfl,f.symm⟩
       .rw[Oi]at f;simp at f
      .rw[I]at f
       simp only[Option.some.injEq]at f;exact .inr f.symm
     have ai:L'.nil=ah->L'.g<w'.heap.size:=by
      intro q;obtain⟨_,_,C_⟩:=z;rcases C_ with⟨C,_⟩|⟨_,_,_,us,fZ,fr,V,_⟩
      .rw[C]at q;cases q
      .exact(Array.getElem?_eq_some_iff.1 V).1
     refine⟨v,w',D,jD β n<|O L',hR,?_,?_⟩
     .show F D w' _ (.o n) v
      simp only[F];exact⟨L',gK _ _ _,rf.symm⟩
     .refine h.afU hb hL Z (by rw[<-KF];exact Q) HC ai λG=>?_
      obtain⟨b1,b2,b3⟩:=z;exact⟨b1,b2,b3⟩
   .exact bad t N
  .exact bad t N
 .subst t
  simp only[F]at hs;have M:=N (⟨d2.len*l9 P e<=140737488355328,inferInstance⟩) aj;subst hs;obtain⟨v,w',hR,T,Q,I⟩:=gF 0 [] (oD.nil w d2.wd) (by simpa using B _ M Db) (by simpa using M);simp only[rA,rB]at T;have Z:=hn n aj;have Pb:=λg K=>Q.block g (h.eZ g K) (by simp[ni]);have G0:jx D w β D w' β:=⟨λ_ h=>h,Pb,λ_ _ h=>h⟩;obtain⟨L',rf,z,Fb⟩:=af9 (D:=D) (β:=β) (ty:=e) T λi j hi W=>let⟨x,jq,kK⟩:=sn i j hi W;⟨x,jq,kK⟩;have HC:L'.nil=ah->L'.g=w.heap.size:=by
   intro q;have f:=Fb q;rcases I with I|I
   .rw[I]at f;simp[ni]at f
   .rw[I]at f;simp only[Option.some.injEq]at f;exact f.symm
  have ai:L'.nil=ah->L'.g<w'.heap.size:=by
   intro q;obtain⟨_,_,C_⟩:=z;rcases C_ with⟨C,_⟩|⟨_,_,_,us,fZ,fr,V,_⟩
   .rw[C]at q;cases q
   .exact(Array.getElem?_eq_some_iff.1 V).1
  refine⟨v,w',D,jD β n<|O L',hR,?_,h.born Z (by simpa [ni]using Q) HC ai λG=>?_⟩
  .simp only[F]
   exact⟨L',gK _ _ _,rf.symm⟩
  .obtain⟨b1,b2,b3⟩:=z
   exact⟨b1,b2,b3⟩
 .rename_i d
  split at t
  .rename_i d' Kl
   subst t;have M:=N (⟨(d.len+d2.len)*l9 P e<=140737488355328,inferInstance⟩) aj;simp only[F]at hs;obtain⟨so,A0,TV⟩:=hs;obtain⟨A,c,xs,hu,rR,_,O6,xQ,mg⟩:=avP (D:=D) (w:=w) (d:=d) (u:=u)<|by
    obtain⟨A,c,C,_,h3⟩:=so;exact⟨A,c,C,λhn=>let⟨g,J,k1,_,k2⟩:=h3 hn;⟨g,J,k1,k2⟩⟩
   obtain⟨k1,k2,k3,k4⟩:=aj7 Kl rR O6 sn;rw[<-k3]at rR;have Z:=hn n aj;have gR:=h.ib n Z;have HA:S.H n=ae:=by
    cases hh:S.H n with
    |none=>rfl
    |some b=>obtain⟨L,C,_⟩:=h.hp n b hh;rw[gR]at C;cases C
   have aD_:Full w d2.wd u d.len xs:=⟨rR,A0,TV,λrb=>by
    rw[TV]at hu;cases hu;obtain⟨ad,had⟩:∃ad,A0=O ad:=by
     cases Tk:A0 with
     |none=>
      have:=xQ Tk;subst this;simp only[D_]at rR;have:=Nat.mul_pos rb O5;omega
     |some ad=>exact⟨ad,rfl⟩
    exact⟨ad,had,mg ad had⟩⟩
   obtain⟨v,w',hR,aDD⟩:=aEX rfl d.len xs aD_ (B _ M Db) M;rcases aDD with⟨h0,rfl,rfl⟩|⟨rb,T,Q,aEB⟩
   .refine⟨v,w',D,β,hR,?_,?_⟩
    .simp only[F,va]
     obtain⟨A1,c1,KE,uo,jq⟩:=so;refine⟨A1,c1,by rw[k1,h0,uS];exact KE,by rw[k1,h0,uS];exact uo,λai=>?_⟩;have m_:0<d.len:=Y;obtain⟨g,J,hA,K,hx⟩:=jq m_;refine⟨g,J,hA,K,λi j hi W=>?_⟩;obtain⟨y,xR,Fk⟩:=k4 i j hi W;have fF:=r9 (by rw[uw,h0];simp);rw[fF,zK]at xR;rw[KE]at TV;cases TV;rw[hA]at KE;have hAA:A=O ⟨g,J,ae⟩:=by
      rw[KE]at hu;cases hu;rfl
     have hcy:=mg _ hAA _ _ xR;rw[wE]at hcy;exact⟨y,hcy,Fk⟩
    .have e:S={S with H:=cc S.H [(n,ae)],U:=S.U}:=by
      have:cc S.H [(n,ae)]=S.H:=by
       funext l;simp only[cc];by_cases X:l=n
       .subst X;rw[gK,HA]
       .rw[gy _ _ X]
      rw[this]
     have hs0:=e▸h;refine hs0.used (U':=cc S.U [(n,ab)]) ?_;exact QT S.U [n]
   .have Pb:=λg K=>Q.block g (h.eZ g K) aj
    have G0:jx D w β D w' β:=⟨λ_ h=>h,Pb,λ_ _ h=>h⟩;rw[k3,<-k2,<-k1]at T;obtain⟨L',rf,z,Fb⟩:=af9 (D:=D) (β:=β) (ty:=e) T λi j hi W=>let⟨x,jq,kK⟩:=k4 i j hi W;⟨x,jq,kK⟩;have HC:L'.nil=ah->L'.g=w.heap.size:=by
     intro q;have f:=Fb q;rw[aEB]at f;simp only[Option.some.injEq]at f;exact f.symm
    have ai:L'.nil=ah->L'.g<w'.heap.size:=by
     intro q;obtain⟨_,_,C_⟩:=z;rcases C_ with⟨C,_⟩|⟨_,_,_,us,fZ,fr,V,_⟩
     .rw[C]at q;cases q
     .exact(Array.getElem?_eq_some_iff.1 V).1
    have bR:=h.born (b':=.row e d') Z Q HC ai λG=>by
     obtain⟨b1,b2,b3⟩:=z;exact⟨b1,b2,b3⟩
    have wR:F D w' (jD β n<|O L') (.o n) v:=by
     simp only[F];exact⟨L',gK _ _ _,rf.symm⟩
    have aoc:cc S.H [(n,O<|.row e d')] n=O (.row e d'):=by simp only[cc];exact gK _ _ _
    have vC:=Sz P bR (br:=[n]) wR<|by
     intro k hk;simp only[uf,aoc]at hk;exact hk
    simp only[uf,aoc]at vC;have hf:=bR.frz [n];refine⟨v,w',_,_,hR,vC,?_⟩;have e:cc (cc S.H [(n,O<|.row e d')]) ([n].map λk=>(k,ae))=cc S.H [(n,ae)]:=by
     funext l;simp only[cc,kd,uU];by_cases X:l=n
     .subst X;rw[gK,gK]
     .rw[gy _ _ X,gy _ _ X,gy _ _ X]
    simp only[e]at hf;exact hf
  .exact bad t N
 .exact bad t N
def aKk{w:World}{D:aW}{β:bp}{L:Loc}{ty:TypeId}{wd n:Nat}{cs:bL}(h:gk D w β L (.rc ty wd n cs)):∃xs:List Value,oD w wd L.val n xs/\Z D w β cs xs:=by
 let⟨c,r,xs,u,v,x⟩:=h;refine⟨xs,⟨u,?_⟩,v⟩;rcases x with⟨x,y⟩|⟨x,y,i,d,b,z,j,a,e,k⟩
 .exact .inl ⟨by simp[Loc.val,x],y⟩
 .exact .inr ⟨L.g,L.cap,d.toArray,b,z,by simp[Loc.val,x,r],j,by simpa using a,y,i,by simpa using e,by simpa using k⟩
def aLE{w:World}{D:aW}{ty:TypeId}{wd n:Nat}{v:Value}{xs:bG}(a:oD w wd v n xs):
  ∃L,L.val=v/\(∀β (cs:bL),Z D w β cs xs->gk D w β L (.rc ty wd n cs))/\(L.nil=ah->v.ownBlock=O L.g/\L.g<w.heap.size):=by
 let⟨z,h⟩:=a;rcases h with⟨rfl,r⟩|⟨g,f,e,d,k,rfl,y,i,u,j,b,c⟩
 .exact⟨⟨0,wd,n,0,ab⟩,by simp[Loc.val],λβ cs x=>⟨rfl,rfl,xs,z,x,.inl ⟨rfl,r⟩⟩,λh=>by cases h⟩
 .exact⟨⟨g,wd,n,f,ah⟩,by simp[Loc.val],λβ cs x=>⟨rfl,rfl,xs,z,x,.inr ⟨rfl,u,j,e.toList,d,k,by simpa using y,by simpa using i,by simpa using b,c⟩⟩,λ_=>⟨rfl,(Array.getElem?_eq_some_iff.1 y).1⟩⟩
def azj{E:Env}{D:aW}{β:bp}{S:aq}{a:Act}{w:World}(h:St E D β S a w){e ts ty:TypeId}{s x:SV}{n:Nat}{r:c_}(y:Es P S.H e s x n=r)(d:∀c∈r.vc,c.p)
  (hn:∀k∈r.news,S.U k=ah) (ht:P.underlying ts=O (.slice e)) {u v:Value} (hs:F D w β s u) (hx:F D w β x v):
  ∃M w' D' β',(n9 #[ts,ts] ty #[u,v]).run P w=.ok M w'/\F D' w' β' r.val M/\St E D' β' {S with H:=cc S.H r.fT,U:=cc S.U<|r.news.map λk=>(k,ab)} a w':=by
 unfold Es at y;split at y
 .rename_i l off m cp
  split at y
  .rename_i I0 NL jn
   cases o:xD P e (aT P e)&&ap off 0&&ap NL.length (m*aT P e)
   .rw[o]at y;exact bad y d
   rw[o]at y;simp only[bo,bC]at y o;have o0:=cN o.1.2;have V:=cN o.2;subst o0;let⟨i,z,hi,hz,fB,qx,mn,HQ,Db,Dp,KC⟩:=Hq o.1.1;have f:∀m,m*l9 P e<=140737488355328->m<=maxLen:=by
    intro m hm;have:m<=m*l9 P e:=aiF m (by rw[qx];exact Db);simp[maxLen];lia
   simp only[F]at hx;let⟨N,E4,A,c',hv,hmc,hA,_,_⟩:=hx;let⟨L2',q,Tl⟩:=h.hp l _ jn;rw[E4]at q;cases q;let⟨aU5,K,vE,t,X⟩:=Tl;have Y:K.length=m*aT P e:=by rw[Z.len _ t,V]
   have xQ:A=ae->K= []:=λR=>by
    have:m=0:=by
     rcases yx m with h0|h0
     .exact h0
     .have:=(hA h0).2;rw[R]at this;cases this
    exact r9<|by rw[Y,this];simp
   have mg:∀ad,A=O ad->∀j x,K[j]? =O x->w.cell? (ad.add j)=O x:=by
    intro ad Q j x T;have hm:0<m:=by
     rcases yx m with h0|h0
     .have:=r9<|by rw[Y,h0];simp
      rw[this]at T;simp at T
     .exact h0
    have:=(hA hm).2;rw[Q]at this;cases this;have Ol:(⟨N.g,0*N.wd,ae⟩:Addr).add j=⟨N.g,j,ae⟩:=by unfold Addr.add;split<;>simp_all
    rw[Ol,CZ vE];exact T
   split at y
   .rename_i k
    split at y
    .rename_i J wd k0 cs hb
     cases I:ap J e&&ap wd (aT P e)
     .rw[I]at y;exact bad y d
     rw[I]at y;simp only[bC]at I;have e1:=cN I.1;have e2:=cN I.2;subst e1 e2;subst y;have oJ:=d (⟨(k0+m)*l9 P J<=140737488355328,inferInstance⟩) aj;simp[F]at hs;let⟨L,hL,hu⟩:=hs;let⟨L1,xJ,hB⟩:=h.hp k _ hb;rw[hL]at xJ;cases xJ;let⟨xs,cD,hR⟩:=aKk hB;obtain⟨M,w',gF,tj,kl,B⟩:=aj8 ht hi hz fB mn HQ cD Y X xQ mg (f _ oJ) (by simpa [qx]using oJ);have KF:L.val.ownBlock=if L.nil then ae else O L.g:=by
      unfold Loc.val;cases L.nil<;>simp[ni]
     have Ao:=hn n aj;obtain⟨L',rf,C,Fb⟩:=aLE tj;have HC:L'.nil=ah->(L.nil=ah/\L'.g=L.g)\/L'.g=w.heap.size:=by
      intro W;have b:=(Fb W).1;rcases B with B|B
      .rw[B,KF]at b
       cases Oi:L.nil
       .rw[Oi]at b
        simp[rz,xi,Option.some.injEq]at b;exact .inl ⟨rfl,b.symm⟩
       .rw[Oi]at b;simp at b
      .rw[B]at b
       simp[Option.some.injEq]at b;exact .inr b.symm
     refine⟨M,w',D,jD β n<|O L',by rw[hv,hu];exact gF,?_,h.afU hb hL Ao (by rw[<-KF];exact kl) HC (λW=>(Fb W).2) λG=>C _ _<|Z.append _ (Z.mono G _ hR)<|Z.mono G _ t⟩;simp[bo,F];exact⟨L',gK _ _ _,rf.symm⟩
    .exact bad y d
   .exact bad y d
  .exact bad y d
 .exact bad y d
def aJD(s x:Operand)(ts o:TypeId):mc P Γ ⟨dst,.call {callee:=.builtin .append,args:=#[s,x],argTypes:=#[ts,o]},type,pos,after,guard⟩:=by
 intro E D β S a w n r y f T hn h K Q hK;have es:=h.ev s;have ex:=h.ev x;simp[step,kd,uU]at y;unfold JO at y;split at y
 .rename_i e he
  have Z:=under he aj;split at y
  .rename_i k m hx
   rw[hx]at ex;simp[F]at ex;split at y
   .rename_i d2 hz2
    cases u:xD P e d2.wd&&(acS P o&&Pv (S.ev s))
    .rw[u]at y;exact bad y f
    .rw[u]at y
     simp[bC]at u;simp[bo]at y;generalize uy:z7 P S.H e (S.ev s) d2 [] n=q at y;let⟨qc,qv,q1,q2,q3⟩:=q;subst y;have h0:=f (⟨0<=m,inferInstance⟩) aj;have hm:=f (⟨m<=4294967296,inferInstance⟩) aj;let⟨i,z,hi,V,M,I,B,HQ,Db,Dp,KC⟩:=Hq u.1;let⟨z',zc,hzc,v,g⟩:=ayc hz2;rw[KC]at zc;cases zc;have BM:∃kn,P.underlying o=O (.int kn):=by
      have:=u.2.1;unfold acS at this;split at this
      .rename_i kn hkn;exact⟨kn,under hkn aj⟩
      .cases this
     let⟨kn,BM⟩:=BM;obtain⟨W,rfl⟩:∃W:Nat,m=W:=⟨m.toNat,Y⟩;simp only[yz]at v g;have hzl:(pf z.cells W).toList.length=d2.len*d2.wd:=by simp[pf,v,B]
     obtain⟨p,w',D',β',G,J,L⟩:=ZQ h uy (λc ti=>f c<|by simp[ti]) hn u.1 es hzl (λt j X hj=>by
      obtain⟨x,jq,kK⟩:=g t j Y hj;refine⟨x,?_,kK⟩;have aEv:t*d2.wd+j<W*z.cells.size:=by
       rw[B,<-v]
       calc t*d2.wd+j<(t+1)*d2.wd:=by rw[pQ];omega
        _<=d2.len*d2.wd:=ox _ X
      rw[xl,ayb _ _ _ aEv,B];rw[show(t*d2.wd+j)%d2.wd=j by rw[AY,Nat.mul_add_mod];exact MK hj];exact jq) (λm xs U l d=>by
       rw[v]at l d|-;rw[<-M]at U|-;rw[I]at d;obtain⟨p,w',h1,h2,h3,h4⟩:=azq (ty:=type) (kq:=k) Z BM hi V (by rw[B,M]) Y Dp U l (by omega) d;exact⟨p,w',h1,h2,h3,h4⟩) λko=>by rw[u.2.2]at ko;cases ko
     refine vA (Hg ?_) L J T hK;simp only[builtin,Jh,kd,uU,ex,fX,G,gM,iV]
   .exact bad y f
  .rename_i b hx
   rw[hx]at ex;simp only[F]at ex;cases u:xD P e 1&&(zd P o&&(acU P e&&Pv (S.ev s)))
   .rw[u]at y;exact bad y f
   .rw[u]at y
    simp only[bC]at u;simp only[bo]at y;obtain⟨i,z,hi,V,M,I,B,HQ,Db,Dp,KC⟩:=Hq u.1;have hu:P.underlying o=O .string:=by
     have:=u.2.1;unfold zd at this;split at this
     .rename_i hk;exact under hk aj
     .cases this
    have C:=u.2.2.1;unfold acU at C;rw[KC]at C;have HS:z=.int .u8 0/\i.bytes=1:=by
     split at C
     .rename_i he
      cases he;simp only[bC,dJ]at C;exact⟨by rw[C.1],by rw[<-I];exact cN C.2⟩
     .cases C
    have E5:(dY b).length=b.size:=by unfold dY;rw[qk];rfl
    have yY:(rH b).length=(aA.ints .u8<|dY b).len*1:=by rw[AZ,xj];exact E5.symm
    obtain⟨p,w',D',β',G,J,L⟩:=ZQ h y f hn u.1 es yY (λt j X hj=>by
     change t<(dY b).length at X;change j<1 at hj;refine⟨.int .u8<|(dY b).getD t 0,?_,rfl⟩;have:j=0:=Y;subst this;have ai:t<b.data.toList.length:=by rw[E5]at X;exact X
     show(rH b)[t*1+0]? =_;unfold rH dY;rw[xj,uS,jR,pS,pS,kB ai];rfl) (R:=λp w'=>(n9 #[ts,o] type #[a.eval s,.string b]).run P w=.ok p w') (λm xs U l d=>by
      have el:(aA.ints .u8<|dY b).len=b.size:=E5;rw[el]at l d|-;rw[I,HS.2,xj]at d;exact azp Z hu hi (HS.1▸V) M HS.2 U l d) λT=>by rw[T]at u;cases u.2.2.2
    refine vA (Hg ?_) L J T hK;simp only[builtin,Jh,kd,uU,ex,fX,G,gM,iV]
  .split at y
   .rename_i d2 r2 OZ
    cases u:xD P e d2.wd&&ap o ts
    .rw[u]at y;exact bad y f
    .rw[u]at y
     simp only[bC]at u;simp only[bo]at y;have N:=cN u.2;subst N;obtain⟨i,z,hi,V,M,I,B,HQ,Db,Dp,KC⟩:=Hq u.1;obtain⟨A,c,news,hu,uw,vH,sn,xQ,mg⟩:=avP<|avO h OZ ex;obtain⟨p,w',D',β',G,J,L⟩:=ZQ h y f hn u.1 es uw sn (R:=λp w'=>(n9 #[o,o] type #[a.eval s,a.eval x]).run P w=.ok p w') (λm xs U l d=>by
      rw[I]at d;rw[hu];exact aj8 Z hi V M B HQ U uw vH xQ mg l d) λ_ m xs hf l d=>by
      rw[I]at d;rw[hu];exact azm Z hi V M B HQ hf uw vH xQ mg l d
     refine vA (Hg ?_) L J T hK;simp only[builtin,Jh,kd,uU,fX,G,gM,iV]
   .cases u:ap o ts
    .rw[u]at y;exact bad y f
    .rw[u]at y
     simp only[bo]at y;have N:=cN u;subst N;obtain⟨p,w',D',β',G,J,L⟩:=azj (ty:=type) h y f hn Z es ex;refine vA (Hg ?_) L J T hK;simp only[builtin,Jh,kd,uU,fX,G,gM,iV]
 .exact bad y f
end
section
variable{P:Program}{Γ:ll}
variable{dst:Option Tmp}{type:TypeId}{pos:String}{after:Array Edge}{guard:Option (Nat×Bool)}
def akz{E:Env}{D:aW}{β:bp}{S:aq}{a:Act}{w:World}(h:St E D β S a w){n:Nat}(c:S.U n=ah)(e:TypeId)(d:aA)(us:bG)(cap:Nat)(v:us.length=cap*d.wd)(k:d.len<=cap)(b:cap<=maxLen)
  (f:∀i j,i<d.len->j<d.wd->∃x,us[i*d.wd+j]? =O x/\d.ok i j x):
  St E D (jD β n<|O ⟨w.heap.size,d.wd,d.len,cap,ah⟩) {S with H:=cc S.H [(n,O<|.row e d)],U:=cc S.U [(n,ab)]} a (w.alloc<|.cells us.toArray e):=
 h.new c us e ⟨w.heap.size,d.wd,d.len,cap,ah⟩ rfl rfl λG r=>⟨rfl,rfl,.inr ⟨rfl,k,b,us,e,(0,0),r,H9 _,Nat.le_of_eq v.symm,λi j g u=>let⟨x,y,z⟩:=f i j g u;⟨x,y,z⟩⟩⟩
def aJV(t:TypeId)(len cap:Operand):mc P Γ ⟨dst,.makeSlice t len cap,type,pos,after,guard⟩:=by
 intro E D β S a w n r k c T W h K Q R;have q:=h.ev len;have p:=h.ev cap;simp[step]at k;split at k
 .rename_i k1 x k2 y e1 e2
  rw[e1]at q;rw[e2]at p;simp[F]at q p;unfold apN at k;split at k
  .rename_i e he
   have Z:=under he aj;split at k
   .rename_i d L
    cases f:fK P e&&ap (aT P e) d.wd
    .rw[f]at k;exact bad k c
    .rw[f]at k
     subst k;simp only[bC]at f;let⟨i,hi,X,hb,N⟩:=acL<|sW f.1;have s:=cN f.2;let⟨z,zc,M,o,g⟩:=ayc L;rw[N]at zc;have h0:=c (⟨0<=x,inferInstance⟩) aj;have l:=c (⟨x<=y,inferInstance⟩) aj;have A:=c (⟨l9 P e*y<=281474976710656,inferInstance⟩) aj;have B:=c (⟨y<=9223372036854775807,inferInstance⟩) aj;have I:=run_make w t e i z Z hi zc k1 k2 x y h0 l (by rw[<-hb];exact A) B;have C:(madeCells z.cells<|y.toNat*i.size).toList.length=y.toNat*d.wd:=by simp[madeCells,<-X,s]
     have J:=akz h (W n aj) e d (madeCells z.cells<|y.toNat*i.size).toList y.toNat C Y (by simp[maxLen];lia) λm j gq U=>by
      let⟨v,hv,bT⟩:=g m j Y U;refine⟨v,?_,bT⟩;have ai:m*d.wd+j<y.toNat*i.size:=by
       rw[<-X,s]
       calc m*d.wd+j<(m+1)*d.wd:=by rw[pQ];lia
        _<=y.toNat*d.wd:=ox _ Y
      simp only[madeCells,xl,YE];rw[show(Y0<|y.toNat*i.size)[m*d.wd+j]? =O (m*d.wd+j)by simp[ai]];have H:(m*d.wd+j)%z.cells.size=j:=by rw[M,AY,Nat.mul_add_mod];exact MK U
      have V:j<z.cells.size:=Y;simp only[xm,H];rw[getElem!_pos z.cells j V,<-hv,Jd V]
     refine vA ?_ J ?_ T R (u:=.slice (O ⟨w.heap.size,0,ae⟩) x.toNat y.toNat)
     .simp only[execOp,q,p,fX,I,gM,iV,CB]
     .simp only[bo,F]
      exact⟨_,gK _ _ _,by simp[Loc.val,o]⟩
   .split at k
    .cases f:xD P e (aT P e)
     .rw[f]at k;exact bad k c
     .rw[f]at k
      subst k;obtain⟨i,z,hi,L,s,qx,mn,HQ,Db,Dp,KC⟩:=Hq f;have l:=c (⟨0<=y,inferInstance⟩) aj;have A:=c (⟨l9 P e*y<=281474976710656,inferInstance⟩) aj;have B:=c (⟨y<=9223372036854775807,inferInstance⟩) aj;have I:=run_make w t e i z Z hi L k1 k2 (Int.ofNat 0) y (jj 0) l (by rw[<-qx];exact A) B;have J:=h.new (b:=.rc e (aT P e) 0 []) (W n aj) (madeCells z.cells<|y.toNat*i.size).toList e ⟨w.heap.size,aT P e,0,y.toNat,ah⟩ rfl rfl λG hg=>⟨rfl,rfl,[],(CJ _).symm,rfl,.inr ⟨rfl,dx _,by simp only[maxLen];show y.toNat<=_;omega,_,e,(0,0),hg,H9 _,by simp[madeCells,s],aj⟩⟩;refine vA ?_ J ?_ T R (u:=.slice (O ⟨w.heap.size,0,ae⟩) 0 y.toNat)
      .simp only[execOp,q,p,fX,I,gM,iV,CB]
       rfl
      .simp only[bo,F]
       exact⟨_,gK _ _ _,by simp[Loc.val]⟩
    .exact bad k c
  .exact bad k c
 .exact bad k c
def aJK(z t:TypeId)(x:Operand):mc P Γ ⟨dst,.convert z t x,type,pos,after,guard⟩:=by
 intro E D β S a w n r y d M hn h K Q I;have ex:=h.ev x;simp[step]at y;unfold NK at y;cases R:fK P z
 .rw[R]at y;exact bad y d
 rw[R]at y;simp[bo]at y;have OZ:=sW R;have T:zd P z=ab->P.underlying z=O .string:=by
  intro q;unfold zd at q;split at q
  .rename_i he;exact under he aj
  .cases q
 split at y
 . --int
   rename_i k k' m B C;subst y;rw[C]at ex;simp[F]at ex;apply ju h (u:=.int k<|k.wrap m) ?_ (by simp[c_.ret,F]) rfl rfl M I;simp[execOp,ex,fX,convert,gz OZ,gz<|under B aj,gM,Conv.intToInt,iV]
 . --string of bytes
   rename_i B;split at y
   .rename_i e C
    split at y
    .rename_i xs r' H e4
     subst y;let⟨A,c,hu,mg⟩:=avO h e4 ex;have l:=under C aj;have p:=under H aj;have f:=under B aj;apply ju h (u:=.string<|strOfNums xs) ?_ (by simp[F]) rfl rfl M I;simp[execOp,hu,fX];rcases yx xs.length with h0|h0
     .have du:=r9 h0
      subst du;cases A with
      |none=>
       rw[run_convert_bytes_nil w z e l p _ _ t f];rfl
      |some ad=>
       let⟨b,o,sp⟩:=ad;have hl:(loadCells ⟨b,o,sp⟩ 0).run P w=.ok (([]:N).map<|cg .u8).toArray w:=by simp[loadCells,loadCellsFrom]
       have:=run_bytesToString w ⟨b,o,sp⟩ 0 c [] hl;simp[aA.len,D_];rw[run_convert_bytes_string w z t e _ 0 c l p f,this];rfl
     .obtain⟨g,U,hA,hx⟩:=mg h0
      subst hA;simp[aA.len];rw[run_convert_bytes_arg w z e l p g U _ c xs rfl (λi hi=>by
       let⟨v,V,W⟩:=hx i 0 hi (by simp[aA.wd]);simp only[aA.wd,xj,uS,aA.ok,aA.vl]at V W;rw[V,W]) t f]
      rfl
    .exact bad y d
   .exact bad y d
 . --bytes of a string
   rename_i e s B C;split at y
   .rename_i H
    cases q:zd P z
    .rw[q]at y;exact bad y d
    .rw[q]at y
     subst y;rw[C]at ex;simp[F]at ex;have Z:=run_bytes_of_string w z t e s (T q) (under B aj)<|under H aj;generalize X:grownCap w s.size 0 e=cap at Z;have bA:s.size<=cap:=by rw[<-X];exact grownCap_ge w s.size 0 e
     have fB:=d (⟨s.size<=9223372036854775807,inferInstance⟩)<|.head _;have ti:cap<=maxLen:=by rw[<-X];exact YD w s.size 0 e<|by simp[maxLen];lia
     have L:(bytesRow s cap).size=cap:=by simp[bytesRow];lia
     have J:(dY s).length=s.size:=by unfold dY;rw[qk];rfl
     have yZ:∀i,i<s.size->(bytesRow s cap)[i]? =O (.int .u8<|(dY s).getD i 0):=by
      intro i hi;simp[bytesRow,dY];rw[aiG<|by simpa using hi,YE,Jd hi];simp[eU,pS,xl,Jd hi,xm,CG]
     have bR:=h.born (b':=.row e<|.ints .u8<|dY s) (L':=⟨w.heap.size,1,s.size,cap,ah⟩) (w':=w.drew.alloc<|.cells (bytesRow s cap) e ((bytesRow s cap).size,(bytesRow s cap).size+1)) (hn n aj)
      ⟨rfl,rfl,rfl,aj,λk hk _=>nY w.drew _ k hk⟩ (λ_=>rfl) λ_=>by simp
      λG=>⟨rfl,J.symm,.inr ⟨rfl,by simp[aA.len,J];exact bA,ti,(bytesRow s cap).toList,e,_,by simpa using D4 w.drew<|.cells (bytesRow s cap) e ((bytesRow s cap).size,(bytesRow s cap).size+1),by simpa using aGV _,by simp[aA.wd,L],λi j hi hj=>by
        simp[aA.len,J]at hi;simp[aA.wd]at hj;have j0:j=0:=Y;subst j0;exact⟨_,by simpa [aA.wd,aA.vl]using yZ i hi,rfl⟩⟩⟩
     apply vA (u:=.slice (O ⟨w.heap.size,0,ae⟩) s.size cap) (by simp[execOp,ex,fX,Z,gM,iV]) bR ?_ M I;simp[bo,F];exact⟨_,gK _ _ _,by simp[Loc.val]⟩
   .exact bad y d
 .exact bad y d
end
section
variable{P:Program}{Γ:ll}
variable{dst:Option Tmp}{type:TypeId}{pos:String}{after:Array Edge}{guard:Option (Nat×Bool)}
def amP(y:Nat):∀(z:bG) k (cells:bG),y+k+z.length<=cells.length->
  ((z.zipIdx k).foldl (λ cs x=>cs.setIfInBounds (y+x.2) x.1) cells.toArray)=(cells.take (y+k)++z++cells.drop (y+k+z.length)).toArray
 | [],k,cells,h=>by simp
 |v::z,k,cells,h=>by simp[Jb]at h;simp[List.zipIdx_cons,GL,List.setIfInBounds_toArray];rw[amP y z (k+1) (cells.set (y+k) v)<|by simp;lia];congr 1;have:=list_seg_step cells (y+k) v z Y;simpa [I9]using this
def S9{D:aW}{w:World}{β:bp}{k:Nat->Option (Nat×Nat)}:∀(z:lW) b (cells cs:bL) (us:bG),
  Hx k cells z=O cs->z.map (·.1)=b.map (·.1)->(∀(i:Nat) x v,z[i]? =O x->b[i]? =O v->F D w β x.2 v.2)->Z D w β cells us->(∀u∈us,u.oneCell'=ab)->
  ∃d,ajf k us.toArray b=O d.toArray/\Z D w β cs d/\∀u∈d,u.oneCell'=ab
 | [],[],cells,cs,us,h,_,_,c,h1=>by
   simp[Hx,Option.some.injEq]at h;subst h;exact⟨us,rfl,c,h1⟩
 | [],v::b,cells,cs,us,h,r,_,_,_=>by simp at r
 |p::z,[],cells,cs,us,h,r,_,_,_=>by simp at r
 |(i,x)::z,(K,v)::b,cells,cs,us,h,r,g,c,h1=>by
  simp[kd,List.cons.injEq]at r;obtain⟨rfl,r⟩:=r;unfold Hx at h;split at h
  .cases h
  .rename_i e size L
   cases a:(ap x.cellsOf.length size&&x.cellsOf.all SV.one&&mF (e+size) cells.length)
   .rw[a]at h;cases h
   .rw[a]at h
    simp only[bC]at a;simp only[bo]at h;have E:=cN a.1.1;have t:=nh a.2;have C:=g 0 (i,x) (i,v) rfl rfl;let⟨m,J⟩:=F.cells C a.1.2;have f:v.cells.toList.length=size:=by rw[Z.len _ m];exact E
    have I:=Z.len cells c;have l:Z D w β (cells.take e++x.cellsOf++cells.drop (e+size)) (us.take e++v.cells.toList++us.drop (e+size)):=
     Z.append _ (Z.append _ (Z.take cells e c) m)<|Z.drop cells _ c
    have A:∀u∈us.take e++v.cells.toList++us.drop (e+size),u.oneCell'=ab:=c9;let⟨d,s,o,q⟩:=S9 z b _ cs _ h r (λj y u G B=>g (j+1) y u (by simpa using G)<|by simpa using B) l A;refine⟨d,?_,o,q⟩;unfold ajf;simp only[L];have H:v.cells.size=size:=by simpa using f
    rw[V c9];have n:=amP e v.cells.toList 0 us (by rw[f];lia);simp only[uS]at n;rw[<-s];congr 1;rw[f]at n;rw[<-n,<-axK,Array.toList_zipIdx]
def ass{D:aW}{w:World}{β:bp}{k:IntKind}:∀(xs:N),Z D w β (xs.map λx=>.v<|.int k x)<|xs.map<|cg k
 | []=>by simp[Z]
 |x::xs=>by simp only[kd,Z];exact⟨_,_,rfl,by simp[F],ass xs⟩
def F.Bc{D:aW}{w:World}{β:bp}{x:SV}{v:Value}(h:F D w β x v):F D w β x.Bc v:=by
 unfold SV.Bc;split
 .simp only[F]at h|-
  subst h;exact⟨_,rfl,ass _⟩
 .exact h
def aKs{E:Env}{D:aW}{β:bp}{S:aq}{a:Act}{w:World}(h:St E D β S a w)(l:List (Nat×Operand)):
  (l.map λx=>(x.1,(S.ev x.2).Bc)).map (·.1)=(l.map λx=>(x.1,a.eval x.2)).map (·.1)/\∀(i:Nat) x v,(l.map λx=>(x.1,(S.ev x.2).Bc))[i]? =O x->(l.map λx=>(x.1,a.eval x.2))[i]? =O v->F D w β x.2 v.2:=by refine⟨aj,λi x v k e=>?_⟩;simp only[pS,Ja]at k e;obtain⟨y,u,rfl⟩:=k;obtain⟨z,r,rfl⟩:=e;rw[u]at r;cases r;exact(h.ev _).Bc
def aKr{E:Env}{D:aW}{β:bp}{S:aq}{a:Act}{w:World}(h:St E D β S a w)(l:List (Nat×Operand)):
  (l.map λx=>(x.1,S.ev x.2)).map (·.1)=(l.map λx=>(x.1,a.eval x.2)).map (·.1)/\∀(i:Nat) x v,(l.map λx=>(x.1,S.ev x.2))[i]? =O x->(l.map λx=>(x.1,a.eval x.2))[i]? =O v->F D w β x.2 v.2:=by refine⟨aj,λi x v k e=>?_⟩;simp only[pS,Ja]at k e;obtain⟨y,u,rfl⟩:=k;obtain⟨z,r,rfl⟩:=e;rw[u]at r;cases r;exact h.ev _
def ago{t:TypeId}{z:Value}(h:r7 P t=O z)(w:World):(zeroValue t).run P w=.ok z w:=by
 unfold r7 at h;split at h
 .rename_i i e;simp[zeroValue,typeInfo,e,h]
 .cases h
def run_places{w:World}:∀(fs:List Field),(fs.all λf=>fK P f.type)=ab->(fs.mapM (λf=>do pure (f.offset,<-sizeOf f.type):Field->Sem (Nat×Nat))).run P w=.ok (fs.map λf=>(f.offset,aT P f.type)) w
 | [],_=>by simp
 |f::fs,h=>by simp only[uR,bC]at h;simp only[List.mapM_cons,fX,we<|sW h.1,gM,iV,run_places fs h.2,kd]
def aJH(t:TypeId)(y:Array (Nat×Operand)):mc P Γ ⟨dst,.build t y,type,pos,after,guard⟩:=by
 intro E D β S a w n r k b s H h K Q q;simp only[step]at k;let⟨l,A⟩:=aKs h y.toList;have B:(y.map λx=>(x.1,a.eval x.2)).toList=y.toList.map λx=>(x.1,a.eval x.2):=aj;split at k
 .rename_i z I p o
  split at k
  .rename_i J g
   cases v:z.cells.toList.all tY&&I.toList.all (λf=>fK P f.type)
   .rw[v]at k;exact bad k b
   .rw[v]at k
    subst k;simp only[bC]at v;let⟨c,j,d,C⟩:=S9 _ (y.toList.map λx=>(x.1,a.eval x.2)) _ J z.cells.toList g l A (W7 _)<|List.all_eq_true.1 v.1;apply ju h ?_ (by simp[bo,c_.ret,F];exact⟨c,rfl,d⟩) rfl rfl s q;have m:(I.mapM (λf=>do pure (f.offset,<-sizeOf f.type):Field->Sem (Nat×Nat))).run P w=.ok (I.map λf=>(f.offset,aT P f.type)) w:=by
     rw[axL];simp only[Sem.run_map,run_places I.toList v.2,gM];congr 1;rw[<-Yz,CB]
    have G:(λ i=>(I.map λ f=>(f.offset,aT P f.type))[i]?)=λ(i:Nat)=>(I[i]?).map λ f=>(f.offset,aT P f.type):=by
     funext i;simp
    simp only[execOp,Instr.build,fX,ago p,gM,gz<|under o aj,m,G,B];rw[CB]at j;simp[j,iV,gM]
  .exact bad k b
 .rename_i z len e p o
  split at k
  .rename_i J g
   cases v:z.cells.toList.all tY&&fK P e
   .rw[v]at k;exact bad k b
   .rw[v]at k
    subst k;simp only[bC]at v;let⟨c,j,d,C⟩:=S9 _ (y.toList.map λx=>(x.1,a.eval x.2)) _ J z.cells.toList g l A (W7 _)<|List.all_eq_true.1 v.1;apply ju h ?_ (by simp[bo,c_.ret,F];exact⟨c,rfl,d⟩) rfl rfl s q;simp[execOp,Instr.build,fX,ago p,gM,gz<|under o aj,we<|sW v.2,B];rw[CB]at j;simp[j,iV,gM]
  .exact bad k b
 .exact bad k b
def aA1{D:aW}{w:World}{β:bp}{e:TypeId}{cs:bL}{us:bG}{len:Nat}{d:aA}(h:aaw P e cs len=O d)(k:Z D w β cs us)(r:cs.length=len*aT P e)(b:d.wd=aT P e)(a:d.len=len):
  ∀i j,i<d.len->j<d.wd->∃x,us[i*d.wd+j]? =O x/\d.ok i j x:=by
 intro i j c z;refine⟨_,?_,rfl⟩;unfold aaw at h;split at h
 .simp only[Ja]at h
  obtain⟨f,y,rfl⟩:=h;rw[O' cs f us y k];simp[aA.len,aA.wd,aA.vl]at c z|-;rw[show j=0 by lia];simp[pS,kB c]
 .rename_i g _
  cases v:T6 P g.toList<;>rw[v]at h
  .cases h
  .simp only[bo,Ja]at h
   obtain⟨f,y,rfl⟩:=h;rw[O' cs f us y k];simp[aA.len,aA.wd,aA.vl,qk,YB]at c z|-;have n:f.length=len*aT P e:=by rw[<-r,acP cs y]
   have u:i*aT P e+j<f.length:=by
    rw[n]
    calc i*aT P e+j<(i+1)*aT P e:=by rw[pQ];lia
     _<=len*aT P e:=ox _ c
   simp[c,z,u]
 .cases h
def amM(cells:bG):∀n,((au n<|cells.map SV.sx).flatten)=((au n cells).flatten).map SV.sx
 |0=>rfl
 |n+1=>by simp only[D9,aiD,yA,amM cells n]
def aGu:∀n,(madeCells b<|n*b.size).toList=(au n b.toList).flatten:=by
 intro n;apply D8;intro m;have e:(au n b.toList).flatten.length=n*b.size:=by simp[List.length_flatten]
 by_cases h:m<n*b.size
 .have u:0<b.size:=by
   grind
  have r:=CC m u;have k:(madeCells b<|n*b.size).toList[m]? =b[m%b.size]? :=by
   simp[madeCells,xl,YE];grind
  rw[k];have y:∀(n m),m<n*b.size->(au n b.toList).flatten[m]? =b[m%b.size]? :=by
   intro n;induction n with
   |zero=>intro m h;lia
   |succ n v=>
    intro m h;simp[D9,aiD];by_cases x:m<b.size
    .rw[GJ<|by simpa using x,MK x,xl]
    .rw[GI c9]
     simp[uT];rw[v (m-b.size)<|by rw[pQ]at h;lia];congr 1;rw[Nat.mod_eq_sub_mod<|Nat.le_of_not_lt x]
  exact(y n m h).symm
 .rw[xk<|by simp[size_madeCells];lia,xk Y]
def aJI(t:TypeId)(len:Nat)(y:Array (Nat×Operand)):mc P Γ ⟨dst,.buildSlice t len y,type,pos,after,guard⟩:=by
 intro E D β S a w n r v f L N h K Q H;simp only[step]at v;let⟨Dj,Fc⟩:=aKr h y.toList;have TS:(y.map λx=>(x.1,a.eval x.2)).toList=y.toList.map λx=>(x.1,a.eval x.2):=aj;split at v
 .rename_i e ht
  split at v
  .rename_i z hz
   split at v
   .rename_i cs M
    cases p:(z.cells.toList.all tY&&fK P e&&ap z.cells.size (aT P e)&&mF (len*aT P e) 16777216&&ap cs.length (len*aT P e))
    .rw[p]at v;exact bad v f
    .rw[p]at v
     simp[bo]at v;simp only[bC]at p;let⟨⟨⟨⟨q1,q2⟩,q3⟩,q4⟩,q5⟩:=p;have mn:=cN q3;have hle:=nh q4;have J:=cN q5;rw[amM]at M;have C:∀u∈(au len z.cells.toList).flatten,u.oneCell'=ab:=by
      intro u q;simp[List.mem_flatten,aiH]at q;obtain⟨l,⟨_,rfl⟩,q⟩:=q;exact List.all_eq_true.1 q1 u q
     let⟨c,U,A,W⟩:=S9 _ (y.toList.map λx=>(x.1,a.eval x.2)) _ cs _ M Dj Fc (W7 _) C;have Dn:c.length=len*aT P e:=by rw[Z.len _ A];exact J
     have o:=aGu z.cells len;rw[mn]at o;have R:(execOp a.eval ⟨dst,.buildSlice t len y,type,pos,after,guard⟩).run P w=.ok (.value<|.slice (O ⟨w.heap.size,0,ae⟩) len len) (w.alloc<|.cells c.toArray e):=by
      have m:ajf (λi=>O (i*aT P e,aT P e)) ((Y0<|len*aT P e).map (z.cells[·%z.cells.size]!)) (y.map λx=>(x.1,a.eval x.2)).toList=O c.toArray:=by
       rw[TS,<-U,<-o];simp only[madeCells,CB]
      simp only[execOp,Instr.buildSlice,fX,gz<|under ht aj,gM,we<|sW q2,Jc,V<|show¬len*aT P e>2^24 by lia,iV];by_cases s:len*aT P e=0
      .rw[I s]
       have Kv:(Y0<|len*aT P e).map ((#[]:Array Value)[·%(#[]:Array Value).size]!)=(Y0<|len*aT P e).map (z.cells[·%z.cells.size]!):=by rw[s];simp
       rw[Kv,m];simp[newRow,fX,run_newObj,iV,World.alloc_eq,gM]
      .rw[V s]
       simp only[ago hz,gM,m,newRow,fX,run_newObj,iV,World.alloc_eq]
     split at v
     .rename_i d B
      cases j:ap d.wd (aT P e)&&ap d.len len&&cK 0 (aT P e)
      .rw[j]at v;exact bad v f
      .rw[j]at v
       subst v;simp only[bC]at j;have T:=cN j.1.1;have g:=cN j.1.2;have X:len<=maxLen:=by
        have:len<=len*aT P e:=aiF _<|nh j.2;simp[maxLen];lia
       apply vA R (akz h (N n aj) e d c len (by rw[Dn,T]) Y X<|aA1 B A J T g) ?_ L H;simp[bo,F];exact⟨_,gK _ _ _,by simp[Loc.val,g]⟩
     .subst v
      apply vA R (h.new (b:=.cells e cs) (N n aj) c e ⟨w.heap.size,1,len,0,ah⟩ rfl rfl (λG hg=>⟨rfl,c,hg,Z.mono G _ A,W⟩)) ?_ L H;simp only[F];exact⟨_,gK _ _ _,_,_,rfl,gL _,λ_=>⟨rfl,aj⟩,(λk hk=>by cases hk;rfl),aj⟩
   .exact bad v f
  .exact bad v f
 .exact bad v f
def aJP(x:Operand)(i:TypeId):mc P Γ ⟨dst,.call {callee:=.builtin .len,args:=#[x],argTypes:=#[i]},type,pos,after,guard⟩:=by
 intro E D β S a w n r y j J U h K Q H;have ex:=h.ev x;simp[step,kd,uU]at y;have k:∀m t vc,(Y1 #[i] type #[a.eval x]).run P w=.ok (.int .i64 m) w->r=⟨vc,.v<|.int .i64 m,t,[],[]⟩->yF P ⟨dst,.call {callee:=.builtin .len,args:=#[x],argTypes:=#[i]},type,pos,after,guard⟩ a w K Q:=by
  rintro m t vc M rfl;apply ju h (u:=.int .i64 m) (Hg ?_) (by simp[F]) rfl rfl J H;simp[builtin,Jh,kd,uU,fX,M,gM,iV]
 have g:∀A (n c),BP P i=ab->a.eval x=.slice A n c->(Y1 #[i] type #[a.eval x]).run P w=.ok (.int .i64 n) w:=by
  intro A n c p N;unfold BP at p;split at p
  .rename_i e o
   rw[N];simp[Y1,gz<|under o aj,goInt]
  .cases p
 unfold Pk at y;split at y
 .rename_i d e
  rw[e]at ex;simp[F,va]at ex;let⟨A,c,b,_⟩:=ex;cases z:BP P i
  .rw[z]at y;exact bad y j
  .rw[z]at y
   exact k d.len [] [] (g A d.len c z b) y.symm
 .rename_i l e
  rw[e]at ex;simp[F]at ex;let⟨L,q,b⟩:=ex;split at y
  .rename_i W d I
   cases z:BP P i
   .rw[z]at y;exact bad y j
   .rw[z]at y
    have hB:=h.od I q;let⟨T,C,f⟩:=hB;apply k d.len [l] [] ?_ y.symm;rcases f with⟨f,G⟩|⟨f,_⟩
    .have:=g ae 0 0 z<|by rw[b];simp[Loc.val,f]
     rw[G];exact this
    .exact g _ _ _ z<|by rw[b];simp only[Loc.val,f,C];rfl
  .exact bad y j
 .rename_i l R len V e
  rw[e]at ex;simp[F]at ex;let⟨L,q,A,B,b,_⟩:=ex;cases z:BP P i
  .rw[z]at y;exact bad y j
  .rw[z]at y
   exact k len [] [] (g A len B z b) y.symm
 .rename_i s e
  rw[e]at ex;simp[F]at ex;cases z:zd P i
  .rw[z]at y;exact bad y j
  .rw[z]at y
   apply k s.size [] [] ?_ y.symm;unfold zd at z;split at z
   .rename_i o
    rw[ex];simp[Y1,gz<|under o aj,goInt]
   .cases z
 .rename_i e
  rw[e]at ex;simp[F]at ex;cases z:BP P i
  .rw[z]at y;exact bad y j
  .rw[z]at y
   exact k 0 [] [] (by simpa using g ae 0 0 z ex) y.symm
 .exact bad y j
def apW(h:Bool):∀l:List SV,l.foldl (KW h) ae=ae
 | []=>rfl
 |a::l=>apW h l
def apV{D:aW}{w:World}{β:bp}(z:Bool):∀(l:bL) (us:bG) k p x,l.foldl (KW z) (O<|.v<|.int k p)=O x->Z D w β l us->
  ∃u,(us.foldlM (if z then aiZ else ai0)<|.int k p).run P w=.ok u w/\F D w β x u
 | [],us,k,p,x,h,e=>by
   simp[List.foldl_nil,Option.some.injEq]at h;subst h;simp[Z]at e;subst e;exact⟨.int k p,rfl,by simp[F]⟩
 |y::l,us,k,p,x,h,e=>by
  simp[Z]at e;obtain⟨v,b,rfl,r,i⟩:=e;simp[GL]at h;by_cases a:∃c q,y=.v (.int c q)
  .obtain⟨c,q,rfl⟩:=a
   simp[KW]at h;simp[F]at r;subst r;let⟨u,n,j⟩:=apV z l b k (cond z (max p q)<|min p q) x h i;refine⟨u,?_,j⟩;simp[List.foldlM_cons,fX];rw[show((if z=ab then aiZ else ai0) (.int k p)<|.int c q).run P w=.ok (.int k<|cond z (max p q)<|min p q) w by
    cases z
    .simp only[rz,xi,ai0,iV,iw]
     congr 2;rw[Int.min_def];split<;>split<;>lia
    .simp only[if_true,aiZ,iV,bo]
     congr 2;rw[Int.max_def];split<;>split<;>lia]
   simpa using n
  .exfalso
   have:KW z (O<|.v<|.int k p) y=ae:=by
    unfold KW;grind
   rw[this,apW]at h;cases h
def aqr(i:Bool)(args:Array Operand)(t:Array TypeId):mc P Γ ⟨dst,.call {callee:=.builtin<|if i then .max else .min,args:=args,argTypes:=t},type,pos,after,guard⟩:=by
 intro E D β S a w n r s o q A h K Q m
 have z:(match Uz (args.toList.map S.ev) i with
   |some x=>c_.ret x
   |none=>c_.fail)=r:=by
  cases i<;>exact s
 have j:=Mh h args.toList;split at z
 .rename_i x v
  subst z;unfold Uz at v;split at v
  .cases v
  .rename_i y l e
   rw[e]at j;simp[Z]at j;let⟨C,F,d,f,g⟩:=j;split at v
   .rename_i k p
    subst f;let⟨u,B,b⟩:=apV (P:=P) i l F k p x v g;apply ju h ?_ b rfl rfl q m;have c:(args.map a.eval).toList=.int k p::F:=by rw[Yz];exact d
    cases i
    .refine Hg ?_
     simp[rz,xi,builtin,Builtin.min_,c,fX];simp_all
    .refine Hg ?_
     simp[if_true,builtin,Builtin.max_,c,fX];simp_all
   .cases v
 .exact bad z o
end
section
variable{P:Program}{Γ:ll}
variable{dst:Option Tmp}{type:TypeId}{pos:String}{after:Array Edge}{guard:Option (Nat×Bool)}
def pC(p:N×N)(l:List (N×N))(h:N):eh (p::l) h=if p.1=h then O p.2 else eh l h:=by unfold eh;grind
def ads(l:List (N×N))(h:N):AA l h=(eh l h).isSome:=by
 induction l with
 |nil=>rfl
 |cons p l x=>
  rw[pC];unfold AA at x|-;grind
def Y'(P:Program)(w:World)(z:TypeId)(y r:VK)(x:N)(us:List MapEntry)(h:List (N×N)):Prop:=
 (eh h x=ae/\(Jv z (hY y x) us).run P w=.ok ae w/\∀v key,eh (h++ [(x,v)]) key=if x=key then O v else eh h key)\/
   (∃j k e,eh h x=O k/\(Jv z (hY y x) us).run P w=.ok (O (j,hY r k)) w/\us[j]? =O e/\e.key=hY y x/\j<h.length/\∀v key,eh (h.set j (x,v)) key=if x=key then O v else eh h key)
def amG{k k':IntKind}{x:Int}(b:VK):∀us y i,us.map (λe=>(e.key,e.val))=y.map (λp=>(hY (.one<|.i k) p.1,hY b p.2))->(∀p∈y,p.1.length=1)->
  (eh y [x]=ae/\GR (.int k') (.int k x) us i=O ae/\∀v key,eh (y++ [([x],v)]) key=if [x]=key then O v else eh y key)\/
  (∃j r e,eh y [x]=O r/\GR (.int k') (.int k x) us i=O (O (i+j,hY b r))/\us[j]? =O e/\e.key=.int k x/\j<y.length/\∀v key,eh (y.set j ([x],v)) key=if [x]=key then O v else eh y key)
 | [],[],i,_,_=>by
   left;refine⟨rfl,rfl,λv key=>?_⟩;rw[rB,pC]
 | [],p::y,i,h,_=>by simp at h
 |e::us,[],i,h,_=>by simp at h
 |e::us,p::y,i,h,f=>by
  simp[kd,List.cons.injEq,Prod.mk.injEq]at h;let⟨⟨z,d⟩,t⟩:=h;have m:=f p aj;let⟨G,pv⟩:=p;simp at m z d
  match G,m with
  | [c],_=>
  simp[hY,List.headD_cons,ud]at z;have C:=amG (k':=k') (x:=x) b us y (i+1) t λq B=>f q (by simp[B]);by_cases u:x=c
  .subst u
   right;refine⟨0,pv,e,by simp[pC],?_,rfl,z,aj,λv key=>?_⟩
   .simp[GR,z,ai1,d]
   .simp only[Rg,pC]
    by_cases A: [x]=key<;>simp[A]
  .have g:¬([c]= [x]):=by simp;exact λh=>u h.symm
   have o:GR (.int k') (.int k x) (e::us) i=GR (.int k') (.int k x) us (i+1):=by
    have l:(x==c)=ah:=by simpa using u
    simp[GR,z,ai1,l]
   rcases C with⟨w,n,a⟩|⟨j,r,s,w,n,a,D,E,F⟩
   .left
    refine⟨by rw[pC,V g];exact w,by rw[o];exact n,λv key=>?_⟩;rw[yw,pC,pC,a];grind
   .right
    refine⟨j+1,r,s,by rw[pC,V g];exact w,by rw[o,n];congr 3;lia,by simpa using a,D,by simpa using E,λv key=>?_⟩;rw[axM,pC,pC,F];grind
def alc{D:aW}{w:World}{β:bp}(c:CK)(x:Int):F D w β (J5 c x) (ud c x):=by cases c<;>simp[J5,ud,F]
def Sr{D:aW}{w:World}{β:bp}:∀cs xs,Z D w β (yO cs xs)<|vo cs xs
 | [],_=>by simp[yO,vo,Z]
 |c::cs,xs=>by simp only[yO,vo,Z];exact⟨_,_,rfl,alc c _,Sr cs _⟩
def awX{D:aW}{w:World}{β:bp}(h:VK)(xs:N):F D w β (vkS h xs) (hY h xs):=by
 cases h with
 |one c=>exact alc c _
 |st e=>
  exact⟨_,rfl,Sr e xs⟩
def alb{D:aW}{w:World}{β:bp}{c:CK}{x:SV}{a:Int}{u:Value}(h:Sl c x=O a)(e:F D w β x u):u=ud c a:=by
 unfold Sl at h;split at h
 .rename_i k i y
  cases z:lS k i
  .grind
  .rw[z]at h
   simp[bo,Option.some.injEq]at h;have:=vK z;subst this h;simpa [F,ud]using e
 .simp only[Ja]at h
  obtain⟨b,r,rfl⟩:=h;have:=ZS r e;rw[this];cases b<;>rfl
 .cases h
def alg{D:aW}{w:World}{β:bp}:∀cs (xs:bL) {z:N} {us:bG},NF cs xs=O z->Z D w β xs us->us=vo cs z/\z.length=cs.length
 | [],[],z,us,h,e=>by
   simp[NF,Option.some.injEq]at h;simp[Z]at e;subst h e;exact⟨rfl,rfl⟩
 | [],_::_,z,us,h,e=>by cases h
 |_::_,[],z,us,h,e=>by cases h
 |c::cs,x::xs,z,us,h,e=>by
  simp[NF]at h;split at h
  .rename_i a r v i
   cases h;simp[Z]at e;obtain⟨y,b,rfl,j,n⟩:=e;let⟨k,u⟩:=alg cs xs i n;refine⟨?_,by simp[u]⟩;rw[alb v j,k];rfl
  .cases h
def aih{D:aW}{w:World}{β:bp}{e:VK}{x:SV}{y:N}{u:Value}(h:QY e x=O y)(z:F D w β x u):u=hY e y/\y.length=tX e:=by
 unfold QY at h;split at h
 .simp only[Ja]at h
  obtain⟨a,v,rfl⟩:=h;exact⟨alb v z,rfl⟩
 .simp only[F]at z
  obtain⟨j,rfl,i⟩:=z;let⟨k,r⟩:=alg _ _ h i;exact⟨by rw[k];rfl,r⟩
 .cases h
def ale{z:Value}(h:Sq s z=ab):z=ud s 0:=by
 unfold Sq at h;split at h
 .simp only[bC,dJ]at h
  rw[vK h.1,h.2];rfl
 .rename_i b
  cases b
  .rfl
  .cases h
 .cases h
def alj:∀cs (x:bG),Su cs x=ab->x=vo cs (au cs.length 0)
 | [],[],_=>rfl
 | [],_::_,h=>by cases h
 |_::_,[],h=>by cases h
 |c::cs,z::x,h=>by simp[Su,bC]at h;rw[ale h.1,alj cs x h.2];rfl
def aSt{x:VK}{z:Value}(h:Yh x z=ab):z=hY x (au (tX x) 0):=by
 unfold Yh at h;split at h
 .rw[ale h];rfl
 .have:=alj _ _ h
  congr 1;apply Array.ext';simpa [tX]using this
 .cases h
def St.aQJ{E:Env}{D:aW}{β:bp}{S:aq}{a:Act}{w w':World}(h:St E D β S a w){l:Nat}{b b':bm}{L:Loc}(j:S.H l=O b)(f:β l=O L)(p:L.nil=ah)
  (I:w'.os=w.os) (J:w'.tape=w.tape) (K:w'.output=w.output) (c:w'.heap.size=w.heap.size) (o:∀g,g≠L.g->w'.heap[g]? =w.heap[g]?)
  (W:jx D w β D w' β->gk D w' β L b'):
  St E D β {S with H:=cc S.H [(l,O b')],U:=cc S.U ([]:List (Nat×Bool))} a w':=by
 let⟨T,d2,V⟩:=h.eJ l b L j f p;have G:jx D w β D w' β:=⟨λ_ h=>h,λg F=>o g λe=>d2<|e▸F,λ_ _ h=>h⟩;refine h.change G rfl rfl ?_ ?_ ?_ (λg v=>by rw[c];exact h.eZ g v) (λg v=>.inl v) h.ib I J K (by rw[c];exact gL _) ?_ (λ_ h=>h) (λ_ _ h=>.inl h)
 .intro x y z
  simp[cc]at z;by_cases e:x=l
  .subst e
   rw[gK]at z;grind
  .rw[gy _ _ e]at z
   let⟨X,r,u⟩:=h.hp x y z;refine⟨X,r,u.mono G y λn=>o _ λi=>e<|h.inj x l y b X L z j r f n p i⟩
 .intro x y X z C n
  simp[cc]at z;by_cases e:x=l
  .grind
  .rw[gy _ _ e]at z
   let⟨r,u,B⟩:=h.eJ x y X z C n;exact⟨by rw[c];exact r,u,B⟩
 .intro l1 l2 y d q s r u M N Q R i
  simp[cc]at r u;have k:∀x y,jD S.H l (O b') x=O y->∃d,S.H x=O d:=by
   intro x y m;by_cases e:x=l
   .subst e;exact⟨b,j⟩
   .rw[gy _ _ e]at m;exact⟨y,m⟩
  let⟨Y,t⟩:=k _ _ r;let⟨Z,A⟩:=k _ _ u;exact h.inj l1 l2 Y Z q s t A M N Q R i
 .grind
def aaj:∀cs xs j c,cs[j]? =O c->(yO cs xs)[j]? =O (J5 c<|xs.getD j 0)
 | [],_,_,_,h=>by simp at h
 |d::cs,xs,0,c,h=>by
  simp[CI,Option.some.injEq]at h;subst h;simp[yO,CI];cases xs<;>simp
 |d::cs,xs,j+1,c,h=>by simp[A4]at h;simp only[yO,A4,aaj cs xs.tail j c h];cases xs<;>simp
def ali:∀cs xs j c,cs[j]? =O c->(vo cs xs)[j]? =O (ud c<|xs.getD j 0)
 | [],_,_,_,h=>by simp at h
 |d::cs,xs,0,c,h=>by
  simp[CI,Option.some.injEq]at h;subst h;simp[vo,CI];cases xs<;>simp
 |d::cs,xs,j+1,c,h=>by simp[A4]at h;simp only[vo,A4,ali cs xs.tail j c h];cases xs<;>simp
def aBc{xs h:N}{j:Nat}(h1:j<xs.length)(x:j<h.length):(xs.drop j==h.drop j)=((xs.getD j 0==h.getD j 0)&&(xs.drop (j+1)==h.drop (j+1))):=by rw[zJ h1,zJ x,jR,jR,kB h1,kB x,Bool.eq_iff_iff];simp only[wx,bC,List.cons.injEq,CG]
def ao7{f:Field}{fs:List Field}{j:Nat}{c:CK}{cs:List CK}(h:Fm P (f::fs) j (c::cs)=ab):
  ∃k,c=.i k/\f.offset=j/\fK P f.type=ab/\f.name≠ "_"/\f_ P f.type=.int k/\Fm P fs (j+1) cs=ab:=by
 cases c with
 |b=>cases h
 |i k=>
  simp[Fm,bC,pR,wo]at h;let⟨⟨⟨⟨y,z⟩,r⟩,x⟩,u⟩:=h;split at x
  .rename_i w e
   have:=vK x;simp_all
  .cases x
def aFp(k:IntKind):lS k k=ab:=by cases k<;>rfl
def al9{cs0:List CK}{xs y:N}(b:xs.length=cs0.length)(d:y.length=cs0.length):∀fs j cs,cs=cs0.drop j->Fm P fs j cs=ab->
  Hu P (yO cs0 xs) (yO cs0 y) fs=O (xs.drop j==y.drop j)
 | [],j,[],x,_=>by
   have z:=dR cY x;simp[D_,nW]at z;rw[CH Y,CH Y];rfl
 | [],j,c::cs,x,h=>by cases h
 |f::fs,j,[],x,h=>by cases h
 |f::fs,j,c::cs,x,h=>by
  obtain⟨k,rfl,r,u,m,w,n⟩:=ao7 h;have z:=dR cY x;simp[Jb,nW]at z;have e:cs0[j]? =O (.i k):=by
   have:=dR (λl=>l[0]?) x;grind
  have a:cs=cs0.drop (j+1):=by
   have:=dR List.tail x;simp[List.tail_cons,List.tail_drop]at this;exact this
  have g:=al9 b d fs (j+1) cs a n;have v:(f.name== "_")=ah:=c9;subst r;simp only[Hu,u,v,Bool.not_false,Bool.and_self,bo,aaj cs0 xs _ _ e,aaj cs0 y _ _ e,J5,w,SP,aFp,g];rw[aBc (j:=f.offset) Y Y]
def ak9{w:World}{cs0:List CK}{xs:N}{em:Bool}(n:Nat):∀fs j cs,cs=cs0.drop j->Fm P fs j cs=ab->
  Sem.run P (forIn fs YT λf _=>if f.name≠ "_" then do
      let x<-part f.type (vo cs0 xs).toArray f.offset
      GS em (n+1) f.type x
      pure<|Ru YT
   else pure<|Ru YT) w=.ok YT w
 | [],_,_,_,_=>by simp
 |f::fs,j,[],y,h=>by cases h
 |f::fs,j,c::cs,y,h=>by
  obtain⟨k,rfl,b,e,d,z,r⟩:=ao7 h;have v:cs0[j]? =O (.i k):=by
   have:=dR (λl=>l[0]?) y;grind
  have a:cs=cs0.drop (j+1):=by
   have:=dR List.tail y;simp[List.tail_cons,List.tail_drop]at this;exact this
  have m:=ak9 n fs (j+1) cs a r (w:=w) (xs:=xs) (em:=em);have u:lj P f.type=ah:=by unfold lj;rw[z]
  have o:=PD (w:=w) e u<|ali cs0 xs j _ v;have g:(GS em (n+1) f.type<|ud (.i k)<|xs.getD j 0).run P w=.ok () w:=by
   unfold GS;simp[gz<|under z aj,ud]
  simp_all
def ak_{w:World}{y:TypeId}{x:VK}(h:zf P y x=ab)(em:Bool){xs:N}(u:xs.length=tX x):(GS em 10000 y<|hY x xs).run P w=.ok () w:=by
 cases x with
 |one c=>
  cases c with
  |b=>cases h
  |i k=>
   simp[zf]at h;split at h
   .rename_i d e
    rw[show 10000=9999+1 from rfl];unfold GS;simp[gz<|under e aj,hY,ud]
   .cases h
 |st j=>
  simp[zf]at h;split at h
  .rename_i a e
   simp[bC]at h;unfold GS;have z:=under e aj;have r:=ak9 (w:=w) (xs:=xs) (em:=em) 9998 a.toList 0 j rfl h.2;simp[hY,fX,gz z,gM];simp_all
  .cases h
def au7(n:Nat):∀cs xs,((vo cs xs).zip<|vo cs xs).all (λp=>Rv (n+1) p.1 p.2)=ab
 | [],_=>by simp[vo]
 |c::cs,xs=>by simp[vo,List.zip_cons_cons,uR,au7 n cs xs.tail,MM];cases c<;>simp[ud,Rv]
def aRg{w:World}(h:VK)(xs:N):(ai2 (hY h xs)<|hY h xs).run P w=.ok (hY h xs) w:=by
 have:Rv 10000 (hY h xs) (hY h xs)=ab:=by
  cases h with
  |one c=>cases c<;>simp[hY,ud,Rv]
  |st e=>
   have:=au7 9998 e xs;simpa [hY,Rv]using this
 simp[ai2,this]
def aj'{w:World}{z:TypeId}{cs0:List CK}{fs:Array Field}(e:f_ P z=.struct fs)(h1:(!P.stoodInHeld z&& !P.eqGuardType P.depth z)=ab)(m:Fm P fs.toList 0 cs0=ab){x:N}(t:x.length=cs0.length)(g:VK):
  ∀us y i,us.map (λe=>(e.key,e.val))=y.map (λp=>(hY (.st cs0) p.1,hY g p.2))->(∀p∈y,p.1.length=cs0.length)->
  (eh y x=ae/\(Eg z (hY (.st cs0) x) us i).run P w=.ok ae w/\∀v key,eh (y++ [(x,v)]) key=if x=key then O v else eh y key)\/
  (∃j n e,eh y x=O n/\(Eg z (hY (.st cs0) x) us i).run P w=.ok (O (i+j,hY g n)) w/\us[j]? =O e/\e.key=hY (.st cs0) x/\j<y.length/\∀v key,eh (y.set j (x,v)) key=if x=key then O v else eh y key)
 | [],[],i,_,_=>by
   left;refine⟨rfl,by simp[Eg],λv key=>?_⟩;rw[rB,pC]
 | [],p::y,i,h,_=>by simp at h
 |e::us,[],i,h,_=>by simp at h
 |Q::us,(k,pv)::y,i,h,o=>by
  simp[kd,List.cons.injEq,Prod.mk.injEq]at h;let⟨⟨l,M⟩,k3⟩:=h;have F:=o (k,pv) aj;have H:=aj' e h1 m t g us y (i+1) k3 (λq G=>o q<|by simp[G]) (w:=w);have C:J_ P z (yO cs0 x) (yO cs0 k)=O (x==k):=by
   have:=al9 t F fs.toList 0 cs0 rfl m;unfold J_;rw[e];simp[h1,bo,this,I_]
  have E:=(aaN (D:=λ_=>False) (w:=w) (β:=λ_=>ae) C (Sr cs0 x)<|Sr cs0 k).1;have u:(zU z (hY (.st cs0) x) Q.key).run P w=.ok (x==k) w:=by rw[l];exact E
  by_cases b:x=k
  .subst b
   right;refine⟨0,pv,Q,by simp[pC],?_,rfl,l,aj,λv key=>?_⟩
   .simp[Eg,u,M]
   .simp only[Rg,pC]
    by_cases r:x=key<;>simp[r]
  .have a:¬(k=x):=λh=>b h.symm
   have B:(x==k)=ah:=by simpa using b
   have s:(Eg z (hY (.st cs0) x) (Q::us) i).run P w=(Eg z (hY (.st cs0) x) us<|i+1).run P w:=by
    simp[Eg,u,B]
   rcases H with⟨c,d,f⟩|⟨j,n,A,c,d,f,J,K,L⟩
   .left
    refine⟨by rw[pC,V a];exact c,by rw[s];exact d,λv key=>?_⟩;rw[yw,pC,pC,f];grind
   .right
    refine⟨j+1,n,A,by rw[pC,V a];exact c,by rw[s,d];congr 3;lia,by simpa using f,J,by simpa using K,λv key=>?_⟩;rw[axM,pC,pC,L];by_cases r:x=key
    .subst r
     rw[V a,I rfl,I rfl]
    .rw[V r,V r]
def amH{w:World}{d:TypeId}{v:VK}(h:zf P d v=ab)(f:VK){x:N}(C:x.length=tX v){us:List MapEntry}{a:List (N×N)}
  (B:us.map (λe=>(e.key,e.val))=a.map (λp=>(hY v p.1,hY f p.2))) (A:∀p∈a,p.1.length=tX v):Y' P w d v f x us a:=by
 cases v with
 |one c=>
  cases c with
  |b=>cases h
  |i k=>
   simp[zf]at h;split at h
   .rename_i k' e
    match x,C with
    | [y],_=>
    have m:=amG (k':=k') (x:=y) f us a 0 B A;have n:=under e aj;rcases m with⟨z,r,u⟩|⟨j,t,g,z,r,u,o,q,s⟩
    .exact .inl ⟨z,by simp[Jv,gz n,hY,ud,r],u⟩
    .exact .inr ⟨j,t,g,z,by simp[Jv,gz n,hY,ud,r],u,o,q,s⟩
   .cases h
 |st D=>
  simp[zf]at h;split at h
  .rename_i E e
   rw[bC]at h;have n:=under e aj;have m:=aj' (w:=w) e h.1 h.2 C f us a 0 B A;have l:(Jv d (hY (.st D) x) us).run P w=(Eg d (hY (.st D) x) us 0).run P w:=by
    cases us with
    |nil=>simp[Jv,gz n,GR,Eg]
    |cons e us=>simp[Jv,gz n,GR,ai1]
   rcases m with⟨z,r,u⟩|⟨j,t,g,z,r,u,o,q,s⟩
   .exact .inl ⟨z,by rw[l];exact r,u⟩
   .exact .inr ⟨j,t,g,z,by rw[l,r,rA],u,o,q,s⟩
  .cases h
def aGv{E:Env}{D:aW}{β:bp}{S:aq}{a:Act}{w:World}{n:Nat}{t:TypeId}{r:c_}(h:St E D β S a w)(x:ado P t n=r)(u:∀c∈r.vc,c.p)(j:∀k∈r.news,S.U k=ah):
  ∃β':Nat->Option Loc,F D (w.alloc<|.map #[] 0) β' r.val (.map<|O w.heap.size)/\St E D β' {S with H:=cc S.H r.fT,U:=cc S.U<|r.news.map λk=>(k,ab)} a (w.alloc<|.map #[] 0)/\∃y z,P.underlying t=O (.map y z):=by
 unfold ado at x;split at x
 .rename_i y z e
  have b:=under e aj;split at x
  .rename_i i d f g
   cases v:fK P y&&fK P z&&zf P y i
   .rw[v]at x;exact bad x u
   .rw[v]at x
    simp[bo]at x;subst x;refine⟨jD β n<|O ⟨w.heap.size,0,0,0,ah⟩,?_,?_,y,z,b⟩
    .simp only[F]
     exact⟨_,gK _ _ _,C⟩
    .refine h.born (j n aj) (World.grownBy_alloc w _ _) (λ_=>rfl) (λ_=>by simp) λG=>?_
     exact⟨rfl,#[],0,[],D4 w _,rfl,(λp m=>by cases m),λk=>rfl⟩
  .exact bad x u
 .exact bad x u
def aJU(t:TypeId)(y:Option Operand):mc P Γ ⟨dst,.makeMap t y,type,pos,after,guard⟩:=by
 intro E D β S a w n r e z i j h K Q v;cases y with
 |none=>
  let⟨c,k,u,_⟩:=aGv h e z j;apply vA ?_ u k i v;rfl
 |some x=>exact bad e z
def aJR(t:TypeId)(x k:Operand)(ok:Bool):mc P Γ ⟨dst,.lookup t x k ok,type,pos,after,guard⟩:=by
 intro E D β S a w n r u o hd hn h K Q hK;have ex:=h.ev x;have ek:=h.ev k;simp[step]at u;unfold Pm at u;split at u
 .rename_i M vt l e e1
  rw[e1]at ex;simp[F]at ex;let⟨L,hL,du,X⟩:=ex;have W:=under e aj;split at u
  .rename_i J v b z hb q
   split at u
   .rename_i y Kt
    cases d:zf P M J&&Yh v z&&fK P vt
    .rw[d]at u;exact bad u o
    .rw[d]at u
     simp[bo]at u;subst u;simp[bC]at d;let⟨U,T⟩:=aih Kt ek;have hB:=h.od hb hL;let⟨_,us,c,ps,OE,Ov,f,R⟩:=hB;have jf:Y' P w M J v y us.toList ps:=amH d.1.1 v T Ov λp hp=>(f p hp).1;have V:(getObj L.g).run P w=.ok (.map us c) w:=by simp[getObj,Sem.run,OE]
     have N:∀e,(GS e 10000 M<|hY J y).run P w=.ok () w:=λe=>ak_ d.1.1 e T;have C:(zeroValue vt).run P w=.ok z w:=by
      unfold r7 at q;split at q
      .rename_i i hi;simp[zeroValue,typeInfo,hi,q]
      .cases q
     have G:=aSt d.1.2;have I:(execOp a.eval ⟨dst,.lookup t x k ok,type,pos,after,guard⟩).run P w=.ok (.value<|if ok then .tuple #[hY v (sw (tX v) b y),.bool<|AA b y]else hY v<|sw (tX v) b y) w:=by
      rcases jf with⟨H,s,_⟩|⟨j,Y,e',H,s,_⟩
      .have m:eh b y=ae:=by rw[<-R];exact H
       have B:sw (tX v) b y=au (tX v) 0:=by simp[sw,m]
       have A:AA b y=ah:=by rw[ads,m];rfl
       rw[B,A,<-G];cases ok<;>simp[execOp,Instr.lookup,X,U,gz W,V,N,s,C]
      .have m:eh b y=O Y:=by rw[<-R];exact H
       have B:sw (tX v) b y=Y:=by simp[sw,m]
       have A:AA b y=ab:=by rw[ads,m];rfl
       rw[B,A];cases ok<;>simp[execOp,Instr.lookup,X,U,gz W,V,N,s]
     apply ju h I ?_ rfl rfl hd hK;cases ok
     .simp only[iw,rz,xi]
      exact awX v _
     .simp only[bo,if_true,F,Z]
      exact⟨_,rfl,_,_,rfl,awX v _,_,_,rfl,rfl,rfl⟩
   .exact bad u o
  .exact bad u o
 .exact bad u o
def aJW(t:TypeId)(m k v:Operand):mc P Γ ⟨dst,.mapUpdate t m k v,type,pos,after,guard⟩:=by
 intro E D β S a w n r y s hd hn h K Q hK;have em:=h.ev m;have ek:=h.ev k;have ev:=h.ev v;simp[step]at y;unfold Pp at y;split at y
 .rename_i U vt l e e1
  rw[e1]at em;simp[F]at em;let⟨L,Y,du,hx⟩:=em;have hu:=under e aj;split at y
  .rename_i z b X Z
   split at y
   .rename_i key val Kt rf
    cases B:zf P U z
    .rw[B]at y;exact bad y s
    .rw[B]at y
     simp[bo]at y;subst y;let⟨OL,A⟩:=aih Kt ek;let⟨KH,Dn⟩:=aih rf ev;have hB:=h.od Z Y;let⟨_,us,x,W,M,H,u,yZ⟩:=hB;have jf:Y' P w U z b key us.toList W:=amH B b A H λp hp=>(u p hp).1;have OS:(getObj L.g).run P w=.ok (.map us x) w:=by simp[getObj,Sem.run,M]
     have ai:=(Array.getElem?_eq_some_iff.1 M).1;have wS:∀o,(setObj L.g o).run P w=.ok () {w with heap:=w.heap.setIfInBounds L.g o}:=by
      intro o;simp[setObj,Sem.run,M]
     have Oq:(GS ah 10000 U<|hY z key).run P w=.ok () w:=ak_ B ah A
     have E_:∀d f c,(execOp a.eval ⟨dst,.mapUpdate t m k v,type,pos,after,guard⟩).run P w=.ok .skip {w with heap:=w.heap.setIfInBounds L.g<|.map d f}->
       d.toList.map (λe=>(e.key,e.val))=c.map (λp=>(hY z p.1,hY b p.2))->(∀p∈c,p.1.length=tX z/\p.2.length=tX b)->(∀q,eh c q=eh ((key,val)::X) q)->
       (Oper.mk dst (.mapUpdate t m k v) type pos after guard).wp P a w K Q:=by
      intro d f c gF k1 k2 k3;apply avk gF (h.aQJ (w':={w with heap:=w.heap.setIfInBounds L.g<|.map d f}) (b':=.mp z b<|(key,val)::X) Z Y du rfl rfl rfl aj (λg hg=>by
       show(w.heap.setIfInBounds L.g _)[g]? =_;rw[axD<|GG hg]) (λG=>⟨du,d,f,c,?_,k1,k2,k3⟩)) rfl hd hK
      show(w.heap.setIfInBounds L.g _)[L.g]? =_;rw[aiz ai]
     rcases jf with⟨j1,J,C⟩|⟨j,v0,e',j1,J,C,j4,j5,j6⟩
     .refine E_ (us.push {key:=hY z key,val:=hY b val,born:=x}) (x+1) (W++ [(key,val)]) ?_ ?_ ?_ ?_
      .simp[execOp,Instr.mapUpdate,hx,OL,KH,gz hu,OS,Oq,J,wS]
      .simp only[Array.toList_push,yA,H,kd,uU]
      .intro p hp
       simp[jv,rD]at hp;rcases hp with hp|rfl
       .exact u p hp
       .exact⟨A,Dn⟩
      .intro q
       rw[C,pC,yZ]
     .have mm:us[j]? =O e':=by simpa using C
      have T:(ai2 (hY z key)<|hY z key).run P w=.ok (hY z key) w:=aRg z key;apply E_ (us.modify j λe=>{e with key:=hY z key,val:=hY b val}) x (W.set j (key,val)) ?_ ?_ ?_ ?_
      .simp[execOp,Instr.mapUpdate,hx,OL,KH,gz hu,OS,Oq,J,wS,mm,j4,T]
      .have p':j<us.toList.length:=by
        have:=(List.getElem?_eq_some_iff.1 C).1;exact this
       apply D8;intro i;have hi:=dR (λl=>l[i]?) H;simp only[pS]at hi;rw[pS,xl,aiI,pS,Rh];by_cases R:j=i
       .subst R
        rw[I rfl,I rfl,I j5,mm];rfl
       .rw[V R,V R,<-xl]
        exact hi
      .intro p hp
       rcases List.mem_or_eq_of_mem_set hp with hp|rfl
       .exact u p hp
       .exact⟨A,Dn⟩
      .intro q
       rw[j6,pC,yZ]
   .exact bad y s
  .exact bad y s
 .exact bad y s
end
section
variable{P:Program}{Γ:ll}
variable{dst:Option Tmp}{type:TypeId}{pos:String}{after:Array Edge}{guard:Option (Nat×Bool)}
def aJJ(J:∀f c,Γ f=O c->Sound P f c)(g:Operand)(args:Array Operand)(m:Array TypeId):mc P Γ ⟨dst,.call {callee:=.value g,args:=args,argTypes:=m},type,pos,after,guard⟩:=by
 intro E D β S a w n r x u l C h K Q q;have z:=h.ev g;simp only[step]at x;split at x
 .rename_i f first captured e
  rw[e]at z;simp[F]at z;let⟨L,b,B,o,p⟩:=z;have s:=Z.append _ (Z.append _ o<|Mh h args.toList) p;cases j:Γ f with
  |none=>
   unfold ED at x;rw[j]at x;exact bad x u
  |some c=>
   have d:=J f c j;have i:=az4 d h s j x u C;have H:(execOp a.eval ⟨dst,.call {callee:=.value g,args:=args,argTypes:=m},type,pos,after,guard⟩).run P w=.ok (.enter f (L++args.toList.map a.eval++b).toArray) w:=by
    have y:=d.1;unfold uc at y;split at y
    .rename_i fn A
     simp only[bC,pR]at y;have t:fn.body.isNone=ah:=by simp_all
     have k:L.toArray++args.map a.eval++b.toArray=(L++args.toList.map a.eval++b).toArray:=aj;simp only[execOp,resolve,B,Deferred.ofValue,fX,iV,gM,invoke,callFunc,run_program,A,y.1,t,rz,xi,k]
    .cases y
   unfold yF;rw[H];rw[Oper.upon_enter];apply i.mono λe R=>?_;rintro⟨v,N,M,rfl,G,I⟩;apply q N M _ _ ?_;rw[aq.JN];exact I.put l G
 .exact bad x u
def step_ok(C:∀f c,Γ f=O c->Sound P f c)(o:Oper):mc P Γ o:=by
 let⟨dst,p,type,pos,after,guard⟩:=o;cases p with
 |move x=>exact aJX x
 |assign x=>exact aJE x
 |pick c x y=>exact aJ0 c x y
 |alloc t=>exact aJC t
 |box t x=>exact aJG t x
 |build t A=>exact aJH t A
 |buildSlice t n A=>exact aJI t n A
 |load t x=>exact aJQ t x
 |store t x y=>exact aJ1 t x y
 |nilCheck x=>exact aJY x
 |binOp p t x y I=>exact aJF p t I x y
 |unOp p t x=>exact aJ3 p t x
 |convert s d x=>exact aJK s d x
 |makeInterface t x=>exact aJT t x
 |makeFunc f a b=>exact aJS f a b
 |makeSlice t l c=>exact aJV t l c
 |makeMap t r=>exact aJU t r
 |lookup t x k ok=>exact aJR t x k ok
 |mapUpdate t m k v=>exact aJW t m k v
 |slice t x l h m=>exact ok_slice t x l h m
 |fieldAddr s x f=>exact aJM s x f
 |indexAddr t x i=>exact aJO t x i
 |index t x i=>exact aJN t x i
 |extract x i=>exact aJL x i
 |typeAssert x t F ok=>exact aJ2 x t F ok
 |call c=>
  let⟨j,⟨H⟩,⟨q⟩⟩:=c;cases j with
  |value g=>exact aJJ C g ⟨H⟩ ⟨q⟩
  |invoke r m=>intro E D β S a w n r u e;exact bad u e
  |builtin b=>
   cases b with
   |len=>
    rcases H with _|⟨x,_|⟨y,l⟩⟩
    .intro E D β S a w n r u e;exact bad u e
    .rcases q with _|⟨t,_|⟨B,l⟩⟩
     .intro E D β S a w n r u e;exact bad u e
     .exact aJP x t
     .intro E D β S a w n r u e;exact bad u e
    .intro E D β S a w n r u e;exact bad u e
   |append=>
    rcases H with _|⟨x,_|⟨y,_|⟨z,l⟩⟩⟩
    .intro E D β S a w n r u e;exact bad u e
    .intro E D β S a w n r u e;exact bad u e
    .rcases q with _|⟨t,_|⟨B,_|⟨G,l⟩⟩⟩
     .intro E D β S a w n r u e;exact bad u e
     .intro E D β S a w n r u e;exact bad u e
     .exact aJD x y t B
     .intro E D β S a w n r u e;exact bad u e
    .intro E D β S a w n r u e;exact bad u e
   |min=>exact aqr ah ⟨H⟩ ⟨q⟩
   |max=>exact aqr ab ⟨H⟩ ⟨q⟩
   |_=>intro E D β S a w n r u e;exact bad u e
 |_=>intro E D β S a w n r u e;exact bad u e
def force_eq{α:Type}(x:SV)(K:SV->α):force x K=K x:=by
 cases x with
 |v u=>cases u<;>rfl
 |_=>rfl
def amQ{α:Type}:∀(l:bL) (K:List SV->α),N9 l K=K l
 | [],K=>rfl
 |x::l,K=>by simp[N9,force_eq,amQ l]
def aa5{α:Type}:∀l (K:List (Nat×Option bm)->α),EQ l K=K l
 | [],K=>rfl
 |(l,ae)::r,K=>by simp[EQ,aa5 r]
 |(l,O b)::r,K=>by cases b<;>simp[EQ,amQ,aa5 r]
def Sx:∀{l:List lq} {p:Prop},conds l p->(∀c∈l,c.p)/\p
 | [],p,h=>⟨aj,h⟩
 |c::l,p,h=>by
  let⟨z,e⟩:=Sx h.2;exact⟨λx y=>by
   simp[nZ]at y;rcases y with rfl|y
   .exact h.1
   .exact z x y,e⟩
def aQL{v:SV}{K:SV->Prop}(h:ahf t v K):K (settle t v):=by
 unfold ahf at h;unfold settle;cases t
 .exact h
 .simp only[bo]at h|-
  split at h
  .rename_i b
   cases b
   .grind
   .grind
  .exact h
def aQM{D:aW}{w:World}{β:bp}{g:Bool}{v:SV}{u:Value}(h:F D w β v u):F D w β (settle g v) u:=by
 unfold settle;cases g
 .exact h
 .simp only[bo]
  split
  .simp only[F]at h|-;exact h
  .exact h
def St.settle{E:Env}{D:aW}{β:bp}{S:aq}{a:Act}{w:World}{d:Option Nat}{c i:List lq}{v r:SV}{n y:cf}{k:List (Nat×Option bm)}{z:cf}(j:∀D w β u,F D w β v u->F D w β r u)
  (h:St E D β (S.wF d ⟨c,v,n,k,z⟩) a w):St E D β (S.wF d ⟨i,r,y,k,z⟩) a w:=by
 rw[aq.JN]at h|-;cases d with
 |none=>exact h
 |some d=>
  exact{h with
   tm:=λt=>by
    have x:=h.tm t;by_cases e:t=d
    .subst e
     simp[aq.put,gK]at x|-;exact j _ _ _ _ x
    .simp only[aq.put,gy _ _ e]at x|-
     exact x}
structure iJ where
 val:SV
 fT:List (Nat×Option bm)
 news:List Nat
def iJ.on(e:iJ)(d:Option Nat)(S:aq):aq:=S.wF d ⟨[],e.val,[],e.fT,e.news⟩
def Ex(P:Program)(Γ:ll)(h:Array Oper)(base:Nat->Nat)(i:Nat)(o:Oper)(S:aq)(e:iJ)(f:FP):Prop:=
 (o.dst.all λd=>cK d S.n)=ab/\
 match gd h o S with
 |.yes=>(∀k∈(step P Γ o S.ev S.H<|base i).news,S.U k=ah)/\(∀c∈(step P Γ o S.ev S.H<|base i).vc,c.p)/\
    e.fT=(step P Γ o S.ev S.H<|base i).fT/\e.news=(step P Γ o S.ev S.H<|base i).news/\(∀D w β u,F D w β (step P Γ o S.ev S.H<|base i).val u->F D w β e.val u)/\
    f=FP.of h o (kx o S.ev S.H) (step P Γ o S.ev S.H<|base i).fT
 |.no=>e=⟨.v undef,[],[]⟩/\f=FP.skip h o
 |.bad=>False
def abf{k:s4->Prop}:∀t,Tg k t->k t.get
 |.leaf r,h=>h
 |.ite c a b,h=>by
  simp[CT.get];by_cases x:c.p
  .have y:=@jS c.p c.d x
   rw[y];exact abf a<|h.1 x
  .have y:=@iW c.p c.d x
   rw[y];exact abf b<|h.2 x
def aSf{o:Oper}{ρ:Operand->SV}{H:h_}{n:Nat}{t:CT}{k:s4->c_}(h:X0 Γ o ρ H n=O (t,k)):step P Γ o ρ H n=k t.get:=by
 unfold X0 at h;split at h
 .rename_i c v
  split at h
  .rename_i f r
   split at h
   .rename_i g first captured u
    split at h
    .rename_i w x
     split at h;rename_i j i e;simp only[Option.some.injEq,Prod.mk.injEq]at h;let⟨y,z⟩:=h;unfold step;rw[v];simp only;rw[r];simp only;rw[u];simp only;unfold ED;rw[x];simp only;rw[e];rw[<-y,<-z];rfl
    .cases h
   .cases h
  .cases h
 .cases h
def amt{h:Array Oper}{base:Nat->Nat}{i:Nat}{o:Oper}{S:aq}{K:aq->FP->Prop}(p:gd h o S=.yes)(y:S3 P Γ h i o S (base i) K):∃e f,Ex P Γ h base i o S e f/\K (e.on o.dst S) f:=by
 have a:SZ h i o S K (step P Γ o S.ev S.H<|base i):=by
  unfold S3 at y;cases b:X0 Γ o S.ev S.H (base i)with
  |none=>rw[b]at y;exact y
  |some x=>
   let⟨t,k⟩:=x;rw[b]at y;rw[aSf b];exact abf t y
 unfold SZ at a;generalize s:step P Γ o S.ev S.H (base i)=r at a;let⟨vc,val,C,B,z⟩:=r;simp only at a;have y:=a;cases j:(o.dst.all λd=>cK d S.n)&&(z.all λk=> !S.U k)&& !aoR o.op
 .grind
 .rw[j]at y
  have v:=j;simp only[bC]at v;have v:=v.1;let⟨m,c⟩:=Sx y;rw[force_eq]at c;have g:=aQL c;rw[aa5]at g;refine⟨⟨_,B,z⟩,_,⟨v.1,?_⟩,g⟩;rw[p];simp only[s];exact⟨λk q=>by simpa using List.all_eq_true.1 v.2 k q,m,A,A,λD w β u l=>aQM l,A⟩
def aSG(y:Array Oper)(o:Oper)(h:Array Value){j:Nat}{x:Bool}(z:o.guard=O (j,x)):CN o (yielded y h)=(yielded y h j==O x):=by simp[CN,z]
def am8{E:Env}{D:aW}{β:bp}{S:aq}{a:Act}{w:World}(h:St E D β S a w)(y:Array Oper)(o:Oper):
  match gd y o S with
  |.yes=>CN o (yielded y a.tmps)=ab
  |.no=>CN o (yielded y a.tmps)=ah
  |.bad=>True:=by
 unfold gd;cases n:o.guard with
 |none=>simp[CN,n]
 |some g=>
  let⟨j,k⟩:=g;simp;rw[aSG y o _ n];cases u:(y[j]?).bind (·.dst)with
  |none=>simp[yielded,u]
  |some t=>
   have e:=h.tm t;have d:∀b,a.tmps.getD t undef=.bool b->yielded y a.tmps j=O b:=by
    intro b z;have c:t<a.tmps.size:=by
     rcases uQ t a.tmps.size with h|h
     .exact h
     .rw[D6,aix h]at z;cases z
    rw[D6,Jd c]at z;simp[CG]at z;unfold yielded;rw[u];simp[Option.bind_some,Jd c,z]
   have f:∀r,a.tmps.getD t undef=.tuple r->yielded y a.tmps j=ae:=by
    intro r z;unfold yielded;rw[u];simp[Option.bind_some];rw[D6]at z;grind
   simp only;cases i:S.T t with
   |bl b=>
    rw[i]at e;simp only[F]at e;simp;cases b<;>cases k<;>simp[d _ e]
   |v x=>
    rw[i]at e;simp only[F]at e;cases x with
    |tuple r=>simp only;rw[f r e];rfl
    |_=>trivial
   |_=>trivial
def SY(q:∀f c,Γ f=O c->Sound P f c){x:Array Oper}{base:Nat->Nat}{i:Nat}{o:Oper}{E:Env}{D:aW}{β:bp}{S:aq}{a:Act}{w:World}{e:iJ}{f:FP}{K':Act->World->Prop}{Q:Exit->Act->World->Prop}
  (h:St E D β S a w) (y:Ex P Γ x base i o S e f) (k:∀D' β' a' w',St E D' β' (e.on o.dst S) a' w'->K' a' w'):
  if CN o (yielded x a.tmps)then o.wp P a w K' Q else K' (a.put o.dst undef) w:=by
 have u:=am8 h x o;let⟨b,y⟩:=y;split at y
 .rename_i z
  rw[z]at u;rw[I u];let⟨v,j,g,m,n,t⟩:=y;let⟨ev,s,A⟩:=e;subst g m;generalize p:step P Γ o S.ev S.H (base i)=r at v j n k;exact step_ok q o E D β S a w _ r p j b v h K' Q λD' β' a' w' d=>k D' β' a' w'<|d.settle n
 .rename_i z
  rw[z]at u;rw[V c9];obtain⟨rfl,rfl⟩:=y;apply k D β _ _ ?_;unfold iJ.on;rw[aq.JN];exact h.put b<|by simp[F]
 .grind
inductive s5 (P:Program) (Γ:FuncId->Option u9) (ops:Array Oper) (base:Nat->Nat):List (Nat×Oper×FP)->aq->aq->Prop
 |nil (S:aq):s5 P Γ ops base [] S S
 |cons {i:Nat} {o:Oper} {f:FP} {e:iJ} {l:List (Nat×Oper×FP)} {S S':aq} (h:Ex P Γ ops base i o S e f) (hr:s5 P Γ ops base l (e.on o.dst S) S'):s5 P Γ ops base ((i,o,f)::l) S S'
def rows:Nat->List Oper->List FP->List (Nat×Oper×FP)
 |i,o::l,f::h=>(i,o,f)::rows (i+1) l h
 |_,_,_=>[]
def yN{x:Array Oper}{base:Nat->Nat}{K:aq->List FP->Prop}:∀l i S y,zG P Γ x base l i S y K->
  ∃fs z,fs.length=l.length/\s5 P Γ x base (rows i l fs) S z/\K z (y++fs)
 | [],i,S,y,h=>⟨[],S,rfl,.nil S,by rw[zK];exact h⟩
 |o::l,i,S,y,h=>by
  unfold zG at h;split at h
  .rename_i k
   let⟨e,f,a,c⟩:=amt k h;let⟨fs,z,r,u,w⟩:=yN l (i+1) _ _ c;exact⟨f::fs,z,by simp[r],.cons a u,by simpa using w⟩
  .rename_i k
   cases j:o.dst.all λd=>cK d S.n
   .rw[j]at h;exact h.elim
   .rw[j]at h
    let⟨fs,z,r,u,w⟩:=yN l (i+1) _ _ h;have a:Ex P Γ x base i o S ⟨.v undef,[],[]⟩ (FP.skip x o):=⟨j,by rw[k];exact⟨rfl,rfl⟩⟩;have b:(iJ.mk (.v undef) [] []).on o.dst S=S.put o.dst (.v undef):=by
     unfold iJ.on;rw[aq.JN];rfl
    exact⟨FP.skip x o::fs,z,by simp[r],.cons a<|b▸u,by simpa using w⟩
  .grind
def Sj(r:∀f c,Γ f=O c->Sound P f c){x:Array Oper}{base:Nat->Nat}{E:Env}{Q:Exit->Act->World->Prop}{Sn:aq}
  (k:∀D β a w,St E D β Sn a w->Q .normal a w):∀l i fs S (D:aW) (β:bp) a w,fs.length=l.length->
  s5 P Γ x base (rows i l fs) S Sn->St E D β S a w->wpList P x Q l a w
 | [],i,fs,S,D,β,a,w,z,y,h=>by
   cases fs<;>·unfold rows at y;cases y;exact k D β a w h
 |o::l,i,[],S,D,β,a,w,z,y,h=>by simp at z
 |o::l,i,f::fs,S,D,β,a,w,z,y,h=>by
  unfold rows at y;cases y with
  |cons j v=>
   have:=SY (Q:=Q) r h j λg d m p u=>Sj r k l (i+1) fs _ g d m p (by simpa using z) v u;unfold wpList;split at this
   .rename_i e;rw[I e];exact .inl this
   .rename_i e;rw[V e];exact this
end
section
variable{P:Program}{Γ:ll}
def JL:∀{l:List Prop},s7 l->∀c∈l,c
 | [],_,c,h=>by cases h
 | [p],h,c,x=>by simp only[rD]at x;subst x;exact h
 |p::q::l,h,c,x=>by
  simp only[nZ]at x;rcases x with rfl|x
  .exact h.1
  .exact JL h.2 c<|by simpa using x
def aqp{l:List Prop}(h:∀c∈l,c)(x:∀c∈okB t,c∈l):t=ab:=by
 cases t
 .exact(h False<|x False<|by simp[okB]).elim
 .rfl
def tA(h:∀c∈okB t,c):=aqp h λ_ h=>h
def BA{k:Nat}:Bz y k=ab↔k∈y:=xK
def ap7{k:Nat}{l:cf}(h:qD (k::l)=ab):k∉l/\qD l=ab:=by simp[qD,bC,pR]at h;exact⟨λx=>by rw[BA.2 x]at h;simp at h,h.2⟩
def pA{α:Type}:∀{l:List (Nat×α)} {k:Nat} {x:α},cu l k=O x->(k,x)∈l
 |(i,y)::r,k,x,h=>by
  simp[cu]at h;cases z:ap k i
  .rw[z]at h;exact Ri _<|pA h
  .rw[z]at h
   have:=cN z;subst this;cases h;exact YG ..
 | [],k,x,h=>by cases h
def KV{α:Type}:∀{l:List (Nat×α)},qD (l.map (·.1))=ab->∀{k:Nat} {x:α},(k,x)∈l->cu l k=O x
 |(i,y)::r,z,k,x,h=>by
  simp[kd]at z;let⟨u,e⟩:=ap7 z;simp[nZ,Prod.mk.injEq]at h;simp[cu];rcases h with⟨rfl,rfl⟩|h
  .rw[MN];rfl
  .have:ap k i=ah:=by
    cases v:ap k i
    .rfl
    .simp_all
   rw[this];exact KV e h
def SE{a b:aA}(h:Bm a b):a=b:=by
 unfold Bm at h;split at h
 .rename_i k r e y
  cases x:lS k e
  .grind
  .rw[x]at h;rw[vK x,h]
 .simp_all
 .rw[h]
 .grind
def awS{a b:Value}(h:MA a b):a=b:=by
 unfold MA at h;split at h
 .rename_i k r e y
  cases x:lS k e
  .grind
  .rw[x]at h;rw[vK x,h]
 .rw[h]
 .rw[h]
 .exact h
def adv:bm->Option Nat
 |.row _ d=>O d.wd
 |.fr _ _=>O 1
 |_=>ae
def Bb(hp:bN)(l:Nat):Prop:=∃b k,cu hp l=O b/\adv b=O k
def jO(m:pT)(hp:bN)(β:bp):bp:=λl=>
 match cu m l with
 |some (O a)=>β a
 |some ae=>match cu hp l with
  |some b=>(adv b).map λk=>⟨0,k,0,0,ab⟩
  |none=>ae
 |none=>ae
def adR{x:Option (Option Nat)}{a:Nat}(h:Fz x a=ab):x=O (O a):=by
 unfold Fz at h;split at h
 .simp_all
 .cases h
section
variable{m:pT}{hp:bN}{D:aW}{w:World}{β:bp}
def W6{a l:Nat}{L:Loc}(h:Fz (cu m l) a=ab)(x:β a=O L):jO m hp β l=O L:=by unfold jO;rw[adR h];exact x
def ac6(E:∀l,cu m l=O ae->Bb hp l){x y:SV}{u:Value}(h:∀c∈Pe m x y,c)(z:F D w β x u):F D w (jO m hp β) y u:=by
 unfold Pe at h;split at h
 .rename_i l
  have r:=tA h;split at r
  .rename_i e
   let⟨b,k,A,C⟩:=E l e;simp[F]at z|-;refine⟨⟨0,k,0,0,ab⟩,?_,by rw[z];rfl⟩;unfold jO;rw[e];simp[A,C,xm]
  .cases r
 .rename_i d
  have s:d.len=0:=h _ aj;simp[F]at z;simp[F,va];exact⟨ae,0,by rw[z,s],Y,λH=>by lia⟩
 .rename_i a b
  have:a=b:=h _ aj;subst this;simpa [F]using z
 .rename_i a b
  have:=awS<|h (MA a b) aj;subst this;simpa [F]using z
 .rename_i a i j l q I
  simp[jv]at h;have r:=tA λc o=>h c<|.inl o;simp only[bC]at r;have B:=cN r.2;have J:i=q:=by
   cases p:ap i q
   .exact h _<|.inr<|by rw[p];simp
   .exact cN p
  subst J B;simp[F]at z|-;let⟨L,v,n⟩:=z;exact⟨L,W6 r.1 v,n⟩
 .rename_i a l
  have r:=tA h;simp[F]at z|-;let⟨L,v,n⟩:=z;exact⟨L,W6 r v,n⟩
 .rename_i a l
  have r:=tA h;simp[F]at z|-;let⟨L,v,n⟩:=z;exact⟨L,W6 r v,n⟩
 .rename_i a b
  have:=SE<|h (Bm a b) aj;subst this;simpa [F]using z
 .rename_i a b
  have:=SE<|h (Bm a b) aj;subst this;cases a<;>first|exact z|(simp[F]at z)
 .rename_i t a G b
  have f:=aqp h λc o=>List.mem_append.2<|.inl o;have g:=h _<|List.mem_append.2<|.inr<|List.mem_singleton.2 rfl;have g:=awS g;subst g;have f:=cN f;subst f;simpa [F]using z
 .exact(h False aj).elim
def Pj(r:∀l,cu m l=O ae->Bb hp l):∀{xs k:bL} {us:bG},(∀c∈Dw m xs k,c)->Z D w β xs us->Z D w (jO m hp β) k us
 | [],[],us,_,z=>by simpa [Z]using z
 |x::xs,y::k,us,h,z=>by
  simp[Dw,jv]at h;simp[Z]at z|-;let⟨v,n,u,i,j⟩:=z;exact⟨v,n,u,ac6 r (λc e=>h c<|.inl e) i,Pj r (λc e=>h c<|.inr e) j⟩
 | [],_::_,_,h,_=>(h False<|by simp[Dw]).elim
 |_::_,[],_,h,_=>(h False<|by simp[Dw]).elim
def aCm{f g:Fn}(h:aa3 f g=ab):f=g:=by
 unfold aa3 at h;split at h
 .simp_all
 .cases h
def Ph(i:∀l,cu m l=O ae->Bb hp l){x y:SV}{u:Value}(h:∀c∈HX m x y,c)(v:F D w β x u):F D w (jO m hp β) y u:=by
 unfold HX at h;split at h
 .simp only[F]
 .simp only[jv]at h
  have a:=aCm<|tA λc e=>h c<|.inl e;subst a;let⟨d,b,k,r,j⟩:=v;exact⟨d,b,k,r,Pj i (λc e=>h c<|.inr e) j⟩
 .simp only[F]at v|-
  let⟨d,k,r⟩:=v;exact⟨d,k,Pj i h r⟩
 .simp only[jv]at h
  have n:=cN<|tA λc e=>h c<|.inl e;subst n;let⟨z,k,d,r,j⟩:=v;exact⟨z,k,d,r,Pj i (λc e=>h c<|.inr e) j⟩
 .simp only[jv]at h
  have n:=cN<|tA λc e=>h c<|.inl e;subst n;let⟨z,k,r⟩:=v;exact⟨z,k,ac6 i (λc e=>h c<|.inr e) r⟩
 .exact ac6 i h v
def Uf(r:∀l,cu m l=O ae->Bb hp l):∀{xs k:bL} {us:bG},(∀c∈Fo m xs k,c)->Z D w β xs us->Z D w (jO m hp β) k us
 | [],[],us,_,z=>by simpa [Z]using z
 |x::xs,y::k,us,h,z=>by
  simp[Fo,jv]at h;simp[Z]at z|-;let⟨v,n,u,i,j⟩:=z;exact⟨v,n,u,Ph r (λc e=>h c<|.inl e) i,Uf r (λc e=>h c<|.inr e) j⟩
 | [],_::_,_,h,_=>(h False<|by simp[Fo]).elim
 |_::_,[],_,h,_=>(h False<|by simp[Fo]).elim
def aF1(e:∀l,cu m l=O ae->Bb hp l){x y:SV}{u:Value}(h:∀c∈Ub m x y,c)(z:F D w β x u):F D w (jO m hp β) y u:=by
 unfold Ub at h;split at h
 .simp only[F]at z|-
  let⟨i,k,r⟩:=z;exact⟨i,k,Uf e h r⟩
 .exact Ph e h z
def ald{y:CK}(h:Sm s y=ab):s=y:=by
 unfold Sm at h;split at h
 .rw[vK h]
 .rfl
 .cases h
def alh:∀{a b:List CK},Ss a b=ab->a=b
 | [],[],_=>rfl
 |c::e,d::x,h=>by
  simp[Ss,bC]at h;rw[ald h.1,alh h.2]
 | [],_::_,h=>by cases h
 |_::_,[],h=>by cases h
def awY{a b:VK}(h:Yg a b=ab):a=b:=by
 unfold Yg at h;split at h
 .rw[ald h]
 .rw[alh h]
 .cases h
def Ud(G:∀l,cu m l=O ae->Bb hp l){L:Loc}{b b':bm}(h:∀c∈Uc m b b',c)(g:gk D w β L b):gk D w (jO m hp β) L b':=by
 unfold Uc at h;split at h
 .simp only[jv]at h
  have y:=cN<|tA λc z=>h c<|.inl z;subst y;let⟨j,Y,d,i,f⟩:=g;exact⟨j,Y,d,Uf G (λc z=>h c<|.inr z) i,f⟩
 .rename_i S B T d2
  simp[jv]at h;have y:=cN<|tA λc z=>h c<|.inl z;have r:=SE<|h (Bm B d2)<|.inr aj;subst y r;exact g
 .rename_i S B T d2
  simp[jv]at h;have y:=cN<|tA λc z=>h c<|.inl z;have r:=SE<|h (Bm B d2)<|.inr aj;subst y r;exact g
 .rename_i t w n a I w' U b
  simp[jv]at h;have y:=tA λc z=>h c<|.inl z;simp only[bC]at y;have p:=cN y.1.1;have C:=cN y.1.2;have J:=cN y.2;subst p C J;let⟨j,d,xs,i,f,E⟩:=g;exact⟨j,d,xs,i,Uf G (λc z=>h c<|.inr z) f,E⟩
 .rename_i t a I b
  simp[jv]at h;have y:=cN<|tA λc z=>h c<|.inl z;have r:a=b:=h _<|.inr aj;subst y r;exact g
 .rename_i t a s I b H
  simp[jv]at h;have y:=tA λc z=>h c<|.inl z;simp only[bC]at y;have p:=cN y.1;have r:s=H:=h _<|.inr aj;subst p r;let⟨j,x,u,d,i,f⟩:=g;simp[F]at f;let⟨L',K,Q⟩:=f;exact⟨j,x,u,d,i,by simp[F];exact⟨L',W6 y.2 K,Q⟩⟩
 .rename_i t s I b H
  simp[jv]at h;have y:=tA λc z=>h c<|.inl z;simp only[bC]at y;have p:=cN y.1;have r:s=H:=h _<|.inr aj;subst p r;let⟨j,Y,d,i,_⟩:=g;simp[Z,F]at i;obtain⟨W,_,rfl,rfl,x1,_,rfl,rfl,X,_,rfl,rfl,rfl⟩:=i;have A:=y.2;split at A
  .rename_i e
   let⟨b',k,r,M⟩:=G b e;exact⟨j,_,_,d,.inl rfl,by
    simp[F];refine⟨⟨0,k,0,0,ab⟩,?_,rfl⟩;unfold jO;rw[e];simp[r,M,xm]⟩
  .cases A
 .rename_i k v a k' V b
  simp[jv]at h;have y:=tA λc z=>h c<|.inl z;simp[bC]at y;have N:∀q,eh a q=eh b q:=h _<|.inr aj;have p:=awY y.1;have C:=awY y.2;subst p C;let⟨j,Y,o,R,d,i,f,E⟩:=g;exact⟨j,Y,o,R,d,i,f,λq=>(E q).trans<|N q⟩
 .exact(h False aj).elim
end
def ac7{m:pT}{S:aq}:∀{e:lW},(∀c∈KM m S e,c)->∀{t x},(t,x)∈e->∀c∈HX m (S.T t) x,c
 |(k,y)::r,h,t,x,hm,c,z=>by
  simp[KM,jv]at h;simp[nZ,Prod.mk.injEq]at hm;rcases hm with⟨rfl,rfl⟩|hm
  .exact h c<|.inl z
  .exact ac7 (λc z=>h c<|.inr z) hm c z
 | [],_,_,_,hm,_,_=>by cases hm
def Dv{m:pT}{S:aq}:∀{hp:bN},(∀c∈BR m S hp,c)->∀{l b},(l,b)∈hp->
  (∃a b',cu m l=O (O a)/\S.H a=O b'/\∀c∈Uc m b' b,c)\/(cu m l=O ae/\∃k,adv b=O k/\∀D w β,gk D w β ⟨0,k,0,0,ab⟩ b)
 |(n,b')::r,h,l,b,hm=>by
  simp[BR,jv]at h;simp[nZ,Prod.mk.injEq]at hm;rcases hm with⟨rfl,rfl⟩|hm
  .have y:=λc u=>h c<|.inl u
   split at y
   .rename_i a e
    split at y
    .rename_i i j;exact .inl ⟨a,i,e,j,y⟩
    .exact(y False aj).elim
   .rename_i e
    split at y
    .rename_i t d
     have z:d.len=0:=y _ aj;exact .inr ⟨e,d.wd,rfl,λD w β=>⟨rfl,z.symm,.inl ⟨rfl,z⟩⟩⟩
    .rename_i t f
     have z:f.length=0:=y _ aj;have v:=r9 z;subst v;exact .inr ⟨e,1,rfl,λD w β=>⟨λx v=>(by cases v),rfl,rfl,rfl,.inl ⟨rfl,rfl⟩⟩⟩
    .exact(y False aj).elim
   .exact(y False aj).elim
  .exact Dv (λc u=>h c<|.inr u) hm
 | [],_,_,_,hm=>by cases hm
def UG{f:Nat×bm->Option Nat}:∀{hp:bN},qD (hp.filterMap f)=ab->∀{x y:Nat×bm} {a:Nat},x∈hp->y∈hp->f x=O a->f y=O a->x=y
 |z::r,k,x,y,a,h,e,fx,u=>by
  simp[nZ]at h e;cases v:f z with
  |none=>
   rw[List.filterMap_cons_none v]at k;have w:∀{x},f x=O a->(x=z\/x∈r)->x∈r:=by
    grind
   exact UG k (w fx h) (w u e) fx u
  |some b=>
   rw[List.filterMap_cons_some v]at k;let⟨j,i⟩:=ap7 k;rcases h with rfl|h<;>rcases e with rfl|e
   .rfl
   .grind
   .grind
   .exact UG i h e fx u
 | [],_,x,y,a,h,_,_,_=>by cases h
def apv{hp:bN}{m:pT}{l:Nat}{x:Option Nat}(h:cu (K6 hp m) l=O x):l∈hp.map (·.1):=by have:=pA h;unfold K6 at this;rw[List.mem_filter]at this;exact BA.1 this.2
def Eo{bd:Nat}{E:Env}(Q:∀l,E.G l->l<bd){D:aW}{β:bp}{S:aq}{a:Act}{w:World}(h:St E D β S a w){tm:lW}{hp:bN}{U:pT}{no:cf}(hs:s7 (yI bd S tm hp U no)):
  ∃β',St E D β' (lK bd S.n tm hp) a w/\(∀l L,β' l=O L->L.nil=ah->∃a' b',a'∉no/\S.H a'=O b'/\β a'=O L)/\(∀l,β' l≠ae->l∈hp.map (·.1)):=by
 have d:=JL hs;unfold yI at d;generalize hm:K6 hp (I1 S hp<|U++unT S tm)=m at d;simp only[jv]at d;have g:=tA λc i=>d c<|.inl<|.inl i;rw[bC]at g;let⟨g,K⟩:=g;have h2:=λc i=>d c<|.inl<|.inr i;have I:=λc i=>d c<|.inr i;simp only[TZ,bC]at g;let⟨V,n2,n3⟩:=g;have A:∀l x,cu m l=O x->l∈hp.map (·.1):=λl x hx=>apv<|hm▸hx;have T:∀l,cu m l=O ae->Bb hp l:=by
  intro l r;obtain⟨⟨j,b⟩,z,rfl⟩:=List.mem_map.1<|A l _ r;rcases Dv I z with⟨a,b',e,_⟩|⟨_,k,v,_⟩
  .rw[e]at r;cases r
  .exact⟨b,k,KV V z,v⟩
 have s:∀{l b L},cu hp l=O b->jO m hp β l=O L->L.nil=ah->∃a' b',cu m l=O (O a')/\S.H a'=O b'/\β a'=O L:=by
  intro l b L z y f;rcases Dv I (pA z)with⟨a',b',e,u,_⟩|⟨e,k,v,_⟩
  .refine⟨a',b',e,u,?_⟩
   unfold jO at y;rw[e]at y;exact y
  .unfold jO at y
   rw[e]at y;simp[z,v,xm]at y;cases y;cases f
 have R:∀l,jO m hp β l≠ae->l∈hp.map (·.1):=by
  intro l r;cases e:cu m l with
  |none=>unfold jO at r;rw[e]at r;exact absurd rfl r
  |some x=>exact A l x e
 refine⟨jO m hp β,?_,λl L y f=>?_,R⟩
 rotate_left
 .obtain⟨⟨j,b'⟩,z,rfl⟩:=List.mem_map.1<|R l<|by rw[y];simp
  let⟨q,X,B,C,Y⟩:=s (KV V z) y f;refine⟨q,X,λi=>?_,C,Y⟩;have:=List.all_eq_true.1 K _<|pA B;simp[pR]at this;rw[BA.2 i]at this;cases this
 exact{
  size:=h.size
  tm:=λt=>by
   simp only[lK];cases ht:cu tm t with
   |none=>simp[Ji,F]
   |some x=>simp only[CG];exact Ph T (ac7 h2<|pA ht)<|h.tm t
  hp:=λl b z=>by
   simp[lK]at z;rcases Dv I (pA z)with⟨a',b',e,u,N⟩|⟨e,k,v,Z⟩
   .obtain⟨L,y,hB⟩:=h.hp a' b' u
    exact⟨L,by unfold jO;rw[e];exact y,Ud T N hB⟩
   .exact⟨⟨0,k,0,0,ab⟩,by unfold jO;rw[e];simp[z,v,xm],Z _ _ _⟩
  eJ:=λl b L z y f=>by
   let⟨a',b',_,u,J⟩:=s z y f;exact h.eJ a' b' L u J f
  inj:=λl j b b' L L' z u y J o p hg=>by
   let⟨q,c1,B,uo,xJ⟩:=s z y o;let⟨W,c2,C,M,E4⟩:=s u J p;have:=h.inj q W c1 c2 L L' uo M xJ E4 o p hg;subst this;have:=UG n2 (pA z) (pA u) (a:=q) (by simp[B]) (by simp[C]);exact dR (·.1) this
  eZ:=h.eZ,d0:=h.d0,d1:=h.d1
  ib:=λl r=>by
   simp[lK,qS]at r;unfold jO;cases e:cu m l with
   |none=>rfl
   |some x=>
    have:=A l x e;rw[BA.2 this]at r;simp at r
  os:=h.os,tape:=h.tape,output:=h.output,grow:=h.grow,block:=h.block,df:=h.df
  low:=λl r=>by
   simp only[lK];have:cK l bd=ab:=yB<|Q l r;rw[this];rfl
  k9:=λl L r y=>by
   have:l∈hp.map (·.1):=by
    unfold jO at y;cases e:cu m l with
    |none=>rw[e]at y;cases y
    |some x=>exact A l x e
   obtain⟨⟨j,b⟩,z,rfl⟩:=List.mem_map.1 this;have v:=List.all_eq_true.1 n3 (j,b) z;have ai:cK j bd=ab:=yB<|Q j r;simp[ai,YF,GM]at v;have e:=adR v;unfold jO at y;rw[e]at y;exact h.k9 j L r y}
end
section
variable{E:Env}{D:aW}{β:bp}{S:aq}{a:Act}{w:World}
def St.forget(h:St E D β S a w)(y:cf)(o:∀l,E.G l->l∉y):St E D (λl=>cond (mX y l) ae<|β l) (JA y S) a w:=by
 have q:∀{l},l∉y->(cond (mX y l) ae<|β l)=β l:=λ{l} x=>by
  cases z:mX y l
  .rfl
  .exact absurd (xK.1 z) x
 have z:∀{l L},cond (mX y l) ae (β l)=O L->β l=O L:=λ{l L} x=>by
  grind
 have G:∀f,(∀k∈f,k∉y)->jx D w (nj β f) D w (λl=>cond (mX y l) ae<|β l):=λf s=>
  ⟨λ_ h=>h,λ_ _=>rfl,λl L x=>by
    unfold nj at x;split at x
    .grind
    .cases x⟩
 have u:∀{l b},(JA y S).H l=O b->S.H l=O b/\l∉y/\∀k∈na b,k∉y:=λ{l b} x=>by
  simp[JA]at x;cases z:mX y l
  .rw[z]at x
   cases g:S.H l with
   |none=>rw[g]at x;cases x
   |some J=>
    rw[g]at x;simp at x;cases r:H6 (na J) y
    .rw[r]at x
     cases x;exact⟨rfl,λA=>(by rw[xK.2 A]at z;cases z),λk e=>adr.1 r k e⟩
    .rw[r]at x;cases x
  .rw[z]at x;cases x
 exact{
  size:=h.size
  tm:=λt=>by
   simp only[JA];cases r:H6 (ids<|S.T t) y
   .exact F.mono (G (ids<|S.T t) λk e=>adr.1 r k e) _<|F.cut _ (λk e=>e)<|h.tm t
   .simp only[bo,F]
  hp:=λl b x=>by
   let⟨v,i,m⟩:=u x;let⟨L,c,d⟩:=h.hp l b v;exact⟨L,by rw[q i];exact c,(gk.cut b (λk e=>e) d).mono (G (na b) m) b λ_=>rfl⟩
  eJ:=λl b L x j n=>h.eJ l b L (u x).1 (z j) n
  inj:=λl B b J L K v i c d C I p=>h.inj l B b J L K (u v).1 (u i).1 (z c) (z d) C I p
  eZ:=h.eZ,d0:=h.d0,d1:=h.d1
  ib:=λl x=>by
   simp only[JA]at x;cases z:mX y l
   .rw[z]at x;exact h.ib l x
   .rfl
  os:=h.os,tape:=h.tape,output:=h.output,grow:=h.grow,block:=h.block,df:=h.df
  low:=λl x=>by
   have n:mX y l=ah:=by
    cases z:mX y l
    .rfl
    .exact absurd (xK.1 z) (o l x)
   simp only[JA];rw[n];exact h.low l x
  k9:=λl L x j=>h.k9 l L x<|z j}
end
section
variable{P:Program}{Γ:ll}
def aRl{o:Oper}{ρ u:Operand->SV}{H:h_}{n:Nat}(h:∀x∈o.op.operands.toList,ρ x=u x):step P Γ o ρ H n=step P Γ o u H n/\kx o ρ H=kx o u H:=by
 let⟨E,op,s,pos,j,d⟩:=o;have A:∀k:Array (Nat×Operand),(∀x∈k.toList.map (·.2),ρ x=u x)->k.toList.map (λx=>(x.1,ρ x.2))=k.toList.map λx=>(x.1,u x.2):=λk h=>
  CD λx v=>by rw[h x.2<|List.mem_map.2 ⟨x,v,rfl⟩]
 have i:∀D:List Operand,(∀x∈D,ρ x=u x)->D.map ρ=D.map u:=λD h=>CD h;cases op with
 |build t k=>
  simp only[GU]at h;have e:k.toList.map (λx=>(x.1,(ρ x.2).Bc))=k.toList.map λx=>(x.1,(u x.2).Bc):=
   CD λx v=>by rw[h x.2<|List.mem_map.2 ⟨x,v,rfl⟩]
  simp[step,kx,e,ql]
 |buildSlice t n k=>
  simp only[GU]at h;simp[step,kx,A k h,ql]
 |makeFunc f a b=>
  simp only[GU,MO,jv]at h;simp[step,kx,i _ λx v=>h x<|.inl v,i _ λx v=>h x<|.inr v,ql]
 |slice t x l q m=>
  rcases l with _|l<;>rcases q with _|q<;>rcases m with _|m<;>simp[GU,or_imp,forall_and]at h<;>simp[step,kx,h,YA,xm,ql]
 |call c=>
  let⟨z,C,B⟩:=c;cases z with
  |value g=>
   simp only[GU,ai3,MO,jv]at h;have p:=h g aj;simp[step,kx,p,i C.toList λy w=>h y<|by simp[w],ql]
  |builtin b=>
   simp only[GU,ai3,MO,jv]at h;simp[step,kx,i C.toList λy w=>h y<|by simp[w],ql]
  |invoke r m=>
   simp only[GU,ai3,MO,jv]at h;have p:=h r aj;simp[step,kx,p,i C.toList λy w=>h y<|by simp[w],ql]
 |_=>first
  |(simp[GU,nZ,Rj,or_false,forall_eq_or_imp,yC,false_or]at h
    simp[step,kx,h,ql])
  |simp[step,kx,ql]
section
variable{H H':h_}
def aF9{t:TypeId}{x:SV}(h:∀l∈ids x,H l=H' l):Pk P H t x=Pk P H' t x:=by
 cases x with
 |v u=>cases u<;>first|rfl|(rename_i A n c;rcases A with _|A<;>first|rfl|(rcases n with _|n<;>first|rfl|(rcases c with _|c<;>rfl)))
 |_=>first|rfl|(simp[ids,rD,yC]at h;simp[Pk,h])
def avN{x:SV}(h:∀l∈ids x,H l=H' l):IR H x=IR H' x:=by
 cases x with
 |_=>first|rfl|(simp[ids,rD,yC]at h;simp[IR,h])
def azk{t:TypeId}{x:SV}{d:aA}{r:cf}{n:Nat}(h:∀l∈ids x,H l=H' l):z7 P H t x d r n=z7 P H' t x d r n:=by
 cases x with
 |v u=>cases u<;>first|rfl|(rename_i A n c;rcases A with _|A<;>first|rfl|(rcases n with _|n<;>first|rfl|(rcases c with _|c<;>rfl)))
 |_=>first|rfl|(simp[ids,rD,yC]at h;simp[z7,h])
def azi{e:TypeId}{s x:SV}{n:Nat}(h:∀l∈ids s,H l=H' l)(y:∀l∈ids x,H l=H' l):Es P H e s x n=Es P H' e s x n:=by
 unfold Es;split
 .simp only[ids,rD,yC]at y
  rw[y];split
  .split
   .simp only[ids,rD,yC]at h
    rw[h]
   .rfl
  .rfl
 .rfl
def azl{t i:TypeId}{s x:SV}{n:Nat}(k:∀l∈ids s,H l=H' l)(w:∀l∈ids x,H l=H' l):JO P H t i s x n=JO P H' t i s x n:=by
 have h:=avN w;have y:∀e d r,z7 P H e s d r n=z7 P H' e s d r n:=λe d r=>azk k;have z:∀e,Es P H e s x n=Es P H' e s x n:=λe=>azi k w;cases x with
 |v u=>cases u<;>simp[JO,h,y,z]
 |_=>simp[JO,h,y,z]
def aFs{t:TypeId}{x:SV}{i:Int}(h:∀l∈ids x,H l=H' l):HT P H t x i=HT P H' t x i:=by
 cases x with
 |_=>first|rfl|(simp[ids,rD,yC]at h;simp[HT,h])
def aGn{t:TypeId}{x k:SV}{ok:Bool}(h:∀l∈ids x,H l=H' l):Pm P H t x k ok=Pm P H' t x k ok:=by
 unfold Pm;split
 .simp only[ids,rD,yC]at h
  simp[h]
 .rfl
def aGy{t:TypeId}{x k v:SV}(h:∀l∈ids x,H l=H' l):Pp P H t x k v=Pp P H' t x k v:=by
 unfold Pp;split
 .simp only[ids,rD,yC]at h
  simp[h]
 .rfl
def aQO{t:TypeId}{x:SV}{a b c:Option SV}{n:Nat}(h:∀l∈ids x,H l=H' l):Mq P H t x a b c n=Mq P H' t x a b c n:=by
 cases x with
 |v u=>cases u<;>first|rfl|(rename_i A n c;rcases A with _|A<;>first|rfl|(rcases n with _|n<;>first|rfl|(rcases c with _|c<;>rfl)))
 |p l i j=>first|rfl|(simp[ids,rD,yC]at h;rcases i with _|i<;>rcases j with _|j<;>first|rfl|simp[Mq,h])
 |_=>first|rfl|(simp[ids,rD,yC]at h;simp[Mq,h])
def aAx{t y:TypeId}{x:SV}{n:Nat}(h:∀l∈ids x,H l=H' l):NK P H t y x n=NK P H' t y x n:=by have z:=avN h;unfold NK;generalize f_ P y=T;cases T<;>cases x<;>first|rfl|(simp[z];done)|(simp[ids,rD,yC]at h;simp[h];done)|(rename_i u;cases u<;>first|rfl|simp[z])
def aly{x:SV}(h:∀l∈ids x,H l=H' l):uf H x=uf H' x:=by
 cases x with
 |_=>first|rfl|(simp[ids,rD,yC]at h;simp[uf,h])
def aoG:∀{cs:bL} {c:SV},c∈cs->∀l∈ids c,l∈kp cs
 |d::cs,c,h,l,x=>by
  simp[nZ]at h;simp[kp,jv];rcases h with rfl|h
  .exact .inl x
  .exact .inr<|aoG h l x
def aAj{x:SV}(h:∀l∈ids x,H l=H' l):J6 H x=J6 H' x:=by
 cases x with
 |ag e=>
  have:∀c∈e,uf H c=uf H' c:=λc y=>aly λl z=>h l<|aoG y l z;simp only[J6];rw[CD λc y=>dR (·.1)<|this c y,CD λc y=>dR (·.2)<|this c y]
 |bl b=>rfl
 |_=>exact aly h
def alA:∀{cs:bL},(∀l∈kp cs,H l=H' l)->xA H cs=xA H' cs
 | [],_=>rfl
 |c::cs,h=>by simp[kp,jv]at h;simp[xA,aAj λl x=>h l<|.inl x,alA λl x=>h l<|.inr x]
def awR{u:cf}:∀{r:cf},(∀l∈r,H l=H' l)->I3 H u r=I3 H' u r
 | [],_=>rfl
 |x::r,h=>by simp[I3,h x aj,awR (r:=r) λl y=>h l<|by simp[y]]
def abh:∀{k:Nat} {x y:cf} {l:Nat},l∈x\/l∈y->l∈grow H k x y
 |0,x,y,l,h=>by simpa [grow]using h
 |k+1,x,y,l,h=>by
  unfold grow;cases z:isNil y
  .simp only[iw]
   exact abh<|.inl<|by simpa using h
  .simp only[bo]
   rw[Pa.1 z]at h;simpa using h
def anf:∀{k:Nat} {x y:cf},(∀l∈grow H k x y,H l=H' l)->grow H' k x y=grow H k x y
 |0,x,y,h=>rfl
 |k+1,x,y,h=>by
  have r:=λl z=>h l<|abh<|.inr z;have e:UB H' (x++y) y=UB H (x++y) y:=by
   unfold UB;rw[CD λl z=>dR akx<|r l z]
  unfold grow at h|-;rw[e];cases u:isNil y
  .rw[u]at h
   exact anf h
  .rfl
def WY{args:bL}(h:∀l∈uH H args,H l=H' l):uH H' args=uH H args:=anf h
def aAY{R:cf}(h:∀l∈R,H l=H' l):Bl H R=Bl H' R:=by
 funext l;unfold Bl;cases x:mX R l
 .rfl
 .simp only[bo];exact h l<|xK.1 x
def aAy{own:Bool}{args:bL}(h:∀l∈kp args,H l=H' l):EG own H args=EG own H' args:=by unfold EG;rw[alA h]
def az2{f:FuncId}{args:bL}{n:Nat}(h:∀l∈uH H args,H l=H' l):ED Γ H f args n=ED Γ H' f args n:=by
 have y:=λl x=>h l<|abh<|.inr x;unfold ED;rw[WY h,aAY h];cases Γ f with
 |none=>rfl
 |some c=>
  simp;rw[aAy y];generalize c.fn (EG c.own H' args).1 (Bl H'<|uH H args) n=r;let⟨e,w,ret,i⟩:=r;simp[II];rw[WY h];cases z:nc (uH H args) w
  .rfl
  .have:=awR (u:=w) λl x=>h l<|tq.1 z l x
   simp[J2,this]
def aRk{o:Oper}{ρ:Operand->SV}{n:Nat}(h:∀l∈kx o ρ H,H l=H' l):step P Γ o ρ H n=step P Γ o ρ H' n/\kx o ρ H'=kx o ρ H:=by
 let⟨K,E,B,pos,u,w⟩:=o;have pt:∀l i j,(∀k∈ids (SV.p l i j),H k=H' k)->H l=H' l:=λl i j h=>h l (by simp[ids]);cases E with
 |load t x=>
  simp[kx]at h;simp[step,kx,sZ];cases A:ρ x<;>first|rfl|(rw[A]at h;simp[pt _ _ _ h])
 |store t x y=>
  simp[kx]at h;simp[step,kx,sZ];cases A:ρ x<;>first|rfl|(rw[A]at h;simp[pt _ _ _ h])
 |convert s d x=>simp[kx]at h;simp[step,kx,aAx h,ql]
 |slice t x l G m=>simp[kx]at h;simp[step,kx,aQO h,ql]
 |lookup t x k ok=>simp[kx]at h;simp[step,kx,aGn h,ql]
 |mapUpdate t x k v=>simp[kx]at h;simp[step,kx,aGy h,ql]
 |indexAddr t x i=>
  simp[kx]at h;have:∀i,HT P H t (ρ x) i=HT P H' t (ρ x) i:=λi=>aFs h;simp[step,kx,this,ql]
 |call c=>
  let⟨e,J,C⟩:=c;cases e with
  |value g=>
   simp[kx]at h;simp[step,kx];cases D:ρ g with
   |fn f a b=>
    rw[D]at h;simp at h;cases f with
    |func f=>simp[az2 h,WY h,ql]
    |_=>simp[WY h,ql]
   |_=>simp[ql]
  |builtin b=>
   simp[kx]at h;simp[step,kx,sZ];generalize J.toList.map ρ=l at h;cases b with
   |len=>
    rcases l with _|⟨x,_|⟨y,l⟩⟩<;>rcases C.toList with _|⟨t,_|⟨F,l2⟩⟩<;>first|rfl|(simp[kp,zK]at h;exact aF9 h)
   |append=>
    rcases l with _|⟨x,_|⟨y,_|⟨z,l⟩⟩⟩<;>rcases C.toList with _|⟨t,_|⟨F,_|⟨I,l2⟩⟩⟩<;>first|rfl|(simp[kp,zK,jv]at h;exact azl (λk q=>h k<|.inl q) λk q=>h k<|.inr q)
   |_=>rfl
  |invoke r m=>simp[step,kx,ql]
 |_=>simp[step,kx,ql]
end
end
section
variable{P:Program}{Γ:ll}{ops:Array Oper}{base:Nat->Nat}
def aCU{o:Oper}{S x:aq}(h:∀t∈o.looksAt ops,x.T t=S.T t):gd ops o x=gd ops o S:=by unfold gd;unfold Oper.looksAt at h;grind
def aBC{o:Oper}{S y:aq}(h:∀t∈o.looksAt ops,y.T t=S.T t):∀x∈o.op.operands.toList,S.ev x=y.ev x:=by
 intro x z;cases x with
 |tmp t=>
  apply(h t ?_).symm;exact List.mem_append_left _<|List.mem_filterMap.2 ⟨_,z,rfl⟩
 |_=>rfl
def Ex.looks{i:Nat}{o:Oper}{S:aq}{e:iJ}{f:FP}(h:Ex P Γ ops base i o S e f):f.looks=o.looksAt ops/\f.dst=o.dst.toList/\f.AW=e.fT.map (·.1):=by
 let⟨_,h⟩:=h;split at h
 .obtain⟨_,_,x,_,_,rfl⟩:=h;exact⟨rfl,rfl,by rw[x];rfl⟩
 .obtain⟨rfl,rfl⟩:=h;exact⟨rfl,rfl,rfl⟩
 .grind
def Ex.local{i:Nat}{o:Oper}{S x:aq}{e:iJ}{f:FP}(h:Ex P Γ ops base i o S e f)(a:x.n=S.n)(y:∀t∈f.looks,x.T t=S.T t)(r:∀l∈f.jN,x.H l=S.H l)(q:∀k∈e.news,x.U k=ah):
  Ex P Γ ops base i o x e f:=by
 rw[h.looks.1]at y;have w:=aCU y;obtain⟨A,b⟩:=aRl (P:=P) (Γ:=Γ) (n:=base i)<|aBC y;obtain⟨v,h⟩:=h;refine⟨by rw[a];exact v,?_⟩;rw[w];split at h
 .obtain⟨c,d,g,m,p,z⟩:=h
  have u:=λl j=>(r l<|by rw[z];show l∈kx o S.ev S.H;rw[b];exact j).symm;let⟨B,s⟩:=aRk (P:=P) (Γ:=Γ) (n:=base i) u;grind
 .exact h
 .omega
def KU{r:cf}(h:meets y r=ah):∀k∈y,k∉r:=by unfold meets at h;rw[aiC]at h;exact λk x l=>h k x<|BA.2 l
def awP{α:Type}(f:Nat->α)(l r:List (Nat×α))(h:∀k∈l.map (·.1),k∉r.map (·.1)):cc (cc f l) r=cc (cc f r) l:=by
 have y:∀l (f g:Nat->α) k,f k=g k->cc f l k=cc g l k:=by
  intro l;induction l with
  |nil=>intro f g k h;exact h
  |cons x l u=>
   intro f g k h;apply u _ _ k ?_;by_cases e:k=x.1
   .subst e;rw[gK,gK]
   .rw[gy _ _ e,gy _ _ e];exact h
 funext k;by_cases z:k∈l.map (·.1)
 .rw[uM _ _ _<|h k z]
  exact y l _ _ k (uM _ _ _<|h k z).symm
 .rw[uM _ (cc f r) _ z]
  exact y r _ _ k<|uM _ _ _ z
def I2(l:cf)(f:Nat->Bool)(k:Nat):cc f (l.map λi=>(i,ab)) k=(f k||decide (k∈l)):=by
 induction l generalizing f with
 |nil=>simp[cc]
 |cons i r h=>
  simp[kd,cc];rw[h];by_cases e:k=i
  .subst e;rw[gK];simp
  .rw[gy _ _ e];simp[e]
def iJ.Ib(e:iJ)(d:Option Nat)(S:aq):(e.on d S).n=S.n:=by cases d<;>rfl
def iJ.K3(e:iJ)(d:Option Nat)(S:aq):(e.on d S).H=cc S.H e.fT:=by cases d<;>rfl
def iJ.K4(e:iJ)(d:Option Nat)(S:aq):(e.on d S).U=cc S.U (e.news.map λk=>(k,ab)):=by cases d<;>rfl
def iJ.Ia(e:iJ)(d:Option Nat)(S:aq):(e.on d S).T=cc S.T (d.toList.map λt=>(t,e.val)):=by cases d<;>rfl
def aq.ext'{S h:aq}(h1:S.n=h.n)(x:S.T=h.T)(y:S.H=h.H)(z:S.U=h.U):S=h:=by cases S;cases h;cases h1;cases x;cases y;cases z;rfl
def aAb{f g:FP}(h:f.vp g=ah):meets f.dst g.dst=ah/\meets f.dst g.looks=ah/\meets f.looks g.dst=ah/\meets f.AW g.AW=ah/\meets f.AW g.jN=ah/\meets f.jN g.AW=ah:=by unfold FP.vp at h;grind
def Ex.swap{i j:Nat}{x y:Oper}{S:aq}{e r:iJ}{f g:FP}(o:Ex P Γ ops base i x S e f)(p:Ex P Γ ops base j y (e.on x.dst S) r g)(D:f.vp g=ah):
  Ex P Γ ops base j y S r g/\Ex P Γ ops base i x (r.on y.dst S) e f/\e.on x.dst (r.on y.dst S)=r.on y.dst (e.on x.dst S):=by
 let⟨G,H,I,c4,J,a⟩:=aAb D;let⟨E,q,s⟩:=o.looks;let⟨F,u,A⟩:=p.looks;have G:=KU G;have H:=KU H;have I:=KU I;have c4:=KU c4;have J:=KU J;have a:=KU a;have w:∀k∈r.news,cc S.U (e.news.map λk=>(k,ab)) k=ah:=by
  intro k z;let⟨_,h⟩:=p;split at h
  .obtain⟨B,_,_,C,_⟩:=h
   rw[<-iJ.K4 e x.dst S];exact B k<|C▸z
  .obtain⟨rfl,_⟩:=h;cases z
  .exact h.elim
 have b:∀k∈e.news,S.U k=ah:=by
  intro k z;let⟨_,h⟩:=o;grind
 have n:∀(d:Option Nat) (v:SV),(d.toList.map λt=>(t,v)).map (·.1)=d.toList:=λd v=>by cases d<;>rfl
 refine⟨p.local (iJ.Ib ..).symm (λt m=>?_) (λl c=>?_) λk z=>?_,o.local (iJ.Ib ..) (λt m=>?_) (λl c=>?_) λk z=>?_,?_⟩
 .rw[iJ.Ia,uM _ _ _<|by rw[n,<-q];exact λh=>H t h m]
 .rw[iJ.K3,uM _ _ _<|by rw[<-s];exact λh=>J l h c]
 .have:=w k z
  rw[I2,qS]at this;exact this.1
 .rw[iJ.Ia,uM _ _ _<|by rw[n,<-u];exact I t m]
 .rw[iJ.K3,uM _ _ _<|by rw[<-A];exact a l c]
 .rw[iJ.K4,I2,qS]
  refine⟨b k z,iW λh=>?_⟩;have:=w k h;rw[I2,qS]at this;exact absurd z (nD this.2)
 .refine aq.ext' ?_ ?_ ?_ ?_
  .rw[iJ.Ib,iJ.Ib,iJ.Ib,iJ.Ib]
  .rw[iJ.Ia,iJ.Ia,iJ.Ia,iJ.Ia]
   apply(awP _ _ _ ?_).symm;rw[n,n,<-q,<-u];exact G
  .rw[iJ.K3,iJ.K3,iJ.K3,iJ.K3]
   apply(awP _ _ _ ?_).symm;rw[<-s,<-A];exact c4
  .rw[iJ.K4,iJ.K4,iJ.K4,iJ.K4]
   funext k;rw[I2,I2,I2,I2,Bool.or_assoc,Bool.or_assoc,Bool.or_comm<|decide (k∈r.news)]
def s5.first{Sn:aq}{j:Nat}{y:Oper}{g:FP}{r:List (Nat×Oper×FP)}:∀l S,s5 P Γ ops base (l++(j,y,g)::r) S Sn->(∀t∈l,t.2.2.vp g=ah)->
  ∃e,Ex P Γ ops base j y S e g/\s5 P Γ ops base (l++r) (e.on y.dst S) Sn
 | [],S,h,_=>by
   cases h with
   |cons k z=>exact⟨_,k,z⟩
 |(i,x,f)::l,S,h,u=>by
  cases h with
  |cons k z=>
   let⟨v,d,b⟩:=s5.first l _ z λt c=>u t<|Ri _ c
   let⟨w,n,a⟩:=k.swap d<|u _<|YG ..;exact⟨v,w,.cons n<|a▸b⟩
def aCn{α:Type}(n:Nat)(k:Nat->α):amR n k=k n:=by cases n<;>rfl
def aks{k:Nat}:∀{l:List Edge} {s:Nat},(l.foldl (λs e=>cond (GV .any e) (s|||2^e.on|||y.getD e.on 0) s) s).testBit k=ab->
  s.testBit k=ab\/∃e∈l,GV .any e=ab/\(e.on=k\/(y.getD e.on 0).testBit k=ab)
 | [],s,h=>.inl h
 |e::l,s,h=>by
  rcases aks (l:=l) h with h|⟨z,h1,r⟩
  .cases x:GV .any e
   .simp only[x,iw]at h;exact .inl h
   .simp only[x,bo,Nat.testBit_or,GK,Nat.testBit_two_pow,dJ]at h
    rcases h with(h|h)|h
    .exact .inl h
    .exact .inr ⟨e,aj,x,.inl h⟩
    .exact .inr ⟨e,aj,x,.inr h⟩
  .exact .inr ⟨z,Ri _ h1,r⟩
def RS(l0:List Oper)(h:cf):Prop:=∀d k,(h.getD d 0).testBit k=ab->∃o,l0[d]? =O o/\∃e∈o.after.toList,GV .any e=ab/\(e.on=k\/(h.getD e.on 0).testBit k=ab)
def aw0(l0:List Oper):∀l x,l0.drop x.length=l->RS l0 x->RS l0 (Yi l x)
 | [],x,_,h=>h
 |o::l,x,i,h=>by
  simp[Yi,aCn];apply aw0 l0 l _ ?_ ?_
  .rw[gn,<-axz,i];rfl
  .have z:∀d k,(x.getD d 0).testBit k=ab->((x++ [al5 x o.after.toList]).getD d 0).testBit k=ab:=by
    grind
   intro d k y;rw[jR]at y;rcases uQ d x.length with w|w
   .rw[GJ w,<-jR]at y
    let⟨a,j,e,r,u,v⟩:=h d k y;exact⟨a,j,e,r,u,v.imp id<|z _ _⟩
   .rw[GI w]at y
    rcases yx (d-x.length)with h0|h0
    .rw[h0]at y
     simp[CI,CG]at y;rcases aks y with n|⟨e,r,u,v⟩
     .simp at n
     .refine⟨o,?_,e,r,u,v.imp id<|z _ _⟩
      have b:=Y;have:=dR (λl=>l[0]?) i;grind
    .rw[xk<|by simp;lia]at y;simp at y
def aSF(ops:Array Oper):RS ops.toList (waits ops):=aw0 _ _ [] rfl (by intro d k h;simp at h)
def akf:∀{l:List Oper} {i:Nat},Ns l i=ab->∀j o,l[j]? =O o->∀e∈o.after,GV .any e=ab->e.on<i+j
 |k::l,i,h,j,o,x,e,he,z=>by
  simp only[Ns,bC]at h;cases j with
  |zero=>
   simp[CI,Option.some.injEq]at x;subst x;have y:=List.all_eq_true.1 h.1 e (by simpa using he);rw[z]at y;simp only[YF,GM]at y;exact nh y
  |succ j=>
   have:=akf h.2 j o (by simpa using x) e he z;lia
 | [],_,_,j,o,x,_,_,_=>by simp at x
def MF{o:Oper}(h:o.guard=ae)(y:Nat->Option Bool):CN o y=ab:=by unfold CN;rw[h]
structure Left (ops:Array Oper) (bf:List Nat) (n:Nat) (iu:Array Bool) (rem:List (Nat×Oper×FP)) (U:List Nat):Prop where
 size:iu.size=ops.size
 BO:∀t∈rem,ops[t.1]? =O t.2.1/\iu.getD t.1 ab=ah/\t.1<n
 nl:n<ops.size->iu.getD n ab=ah
 all:∀i,i<n->iu.getD i ab=ah->∃t∈rem,t.1=i
 un:∀i,iu.getD i ab=ah->i∈U
 Mr:rem.Pairwise fun t u=>t.1<u.1
 vp:rem.Pairwise fun t u=>t.2.2.vp u.2.2=ab->(bf.getD u.1 0).testBit t.1=ab
 closed:∀d k,iu.getD d ah=ab->(bf.getD d 0).testBit k=ab->iu.getD k ah=ab
def abc{h:Array Bool}{i:Nat}:h.getD i ah=ab->h.getD i ab=ab:=c9
def aCW{h:Array Bool}{i:Nat}(hi:i<h.size):h.getD i ab=ab->h.getD i ah=ab:=c9
def aKh(eF:∀f c,Γ f=O c->Sound P f c){E:Env}{Q:Exit->Act->World->Prop}{Sn:aq}{bf:cf}(hbf:RS ops.toList bf)(Ki:Ns ops.toList 0=ab){n:Nat}
  (W:n<ops.size->∀k,k<n->(bf.getD n 0).testBit k=ab) {F:aW} {ns:Nat} (hF:∀d,F d->∀k o,k<n->ops[k]? =O o->o.dst≠O d)
  (abT:∀j o,n<j->ops[j]? =O o->(bf.getD j 0).testBit n=ah->o.guard=ae/\∀D β S a w K',S.n=ns->(∀d,F d->S.T d=.any)->St E D β S a w->(∀a' w',St E D β S a' w'->K' a' w')->o.wp P a w K' Q)
  (hN:∀o,ops[n]? =O o->o.guard=ae/\∀D β a w K',St E D β Sn a w->o.wp P a w K' Q) (hQ:ops.size<=n->∀D β a w,St E D β Sn a w->Q .normal a w):
  ∀s y x (U:cf) S (D:aW) (β:bp) a w,U.length<=s->
  Left ops bf n y x U->S.n=ns->(∀d,F d->S.T d=.any)->s5 P Γ ops base x S Sn->St E D β S a w->wpAny P .any ops Q s y a w:=by
 have m:∀y x U S D β a w,Left ops bf n y x U->s5 P Γ ops base x S Sn->St E D β S a w->Rw .any ops y= []->Q .normal a w:=by
  intro y x U S D β a w L p h K;have mk:∀i o,i<=n->ops[i]? =O o->y.getD i ab=ah->(∀t∈x,i<=t.1)->False:=by
   intro i o C v M ab';have:i∈Rw .any ops y:=by
    apply mem_ready.2 ⟨M,o,v,λe he tg=>?_⟩;have ai:=akf Ki i o (by simpa using v) e he tg;have hi:e.on<y.size:=by
     rw[L.size];have:=(Array.getElem?_eq_some_iff.1 v).1;lia
    cases hq:y.getD e.on ab
    .obtain⟨u,hu,hue⟩:=L.all e.on Y hq
     have:=ab' u hu;lia
    .exact aCW hi hq
   rw[K]at this;cases this
  cases x with
  |nil=>
   cases p;apply hQ (Nat.not_lt.1 λhn=>?_) D β a w h;exact mk n ops[n] (gL _) (Jd hn) (L.nl hn) aj
  |cons t r=>
   let⟨v,M,BM⟩:=L.BO t<|YG ..;apply(mk t.1 t.2.1 Y v M λu hu=>?_).elim;have:=(List.pairwise_cons.1 L.Mr).1 u;grind
 intro s;induction s with
 |zero=>
  intro y x U S D β a w hf L _ _ p h;have hU:=List.length_eq_zero_iff.1<|Nat.le_zero.1 hf;have K:Rw .any ops y= []:=by
   cases K:Rw .any ops y with
   |nil=>rfl
   |cons i r=>
    have:=L.un i (mem_ready.1<|by rw[K];simp).1;rw[hU]at this;cases this
  exact⟨K,m y x U S D β a w L p h K⟩
 |succ s ih=>
  intro y x U S D β a w hf L B Z p h;refine⟨m y x U S D β a w L p h,λi hi=>?_⟩;let⟨M,o,v,k_⟩:=mem_ready.1 hi;have ai:i<y.size:=by rw[L.size];exact(Array.getElem?_eq_some_iff.1 v).1
  have TX:∀k,(bf.getD i 0).testBit k=ab->y.getD k ah=ab:=by
   intro k b;let⟨o2,H,e,A,h3,h4⟩:=hbf i k b;have:o2=o:=by
    have wK:ops[i]? =O o2:=by simpa using H
    rw[v]at wK;exact(Option.some.inj wK).symm
   subst this;have hl:=k_ e (by simpa using A) h3;rcases h4 with rfl|h4
   .exact hl
   .exact L.closed e.on k hl h4
  have aAe:∀d k,(y.setIfInBounds i ab).getD d ah=ab->(bf.getD d 0).testBit k=ab->(y.setIfInBounds i ab).getD k ah=ab:=λd k J b=>by
   have base:y.getD k ah=ab->(y.setIfInBounds i ab).getD k ah=ab:=by
    intro hl;by_cases e:i=k
    .subst e;simp[M1,ai]
    .rw[Rk ah e];exact hl
   by_cases e:i=d
   .subst e;exact base<|TX k b
   .rw[Rk ah e]at J
    exact base<|L.closed d k J b
  have X':∀k,(y.setIfInBounds i ab).getD k ab=ah->k≠i/\y.getD k ab=ah:=λk b=>by
   by_cases e:i=k
   .subst e;simp[M1,ai]at b
   .rw[Rk ab e]at b
    exact⟨λh=>e h.symm,b⟩
  have hU:(U.erase i).length<=s:=by
   have hm:=L.un i M;have:=List.length_erase_of_mem hm;have:=List.length_pos_of_mem hm;lia
  have left:∀r,r.Sublist x->(∀t∈r,t.1≠i)->(∀t∈x,t∈r\/t.1=i)->i≠n->Left ops bf n (y.setIfInBounds i ab) r (U.erase i):=λr q fF ki C=>{
   size:=by simpa using L.size
   BO:=λt z=>⟨(L.BO t<|q.subset z).1,by rw[Rk ab<|GG<|fF t z];exact(L.BO t<|q.subset z).2.1,(L.BO t<|q.subset z).2.2⟩
   nl:=λhn=>by rw[Rk ab C];exact L.nl hn
   all:=λk hkn b=>by
    let⟨t,z,TU⟩:=L.all k hkn (X' k b).2;exact⟨t,(ki t z).resolve_right λe=>(X' k b).1<|TU▸e,TU⟩
   un:=λk b=>(List.mem_erase_of_ne (X' k b).1).2<|L.un k (X' k b).2
   Mr:=L.Mr.sublist q
   vp:=L.vp.sublist q
   closed:=aAe}
  rcases Nat.lt_trichotomy i n with C|rfl|C
  .obtain⟨⟨N,X,g⟩,z,R⟩:=L.all i C M
   simp at R;subst R;obtain⟨l,r,rfl⟩:=List.append_of_mem z;have hoo:X=o:=by
    have:=(L.BO _ z).1;rw[v]at this;exact(Option.some.inj this).symm
   subst hoo;have hci:=List.pairwise_append.1 L.vp;have TK:∀t∈l,t.2.2.vp g=ah:=by
    intro t Fj;cases hq:t.2.2.vp g
    .rfl
    .have hb:=hci.2.2 t Fj (N,X,g) aj hq
     have H:=abc<|TX t.1 hb;have A:=(L.BO t<|by simp[Fj]).2.1;rw[H]at A;cases A
   let⟨e,hx,hch⟩:=s5.first l S p TK
   have G:=SY (Q:=Q) eF h hx λD' β' a' w' h'=>by
    apply ih (y.setIfInBounds N ab) (l++r) (U.erase N) _ D' β' a' w' hU ?_ (by rw[iJ.Ib];exact B) (λd J=>?_) hch h'
    .have q:=List.pairwise_append.1 L.Mr
     apply left _ (List.Sublist.append_left (List.sublist_cons_self ..) l) (λt z=>?_) (λt z=>by simp[jv,nZ]at z|-;grind) Y;simp[jv]at z;rcases z with z|z
     .have:=q.2.2 t z (N,X,g) aj
      simp at this;lia
     .have:=(List.pairwise_cons.1 q.2.1).1 t z
      simp at this;lia
    .have fF:=hF d J N X C v
     rw[iJ.Ia];cases Ot:X.dst with
     |none=>exact Z d J
     |some d'=>
      have:d≠d':=λe=>fF (by rw[Ot,e]);simp[Option.toList,kd,uU,cc];rw[gy _ _ this];exact Z d J
   unfold wpOp;rw[v];simp;split at G
   .rename_i W;rw[I W];exact .inl G
   .rename_i W;rw[V W];exact G
  .have aET:x= []:=by
    cases x with
    |nil=>rfl
    |cons t r=>
     let⟨_,A,h3⟩:=L.BO t<|YG ..;rw[abc<|TX t.1<|W (by rw[<-L.size];exact ai) t.1 h3]at A;cases A
   subst aET;cases p;unfold wpOp;rw[v];simp;rw[I<|MF (hN o v).1 _];exact .inl<|(hN o v).2 D β a w _ h
  .have hnb:(bf.getD i 0).testBit n=ah:=by
    cases hb:(bf.getD i 0).testBit n
    .rfl
    .have H:=abc<|TX n hb
     rw[L.nl<|by rw[<-L.size];lia]at H;cases H
   obtain⟨e1,e2⟩:=abT i o C v hnb;unfold wpOp;rw[v];simp only;rw[I<|MF e1 _];refine .inl<|e2 D β S a w _ B Z h λa' w' h'=>?_;exact ih _ x _ S D β a' w' hU (left x (List.Sublist.refl _) (λt z=>by have:=(L.BO t z).2.2;omega) (λt z=>.inl z) Y) B Z p h'
def af_:∀{l:List Oper} {fs:List FP} {i:Nat} {t:Nat×Oper×FP},t∈rows i l fs->i<=t.1/\l[t.1-i]? =O t.2.1/\fs[t.1-i]? =O t.2.2
 | [],fs,i,t,h=>by cases fs<;>simp[rows]at h
 |o::l,[],i,t,h=>by simp[rows]at h
 |o::l,f::fs,i,t,h=>by
  simp[rows,nZ]at h;rcases h with rfl|h
  .simp
  .obtain⟨x,y,z⟩:=af_ h
   refine⟨Y,?_⟩;have:=Y;grind
def asY:∀{l:List Oper} {fs:List FP} {i:Nat} k,fs.length=l.length->k<l.length->∃t∈rows i l fs,t.1=i+k
 | [],fs,i,k,_,hk=>by simp at hk
 |o::l,[],i,k,h,_=>by simp at h
 |o::l,f::fs,i,k,h,hk=>by
  cases k with
  |zero=>exact⟨(i,o,f),by simp[rows],rfl⟩
  |succ k=>
   obtain⟨t,x,y⟩:=asY (i:=i+1) k (by simpa using h) (by simpa using hk);exact⟨t,by simp[rows,x],Y⟩
def asZ:∀l fs i,(rows i l fs).Pairwise λt u=>t.1<u.1
 | [],fs,i=>by cases fs<;>simp[rows]
 |o::l,[],i=>by simp[rows]
 |o::l,f::fs,i=>by simp only[rows,axA];exact⟨λt h=>by have:=(af_ h).1;lia,asZ l fs<|i+1⟩
def aoM{bf:cf}{x:FP}{i:Nat}:∀{fs:List FP} {l:List Oper} {j:Nat},T4 bf x i fs j=ab->∀u∈rows j l fs,x.vp u.2.2=ab->(bf.getD u.1 0).testBit i=ab
 | [],l,j,_,u,hu,_=>by cases l<;>simp[rows]at hu
 |f::fs,[],j,_,u,hu,_=>by simp[rows]at hu
 |f::fs,o::l,j,h,u,hu,y=>by
  simp[T4,bC,GK,pR]at h;simp[rows,nZ]at hu;rcases hu with rfl|hu
  .rcases h.1 with h1|h1
   .simp only at y;rw[y]at h1;cases h1
   .exact h1
  .exact aoM h.2 u hu y
def aoL{bf:cf}:∀{fs:List FP} {l:List Oper} {i:Nat},Ds bf fs i=ab->(rows i l fs).Pairwise λt u=>t.2.2.vp u.2.2=ab->(bf.getD u.1 0).testBit t.1=ab
 | [],l,i,_=>by cases l<;>simp[rows]
 |f::fs,[],i,_=>by simp[rows]
 |f::fs,o::l,i,h=>by simp[Ds,bC]at h;simp only[rows,axA];exact⟨λu y x=>aoM h.1 u y x,aoL h.2⟩
def asl(G:∀f c,Γ f=O c->Sound P f c){E:Env}{Q:Exit->Act->World->Prop}{S Sn:aq}{D:aW}{β:bp}{a:Act}{w:World}{fs:List FP}{n:Nat}(I:n<=ops.size)
  (h1:fs.length=(ops.toList.take n).length) (b:s5 P Γ ops base (rows 0 (ops.toList.take n) fs) S Sn) (p:JU ops=ab) (hi:Ds (waits ops) fs 0=ab) (h:St E D β S a w)
  (C:n<ops.size->∀k,k<n->((waits ops).getD n 0).testBit k=ab)
  (r:∀j o,n<j->ops[j]? =O o->((waits ops).getD j 0).testBit n=ah->o.guard=ae/\∀D β e a w K',e.n=S.n->(∀d,(S.T d=.any/\∀x∈ops.toList.take n,x.dst≠O d)->e.T d=.any)->St E D β e a w->(∀a' w',St E D β e a' w'->K' a' w')->o.wp P a w K' Q)
  (g:∀o,ops[n]? =O o->o.guard=ae/\∀D β a w K',St E D β Sn a w->o.wp P a w K' Q) (m:ops.size<=n->∀D β a w,St E D β Sn a w->Q .normal a w):wpAny P .any ops Q ops.size (sb ops.size ah) a {w with drawn:=w.drawn+1}:=by
 have B:(ops.toList.take n).length=n:=by rw[mT,uT];lia
 have v:∀i,i<ops.size->(sb ops.size ah).getD i ab=ah:=λi hi=>by simp[M1,hi]
 refine aKh G (aSF ops) p C (F:=λd=>S.T d=.any/\∀x∈ops.toList.take n,x.dst≠O d) (λd y k o q s=>y.2 o ?_) r g m ops.size _ (rows 0 (ops.toList.take n) fs) (fM ops.size) S D β a _ aj ?_ rfl (λd y=>y.1) b h.drew
 .refine aiJ (i:=k) ?_
  rw[axN q];simpa using s
 .exact{
   size:=aj
   BO:=λt A=>by
    let⟨_,z,_⟩:=af_ A;rw[Nat.sub_zero]at z;have u:=(List.getElem?_eq_some_iff.1 z).1;rw[B]at u;rw[axN u]at z;exact⟨by simpa using z,v _ Y,u⟩
   nl:=v n
   all:=λi H hi=>by
    obtain⟨t,z,J⟩:=asY i h1 Y;exact⟨t,z,Y⟩
   un:=λi hi=>by
    rcases uQ i ops.size with h|h
    .exact List.mem_range.2 h
    .simp[M1,Nat.not_lt.2 h]at hi
   Mr:=asZ ..
   vp:=aoL hi
   closed:=λd k y _=>by
    rcases uQ d ops.size with h|h
    .simp[M1,h]at y
    .simp[M1,Nat.not_lt.2 h]at y}
def W5(u:∀f c,Γ f=O c->Sound P f c){E:Env}{Q:Exit->Act->World->Prop}{S Sn:aq}{D:aW}{β:bp}{a:Act}{w:World}{fs:List FP}
  (h1:fs.length=ops.toList.length) (k:s5 P Γ ops base (rows 0 ops.toList fs) S Sn) (y:indep ops fs=ab) (h:St E D β S a w)
  (r:∀D β a w,St E D β Sn a w->Q .normal a w):wpAny P .any ops Q ops.size (sb ops.size ah) a {w with drawn:=w.drawn+1}:=by
 simp[indep,bC]at y;have e:ops.toList.take ops.size=ops.toList:=nE aj;have no:∀{j o},ops.size<=j->ops[j]? =O o->False:=λz x=>by have:=(Array.getElem?_eq_some_iff.1 x).1;lia
 exact asl u (gL _) (by rw[e];exact h1) (by rw[e];exact k) y.1 y.2 h (λh=>by lia) (λj o z x=>(no (Nat.le_of_lt z) x).elim) (λo x=>(no (gL _) x).elim) λ_=>r
end
def FR(r:Option Nat):={ke with round:=r}
def aym:FR ae=ke:=rfl
def ayn(l:Nat):Fence.wide.inRound l=FR (O l):=rfl
def ak0{r:Option Nat}{n:Nat}{P:Program}{f:FuncId}{args:Array Value}{w:World}{R:Ending->World->Prop}(h:Calls P f args w R):CallsIn (FR r) n P f args w R:=by have x:=callsIn_wide (n:=n).2 h;exact⟨trivial,λe _=>x.2 e<|room_wide _⟩
section
variable{P:Program}{ops:Array Oper}{Q:Exit->Act->World->Prop}
def adQ{r:Option Nat}{o:Oper}(k:Dt o.op=ah){a:Act}{w:World}{K:Act->World->Prop}(h:o.wp P a w K Q):o.wpIn (FR r) 0 P a w K Q:=by
 refine⟨λ_ _=>trivial,?_⟩;have y:o.semAt (FR r).round a.eval=execOp a.eval o:=by
  cases r with
  |none=>rfl
  |some l=>exact Oper.semAt_some l _ _ λc i=>by rw[i]at k;cases k
 rw[y];unfold yF at h;generalize (execOp a.eval o).run P w=x at h;cases x with
 |ok j g=>
  cases j with
  |enter f args=>exact⟨λz=>by simp[FR,ke]at z,ak0 h⟩
  |row row args=>
   refine⟨λz=>by simp[FR,ke]at z,?_⟩;intro c m _;let⟨v,e,u,y⟩:=(h) c m;exact⟨v,e,u,stepsIn_wide.2 y⟩
  |value v=>exact h
  |skip=>exact h
  |defer d=>exact h
  |_=>exact(h).elim
 |halt x g=>cases x<;>exact h
def JM(u:¬LetsOut Q)(j:H8 ops=ab){r:Option Nat}:∀y z a w,wpAny P .any ops Q y z a w->wpAnyIn (FR r) 0 P .any ops Q y z a w:=by
 intro y;induction y with
 |zero=>intro z a w h;exact h
 |succ y n=>
  intro z a w h;refine⟨h.1,λi c=>?_⟩;have x:=wpOp_mono (n<|z.setIfInBounds i ab)<|h.2 i c;unfold wpOp at x;unfold wpOpIn;split
  .rename_i e;rw[e]at x;exact x
  .rename_i o e
   rw[e]at x;simp at x;split
   .rename_i k
    rw[I k]at x;have v:Dt o.op=ah:=by
     have:=List.all_eq_true.1 j o<|Array.mem_toList_iff.2<|Array.mem_of_getElem? e;simpa using this
    exact adQ v<|x.resolve_right λh=>u h.2
   .rename_i k
    rw[V k]at x;exact⟨λ_ _=>trivial,x⟩
def KP(z:¬LetsOut Q){r:Option Nat}:∀l,(l.all λo=> !Dt o.op)=ab->∀a w,wpList P ops Q l a w->wpListIn (FR r) 0 P ops Q l a w
 | [],_,a,w,h=>h
 |o::l,x,a,w,h=>by
  simp only[uR,bC,pR]at x;have e:=KP z (r:=r) l x.2;unfold wpList at h;unfold wpListIn;split
  .rename_i y
   rw[I y]at h;exact adQ x.1<|Oper.wp_mono e<|h.resolve_right λh=>z h.2
  .rename_i y
   rw[V y]at h;exact⟨λ_ _=>trivial,e _ _ h⟩
end
def lN(β:bp)(g:Nat):Prop:=∃l b L,x l=O b/\β l=O L/\L.nil=ah/\L.g=g
def Uy:Obj->Bool
 |.cells _ _ _=>ah
 |.map _ _=>ah
 |_=>ab
def gk.aFw{D:aW}{w:World}{β:bp}{L:Loc}{b:bm}(h:gk D w β L b)(z:L.nil=ah):∃o,w.heap[L.g]? =O o/\Uy o=ah:=by
 cases b with
 |cells f q=>let⟨_,m,h,_⟩:=h;exact⟨_,h,rfl⟩
 |iA f d=>let⟨_,_,m,h,_⟩:=h;exact⟨_,h,rfl⟩
 |row f d=>
  obtain⟨_,_,h|⟨_,_,_,m,e,fr,h,_⟩⟩:=h
  .grind
  .exact⟨_,h,rfl⟩
 |mp i c es=>let⟨_,m,y,j,h,_⟩:=h;exact⟨_,h,rfl⟩
 |fr f A=>
  obtain⟨_,_,_,_,h|⟨g,p,k,v,x,_,k3,_⟩⟩:=h
  .have:=h.1;unfold Loc.val at this;rw[z]at this;cases this
  .unfold Loc.val at x
   rw[z]at x;simp only[rz,xi,Value.slice.injEq,Option.some.injEq,Addr.mk.injEq]at x;rw[<-x.1.1]at k3;exact⟨_,k3,rfl⟩
 |ob f r s=>let⟨_,a,u,h,_⟩:=h;exact⟨_,h,rfl⟩
 |rc f wd n q=>
  obtain⟨_,_,A,_,_,h|⟨_,_,_,m,e,fr,h,_⟩⟩:=h
  .grind
  .exact⟨_,h,rfl⟩
section
variable{E:Env}{D:aW}{β:bp}{S:aq}{a:Act}{w:World}
def St.R_(h:St E D β S a w){g:Nat}(r:lN S.H β g):∃o,w.heap[g]? =O o/\Uy o=ah:=by obtain⟨l,b,L,y,z,e,rfl⟩:=r;let⟨u,x,k⟩:=h.hp l b y;rw[z]at x;cases x;exact k.aFw e
def St.vi(h:St E D β S a w){g:Nat}(e:lN S.H β g):g<w.heap.size/\¬D g/\(E.w0.heap.size<=g\/E.Wr g):=by obtain⟨l,b,L,x,y,z,rfl⟩:=e;exact h.eJ l b L x y z
def St.world(h:St E D β S a w){w':World}(v:w.heap.size<=w'.heap.size)(r:w'.os=w.os)(i:w'.tape=w.tape)(u:w'.output=w.output)
  (j:∀g,D g->w'.heap[g]? =w.heap[g]?) (hB:∀g,lN S.H β g->w'.heap[g]? =w.heap[g]?) (z:∀g,g<E.w0.heap.size->¬E.Wr g->w'.heap[g]? =w.heap[g]?):=
 have G:=⟨λ_ h=>h,j,λ_ _ h=>h⟩
 {h with
  tm:=λt=>(h.tm t).mono G
  hp:=λl b e=>by
   let⟨L,x,y⟩:=h.hp l b e;exact⟨L,x,y.mono G b λk=>hB _ ⟨l,b,L,e,x,k,rfl⟩⟩
  eJ:=λl b L e n k=>by
   let⟨x,y⟩:=h.eJ l b L e n k;exact⟨ng x v,y⟩
  eZ:=⟨λg c=>ng (h.eZ g c) v,h.eZ.laid.qB G.d G.h⟩
  os:=r.trans h.os,tape:=i.trans h.tape,output:=u.trans h.output
  grow:=sY h.grow v
  block:=λg x y=>(z g x y).trans<|h.block g x y}
def St.putObj(h:St E D β S a w){r:Nat}{o:Obj}(z:Obj)(j:w.heap[r]? =O o)(i:Uy o=ab)(k:¬D r)(h0:E.w0.heap.size<=r):St E D β S a (w.putObj r z):=by
 have y:∀{g},g≠r->(w.putObj r z).heap[g]? =w.heap[g]? :=λx=>CE x;refine h.world aj rfl rfl rfl (λg x=>y λe=>k<|e▸x) (λg x=>y λe=>?_) (λg x _=>y λe=>?_)
 .obtain⟨n,u,v⟩:=h.R_ x
  grind
 .omega
def St.ZP(h:St E D β S a w)(o:Obj):St E D β S a (w.alloc o):=by have x:∀{g},g<w.heap.size->(w.alloc o).heap[g]? =w.heap[g]? :=λy=>nY w o _ y;exact h.world aj rfl rfl rfl (λg y=>x<|h.eZ g y) (λg y=>x (h.vi y).1) (λg y _=>x<|ng y h.grow)
def St.act(h:St E D β S a w){a':Act}(x:a'.tmps=a.tmps):St {E with df:=a'.defers} D β S a' w:=
 {h with size:=by rw[x];exact h.size,tm:=λt=>by rw[x];exact h.tm t,df:=rfl}
def St.re(h:St E D β S a w){E':Env}(x:E'.w0=w)(i:∀g,lN S.H β g->E'.Wr g)(r:∀g,E'.D0 g↔D g)(n:∀l L,E'.G l->β l=O L->E'.gB l=O L)
  (v:∀l,E'.G l->S.U l=ab) {a':Act} (u:a'.tmps=a.tmps) (j:a'.defers=E'.df):St E' D β S a' w:=
 {size:=by rw[u];exact h.size
  tm:=λt=>by rw[u];exact h.tm t
  hp:=h.hp
  eJ:=λl b L z y k=>⟨(h.eJ l b L z y k).1,(h.eJ l b L z y k).2.1,.inr<|i _ ⟨l,b,L,z,y,k,rfl⟩⟩
  inj:=h.inj,eZ:=h.eZ
  d0:=λg e=>(r g).1 e
  d1:=λg e=>.inl<|(r g).2 e
  ib:=h.ib
  os:=by rw[x],tape:=by rw[x],output:=by rw[x]
  grow:=by rw[x];exact gL _
  block:=λg _ _=>by rw[x]
  df:=j,low:=v,k9:=n}
def St.back{E E':Env}{D D':aW}{β β':bp}{S v:aq}{a a':Act}{w w':World}(h0:St E D β S a w)(h1:St E' D' β' v a' w')(h:E'.w0=w)
  (r:∀g,E'.Wr g->E.w0.heap.size<=g\/E.Wr g) (i:∀g,E'.D0 g↔D g) (j:∀l,E.G l->E'.G l) (d:∀l L,E.G l->E'.gB l=O L->E.gB l=O L):St {E with df:=a'.defers} D' β' v a' w':=
 have x:=h0.grow
 {size:=h1.size,tm:=h1.tm,hp:=h1.hp
  eJ:=λl b L n e c=>by
   let⟨u,z,k3⟩:=h1.eJ l b L n e c;refine⟨u,z,?_⟩;rcases k3 with k3|k3
   .rw[h]at k3;exact .inl<|sY x k3
   .exact r _ k3
  inj:=h1.inj,eZ:=h1.eZ
  d0:=λg x=>h1.d0 g<|(i g).2<|h0.d0 g x
  d1:=λg k=>by
   rcases h1.d1 g k with k|k|k
   .exact h0.d1 g<|(i g).1 k
   .rw[h]at k;exact .inr<|.inl<|sY x k
   .exact .inr<|r g k
  ib:=h1.ib
  os:=by rw[h1.os,h,h0.os],tape:=by rw[h1.tape,h,h0.tape],output:=by rw[h1.output,h,h0.output]
  grow:=by have:=h1.grow;rw[h]at this;exact sY x this
  block:=λg u z=>by
   have:=h1.block g c9 λk=>by
    rcases r g k with k|k
    .grind
    .exact z k
   rw[this,h];exact h0.block g u z
  df:=rfl
  low:=λl y=>h1.low l<|j l y
  k9:=λl L y e=>d l L y<|h1.k9 l L (j l y) e}
end
structure JD (z:Nat) (bs:List Deferred) (E:Env):Prop where
 le:z<=E.w0.heap.size
 ok:∃ms:List Nat,E.df=ms.map (fun m=>{target:=.collected m,args:=#[]})++bs/\ms.Nodup/\∀m∈ms,z<=m/\m<E.w0.heap.size/\E.w0.heap[m]? =O (.deferred (O []))/\¬E.D0 m/\¬E.Wr m
structure iO (E E':Env):Prop where
 back:∀df D β S a w,St {E' with df:=df} D β S a w->St {E with df:=df} D β S a w
 marks:∀z bs,JD z bs E->JD z bs E'
 g:∀l,E'.G l->E.G l
def iO.refl(E:Env):iO E E:=⟨λ_ _ _ _ _ _ h=>h,λ_ _ h=>h,λ_ h=>h⟩
def iO.trans{A B C:Env}(h:iO A B)(k:iO B C):iO A C:=
 ⟨λy D β S a w r=>h.back y D β S a w<|k.back y D β S a w r,λz x u=>k.marks z x<|h.marks z x u,λl e=>h.g l<|k.g l e⟩
def iO.st{E E':Env}(h:iO E E'){D:aW}{β:bp}{S:aq}{a:Act}{w:World}(x:St E' D β S a w):St {E with df:=a.defers} D β S a w:=by have y:=x.df;rw[y];exact h.back E'.df D β S a w x
def ayX(h:cf)(w w':World):Prop:=w'.heap.size=w.heap.size/\w'.os=w.os/\w'.tape=w.tape/\w'.output=w.output/\∀g,g∉h->w'.heap[g]? =w.heap[g]?
def api{n:Nat}{fn:Func}{x:Array Value}{R:Ending->World->Prop}{k:List Deferred}{u:FrameMode}(i:u≠.run):∀y w,y.Nodup->(∀m∈y,w.heap[m]? =O (.deferred<|O []))->
  (∀w',ayX y w w'->LeavesInM ke n z fn x R k u w')->
  LeavesInM ke n z fn x R (y.map (λm=>{target:=.collected m,args:=#[]})++k) u w
 | [],w,_,_,h=>h w ⟨rfl,rfl,rfl,rfl,λ_ _=>rfl⟩
 |m::y,w,o,hm,h=>by
  have v:=List.nodup_cons.1 o;refine⟨i,.inl ⟨m,_,rfl,run_takeDeferred<|hm m aj,api i y _ v.2 (λj r=>?_) λw' q=>h w' ?_⟩⟩
  .have p:j≠m:=λe=>v.1<|e▸r
   rw[CE p];exact hm j<|by simp[r]
  .obtain⟨a,b,c,d,f⟩:=q
   refine⟨by rw[a];simp,b,c,d,λg P=>?_⟩;simp[nZ,not_or]at P;rw[f g P.2,CE P.1]
def aqO{n:Nat}{fn:Func}{R:Ending->World->Prop}{j:List Deferred}{u:FrameMode}(G:u≠.run){E E':Env}(l:JD E.w0.heap.size j E)(b:iO E E'){D:aW}{β:bp}{S:aq}{a:Act}{w:World}(y:St E' D β S a w)
  (h:∀w',St {E with df:=[]} D β S {a with defers:=[]} w'->LeavesInM ke n z fn a.tmps R j u w'):LeavesInM ke n z fn a.tmps R a.defers u w:=by
 let⟨L,e,B,F,d⟩:=b.marks _ _ l;rw[y.df,B];have A:=b.st y;have c:∀m∈e,w.heap[m]? =O (.deferred<|O []):=λm x=>by
  let⟨I,f,k3,J,o⟩:=d m x;rw[y.block m f o,k3]
 have t:∀m∈e,¬D m:=λm x i=>by
  let⟨I,f,k3,J,o⟩:=d m x;rcases y.d1 m i with k|k|k
  .grind
  .omega
  .grind
 have hB:∀m∈e,¬lN S.H β m:=λm x v=>by
  let⟨M,k,C⟩:=y.R_ v;rw[c m x]at k;cases k;cases C
 apply api G e w F c λw' N=>h w' ?_;let⟨K,p,q,s,r⟩:=N;apply St.world ?_ Y p q s (λg P=>r g λx=>t g x P) (λg P=>r g λx=>hB g x P) λg P _=>r g λx=>?_
 .exact A.act (a':={a with defers:=[]}) rfl
 .grind
def aKw{n:Nat}{fn:Func}{R:Ending->World->Prop}{E E':Env}(x:JD E.w0.heap.size [] E)(y:iO E E'){D:aW}{β:bp}{S:aq}{a:Act}{w:World}(P:St E' D β S a w)
  (h:∀w',St {E with df:=[]} D β S {a with defers:=[]} w'->∃v,(results fn a.tmps).run z w'=.ok v w'/\R (.returned v) w'):LeavesInM ke n z fn a.tmps R a.defers .returning w:=
 aqO aj x y P h
def XE.ex:XE->Exit
 |.normal=>.normal
 |.exit id=>.exit id
 |.ret=>.ret
def XE.code:XE->Code
 |.normal=>.skip
 |.exit id=>.exit id
 |.ret=>.ret
def acI:∀{e:lW} {t:Nat} {x:SV},cu e t=O x->∀k∈ids x,k∈qA e
 |(i,y)::r,t,x,h,k,hk=>by
  simp[cu]at h;simp[qA,jv];cases z:ap t i
  .rw[z]at h;exact .inr<|acI h k hk
  .rw[z]at h;cases h;exact .inl hk
 | [],t,x,h,_,_=>by cases h
def HY{hp:bN}{l:Nat}{x:Option Nat}(h:cu (xS hp) l=O x):x=O l/\l∈hp.map (·.1):=by have:=pA h;unfold xS at this;grind
def aMa{hp:bN}{β:bp}{l:Nat}{L:Loc}(h:jO (xS hp) hp β l=O L):β l=O L/\l∈hp.map (·.1):=by
 unfold jO at h;cases e:cu (xS hp) l with
 |none=>rw[e]at h;cases h
 |some x=>
  obtain⟨rfl,y⟩:=HY e;grind
def leg{E E':Env}{D D':aW}{β β':bp}{S x:aq}{a a':Act}{w w':World}(h0:St E D β S a w)(y:E'.w0=w)(z:∀g,E'.Wr g->lN S.H β g)(r:∀g,E'.D0 g->D g)(h1:St E' D' β' x a' w')
  {g:Nat} (u:g<w.heap.size) (e:¬lN S.H β g):w'.heap[g]? =w.heap[g]? /\(D' g->D g)/\¬lN x.H β' g:=by
 refine⟨?_,λh=>?_,λh=>?_⟩
 .have:=h1.block g c9 λh=>e<|z g h
  rw[this,y]
 .rcases h1.d1 g h with k|k|k
  .grind
  .grind
  .grind
 .rcases(h1.vi h).2.2 with k|k
  .grind
  .grind
def Nk(x:Env)(h:Nat)(X:aW)(y:aq)(W:World):Prop:=
 ∃r e u,St x r e y u W/\¬r h/\¬r (h+1)/\h+1<W.heap.size/\¬X h/\¬X (h+1)/\∀g,X g->g<W.heap.size/\¬r g/\¬lN y.H e g/\(x.w0.heap.size<=g\/x.Wr g)
def apS{u:Env}{y:Nat}{X:aW}{v:aq}{W z:World}(h:Nk u y X v W)(t:dv X W z):Nk u y (more X W z) v z/\z.heap[y]? =W.heap[y]? /\z.heap[y+1]? =W.heap[y+1]? :=by
 let⟨o,m,p,x,j,q,n,x1,f,i⟩:=h;let⟨a,b,c,d,k⟩:=t;refine⟨⟨o,m,p,?_,j,q,Y,?_,?_,?_⟩,k _ Y x1,k _ n f⟩
 .refine x.world a b c d (λg e=>k g (x.eZ g e) λh=>(i g h).2.1 e) (λg e=>k g (x.vi e).1 λh=>(i g h).2.2.1 e) λg r w=>k g (ng r x.grow) λh=>?_
  grind
 .rintro(h|h)
  .grind
  .omega
 .rintro(h|h)
  .grind
  .omega
 .rintro g (h|⟨r,w⟩)
  .grind
  .refine⟨w,λh=>?_,λh=>?_,.inl<|sY x.grow r⟩
   .have:=x.eZ g h;lia
   .have:=(x.vi h).1;lia
def aJz{D:aW}{w:World}{β:bp}(x:Value):F D w β (SV.Px x) x:=by
 unfold SV.Px;split
 .rename_i h
  refine⟨h.toList,aj,?_⟩;have:=Z.map (D:=D) (w:=w) (β:=β) SV.v id (λx=>by simp[F,id]) h.toList;simpa using this
 .rfl
def St.bind{E:Env}{D:aW}{β:bp}{w:World}:∀y xs {S:aq} {a:Act},(y.all λp=>cK p S.n)=ab->St E D β S a w->
  St E D β (R6 y xs S) {a with tmps:=(y.zip xs).foldl (λt (p,v)=>t.setIfInBounds p v) a.tmps} w
 | [],xs,S,a,_,h=>by simpa [R6,R5]using h
 |p::y,[],S,a,_,h=>by simpa [R6,R5]using h
 |p::y,x::xs,S,a,hp,h=>by simp[uR,bC]at hp;have z:=h.put (dst:=some p) (by simpa using hp.1)<|aJz x;exact St.bind y xs (by simpa [aq.put]using hp.2) z
theorem akY{P:Program}{f:FuncId}(h:uc P f=ab)(args:Array Value)(w:World):(callFunc f args).run P w=.ok (.enter f args) w:=by
 unfold uc at h;split at h
 ·rename_i fn y
  simp only[bC,pR]at h;have x:fn.body.isNone=ah:=by simp_all
  simp only[callFunc,fX,run_program,gM,y,h.1,x,rz,xi,iV]
 ·cases h
def anA(h:um l y=ab){k:Nat}(x:k∈y):∃b,l k=O b:=by have:=List.all_eq_true.1 h k x;grind
def apu{α:Type}:∀(A B:List (Nat×α)) k,cu (A++B) k=match cu A k with
  |some x=>O x
  |none=>cu B k
 | [],_,_=>rfl
 |(i,x)::r,B,k=>by
  simp[yw,cu];cases ap k i
  .exact apu r B k
  .rfl
def UR{h:bN}{H:Nat}{b:bm}(x:FA l h H=O b):(H,b)∈h\/l H=O b:=by
 unfold FA at x;split at x
 .rename_i y e;cases x;exact .inl<|pA e
 .grind
def aDw{h:bN}{H:cf}(x:um l H=ab):um (FA l h) H=ab:=by apply List.all_eq_true.2 λk y=>?_;let⟨b,z⟩:=anA x y;unfold FA;grind
def St.ay8{E:Env}{D':aW}{β':bp}{S:aq}{a:Act}{W:World}(h:St E D' β' S a W)(hT:∀t,S.T t=.any){v M:bN}{sT:lW}{q:bp}{D X:aW}
  (A:∀g,X g->g<W.heap.size/\¬D' g/\¬lN S.H β' g/\(E.w0.heap.size<=g\/E.Wr g)) (R:∀g,D g->D' g) (he:zY q D X W v) (Z:BY M sT S.U v=ab) (hG:∀l,E.G l->l<2000)
  (Y:∀l w L L',l∈M.map (·.1)->w∈M.map (·.1)->q l=O L->q w=O L'->L.nil=ah->L'.nil=ah->L.g=L'.g->l=w):
  ∃D2 i,St E D2 i {n:=S.n,T:=S.T,H:=FA S.H v,U:=UQ S.U v} a W/\(∀g,D2 g->D' g\/X g)/\(∀g,D' g->D2 g)/\∀l,l∈v.map (·.1)->i l=q l:=by
 let⟨o,J,hb⟩:=he;unfold BY at Z;simp only[bC]at Z;have K:∀l,l∈v.map (·.1)->l∈M.map (·.1)/\2000<=l/\S.U l=ah:=λl y=>by
  obtain⟨x,hx,rfl⟩:=List.mem_map.1 y;have:=List.all_eq_true.1 Z.2 x hx;simp[bC,pR]at this;refine⟨BA.1 this.1.1.2,?_,this.2⟩;apply Nat.le_of_not_lt λh=>?_;have u:cK x.1 2000=ab:=yB h;rw[this.1.2]at u;cases u
 have xQ:=λl y=>h.ib l (K l y).2.2;have s:∀l b,S.H l=O b->l∉v.map (·.1):=λl b y m=>by
  let⟨L,k,_⟩:=h.hp l b y;rw[xQ l m]at k;cases k
 obtain⟨i,Au⟩:∃i,i=λl=>if l∈v.map (·.1)then q l else β' l:=⟨_,rfl⟩;have B:∀l,l∈v.map (·.1)->i l=q l:=λl y=>by rw[Au];exact I y
 have c:∀l,l∉v.map (·.1)->i l=β' l:=λl y=>by rw[Au];exact V y
 have r:∀{l b},(l,b)∈v->l∈v.map (·.1):=λy=>List.mem_map.2 ⟨_,y,rfl⟩;have G:jx D' W β' (λg=>D' g\/o g) W i:=⟨λ_ h=>.inl h,λ_ _=>rfl,λl L e=>by
  rw[c l λm=>by rw[xQ l m]at e;cases e];exact e⟩
 have G0:jx o W (λ_=>ae) (λg=>D' g\/o g) W i:=⟨λ_ h=>.inr h,λ_ _=>rfl,λl L e=>by cases e⟩;have C:∀l b,(l,b)∈v->∃L,i l=O L/\gk (λg=>D' g\/o g) W i L b/\(L.nil=ah->¬o L.g/\X L.g):=λl b y=>by
  let⟨L,k,u,d⟩:=hb l b y;exact⟨L,by rw[B l<|r y];exact k,u.mono G0 b λ_=>rfl,λp=>⟨(d p).1,(d p).2.1⟩⟩
 refine⟨λg=>D' g\/o g,i,?_,λg z=>?_,λg z=>.inl z,B⟩
 .exact{
   size:=h.size
   tm:=λt=>by simp[hT,F]
   hp:=λl b y=>by
    rcases UR y with y|y
    .obtain⟨L,k,u,_⟩:=C l b y
     exact⟨L,k,u⟩
    .obtain⟨L,k,u⟩:=h.hp l b y
     exact⟨L,G.b _ _ k,u.mono G b λ_=>rfl⟩
   eJ:=λl b L y e p=>by
    rcases UR y with y|y
    .obtain⟨L',k,_,d⟩:=C l b y
     rw[e]at k;cases k;let⟨k1,N⟩:=d p;let⟨m1,m2,_,m4⟩:=A _ N;exact⟨m1,λh=>h.elim m2 k1,m4⟩
    .rw[c l<|s l b y]at e
     let⟨k1,N,k3⟩:=h.eJ l b L y e p;refine⟨k1,λh0=>h0.elim N λk=>?_,k3⟩;rcases(J _ k).1 with u|u
     .exact N<|R _ u
     .exact(A _ u).2.2.1 ⟨l,b,L,y,e,p,rfl⟩
   inj:=λl w b b' L L' y j e f P Q z=>by
    rcases UR y with y|y<;>rcases UR j with j|j
    .rw[B l<|r y]at e
     rw[B w<|r j]at f;exact Y l w L L' (K l<|r y).1 (K w<|r j).1 e f P Q z
    .obtain⟨L0,k,_,d⟩:=C l b y
     rw[e]at k;cases k;rw[c w<|s w b' j]at f;exact absurd ⟨w,b',L',j,f,Q,z.symm⟩ (A _ (d P).2).2.2.1
    .obtain⟨L0,k,_,d⟩:=C w b' j
     rw[f]at k;cases k;rw[c l<|s l b y]at e;exact absurd ⟨l,b,L,y,e,P,z⟩ (A _ (d Q).2).2.2.1
    .rw[c l<|s l b y]at e
     rw[c w<|s w b' j]at f;exact h.inj l w b b' L L' y j e f P Q z
   eZ:=⟨λg z=>z.elim (h.eZ g) λh=>(J g h).2,h.eZ.laid.qB (λ_=>.inl) λ_ _=>rfl⟩
   d0:=λg z=>.inl<|h.d0 g z
   d1:=λg z=>by
    rcases z with z|z
    .exact h.d1 g z
    .rcases(J g z).1 with u|u
     .exact h.d1 g<|R g u
     .exact .inr (A g u).2.2.2
   ib:=λl y=>by
    simp[UQ,qS]at y;rw[c l λm=>by rw[BA.2 m]at y;cases y.2];exact h.ib l y.1
   os:=h.os,tape:=h.tape,output:=h.output,grow:=h.grow,block:=h.block,df:=h.df
   low:=λl y=>by simp[UQ,h.low l y,uV]
   k9:=λl L y e=>by
    rw[c l λm=>by have:=(K l m).2.1;have:=hG l y;lia]at e;exact h.k9 l L y e}
 .rcases z with z|z
  .exact .inl z
  .exact(J g z).1.imp (R g) id
set_option maxHeartbeats 1000000
section
variable{P:Program}
def aSJ{E y:Env}{D D':aW}{β i β':bp}{S j z:aq}{a a':Act}{w W:World}{tm:lW}{n:Nat}
  (v:St E D β S a w) (M:St E D i j a w) (s:j.T=λt=>(cu tm t).getD .any) (K:S.n=n) (c:y.w0=w) (A:∀g,y.Wr g->lN S.H β g) (o:∀g,y.D0 g↔D g) (p:∀l,l<2000->y.G l) (N:y.gB=i)
  (m:(qA tm).all (λl=>cK l 2000)=ab) (B:um z.H (qA tm)=ab) (h:St y D' β' z a' W):
  St {y with df:=a.defers} D' β' {n:=n,T:=λt=>(cu tm t).getD .any,H:=z.H,U:=z.U} a W:=by
 have G:jx D w (nj i<|qA tm) D' W β':=by
  refine⟨λg e=>h.d0 g<|(o g).2 e,λg e=>?_,λl L u=>?_⟩
  .have:=h.block g (by rw[c];exact v.eZ g e) λk=>(v.vi<|A g k).2.1 e
   rw[this,c]
  .unfold nj at u
   split at u
   .rename_i d
    let⟨b,C⟩:=anA B d;let⟨Q,q,_⟩:=h.hp l b C;have J:=nh<|List.all_eq_true.1 m l d;have:=h.k9 l Q (p l J) q;grind
   .cases u
 exact{h with
  size:=by rw[<-K];exact v.size
  df:=rfl
  tm:=λt=>by
   simp;have r:=M.tm t;rw[s]at r;simp at r;cases f:cu tm t with
   |none=>simp[Ji,F]
   |some x=>
    rw[f]at r;exact F.mono G x<|F.cut x (λk I=>acI f k I) r}
def ajZ(r:Option Nat)(P:Program)(c:Code)(v:aq->(XE->aq->Prop)->Prop):Prop:=
 ∀E S K (D:aW) (β:bp) a w Q,(∀l,E.G l->l<2000)->
  v S K->St E D β S a w->(∀h e S D β a w,iO E h->K e S->St h D β S a w->Q e.ex a w)->c.wpIn (FR r) 0 P Q a w
def aM0{E:Env}(hG:∀l,E.G l->l<1000){b:Nat}{R:Ha}{S:aq}{gop:Operand}{ps:Array Tmp}{az bd:Code}{vas vbd:aq->(XE->aq->Prop)->Prop}{K:XE->aq->Prop}{D:aW}{β:bp}{a:Act}{w:World}{Q:Exit->Act->World->Prop}
  (h:Xd P b R S (S.ev gop) ps.toList vas vbd K) (hs:St E D β S a w) (acJ:∀l,ajZ (O l) P az vas) (aFn:∀l,ajZ (O l) P bd vbd)
  (hq:∀E' e S D β a w,iO E E'->K e S->St E' D β S a w->Q e.ex a w):(Code.rangeFunc gop ps az bd).wpIn (FR ae) 0 P Q a w:=by
 unfold Xd at h;have OB:=hs.ev gop;split at h
 rotate_left
 .exact h.elim
 rename_i f cap e;rw[e]at OB;simp only[F]at OB;obtain⟨us,vs,OB,mm,uz⟩:=OB;simp only[Z]at mm;subst mm;cases hc:ap f R.f&&ap b 1000&&qD (R.iR.map (·.1))&&nc (R.iR.map (·.1)) (kp R.cap)&&nc (R.iR.map (·.1)) (R.iR.flatMap λx=>na x.2)&&(ps.toList.all λp=>cK p S.n)&&um (cu<|R.hp 0) (qA R.tm)&&(qA R.tm).all λl=>cK l 2000
 .rw[hc]at h;exact h.elim
 rw[hc]at h;simp only[bo]at h;simp only[bC]at hc;obtain⟨⟨⟨⟨⟨⟨⟨c1,c2⟩,c3⟩,c4⟩,c5⟩,c6⟩,c7⟩,c8⟩:=hc;have c1:=cN c1;have c2:=cN c2;subst c1 c2;have c4:=tq.1 c4;have c5:=tq.1 c5;obtain⟨hI,hle,hp0,vJ,HN,Kp⟩:=h;have hle:=JL hle;simp only[jv]at hle;obtain⟨mG,mP,TC,aUW⟩:=Eo hG hs vJ;obtain⟨E1,nM⟩:∃E1:Env,E1=⟨w,lN S.H β,D,mG,λl=>l<2000,a.defers⟩:=⟨_,rfl⟩;have B01:∀g,lN (cu<|R.hp 0) mG g->lN S.H β g:=by
  rintro g ⟨l,b,L,k1,k2,k3,rfl⟩;obtain⟨a',b',_,k5,k6⟩:=TC l L k2 k3;exact⟨a',b',L,k5,k6,k3,rfl⟩
 have st0:St E D mG (lK 2000 S.n R.tm<|R.hp 0) a w:={mP with
  ib:=λl hl=>mP.ib l<|by
   simp only[lK,qS]at hl|-;refine⟨?_,hl.2⟩;cases hb:cK l 1000
   .rfl
   .have:cK l 2000=ab:=yB<|by have:=nh hb;omega
    rw[this]at hl;cases hl.1
  low:=λl hl=>by
   have:cK l 2000=ab:=yB (by have:=hG l hl;omega);simp only[lK,this,uV]}
 have apB:∀{n tm hp} l,l<2000->(lK 2000 n tm hp).U l=ab:=fun{n tm hp} l hl=>by
  have:cK l 2000=ab:=yB hl;simp only[lK,this,uV]
 have st1:St E1 D mG (lK 2000 S.n R.tm (R.hp 0)) a w:=by
  refine st0.re (by rw[nM]) (by rw[nM];exact B01) (by rw[nM];exact fun _=>xn) (by rw[nM];exact fun _ _ _ h=>h) (by rw[nM];exact fun l hl=>apB l hl) rfl (by rw[nM])
 have ahQ:∀{D' β' S' a' W},um S'.H (qA R.tm)=ab->St E1 D' β' S' a' W->St {E1 with df:=a.defers} D' β' {n:=S.n,T:=fun t=>(cu R.tm t).getD .any,H:=S'.H,U:=S'.U} a W:=
  fun k_ h=>aSJ hs st0 rfl rfl (by rw[nM]) (by rw[nM];exact fun _ h=>h) (by rw[nM];exact fun _=>xn) (by rw[nM];exact fun _ h=>h) (by rw[nM]) c8 k_ h
 have aDj:{E1 with df:=a.defers}=E1:=by rw[nM]
 rw[aDj]at ahQ;have toE:∀{D' β' S' a' W},St E1 D' β' S' a' W->St {E with df:=a'.defers} D' β' S' a' W:=by
  intro D' β' S' a' W h;refine hs.back h (by rw[nM]) (by rw[nM];exact fun g hg=>(hs.vi hg).2.2) (by rw[nM];exact fun _=>xn) (by rw[nM];exact fun l hl=>by have:=hG l hl;show l<2000;omega) ?_;rw[nM];exact fun l L hl hL=>st0.k9 l L hl hL
 have Of:E1.w0=w:=by rw[nM]
 have anu:∀g,E1.Wr g↔lN S.H β g:=by rw[nM];exact fun _=>xn
 refine wpIn_rangeFunc (fun fn xP=>?_);obtain⟨rec,sq⟩:∃rec:LoopState->Option Code->Loop,rec=fun st pe=>{state:=st,pending:=pe,fn,tmps:=a.tmps,params:=ps,assign:=az,body:=bd,defers:=w.heap.size}:=⟨_,rfl⟩;obtain⟨W1,By⟩:∃W1,(w.alloc (.deferred (O []))).alloc (.loop (rec .ready ae))=W1:=⟨_,rfl⟩;obtain⟨mk,BG⟩:∃mk,w.heap.size=mk:=⟨_,rfl⟩;have xJ:W1.heap[mk+1]? =O (.loop (rec .ready ae)):=by
  rw[<-By,<-BG];have:=axO (w.alloc (.deferred (O []))) (.loop (rec .ready ae));rwa[World.size_alloc]at this
 have Oh:W1.heap[mk]? =O (.deferred (O [])):=by
  rw[<-By,<-BG];exact(nY _ _ _ aj).trans (axO w _)
 have aVa:W1.heap.size=mk+2:=by rw[<-By,<-BG];simp
 have au6:∀g,g<mk->W1.heap[g]? =w.heap[g]? :=fun g hg=>by
  rw[<-By];exact(nY _ _ _ (by rw[World.size_alloc];omega)).trans (nY w _ _ Y)
 have stW:∀{E':Env} {D' β' S' a'},St E' D' β' S' a' w->St E' D' β' S' a' W1:=fun h=>by rw[<-By];exact(h.ZP _).ZP _
 have hio:W1.os=w.os/\W1.tape=w.tape/\W1.output=w.output:=by rw[<-By];exact⟨rfl,rfl,rfl⟩
 obtain⟨J,hJ⟩:∃J:Nat->(Nat->Prop)->World->Prop,J=fun i X W=>R.p i/\W.heap[mk+1]? =O (.loop (rec .ready ae))/\W.heap[mk]? =O (.deferred (O []))/\um (cu (R.hp i)) (qA R.tm)=ab/\Nk E1 mk X (lK 2000 S.n [] (R.hp i)) W:=⟨_,rfl⟩;obtain⟨Jx,EZ⟩:∃Jx:Nat->(Nat->Prop)->World->Prop,Jx=fun i X W=>∃e' S',e'≠XE.normal/\W.heap[mk+1]? =O (.loop (rec .done (O e'.code)))/\W.heap[mk]? =O (.deferred (O []))/\(um S'.H (qA R.tm)&&BY R.iR R.sT S'.U (R.mO i))=ab/\
  K e' (Nu S.n (R.tm++R.sT) S'.H S'.U (R.mO i))/\Nk E1 mk X S' W:=⟨_,rfl⟩
 obtain⟨qV,O8⟩:∃qV,qV=jO (xS R.iR) R.iR β:=⟨_,rfl⟩;have adw:∀l,cu (xS R.iR) l=O ae->Bb R.iR l:=fun l hl=>by obtain⟨h,_⟩:=HY hl;cases h
 have rP:Z D w qV R.cap vs:=by rw[O8];exact Pj adw (fun c hc=>hle c (.inl (.inl hc))) uz
 have OM:∀c∈BR (xS R.iR) S R.iR,c:=fun c hc=>hle c (.inl (.inr hc));have G1:jx D w qV D W1 qV:=⟨fun _ h=>h,fun g hg=>au6 g (by have:=hs.eZ g hg;omega),fun _ _ h=>h⟩;have Tn:∀l b,(l,b)∈R.iR->∃b' L,S.H l=O b'/\β l=O L/\qV l=O L/\gk D w qV L b:=by
  intro l b hl;rcases Dv OM hl with⟨a',b',e1,e2,e3⟩|⟨e1,_⟩
  ·obtain⟨h,mZ⟩:=HY e1
   cases h;obtain⟨L,k1,k2⟩:=hs.hp l b' e2;refine⟨b',L,e2,k1,?_,?_⟩
   ·rw[O8];unfold jO;rw[e1];exact k1
   ·rw[O8];exact Ud adw e3 k2
  ·obtain⟨h,_⟩:=HY e1
   cases h
 have anm:xr D W1 qV R.iR:=by
  refine⟨fun l b hl=>?_,fun l l' b b' L L' hl cn hL dg n1 n2 hg=>?_⟩
  ·obtain⟨b',L,k1,k2,k3,k4⟩:=Tn l b hl
   refine⟨L,k3,k4.mono G1 b fun hn=>au6 _ ?_,fun hn=>?_⟩
   ·have:=(hs.eJ l b' L k1 k2 hn).1;omega
   ·obtain⟨j1,j2,_⟩:=hs.eJ l b' L k1 k2 hn
    exact⟨j2,Y⟩
  ·obtain⟨b1,L1,k1,k2,k3,_⟩:=Tn l b hl
   obtain⟨b2,L2,j1,j2,j3,_⟩:=Tn l' b' cn;rw[hL]at k3;cases k3;rw[dg]at j3;cases j3;exact hs.inj l l' b1 b2 _ _ k1 j1 k2 j2 n1 n2 hg
 have hX0:∀g,nJ qV R.iR g->lN S.H β g/\¬lN (cu (R.hp 0)) mG g:=by
  rintro g ⟨l,b,L,k1,k2,k3,rfl⟩;obtain⟨b',L',i1,i2,i3,_⟩:=Tn l b k1;rw[k2]at i3;cases i3;refine⟨⟨l,b',L,i1,i2,k3,rfl⟩,?_⟩;rintro⟨l2,b2,L2,j1,j2,j3,j4⟩;obtain⟨a',c',m1,m2,m3⟩:=TC l2 L2 j2 j3;have:=hs.inj a' l c' b' L2 L m2 i1 m3 i2 j3 k3 j4;subst this;exact m1 (List.mem_map.2 ⟨(a',b),k1,rfl⟩)
 have hJ0:J 0 (nJ qV R.iR) W1:=by
  rw[hJ];refine⟨hp0,xJ,Oh,c7,D,mG,a,?_,fun h=>?_,fun h=>?_,Y,fun h=>?_,fun h=>?_,fun g hg=>?_⟩
  ·have h1:=stW st1
   exact{h1 with tm:=fun t=>by simp only[lK,cu,Ji,F]}
  ·have:=hs.eZ _ h;omega
  ·have:=hs.eZ _ h;omega
  ·have:=(hs.vi (hX0 _ h).1).1;omega
  ·have:=(hs.vi (hX0 _ h).1).1;omega
  ·obtain⟨k1,k2⟩:=hX0 g hg
   have:=hs.vi k1;exact⟨Y,this.2.1,k2,.inr ((anu g).2 k1)⟩
 have abI:=hI.2 (mk+1) D qV W1 vs (Z.mono G1 _ rP) anm ⟨fun g hg=>by have:=hs.eZ g hg;omega,hs.eZ.laid.qB G1.d G1.h⟩ (fun l hl=>by
   rw[O8]at hl;cases hx:jO (xS R.iR) R.iR β l with
   |none=>exact absurd hx hl
   |some L=>exact(aMa hx).2) J Jx
  (fun i X V1 V2 h t=>by
    rw[hJ]at h|-;obtain⟨k1,k2,k3,k4,k5⟩:=h;obtain⟨m1,m2,m3⟩:=apS k5 t;exact⟨k1,m3.trans k2,m2.trans k3,k4,m1⟩)
  (fun i X V1 V2 h t=>by
    rw[EZ]at h|-;obtain⟨e',S',k0,k1,k2,k3,k4,k5⟩:=h;obtain⟨m1,m2,m3⟩:=apS k5 t;exact⟨e',S',k0,m3.trans k1,m2.trans k2,k3,k4,m1⟩)
  (fun i X V x hx hj=>by
    rw[hJ]at hj;obtain⟨j1,j2,j3,j4,D',β',a',bR,d1,d2,ai,x1,x2,hX⟩:=hj;have hi:i<R.xs.length:=(List.getElem?_eq_some_iff.1 hx).1;obtain⟨Aq,hlen,hv⟩:=HN i hi j1;rw[hx]at Aq;cases Aq;have hy:=run_yield (P:=P) (args:=(R.it i).toArray) j2 (by rw[sq];simpa using hlen);rw[sq]at hy;refine⟨fn,_,az,bd,hy,roundIn_of_wpIn (by trivial) ?_⟩;rw[ayn];have XO:=ahQ j4 bR;have aoi:∀g,(∃o:Obj,V.heap[g]? =O o/\Uy o=ab)->¬lN (cu (R.hp i)) β' g:=by
     rintro g ⟨o,ho,fF⟩ hb;obtain⟨o2,hc,An⟩:=bR.R_ hb;rw[ho]at hc;cases hc;rw[fF]at An;cases An
    have nb1:=aoi (mk+1) ⟨_,j2,rfl⟩;have nb0:=aoi mk ⟨_,j3,rfl⟩;obtain⟨Ea,si⟩:∃Ea:Env,Ea=⟨V,lN (cu (R.hp i)) β',D',β',fun l=>l<2000,[]⟩:=⟨_,rfl⟩;have sta:St Ea D' β' (lK 2000 S.n R.tm (R.hp i)) {a with defers:=[]} V:=
     XO.re (by rw[si]) (by rw[si];exact fun _ h=>h) (by rw[si];exact fun _=>xn) (by rw[si];exact fun _ _ _ h=>h) (by rw[si];exact fun l hl=>apB l hl) rfl (by rw[si])
    have stb:=St.bind ps.toList (R.it i) (S:=lK 2000 S.n R.tm (R.hp i)) (by simpa [lK]using c6) sta;have aD9:(ps.zip (R.it i).toArray).foldl (fun tmps (t,u)=>tmps.setIfInBounds t u) a.tmps=(ps.toList.zip (R.it i)).foldl (fun t (p,v)=>t.setIfInBounds p v) a.tmps:=by
     rw[<-axK,Array.toList_zip]
    simp only[aD9];refine acJ (mk+1) Ea _ _ D' β' _ V _ (by rw[si];exact fun l h=>h) hv stb fun E2 e2 S1 D2 cI a2 V2 BB sm iC=>?_;cases e2 with
    |exit id=>exact sm.elim
    |ret=>exact sm.elim
    |normal=>
    simp only at sm;have HO:=BB.st iC;have ac8:=fun{g}=>leg (E':={Ea with df:=a2.defers}) (g:=g) XO (by rw[si]) (by rw[si];exact fun g h=>h) (by rw[si];exact fun g h=>h) HO;have aEZ:St {E1 with df:=a2.defers} D2 cI S1 a2 V2:=XO.back HO (by rw[si]) (by
     rw[si];exact fun g hg=>(XO.vi hg).2.2) (by rw[si];exact fun _=>xn) (by rw[si,nM];exact fun _ h=>h) (by rw[si];exact fun l L hl hL=>bR.k9 l L hl hL)
    obtain⟨r1,r2,r3⟩:=ac8 (g:=mk+1) ai nb1;obtain⟨q1,q2,q3⟩:=ac8 (g:=mk) Y nb0;have aVb:V.heap.size<=V2.heap.size:=by have:=HO.grow;rw[si]at this;exact this
    have ab3:V2.os=V.os/\V2.tape=V.tape/\V2.output=V.output:=by
     have k1:=HO.os;have k2:=HO.tape;have k3:=HO.output;rw[si]at k1 k2 k3;exact⟨k1,k2,k3⟩
    have aou:=r1.trans j2;refine⟨_,run_beginRound aou (by rw[sq]),?_⟩;obtain⟨V3,Kg⟩:∃V3,V2.putObj (mk+1) (.loop {rec .ready ae with state:=.busy})=V3:=⟨_,rfl⟩;rw[Kg];have BL:St {E1 with df:=a2.defers} D2 cI S1 a2 V3:=by
     rw[<-Kg];exact aEZ.putObj _ aou rfl (fun h=>d2 (r2 h)) (by show E1.w0.heap.size<=mk+1;rw[Of];omega)
    have h3r:V3.heap[mk+1]? =O (.loop (rec .busy ae)):=by
     rw[<-Kg,YH Y,sq]
    have h3o:∀{g},g≠mk+1->V3.heap[g]? =V2.heap[g]? :=fun hg=>by rw[<-Kg];exact CE hg
    have aVc:V3.heap.size=V2.heap.size:=by rw[<-Kg];simp
    have ab4:V3.os=V2.os/\V3.tape=V2.tape/\V3.output=V2.output:=by rw[<-Kg];exact⟨rfl,rfl,rfl⟩
    obtain⟨Eb,tf⟩:∃Eb:Env,Eb=⟨V3,lN S1.H cI,D2,cI,fun l=>l<2000,a2.defers⟩:=⟨_,rfl⟩;have stc:St Eb D2 cI S1 a2 V3:=BL.re (by rw[tf]) (by rw[tf];exact fun _ h=>h) (by rw[tf];exact fun _=>xn) (by rw[tf];exact fun _ _ _ h=>h) (by rw[tf];exact fun l hl=>HO.low l (by rw[si];exact hl)) rfl (by rw[tf]);refine aFn (mk+1) Eb S1 _ D2 cI a2 V3 _ (by rw[tf];exact fun l h=>h) sm stc fun E3 e3 S' D3 β3 a3 V4 hd3 pr hs4=>?_;have KA:=hd3.st hs4;have ac9:=fun{g}=>leg (E':={Eb with df:=a3.defers}) (g:=g) BL (by rw[tf]) (by rw[tf];exact fun g h=>h) (by rw[tf];exact fun g h=>h) KA;have acr:St {E1 with df:=a3.defers} D3 β3 S' a3 V4:=BL.back KA (by rw[tf]) (by
     rw[tf];exact fun g hg=>(BL.vi hg).2.2) (by rw[tf];exact fun _=>xn) (by rw[tf,nM];exact fun _ h=>h) (by rw[tf];exact fun l L hl hL=>BL.k9 l L hl hL)
    have aE7:V3.heap.size<=V4.heap.size:=by have:=KA.grow;rw[tf]at this;exact this
    have ab5:V4.os=V3.os/\V4.tape=V3.tape/\V4.output=V3.output:=by
     have k1:=KA.os;have k2:=KA.tape;have k3:=KA.output;rw[tf]at k1 k2 k3;exact⟨k1,k2,k3⟩
    obtain⟨u1,u2,u3⟩:=ac9 (g:=mk+1) Y r3;obtain⟨t1,t2,t3⟩:=ac9 (g:=mk) Y q3;have Tj:V4.heap[mk+1]? =O (.loop (rec .busy ae)):=u1.trans h3r;have h4d:V4.heap[mk]? =O (.deferred (O [])):=by rw[t1,h3o Y,q1,j3]
    have aside:∀g,g<V.heap.size->g≠mk+1->¬lN (cu (R.hp i)) β' g->V4.heap[g]? =V.heap[g]? /\(D3 g->D' g)/\¬lN S'.H β3 g:=by
     intro g hg fF hb;obtain⟨k1,k2,k3⟩:=ac8 (g:=g) hg hb;obtain⟨m1,m2,m3⟩:=ac9 (g:=g) Y k3;exact⟨by rw[m1,h3o fF,k1],fun h=>k2 (m2 h),m3⟩
    have ending:∀(o:Obj),dv (fun g=>¬(X g\/D g)) V (V4.putObj (mk+1) o):=by
     intro o;refine⟨by simp;omega,?_,?_,?_,fun g hg hn=>?_⟩
     ·show V4.os=V.os;rw[ab5.1,ab4.1,ab3.1]
     ·show V4.tape=V.tape;rw[ab5.2.1,ab4.2.1,ab3.2.1]
     ·show V4.output=V.output;rw[ab5.2.2,ab4.2.2,ab3.2.2]
     ·have hn:X g\/D g:=mV fun h=>hn h
      have hD1:D g->D' g:=fun h=>bR.d0 g (by rw[nM];exact h);have fF:g≠mk+1:=by
       rintro rfl;rcases hn with h|h
       ·exact x2 h
       ·exact d2 (hD1 h)
      have hb:¬lN (cu (R.hp i)) β' g:=by
       rcases hn with h|h
       ·exact(hX g h).2.2.1
       ·exact fun hb=>(bR.vi hb).2.1 (hD1 h)
      rw[CE fF];exact(aside g hg fF hb).1
    have mid:∀(o:Obj) {S2:aq} {β4:bp} {a4:Act},St {E1 with df:=a4.defers} D3 β4 S2 a4 V4->(∀g,lN S2.H β4 g->lN S'.H β3 g)->Nk E1 mk X S2 (V4.putObj (mk+1) o):=by
     intro o S2 β4 a4 hS2 Tl;have n2:¬D3 (mk+1):=fun h=>d2 (r2 (u2 h));have h5:=(hS2.putObj o Tj rfl n2 (by show E1.w0.heap.size<=mk+1;rw[Of];omega)).act (a':={a4 with defers:=a.defers}) rfl;have e1:({({E1 with df:=a4.defers}:Env)with df:=a.defers}:Env)=E1:=by rw[nM]
     refine⟨D3,β4,{a4 with defers:=a.defers},e1▸h5,fun h=>d1 (q2 (t2 h)),n2,by simp;omega,x1,x2,fun g hg=>?_⟩;obtain⟨k1,k2,k3,k4⟩:=hX g hg;have fF:g≠mk+1:=fun e=>x2 (e▸hg);obtain⟨m1,m2,m3⟩:=aside g k1 fF k3;exact⟨by simp;omega,fun h=>k2 (m2 h),fun h=>m3 (Tl g h),k4⟩
    cases e3 with
    |normal=>
     simp only at pr;obtain⟨hpn,pr⟩:=pr;cases hh:um (cu (R.hp (i+1))) (qA R.tm)
     ·rw[hh]at pr;exact pr.elim
     rw[hh]at pr;simp only[bo]at pr;obtain⟨β4,hs5,aEn,_⟩:=Eo (E:={E1 with df:=a3.defers}) (by rw[nM];exact fun l h=>h) acr pr;refine⟨_,_,run_endRound ae Tj,ending _,.inl ⟨rfl,?_⟩⟩;rw[hJ];refine⟨hpn,?_,?_,hh,mid _ (S2:=lK 2000 S.n [] (R.hp (i+1))) (β4:=β4) (a4:={a with defers:=a3.defers}) ?_ ?_⟩
     ·rw[YH Y,sq];rfl
     ·rw[CE Y];exact h4d
     ·exact{hs5 with size:=hs.size,df:=rfl,tm:=fun t=>by simp only[lK,cu,Ji,F]}
     ·rintro g ⟨l,b,L,k1,k2,k3,rfl⟩
      obtain⟨a',b',_,k5,k6⟩:=aEn l L k2 k3;exact⟨a',b',L,k5,k6,k3,rfl⟩
    |exit id=>
     simp only at pr;cases hh:um S'.H (qA R.tm)&&BY R.iR R.sT S'.U (R.mO i)
     ·rw[hh]at pr;exact pr.elim
     rw[hh]at pr;simp only[bo]at pr;refine⟨_,_,run_endRound (O (.exit id)) Tj,ending _,.inr ⟨rfl,?_⟩⟩;rw[EZ];refine⟨.exit id,S',aj,?_,?_,hh,pr,mid _ acr fun g h=>h⟩
     ·rw[YH Y,sq];rfl
     ·rw[CE Y];exact h4d
    |ret=>
     simp only at pr;cases hh:um S'.H (qA R.tm)&&BY R.iR R.sT S'.U (R.mO i)
     ·rw[hh]at pr;exact pr.elim
     rw[hh]at pr;simp only[bo]at pr;refine⟨_,_,run_endRound (O .ret) Tj,ending _,.inr ⟨rfl,?_⟩⟩;rw[EZ];refine⟨.ret,S',aj,?_,?_,hh,pr,mid _ acr fun g h=>h⟩
     ·rw[YH Y,sq];rfl
     ·rw[CE Y];exact h4d)
  hJ0
 have fin:∀{D' β' S' a' W} (st:LoopState) (pe:Option Code),um S'.H (qA R.tm)=ab->¬D' mk->¬D' (mk+1)->mk+1<W.heap.size->W.heap[mk+1]? =O (.loop (rec st pe))->W.heap[mk]? =O (.deferred (O []))->St E1 D' β' S' a' W->
   ∃E2,iO E E2/\St E2 D' β' {n:=S.n,T:=fun t=>(cu R.tm t).getD .any,H:=S'.H,U:=S'.U} {a with defers:=[{target:=.collected mk,args:=#[]}]++a.defers} (W.putObj (mk+1) (.loop (rec .exhausted pe))):=by
  intro D' β' S' a' W st pe k_ n0 n1 ai hr hd bR;have h1:=ahQ k_ bR;have h2:=h1.putObj (.loop (rec .exhausted pe)) hr rfl n1 (by rw[Of];omega);have h3:=toE h2;have eE:({E with df:=a.defers}:Env)=E:=by rw[hs.df]
  have h3:St E D' β' _ a _:=eE▸h3;obtain⟨W4,hW4⟩:∃W4,W.putObj (mk+1) (.loop (rec .exhausted pe))=W4:=⟨_,rfl⟩;rw[hW4]at h3|-;have hd4:W4.heap[mk]? =O (.deferred (O [])):=by rw[<-hW4,CE Y];exact hd
  have aE7:W4.heap.size=W.heap.size:=by rw[<-hW4];simp
  obtain⟨E2,oi⟩:∃E2:Env,E2=⟨W4,lN S'.H β',D',β',E.G,[{target:=.collected mk,args:=#[]}]++a.defers⟩:=⟨_,rfl⟩;refine⟨E2,⟨?_,?_,by rw[oi];exact fun _ h=>h⟩,?_⟩
  ·intro df D5 β5 S5 a5 w5 h5
   have h0:St {E with df:=a.defers} D' β' {n:=S.n,T:=fun t=>(cu R.tm t).getD .any,H:=S'.H,U:=S'.U} a W4:=eE.symm▸h3;have:=h0.back h5 (by rw[oi]) (by rw[oi];exact fun g hg=>(h3.vi hg).2.2) (by rw[oi];exact fun _=>xn) (by rw[oi];exact fun _ h=>h) (by rw[oi];exact fun l L hl hL=>h3.k9 l L hl hL);rw[h5.df]at this;exact this
  ·rintro z bs ⟨hz,ms,ol,ko,OP⟩
   have kl:=hs.grow;refine⟨by rw[oi];show z<=W4.heap.size;omega,mk::ms,?_,List.nodup_cons.2 ⟨fun hm=>?_,ko⟩,?_⟩
   ·rw[oi]
    simp only[kd,List.singleton_append,yw,rB,List.cons.injEq,xo];rw[hs.df,ol]
   ·have:=(OP mk hm).2.1;omega
   ·intro m hm
    rw[oi];simp only[nZ]at hm;have nob:∀{m},W4.heap[m]? =O (.deferred (O []))->¬lN S'.H β' m:=fun hm hb=>by
     obtain⟨o2,k,An⟩:=h3.R_ hb;rw[hm]at k;cases k;cases An
    rcases hm with rfl|hm
    ·refine⟨Y,by show m<W4.heap.size;omega,hd4,n0,nob hd4⟩
    ·obtain⟨k1,k2,k3,k4,k5⟩:=OP m hm
     have hm4:W4.heap[m]? =O (.deferred (O [])):=by rw[h3.block m k2 k5,k3]
     refine⟨k1,by show m<W4.heap.size;omega,hm4,fun h=>?_,nob hm4⟩;rcases h3.d1 m h with j|j|j
     ·exact k4 j
     ·omega
     ·exact k5 j
  ·exact h3.re (by rw[oi]) (by rw[oi];exact fun _ h=>h) (by rw[oi];exact fun _=>xn) (by rw[oi];exact fun _ _ _ h=>h) (by rw[oi];exact fun l hl=>h3.low l hl) rfl (by rw[oi])
 have amF:∀{D' β' S' a' W X hE} (st:LoopState) (pe:Option Code),(um S'.H (qA R.tm)&&BY R.iR R.sT S'.U hE)=ab->¬D' mk->¬D' (mk+1)->mk+1<W.heap.size->¬X mk->¬X (mk+1)->
   (∀g,X g->g<W.heap.size/\¬D' g/\¬lN S'.H β' g/\(E1.w0.heap.size<=g\/E1.Wr g))->zY qV D X W hE->W.heap[mk+1]? =O (.loop (rec st pe))->W.heap[mk]? =O (.deferred (O []))->St E1 D' β' S' a' W->
   ∃E2 D2 cI,iO E E2/\St E2 D2 cI (Nu S.n (R.tm++R.sT) S'.H S'.U hE) {a with defers:=[{target:=.collected mk,args:=#[]}]++a.defers} (W.putObj (mk+1) (.loop (rec .exhausted pe))):=by
  intro D' β' S' a' W X hE st pe k_ n0 n1 ai x0 x1 hX aDk hr hd bR;rw[bC]at k_;obtain⟨k_,hk⟩:=k_;have acw:St E1 D' β' {S' with T:=fun _=>.any} a' W:={bR with tm:=fun t=>by simp only[F]};have Da:∀g,D g->D' g:=fun g hg=>bR.d0 g (by rw[nM];exact hg);obtain⟨D2,cI,iC,k1,k2,k3⟩:=acw.ay8 (fun _=>rfl) hX Da aDk hk (by rw[nM];exact fun l h=>h) (fun l l' L L' hl cn hL dg m1 m2 hg=>by
   obtain⟨b,hb⟩:=List.mem_map.1 hl;obtain⟨b',jy⟩:=List.mem_map.1 cn;obtain⟨hb,rfl⟩:=hb;obtain⟨jy,rfl⟩:=jy;exact anm.2 _ _ _ _ L L' hb jy hL dg m1 m2 hg)
  obtain⟨E2,BB,BL⟩:=fin st pe (aDw k_) (fun h=>(k1 _ h).elim n0 x0) (fun h=>(k1 _ h).elim n1 x1) ai hr hd iC;refine⟨E2,D2,cI,BB,{BL with tm:=fun t=>?_}⟩;simp only[Nu];rw[apu];have ht:=BL.tm t;simp only at ht;cases hx:cu R.tm t with
  |some x=>rw[hx]at ht;exact ht
  |none=>
   simp only;cases hy:cu R.sT t with
   |none=>simp only[Ji,F]
   |some x=>
    simp only[CG];have hm:=pA hy;have Dk:F D w qV x (a.tmps.getD t undef):=by
     rw[O8];exact Ph adw (ac7 (fun c hc=>hle c (.inr hc)) hm) (hs.tm t)
    have mZ:∀k∈ids x,k∈hE.map (·.1):=fun k oM=>by
     unfold BY at hk;simp only[bC]at hk;exact tq.1 hk.1.2 k (acI hy k oM)
    refine F.mono (?_:jx D w (nj qV (hE.map (·.1))) D2 _ cI) x (F.cut x mZ Dk);refine⟨fun g hg=>k2 g (Da g hg),fun g hg=>?_,fun l L hL=>?_⟩
    ·have OO:=hs.eZ g hg
     rw[CE Y];have:=bR.block g (by rw[Of];exact OO) (fun hw=>(hs.vi ((anu g).1 hw)).2.1 hg);rw[this,Of]
    ·unfold nj at hL
     split at hL
     ·rename_i An
      rw[k3 l An];exact hL
     ·cases hL
 refine⟨mk+1,[{target:=.collected mk,args:=#[]}],W1,{target:=.fn (.func R.f) vs.toArray,args:=#[.func (.yield (mk+1)) #[] #[]]},W1,R.f,
  (Value.func (.yield (mk+1)) #[] #[]::vs).toArray,W1,?_,?_,fun _ _=>trivial,?_,fun h=>by simp[FR,ke]at h,?_⟩
 ·rw[<-By,sq,<-BG];exact run_enterLoop_outer _ _ _ _ _
 ·simp only[resolve,OB]
  simp[go_sem]
 ·have:=akY (P:=P) hI.1 (Value.func (.yield (mk+1)) #[] #[]::vs).toArray W1
  simp[invoke,go_sem,this]
 ·refine ak0 (abI.mono ?_)
  rintro e W2 ⟨⟨v,rfl⟩,⟨X,hj,hE⟩|⟨X,i,hj,hE⟩⟩
  ·rw[hJ]at hj
   obtain⟨k1,k2,k3,k4,D',β',a',bR,d1,d2,ai,x1,x2,hX⟩:=hj;have Kp:=Kp k1;cases hk:BY R.iR R.sT (lK 2000 S.n [] (R.hp R.xs.length)).U (R.mO R.xs.length)
   ·rw[hk]at Kp;exact Kp.elim
   rw[hk,bo]at Kp;obtain⟨E2,D2,cI,BB,iC⟩:=amF .ready ae (by rw[bC];exact⟨k4,hk⟩) d1 d2 ai x1 x2 hX hE k2 k3 bR;refine⟨ae,_,by have:=run_endLoop (P:=P) k2 (by rw[sq];simp);rw[sq]at this;exact this,?_⟩;rw[sq]at iC;exact hq E2 .normal _ D2 cI _ _ BB Kp iC
  ·rw[EZ]at hj
   obtain⟨e',S',k0,k1,k2,k3,k4,D',β',a',bR,d1,d2,ai,x1,x2,hX⟩:=hj;obtain⟨E2,D2,cI,BB,iC⟩:=amF .done (O e'.code) k3 d1 d2 ai x1 x2 hX hE k1 k2 bR;refine⟨O e'.code,_,by have:=run_endLoop (P:=P) k1 (by rw[sq];simp);rw[sq]at this;exact this,?_⟩;rw[sq]at iC;cases e' with
   |normal=>exact absurd rfl k0
   |exit id=>exact wpIn_exit (hq E2 (.exit id) _ D2 cI _ _ BB k4 iC)
   |ret=>exact wpIn_ret (hq E2 .ret _ D2 cI _ _ BB k4 iC)
end
section
variable{P:Program}{Γ:ll}
def At(r:Option Nat)(b:Nat):Prop:=(r=ae/\b=1000)\/(∃l,r=O l/\b=2000)
def At.bd{r:Option Nat}{b:Nat}(h:At r b):r=ae\/ap b 1000=ah:=by
 rcases h with⟨h,_⟩|⟨l,_,rfl⟩
 .grind
 .exact .inr rfl
def awV(eF:∀f c,Γ f=O c->Sound P f c)(hm:P.follows .mixedOrders=ab){Ω:bO}(c:Code):∀r b k E S K (D:aW) (β:bp) a w Q,
  At r b->(∀l,E.G l->l<b)->vc P Γ Ω b k c S K->St E D β S a w->(∀E' e S D β a w,iO E E'->K e S->St E' D β S a w->Q e.ex a w)->c.wpIn (FR r) 0 P Q a w:=by
 have gd:∀{E E':Env} {b:Nat},(∀l,E.G l->l<b)->iO E E'->∀l,E'.G l->l<b:=λh d l hl=>h l<|d.g l hl;induction c with
 |skip=>intro r b k E S K D β a w Q B t h j i;simp[vc]at h;exact wpIn_skip<|i E .normal S D β a w (iO.refl E) h j
 |label l=>intro r b k E S K D β a w Q B t h j i;simp[vc]at h;exact wpIn_label<|i E .normal S D β a w (iO.refl E) h j
 |exit id=>intro r b k E S K D β a w Q B t h j i;simp[vc]at h;exact wpIn_exit<|i E (.exit id) S D β a w (iO.refl E) h j
 |ret=>intro r b k E S K D β a w Q B t h j i;simp[vc]at h;exact wpIn_ret<|i E .ret S D β a w (iO.refl E) h j
 |region id ops draw=>
  intro r b k E S K D β a w Q B t h j i;simp only[vc]at h;cases ko:H8 ops
  .rw[ko]at h;exact h.elim
  rw[ko]at h;simp only[bo]at h;obtain⟨Z,wN⟩:∃Z,Z=λe a w=>e≠.outgrown/\Q e a w:=⟨_,rfl⟩;have hL:¬LetsOut Z:=by
   rintro⟨a,w,h⟩;rw[wN]at h;exact h.1 rfl
  have Fg:∀D β S a w,K .normal S->St E D β S a w->Z .normal a w:=λD β S a w hk h=>by
   rw[wN];exact⟨aj,i E .normal S D β a w (iO.refl E) hk h⟩
  apply wpIn_mono (Q:=Z) ?_ (λe a w h=>by rw[wN]at h;exact h.2);cases draw
  .obtain⟨fs,Sn,h1,J,N⟩:=yN _ _ _ _ h
   exact MP<|KP hL _ ko _ _<|Sj eF (λD β a w h=>Fg D β Sn a w N h) _ _ _ _ _ _ _ _ h1 J j
  .obtain⟨fs,Sn,h1,J,N⟩:=yN _ _ _ _ h
   rw[rB]at N;cases hi:indep ops fs
   .rw[hi]at N;exact N.elim
   rw[hi]at N;exact MQ hm<|JM hL ko _ _ _ _<|W5 eF h1 J hi j λD β a w h=>Fg D β Sn a w N h
 |seq x y tp sr=>
  intro r b k E S K D β a w Q B t h j i;simp[vc]at h;have cut:∀u,aav b u S (vc P Γ Ω b k x) (vc P Γ Ω b (k+qd x) y) K->Code.wpIn (FR r) 0 P (.seq x y) Q a w:=by
   rintro u ⟨h1,J⟩;apply Jj<|tp r b k E S _ D β a w _ B t h1 j λE' e q D' β' a' w' s o A=>?_;cases e with
   |normal=>
    simp only at o;cases C:ap q.n S.n
    .rw[C]at o;exact o.elim
    .rw[C]at o
     let⟨z,hz,vJ⟩:=o;let⟨cI,iC,_⟩:=Eo (gd t s) A vJ;rw[cN C]at iC;exact sr r b _ E' _ K D' cI a' w' Q B (gd t s) (J z hz) iC λE2 e S D β a w J=>i E2 e S D β a w<|s.trans J
   |exit id=>exact i E' (.exit id) q D' β' a' w' s o A
   |ret=>exact i E' .ret q D' β' a' w' s o A
  cases L:SC Ω y with
  |none=>
   rw[L]at h;apply Jj<|tp r b k E S _ D β a w _ B t h j λE' e q D' β' a' w' s o A=>?_;cases e with
   |normal=>exact sr r b _ E' q K D' β' a' w' Q B (gd t s) o A λE2 e S D β a w J=>i E2 e S D β a w<|s.trans J
   |exit id=>exact i E' (.exit id) q D' β' a' w' s o A
   |ret=>exact i E' .ret q D' β' a' w' s o A
  |some F=>
   rw[L]at h;cases F with
   |one u=>exact cut u h
   |nk G u=>exact h.elim λg hg=>cut (u g) hg
   |Cr G R=>exact h.elim
   |rr n=>exact h.elim
   |AU n W=>exact h.elim
 |cond c x y tp sr=>
  intro r b k E S K D β a w Q B t h j i;simp[vc]at h;have X:=j.ev c;split at h
  .rename_i e
   rw[e]at X;exact wpIn_cond_true X<|tp _ _ _ _ _ _ _ _ _ _ _ B t h j i
  .rename_i e
   rw[e]at X;exact wpIn_cond_false X<|sr _ _ _ _ _ _ _ _ _ _ _ B t h j i
  .rename_i v e
   rw[e]at X;exact wpIn_cond_split X (λC=>tp _ _ _ _ _ _ _ _ _ _ _ B t (aAv h C) j i) λC=>sr _ _ _ _ _ _ _ _ _ _ _ B t (aAu h C) j i
  .exact h.elim
 |block id c U=>
  intro r b k E S K D β a w Q B t h j i;simp only[vc]at h;refine wpIn_block<|U r b k E S _ D β a w _ B t h j λE' e q D' β' a' w' s o A=>?_;cases e with
  |normal=>exact i E' .normal q D' β' a' w' s o A
  |exit px=>
   simp only[XE.ex,Exit.inBlock];by_cases T:px=id
   .subst T
    simp only[MN,bo]at o;rw[I rfl];exact i E' .normal q D' β' a' w' s o A
   .have:ap px id=ah:=by
     cases C:ap px id
     .rfl
     .exact absurd (cN C) T
    simp only[this,iw]at o;rw[V T];exact i E' (.exit px) q D' β' a' w' s o A
  |ret=>exact i E' .ret q D' β' a' w' s o A
 |loop c U=>
  intro r b k E S K D β a w Q B t h j i;simp only[vc]at h;have M:∀u,Un b u S (vc P Γ Ω b (k+1) c) K->Code.wpIn (FR r) 0 P (.loop c) Q a w:=by
   intro u h;unfold Un at h;obtain⟨⟨x,hx,vJ⟩,HN⟩:=h;obtain⟨β',A,_⟩:=Eo t j vJ;refine YI (λn a w=>∃E' x D β,iO E E'/\u.p x/\u.μ x=n/\St E' D β (lK b S.n (u.tm x)<|u.hp x) a w) (u.μ x) ⟨E,x,D,β',iO.refl E,hx,C⟩ ?_;rintro n a w ⟨Y,x,D,β,H,hx,rfl,j⟩;refine U r b (k+1) Y _ _ D β a w _ B (gd t H) (HN x hx) j λE' e q D' β' a' w' s o A=>?_;cases e with
   |normal=>
    simp only[XE.ex,Exit.then];simp only at o;cases C:ap q.n S.n
    .rw[C]at o;exact o.elim
    .rw[C]at o
     obtain⟨y,hy,ai,vJ⟩:=o;obtain⟨cI,iC,_⟩:=Eo (gd t<|H.trans s) A vJ;rw[cN C]at iC;exact⟨u.μ y,ai,E',y,D',cI,H.trans s,hy,rfl,iC⟩
   |exit id=>exact i E' (.exit id) q D' β' a' w' (H.trans s) o A
   |ret=>exact i E' .ret q D' β' a' w' (H.trans s) o A
  cases L:Ω k with
  |none=>rw[L]at h;exact h.elim
  |some F=>
   rw[L]at h;cases F with
   |one u=>exact M u h
   |nk G u=>exact h.elim λg hg=>M (u g) hg
   |Cr G R=>exact h.elim
   |rr n=>
    refine YI (λn a w=>∃E' q D β,iO E E'/\St E' D β q a w/\ah' (vc P Γ Ω b (k+1) c) K n q) n ⟨E,S,D,β,iO.refl E,j,h⟩ ?_;rintro n a w ⟨Y,S0,D,β,H,j,h⟩;cases n with
    |zero=>exact h.elim
    |succ m=>
     refine U r b (k+1) Y _ _ D β a w _ B (gd t H) h j λE' e q D' β' a' w' s o A=>?_;cases e with
     |normal=>exact⟨m,CF m,E',q,D',β',H.trans s,A,o⟩
     |exit id=>exact i E' (.exit id) q D' β' a' w' (H.trans s) o A
     |ret=>exact i E' .ret q D' β' a' w' (H.trans s) o A
   |AU n W=>
    simp only at h;cases Df:W.all λl=> !cK l b
    .rw[Df]at h;exact h.elim
    rw[Df]at h;have ab9:∀l∈W,¬l<b:=λl hl ai=>by
     have:=List.all_eq_true.1 Df l hl;rw[show cK l b=ab from yB ai]at this;cases this
    refine YI (λn a w=>∃E' q D β,iO E E'/\St E' D β q a w/\ah_ W (vc P Γ Ω b (k+1) c) K n q) n ⟨E,S,D,β,iO.refl E,j,h⟩ ?_;rintro n a w ⟨Y,S0,D,β,H,j,h⟩;cases n with
    |zero=>exact h.elim
    |succ m=>
     refine U r b (k+1) Y _ _ D β a w _ B (gd t H) h j λE' e q D' β' a' w' s o A=>?_;cases e with
     |normal=>exact⟨m,CF m,E',_,D',_,H.trans s,A.forget W λl hl Kl=>ab9 l Kl<|gd t (H.trans s) l hl,o⟩
     |exit id=>exact i E' (.exit id) q D' β' a' w' (H.trans s) o A
     |ret=>exact i E' .ret q D' β' a' w' (H.trans s) o A
 |rangeFunc g ps az c acJ ihc=>
  intro r b k E S K D β a w Q B t h j i;simp only[vc]at h;cases L:Ω k with
  |none=>rw[L]at h;exact h.elim
  |some F=>
   rw[L]at h;cases F with
   |one u=>exact h.elim
   |nk G u=>exact h.elim
   |rr n=>exact h.elim
   |AU n W=>exact h.elim
   |Cr G R=>
    obtain⟨y,h⟩:=h;have C:b=1000:=by
     unfold Xd at h;split at h
     .cases C:ap b 1000
      .rw[C]at h;simp at h
      .exact cN C
     .exact h.elim
    subst C;have Dk:r=ae:=by
     rcases B with⟨h,_⟩|⟨_,_,h⟩
     .exact h
     .cases h
    subst Dk;exact aM0 t h j (λl E S K D β a w Q Og hv j i=>acJ (O l) 2000 0 E S K D β a w Q (.inr ⟨l,C⟩) Og hv j i)
     (λl E S K D β a w Q Og hv j i=>ihc (O l) 2000 (k+1) E S K D β a w Q (.inr ⟨l,C⟩) Og hv j i) i
 |scope c U=>
  intro r b k E S K D β a w Q B t h j i;simp only[vc]at h;cases C:ap b 1000
  .rw[C]at h;exact h.elim
  rw[C]at h;simp only[bo]at h;have Dk:r=ae:=by
   rcases B.bd with h|h
   .exact h
   .rw[h]at C;cases C
  subst Dk;rw[aym];refine wpIn_wide.2<|wp_scope_straight<|(wpIn_wide (n:=0)).1 ?_;refine U ae b k E S K D β a w _ B t h j λE' e q D' β' a' w' s o A=>?_;have:=i E' e q D' β' a' w' s o A;cases e<;>exact this
 |_=>intro r b k E S K D β a w Q B t h;simp only[vc]at h
def az6(t:∀f c,Γ f=O c->Sound P f c)(o:P.follows .mixedOrders=ab){Ω:bO}{f:FuncId}{fn:Func}{c:Code}(m:P.funcs[f]? =O fn)(g:fn.body=O c)
  {E:Env} (d:∀l,E.G l->l<1000) (r:E.df= []) {S:aq} {K:XE->aq->Prop} {D:aW} {β:bp} {us:Array Value} {w:World} {R:Ending->World->Prop}
  (h:vc P Γ Ω 1000 0 c S K) (q:St E D β S {tmps:=us++sb (fn.ntmps-us.size) undef,defers:=[]} w)
  (u:∀e S D β a w',K e S->St E D β S a w'->(∀x,e≠.exit x)/\((∀x,e≠.exit x)->∃v,(results fn a.tmps).run P w'=.ok v w'/\R (.returned v) w')):Calls P f us w R:=by
 apply callsIn_wide.1<|aiK (n:=0) m g trivial ?_;apply awV t o c ae 1000 0 E S K D β _ w _ (.inl ⟨rfl,rfl⟩) d h q λF e z C B a' w' i j b=>?_;have k:({E with df:=[]}:Env)=E:=by rw[<-r]
 have ok:JD E.w0.heap.size [] E:=⟨gL _,[],by rw[r];rfl,aj,aj⟩;have y:(∀x,e≠.exit x)->LeavesInM ke 0 P fn a'.tmps R a'.defers .returning w':=λp=>
  aKw ok i b λA s=>(u e z C B {a' with defers:=[]} A j<|k▸s).2 p
 cases e with
 |normal=>exact y aj
 |ret=>exact y aj
 |exit x=>
  exact absurd rfl ((u (.exit x) z C B {a' with defers:=[]} w' j<|by have:=(i.st b).act (a':={a' with defers:=[]}) rfl;exact k▸this).1 x)
def ah1:List Value->Value
 | [u]=>u
 |l=>.tuple l.toArray
def IJ:ResultVar->Sem Value
 |.tmp t=>pure<|b.getD t undef
 |.cell x t=>do loadVar t<|<-asAddr (b.getD x undef)
def aMh(fn:Func)(x:Array Value):results fn x=(do
 let y<-fn.results.mapM (IJ x)
 pure<|if h:y.size=1 then y[0]else .tuple y):=by rfl
def aMg{E:Env}{D:aW}{β:bp}{S:aq}{a:Act}{w:World}(h:St E D β S a w)(r:ResultVar)(y:∀c∈(W8 P S r).vc,c.p):
  ∃u,(IJ a.tmps r).run P w=.ok u w/\F D w β (W8 P S r).val u:=by
 cases r with
 |tmp t=>exact⟨a.tmps.getD t undef,rfl,h.tm t⟩
 |cell x t=>
  simp only[W8,IJ]at y|-;cases z:fK P t
  .rw[z]at y;exact xq y
  .rw[z]at y
   have v:=h.tm x;split at y
   .rename_i l i j e
    rw[e]at v;let⟨L,n,o,m⟩:=v;split at y
    .rename_i b f
     let⟨q,k,hB⟩:=h.hp l b f;rw[n]at k;cases k;let⟨u,g,d⟩:=aps z hB y;refine⟨u,?_,d⟩;rw[m];simpa [asAddr,GW,A6]using g
    .exact xq y
   .exact xq y
def asu{fn:Func}{x:Array Value}{us:bG}{w:World}(h:(fn.results.toList.mapM<|IJ x).run P w=.ok us w):(results fn x).run P w=.ok (ah1 us) w:=by
 rw[aMh];have e:fn.results.mapM (IJ x)=List.toArray<$>fn.results.toList.mapM (IJ x):=axL ..;rw[e];simp[fX,Sem.run_map,h,gM,iV];rcases us with _|⟨u,_|⟨v,l⟩⟩
 .rfl
 .rfl
 .rfl
def aSg{D:aW}{w:World}{β:bp}:∀{e:bL} {us:bG},Z D w β e us->F D w β (IW e) (ah1 us)
 | [],us,h=>by
   simp[Z]at h;subst h;simp[IW,F];exact⟨[],rfl,by simp[Z]⟩
 | [x],us,h=>by
   simp only[Z]at h;obtain⟨u,_,rfl,z,rfl⟩:=h;exact z
 |x::y::l,us,h=>by have k:=h;simp[Z]at h;obtain⟨u,_,rfl,z,v,j,rfl,r,i⟩:=h;simp[IW,F];exact⟨_,rfl,k⟩
end
section
variable(P:Program)(Γ:ll)
def IK(S:aq):List ResultVar->List lq×List SV
 | []=>([],[])
 |r::x=>match W8 P S r,IK S x with
  |⟨c,v,_,_,_⟩,(h,y)=>(c++h,v::y)
def NJ(H:SV):SV->SV×List Nat
 |.bZ _=>uf x H
 |_=>(H,[])
def Hj(H:h_):List SV->List SV->List SV×List Nat
 |x::xs,y::z=>match NJ H x y,Hj H xs z with
  |(a,b),(la,h)=>(a::la,b++h)
 |xs,_=>(xs,[])
def Sy:SV->SV->SV×List Nat
 |.ag a,.ag b=>match Hj x a b with
  |(l,h)=>(.ag l,h)
 |H,y=>NJ x H y
def EF(H:h_):List SV->List SV->List SV×List Nat
 |x::xs,y::z=>match Sy H x y,EF H xs z with
  |(a,b),(la,h)=>(a::la,b++h)
 |xs,_=>(xs,[])
def afX:List SV->SV->List SV
 | [_],r=>[r]
 |_,.tu l=>l
 |_,_=>[]
def awO:List SV->List SV->List (Nat×Option Nat)
 |x::xs,y::h=>X9 x y++awO xs h
 |_,_=>[]
def un2:SV->SV->List (Nat×Option Nat)
 |.tu a,.tu b=>awO a b
 |x,y=>X9 x y
def azM(m:pT)(br:cf):=m.all λx=>match x.2 with
 |some a=> !Bz br a
 |none=>ab
def ao6(hp:bN):pT:=hp.filterMap λx=>cond (cK x.1 1000) (O (x.1,O x.1)) ae
def NT(fn:Func)(ret:SV)(hp:bN)(S:aq):Prop:=
 match IK P S fn.results.toList with
 |(c,h)=>match EF S.H h (afX h ret)with
  |(x,e)=>match K6 hp (I1 S hp<|ao6 hp++un2 ret (IW x))with
   |m=>s7<|c.map lq.p++okB (TZ 1000 m hp&&azM m e&&nc (hp.map (·.1)) (ids ret))++Ub m (IW x) ret++BR m S hp
inductive Out where
 |leaf (ret:SV) (hp:List (Nat×bm))
 |ite (c:lq) (a b:Out)
abbrev aE(r:SV):Out:=.leaf r []
def Out.get:Out->SV×List (Nat×bm)
 |.leaf r h=>(r,h)
 |.ite c a b=>cond (@decide c.p c.d) a.get b.get
def xE(fn:Func)(S:aq):Out->Prop
 |.leaf ret hp=>NT P fn ret hp S
 |.ite c a b=>(c.p->xE fn S a)/\(¬c.p->xE fn S b)
def Gx(Ω:bO)(fn:Func)(args:bL)(hp:bN)(h:Out):Prop:=
 match fn.body with
 |none=>False
 |some c=>cond (mF args.length fn.ntmps&&qD (hp.map (·.1))&&(hp.all λx=>cK x.1 1000)) (vc P Γ Ω 1000 0 c (oP fn args hp) λe S=>match e with
  |.exit _=>False
  |_=>xE P fn S h) False
end
section
variable{P:Program}{Γ:ll}
def ast{E:Env}{D:aW}{β:bp}{S:aq}{a:Act}{w:World}(h:St E D β S a w):∀x,(∀c∈(IK P S x).1,c.p)->
  ∃us,(x.mapM<|IJ a.tmps).run P w=.ok us w/\Z D w β (IK P S x).2 us
 | [],_=>⟨[],aj,by simp[IK,Z]⟩
 |r::x,y=>by
  simp only[IK]at y|-;let⟨u,e,k⟩:=aMg (P:=P) h r λc z=>y c (by simp[z]);let⟨us,v,i⟩:=ast h x λc z=>y c (by simp[z]);refine⟨u::us,?_,?_⟩
  .rw[List.mapM_cons]
   simp[fX,e,gM,v,iV]
  .simp only[Z]
   exact⟨u,us,rfl,k,i⟩
section
variable{E:Env}{D:aW}{β:bp}{S:aq}{a:Act}{w:World}
def alv(P:Program)(h:St E D β S a w){br:cf}{x:SV}(y:SV){u:Value}(e:F D w β x u)(z:∀k∈(NJ S.H x y).2,k∈br):F (λg=>D g\/u7 β S.H br g) w β (NJ S.H x y).1 u:=by
 unfold NJ at z|-;split at z
 .exact Sz P h e z
 .exact F.mono (Ah λg h=>.inl h) x e
def alw(P:Program)(h:St E D β S a w){br:cf}:∀(xs r:bL) {us:bG},Z D w β xs us->(∀k∈(Hj S.H xs r).2,k∈br)->Z (λg=>D g\/u7 β S.H br g) w β (Hj S.H xs r).1 us
 |x::xs,y::r,us,z,e=>by
  simp[Z]at z;obtain⟨u,n,rfl,i,j⟩:=z;simp[Hj,jv]at e|-;exact⟨u,n,rfl,alv P h y i λk v=>e k<|.inl v,alw P h xs r j λk v=>e k<|.inr v⟩
 | [],_,us,z,e=>by simpa [Hj,Z]using z
 |x::xs,[],us,z,e=>by simp[Hj];exact Z.mono (Ah λg h=>.inl h) _ z
def aAw(P:Program)(h:St E D β S a w){br:cf}{x:SV}(y:SV){u:Value}(r:F D w β x u)(z:∀k∈(Sy S.H x y).2,k∈br):F (λg=>D g\/u7 β S.H br g) w β (Sy S.H x y).1 u:=by
 unfold Sy at z|-;split
 .rename_i j v
  obtain⟨c,rfl,i⟩:=r;exact⟨c,rfl,alw P h j v i z⟩
 .rename_i e
  apply alv P h _ r ?_;grind
def alx(P:Program)(h:St E D β S a w){br:cf}:∀(xs r:bL) {us:bG},Z D w β xs us->(∀k∈(EF S.H xs r).2,k∈br)->Z (λg=>D g\/u7 β S.H br g) w β (EF S.H xs r).1 us
 |x::xs,y::r,us,z,e=>by
  simp[Z]at z;obtain⟨u,n,rfl,i,j⟩:=z;simp[EF,jv]at e|-;exact⟨u,n,rfl,aAw P h y i λk v=>e k<|.inl v,alx P h xs r j λk v=>e k<|.inr v⟩
 | [],_,us,z,e=>by simpa [EF,Z]using z
 |x::xs,[],us,z,e=>by simp[EF];exact Z.mono (Ah λg h=>.inl h) _ z
end
def Ht{fn:Func}{S:aq}:∀o,xE P fn S o->NT P fn o.get.1 o.get.2 S
 |.leaf r h,he=>he
 |.ite c a b,he=>by
  simp[Out.get];by_cases x:c.p
  .have y:=@jS c.p c.d x
   rw[y];exact Ht a<|he.1 x
  .have y:=@iW c.p c.d x
   rw[y];exact Ht b<|he.2 x
def O_{fn:Func}{args:bL}{hp:bN}{D:aW}{β:bp}{w:World}{us:bG}{z:Nat}(i:z<=1000)(q:args.length<=fn.ntmps)(a:Z D w β args us)(v:xr D w β hp)(d:A9 D w)(o:∀l,β l≠ae->l∈hp.map (·.1)):
  St ⟨w,nJ β hp,D,β,λl=>l<z,[]⟩ D β (oP fn args hp) {tmps:=us.toArray++sb (fn.ntmps-us.toArray.size) undef,defers:=[]} w:=by
 have c:=Z.len args a;exact{
  size:=by simp[oP];lia
  tm:=λt=>by
   simp only[oP];rw[D6];rcases uQ t args.length with n|n
   .obtain⟨u,y,r⟩:=Z.get args t args[t] a<|by simp[n]
    grind
   .have e:((us.toArray++sb (fn.ntmps-us.toArray.size) undef)[t]?).getD undef=undef:=by
     grind
    rw[e,jR,xk n];simp[Ji,F]
  hp:=λl b x=>by
   let⟨L,y,r,_⟩:=v.1 l b<|pA x;exact⟨L,y,r⟩
  eJ:=λl b L x k j=>by
   let⟨A,y,r,e⟩:=v.1 l b<|pA x;rw[k]at y;cases y;exact⟨(e j).2,(e j).1,.inr ⟨l,b,L,pA x,k,j,rfl⟩⟩
  inj:=λl p b B L A x f=>v.2 l p b B L A (pA x)<|pA f
  eZ:=d,d0:=λg h=>h,d1:=λg h=>.inl h
  ib:=λl x=>by
   simp[oP,qS]at x;cases m:β l with
   |none=>rfl
   |some L=>
    have:=BA.2<|o l (by rw[m];simp);grind
  os:=rfl,tape:=rfl,output:=rfl,grow:=gL _,block:=λ_ _ _=>rfl,df:=rfl
  low:=λl x=>by
   simp only[oP];have:cK l 1000=ab:=yB<|ng x i;rw[this];rfl
  k9:=λl L _ k=>k}
def NU{fn:Func}{hp:bN}{ret:SV}{hp':bN}{D D1:aW}{β o:bp}{w w':World}{E:Env}{S:aq}{a:Act}{q:Nat}(ab8:q<=1000)(fk:xr D w β hp)(hD:A9 D w)(gR:∀l,β l≠ae->l∈hp.map (·.1))(q3:(hp.all λx=>cK x.1 q)=ab)
  (s:E=⟨w,nJ β hp,D,β,λl=>l<q,[]⟩) (i:St E D1 o S a w') (J:NT P fn ret hp' S):
  ∃v,(results fn a.tmps).run P w'=.ok v w'/\∃v' D' β',(Ef v)=.returned v'/\tZ D β w hp ret hp' v' D' β' w':=by
 unfold NT at J;generalize hr:IK P S fn.results.toList=r at J;let⟨c,vs⟩:=r;simp only at J;generalize vC:EF S.H vs (afX vs ret)=cv at J;let⟨I4,br⟩:=cv;simp only at J;generalize Kv:K6 hp' (I1 S hp'<|ao6 hp'++un2 ret (IW I4))=m at J;have W:=JL J;simp only[jv]at W;obtain⟨qP,h1,Th⟩:=ast i fn.results.toList (by rw[hr];exact λc G=>W c.p<|.inl<|.inl<|.inl<|List.mem_map.2 ⟨c,G,rfl⟩);rw[hr]at Th;have h2:=alx P i vs (afX vs ret) Th (by rw[vC];exact λk j=>j);rw[vC]at h2;simp at h2;have bT:=tA λc G=>W c<|.inl<|.inl<|.inr G;have aEr:=λc G=>W c<|.inl<|.inr G;have OM:=λc G=>W c<|.inr G;simp only[TZ,bC]at bT;let⟨⟨⟨n1,n2,n3⟩,n4⟩,n5⟩:=bT;have X:∀l x,cu m l=O x->l∈hp'.map (·.1):=λl x hx=>apv<|Kv▸hx;have du:∀l,cu m l=O ae->Bb hp' l:=by
  intro l y;obtain⟨⟨f,b⟩,A,rfl⟩:=List.mem_map.1<|X l _ y;rcases Dv OM A with⟨a,b',e,_⟩|⟨_,k,j,_⟩
  .rw[e]at y;cases y
  .exact⟨b,k,KV n1 A,j⟩
 have CX:∀{l b L},(l,b)∈hp'->jO m hp' o l=O L->L.nil=ah->∃a' b',cu m l=O (O a')/\S.H a'=O b'/\o a'=O L:=by
  intro l b L A z B;rcases Dv OM A with⟨a',b',e,jy,_⟩|⟨e,k,j,_⟩
  .refine⟨a',b',e,jy,?_⟩
   unfold jO at z;rw[e]at z;exact z
  .unfold jO at z
   rw[e]at z;simp[KV n1 A,j,xm]at z;cases z;cases B
 have aEU:∀{l},l∉hp'.map (·.1)->jO m hp' o l=ae:=λ{l} y=>by
  unfold jO;cases e:cu m l with
  |none=>rfl
  |some x=>exact absurd (X l x e) y
 obtain⟨D2,T⟩:∃D2,D2=λg=>D1 g\/u7 o S.H br g:=⟨_,rfl⟩;rw[<-T]at h2;obtain⟨F,Au⟩:∃F,F=λl=>if l∈hp'.map (·.1)then jO m hp' o l else β l:=⟨_,rfl⟩;have Q:∀{l},l∈hp'.map (·.1)->F l=jO m hp' o l:=λy=>by rw[Au];exact I y
 have yK:∀{l},l∉hp'.map (·.1)->F l=β l:=λy=>by rw[Au];exact V y
 have R:∀D,(∀g,D g->D2 g)->jx D w' (jO m hp' o) D2 w' F:=λD Da=>⟨Da,λ_ _=>rfl,λl L z=>by
  by_cases y:l∈hp'.map (·.1)
  .rw[Q y];exact z
  .rw[aEU y]at z;cases z⟩
 have od:∀l b,(l,b)∈hp'->∃L,jO m hp' o l=O L/\gk D2 w' F L b:=by
  intro l b y;rcases Dv OM y with⟨a',b',e,jy,hle⟩|⟨e,k,j,h0⟩
  .obtain⟨L,C,n⟩:=i.hp a' b' jy
   exact⟨L,by unfold jO;rw[e];exact C,(Ud du hle n).mono (R D1 λg u=>by rw[T];exact .inl u) b λ_=>rfl⟩
  .exact⟨⟨0,k,0,0,ab⟩,by unfold jO;rw[e];simp[KV n1 y,j,xm],h0 _ _ _⟩
 have aDh:∀g,D1 g->D2 g:=λg u=>by rw[T];exact .inl u
 have t:E.w0=w:=by rw[s]
 have U:E.Wr=nJ β hp:=by rw[s]
 have M:=i.d1;rw[s]at M;simp at M;have Z:∀g,D g->w'.heap[g]? =w.heap[g]? :=by
  intro g u;have:=i.block g (by rw[t];exact hD g u)<|by
   rw[U];rintro⟨l,b,L,C,n,k3,k4⟩;let⟨L',N,_,Y⟩:=fk.1 l b C;rw[n]at N;cases N;exact(Y k3).1<|k4▸u
  rw[this,t]
 have rV:∀l L,β l=O L->F l=O L:=by
  intro l L z;by_cases K:l∈hp'.map (·.1)
  .rw[Q K]
   obtain⟨⟨f,b⟩,A,rfl⟩:=List.mem_map.1 K;have aEu:=gR f (by rw[z];simp);let⟨x,hx,Aq⟩:=List.mem_map.1 aEu;have ai:f<q:=by
    rw[<-Aq];exact nh<|List.all_eq_true.1 q3 x hx
   have j:=List.all_eq_true.1 n3 (f,b) A;have m_:cK f 1000=ab:=yB<|ng ai ab8;simp[m_,YF,GM]at j;have e:=adR j;let⟨L1,n,_⟩:=od f b A;have k3:o f=O L1:=by
    unfold jO at n;rw[e]at n;exact n
   have:=i.k9 f L1 (by rw[s];exact ai) k3;rw[s]at this;simp at this;rw[z]at this;cases this;exact n
  .rw[yK K];exact z
 refine⟨_,asu h1,_,D2,F,rfl,?_⟩;exact{
  vB:=⟨λg u=>aDh g<|i.d0 g<|by rw[s];exact u,Z,rV⟩
  ret:=(aF1 du aEr<|aSg h2).mono (R D2 λ_ h=>h) ret
  vI:=by
   refine⟨λl b y=>?_,λl f b b' L L' y cn z dg m1 m2 u=>?_⟩
   .obtain⟨L,C,n⟩:=od l b y
    refine⟨L,by rw[Q<|List.mem_map.2 ⟨(l,b),y,rfl⟩];exact C,n,λB=>?_⟩;let⟨a',b',e,k0,k3⟩:=CX y C B;let⟨N,j2,_⟩:=i.eJ a' b' L k0 k3 B;refine⟨λu=>?_,N⟩;rw[T]at u;rcases u with u|⟨l2,b2,L2,i1,i2,i3,i4,i5⟩
    .exact j2 u
    .have:=i.inj a' l2 b' b2 L L2 k0 i2 k3 i3 B i4 i5.symm
     subst this;have j:=List.all_eq_true.1 n4 _<|pA e;simp[pR]at j;rw[BA.2 i1]at j;cases j
   .rw[Q<|List.mem_map.2 ⟨(l,b),y,rfl⟩]at z
    rw[Q<|List.mem_map.2 ⟨(f,b'),cn,rfl⟩]at dg;let⟨a1,c1,e1,uo,xJ⟩:=CX y z m1;let⟨a2,c2,e2,hc2,E4⟩:=CX cn dg m2;have:=i.inj a1 a2 c1 c2 L L' uo hc2 xJ E4 m1 m2 u;subst this;have:=UG n2 y cn (a:=a1) (by simp[e1]) (by simp[e2]);exact dR (·.1) this
  d:=λg u=>by
   rw[T]at u;rcases u with u|⟨l2,b2,L2,i1,i2,i3,i4,i5⟩
   .exact⟨M g u,i.eZ g u⟩
   .obtain⟨N,_,Y⟩:=i.eJ l2 b2 L2 i2 i3 i4
    rw[i5]at N Y;rw[s]at Y;exact⟨.inr Y,N⟩
  ib:=λl L z=>by
   by_cases X:l∈hp'.map (·.1)
   .exact .inr X
   .rw[yK X]at z;exact .inl z
  own:=λl b L y z B=>by
   rw[Q<|List.mem_map.2 ⟨(l,b),y,rfl⟩]at z;let⟨a',b',e,k0,C⟩:=CX y z B;have:=(i.eJ a' b' L k0 C B).2.2;rw[s]at this;exact this
  os:=by rw[i.os,t]
  tape:=by rw[i.tape,t]
  output:=by rw[i.output,t]
  size:=by have:=i.grow;rw[t]at this;exact this
  block:=λg u hn=>by have:=i.block g (by rw[t];exact u) (by rw[U];exact hn);rw[this,t]}
def aQF(A:∀f c,Γ f=O c->Sound P f c)(p:P.follows .mixedOrders=ab){Ω:bO}{f:FuncId}{fn:Func}(o:P.funcs[f]? =O fn){args:bL}{hp:bN}{y:Out}{ret:SV}{hp':bN}
  (q:y.get=(ret,hp')) (h:Gx P Γ Ω fn args hp y):Sat P f args hp ret hp':=by
 intro D β w K m b j d;unfold Gx at h;cases r:fn.body with
 |none=>rw[r]at h;exact h.elim
 |some c=>
 rw[r]at h;cases u:mF args.length fn.ntmps&&qD (hp.map (·.1))&&hp.all λx=>cK x.1 1000
 .grind
 rw[u]at h;simp only[bC]at u;let⟨⟨i,G⟩,C⟩:=u;have i:=nh i;obtain⟨E,k⟩:∃E:Env,E=⟨w,nJ β hp,D,β,λl=>l<1000,[]⟩:=⟨_,rfl⟩;have t:St E D β (oP fn args hp) {tmps:=K.toArray++sb (fn.ntmps-K.toArray.size) undef,defers:=[]} w:=by
  subst k;exact O_ (gL _) i m b j d
 apply az6 A p o r (by rw[k];exact λl h=>h) (by rw[k]) h t λe S F H a I n s=>?_;have z:NT P fn ret hp' S->∃v,(results fn a.tmps).run P I=.ok v I/\∃g L J,(Ef v)=.returned g/\tZ D β w hp ret hp' g L J I:=NU (gL _) b j d C k s;have B:xE P fn S y->_:=λn=>z (by have:=Ht y n;rw[q]at this;exact this);grind
end
end Go.Proofs.YtegnkfbnmepmpaaGreatDoor

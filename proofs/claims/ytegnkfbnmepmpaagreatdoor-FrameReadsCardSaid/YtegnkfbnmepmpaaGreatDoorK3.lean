/-
  Texts joined: SyB, SyC, Or, Nx, SyD, Br, InR. Conditions: each theorem's own.
-/
import Derived.KernelRfl
import Derived.Test.YtegnkfbnmepmpaaGreatDoorK2
import Derived.WalkKit
import Derived.IntWalk
import Derived.Test.YtegnkfbnmepmpaaGreatDoorK1
import Derived.Lib.SmallJoins
set_option maxRecDepth 100000
set_option linter.all false
open Array renaming replicate->sb
open Bool renaming false->ah,true->ab
open Classical renaming choose_spec->axP
open Go.Ending renaming returned->Ef
open Go.Fence renaming wide->ke
open Go.IntKind renaming bits->cZ,i64->bW,u64->fh,wrap->Q
open Int renaming fdiv->kQ,tdiv->fi,toNat->X
open Nat renaming beq->ap,ble->mF,blt->cK
open Option renaming none->ae,some->O
namespace Go.Proofs.YtegnkfbnmepmpaaGreatDoor
open Go.RowKit
variable(s:Spec){n:Program}{a:FuncId}{b:xp}
def YJ:=@Go.IntWalk.u64_in
def nF:=@Nat.pow_le_pow_right
def wy:=@Nat.min_eq_left
def MR:=@Int.tdiv_eq_ediv_of_nonneg
def yD:=@Int.fdiv_eq_ediv_of_nonneg
mutual
def oA(ρ:Nat->Nat):SV->SV
 |.p l i j=>.p (ρ l) i j
 |.o l=>.o (ρ l)
 |.s l a n c=>.s (ρ l) a n c
 |.m l=>.m (ρ l)
 |.fn f a c=>.fn f (qU ρ a) (qU ρ c)
 |.ag cs=>.ag (qU ρ cs)
 |.tu cs=>.tu (qU ρ cs)
 |.fm t x=>.fm t (oA ρ x)
 |x=>x
def qU(ρ:Nat->Nat):List SV->List SV
 | []=>[]
 |c::cs=>oA ρ c::qU ρ cs
end
def Gl(ρ:Nat->Nat):bm->bm
 |.cells t h=>.cells t<|qU ρ h
 |.rc t wd n h=>.rc t wd n<|qU ρ h
 |.ob t r s=>.ob t (ρ r) s
 |b=>b
def qI(ρ:Nat->Nat):List (Nat×bm)->List (Nat×bm)
 | []=>[]
 |(l,b)::r=>(ρ l,Gl ρ b)::qI ρ r
section
variable{D:aW}{w:World}{β:bp}{ρ:Nat->Nat}
mutual
theorem F.js:∀(x:SV) {u:Value},F D w β (oA ρ x) u↔F D w (fun l=>β (ρ l)) x u
 |.v _,_=>by simp only[oA,F]
 |.bl _,_=>by simp only[oA,F]
 |.p _ _ _,_=>by simp only[oA,F]
 |.o _,_=>by simp only[oA,F]
 |.s _ _ _ _,_=>by simp only[oA,F]
 |.bZ _,_=>by simp only[oA,F]
 |.dc _,_=>by simp only[oA,F]
 |.m _,_=>by simp only[oA,F]
 |.dp _ _ _,_=>by simp only[oA,F]
 |.av d,_=>by cases d<;>simp only[oA,F]
 |.fn f a c,_=>by
  simp only[oA,F];constructor
  ·rintro⟨us,k,h,z,e⟩;exact⟨us,k,h,(Z.js a).1 z,(Z.js c).1 e⟩
  ·rintro⟨us,k,h,z,e⟩;exact⟨us,k,h,(Z.js a).2 z,(Z.js c).2 e⟩
 |.ag cs,_=>by
  simp only[oA,F];constructor
  ·rintro⟨us,h,z⟩;exact⟨us,h,(Z.js cs).1 z⟩
  ·rintro⟨us,h,z⟩;exact⟨us,h,(Z.js cs).2 z⟩
 |.tu cs,_=>by
  simp only[oA,F];constructor
  ·rintro⟨us,h,z⟩;exact⟨us,h,(Z.js cs).1 z⟩
  ·rintro⟨us,h,z⟩;exact⟨us,h,(Z.js cs).2 z⟩
 |.fm t x,_=>by
  simp only[oA,F];constructor
  ·rintro⟨y,h,z⟩;exact⟨y,h,(F.js x).1 z⟩
  ·rintro⟨y,h,z⟩;exact⟨y,h,(F.js x).2 z⟩
 |.any,_=>by simp only[oA,F]
theorem Z.js:∀(cs:bL) {us:bG},Z D w β (qU ρ cs) us↔Z D w (fun l=>β (ρ l)) cs us
 | [],_=>by simp only[qU,Z]
 |c::cs,_=>by
  simp only[qU,Z];constructor
  ·rintro⟨x,xs,h,y,z⟩;exact⟨x,xs,h,(F.js c).1 y,(Z.js cs).1 z⟩
  ·rintro⟨x,xs,h,y,z⟩;exact⟨x,xs,h,(F.js c).2 y,(Z.js cs).2 z⟩
end
def gk.js{L:Loc}(b:bm):gk D w β L (Gl ρ b)↔gk D w (λl=>β<|ρ l) L b:=by
 cases b with
 |cells v k=>
  constructor
  .rintro⟨h,r,x,y,z⟩;exact⟨h,r,x,(Z.js k).1 y,z⟩
  .rintro⟨h,r,x,y,z⟩;exact⟨h,r,x,(Z.js k).2 y,z⟩
 |rc v wd n k=>
  constructor
  .rintro⟨h,x,u,y,z,e⟩;exact⟨h,x,u,y,(Z.js k).1 z,e⟩
  .rintro⟨h,x,u,y,z,e⟩;exact⟨h,x,u,y,(Z.js k).2 z,e⟩
 |_=>exact xn
end
def sM{ρ:Nat->Nat}:∀{hp:bN} {l:Nat} {b:bm},(l,b)∈qI ρ hp↔∃k c,(k,c)∈hp/\l=ρ k/\b=Gl ρ c
 | [],l,b=>by simp[qI]
 |(i,c)::r,l,b=>by
  simp[qI,nZ,Prod.mk.injEq,sM];constructor
  .rintro(⟨rfl,rfl⟩|⟨k,y,h1,h,x⟩)
   .exact⟨i,c,.inl ⟨rfl,rfl⟩,C⟩
   .exact⟨k,y,.inr h1,h,x⟩
  .rintro⟨k,y,⟨rfl,rfl⟩|h1,h,x⟩
   .exact .inl ⟨h,x⟩
   .exact .inr ⟨k,y,h1,h,x⟩
def mem_keys{hp:bN}{l:Nat}:l∈hp.map (·.1)↔∃b,(l,b)∈hp:=c9
def qn.js{C:(Ending->World->Prop)->Prop}(hC:∀{R W:Ending->World->Prop},C R->(∀e w,R e w->W e w)->C W){en:Value->Ending}{w:World}{us:bG}{args:bL}{hp:bN}{ret:SV}{hp':bN}(h:qn C en w us args hp ret hp')(ρ:Nat->Nat)
  (hi:∀a b,a∈hp.map (·.1)++hp'.map (·.1)->b∈hp.map (·.1)++hp'.map (·.1)->ρ a=ρ b->a=b)
  (N:nc (hp.map (·.1)) (kp args)=ab) (M:hp.all (λx=>nc (hp.map (·.1))<|na x.2)=ab):
  qn C en w us (qU ρ args) (qI ρ hp) (oA ρ ret) (qI ρ hp'):=by
 intro D β kj Y hD gR;obtain⟨f,G⟩:∃f,f=nj (λl=>β<|ρ l) (hp.map (·.1)):=⟨_,rfl⟩;have p:∀{l},l∈hp.map (·.1)->f l=β (ρ l):=λz=>by rw[G];exact I z
 have U:∀{l},l∉hp.map (·.1)->f l=ae:=λz=>by rw[G];exact V z
 have N:=tq.1 N;have M:=λl b z=>tq.1<|List.all_eq_true.1 M (l,b) z;have a0:Z D w f args us:=by rw[G];exact Z.cut args N<|(Z.js args).1 kj
 have P:∀{a b},a∈hp.map (·.1)->b∈hp.map (·.1)->ρ a=ρ b->a=b:=λr A=>hi _ _ (List.mem_append.2<|.inl r)<|List.mem_append.2<|.inl A;have J:∀g,nJ (λl=>β l) (qI ρ hp) g↔nJ f hp g:=by
  intro g;constructor
  .rintro⟨l,b,L,h1,i,m,K⟩
   obtain⟨k,c,u,rfl,rfl⟩:=sM.1 h1;exact⟨k,c,L,u,by rw[p<|mem_keys.2 ⟨c,u⟩];exact i,m,K⟩
  .rintro⟨k,c,L,h1,i,m,K⟩
   rw[p<|mem_keys.2 ⟨c,h1⟩]at i;exact⟨ρ k,Gl ρ c,L,sM.2 ⟨k,c,h1,rfl,rfl⟩,i,m,K⟩
 have p0:xr D w f hp:=by
  refine⟨λl b z=>?_,λl Q b b' L L' z B y t S T o=>?_⟩
  .obtain⟨L,h1,i,m⟩:=Y.1 (ρ l) (Gl ρ b)<|sM.2 ⟨l,b,z,rfl,rfl⟩
   refine⟨L,by rw[p<|mem_keys.2 ⟨b,z⟩];exact h1,?_,m⟩;rw[G];exact gk.cut b (M l b z)<|(gk.js b).1 i
  .rw[p<|mem_keys.2 ⟨b,z⟩]at y
   rw[p<|mem_keys.2 ⟨b',B⟩]at t;exact P (mem_keys.2 ⟨b,z⟩) (mem_keys.2 ⟨b',B⟩)<|Y.2 (ρ l) (ρ Q) _ _ L L' (sM.2 ⟨l,b,z,rfl,rfl⟩) (sM.2 ⟨Q,b',B,rfl,rfl⟩) y t S T o
 apply hC (h D f a0 p0 hD λl z=>by
  by_cases n:l∈hp.map (·.1)
  .exact n
  .exact absurd (U n) z) ?_
 rintro e w' ⟨v,D',β',he,r⟩
 classical
 obtain⟨s,Au⟩:∃s,s=λl=>if j:∃k,k∈hp.map (·.1)++hp'.map (·.1)/\ρ k=l then β' (Classical.choose j)else ae:=⟨_,rfl⟩;have q:∀{k},k∈hp.map (·.1)++hp'.map (·.1)->s (ρ k)=β' k:=by
  intro k j;have hx:∃k',k'∈hp.map (·.1)++hp'.map (·.1)/\ρ k'=ρ k:=⟨k,j,rfl⟩;rw[Au];simp only[dif_pos hx];have hs:=axP hx;rw[hi _ _ hs.1 j hs.2]
 have H:∀l L,β' l=O L->l∈hp.map (·.1)++hp'.map (·.1):=by
  intro l L y;rcases r.ib l L y with h1|h1
  .by_cases n:l∈hp.map (·.1)
   .exact List.mem_append.2<|.inl n
   .rw[U n]at h1;cases h1
  .exact List.mem_append.2<|.inr h1
 have up:jx D' w' β' D' w' (λl=>s<|ρ l):=⟨λ_ h=>h,λ_ _=>rfl,λl L y=>by rw[q<|H l L y];exact y⟩;have rV:∀l L,β l=O L->s l=O L:=by
  intro l L y;let⟨b,A⟩:=mem_keys.1<|gR l (by rw[y];simp);obtain⟨k,c,u,rfl,rfl⟩:=sM.1 A;have j:=mem_keys.2 ⟨c,u⟩;rw[q<|List.mem_append.2<|.inl j];exact r.vB.b k L<|by rw[p j];exact y
 refine⟨v,D',s,he,?_⟩;exact{
  vB:=⟨r.vB.d,r.vB.h,rV⟩
  ret:=(F.js ret).2<|F.mono up ret r.ret
  vI:=by
   refine⟨λl b z=>?_,λl Q b b' L L' z B y t S T o=>?_⟩
   .obtain⟨k,c,u,rfl,rfl⟩:=sM.1 z
    let⟨L,h1,i,m⟩:=r.vI.1 k c u;exact⟨L,by rw[q<|List.mem_append.2<|.inr<|mem_keys.2 ⟨c,u⟩];exact h1,(gk.js c).2<|gk.mono up c (λ_=>rfl) i,m⟩
   .obtain⟨k,c,u,rfl,rfl⟩:=sM.1 z
    obtain⟨k',X,E,rfl,rfl⟩:=sM.1 B;rw[q<|List.mem_append.2<|.inr<|mem_keys.2 ⟨c,u⟩]at y;rw[q<|List.mem_append.2<|.inr<|mem_keys.2 ⟨X,E⟩]at t;rw[r.vI.2 k k' c X L L' u E y t S T o]
  d:=λg o=>by
   let⟨h1,i⟩:=r.d g o;refine⟨?_,i⟩;rcases h1 with h1|h1|h1
   .exact .inl h1
   .exact .inr<|.inl h1
   .exact .inr<|.inr<|(J g).2 h1
  ib:=λl L y=>by
   rw[Au]at y;simp only at y;split at y
   .rename_i j
    let⟨u,k2⟩:=axP j;generalize Classical.choose j=k at y u k2;subst k2;rcases r.ib k L y with h1|h1
    .by_cases n:k∈hp.map (·.1)
     .rw[p n]at h1;exact .inl h1
     .rw[U n]at h1;cases h1
    .obtain⟨b,A⟩:=mem_keys.1 h1
     exact .inr<|mem_keys.2 ⟨Gl ρ b,sM.2 ⟨k,b,A,rfl,rfl⟩⟩
   .cases y
  own:=λl b L z y bQ=>by
   obtain⟨k,c,u,rfl,rfl⟩:=sM.1 z;rw[q<|List.mem_append.2<|.inr<|mem_keys.2 ⟨c,u⟩]at y;rcases r.own k c L u y bQ with h1|h1
   .exact .inl h1
   .exact .inr<|(J _).2 h1
  os:=r.os,tape:=r.tape,output:=r.output,size:=r.size
  block:=λg o hn=>r.block g o λh1=>hn<|(J g).2 h1}
def Sat.js{args:bL}{hp:bN}{ret:SV}{hp':bN}(h:Sat n a args hp ret hp')(ρ:Nat->Nat)
  (hi:∀P b,P∈hp.map (·.1)++hp'.map (·.1)->b∈hp.map (·.1)++hp'.map (·.1)->ρ P=ρ b->P=b)
  (z:nc (hp.map (·.1)) (kp args)=ab) (y:hp.all (λx=>nc (hp.map (·.1))<|na x.2)=ab):
  Sat n a (qU ρ args) (qI ρ hp) (oA ρ ret) (qI ρ hp'):=
 λD β w e=>qn.js (λh k=>h.mono k) (λD β=>h D β w e) ρ hi z y D β
def v_(h:cf)(n k:Nat):Nat:=cond (cK k 1000) (h.getD k 0)<|n+(k-2000)
structure Spec where
 ι:Type
 own:Bool:=ah
 dec:List SV->(Nat->Option bm)->Option (ι×List Nat)
 args:ι->List SV
 hp:ι->List (Nat×bm):=fun _=>[]
 pre:ι->List lq:=fun _=>[]
 out:ι->Out
def Spec.ret(i:s.ι):SV:=(s.out i).get.1
def Spec.hp'(i:s.ι):bN:=(s.out i).get.2
def T5(ρ:Nat->Nat)(a:Nat):List Nat->Bool
 | []=>ab
 |b::r=>(!ap (ρ a) (ρ b)||ap a b)&&T5 ρ a r
def aFt(ρ:Nat->Nat)(l:cf):=l.all λa=>T5 ρ a l
def Out.all(p:List (Nat×bm)->Bool):Out->Bool
 |.leaf _ h=>p h
 |.ite _ a b=>a.all p&&b.all p
def Out.ct(x:List lq)(y:cf)(ρ:Nat->Nat):Out->CT
 |.leaf r h=>.leaf ⟨x,y,oA ρ r,qI ρ h⟩
 |.ite c a b=>.ite c (a.ct x y ρ)<|b.ct x y ρ
def Spec.cJ(i:s.ι)(y:cf)(n:Nat):=
 (s.out i).all (λh=>aFt (v_ y n)<|(s.hp i).map (·.1)++h.map (·.1))&&(nc ((s.hp i).map (·.1)) (kp<|s.args i)&&(s.hp i).all λx=>nc ((s.hp i).map (·.1))<|na x.2)
def Spec.iY:u9:=⟨s.own,λl H n=>match s.dec l H with
 |none=>.leaf .none
 |some (i,ls)=>match s.cJ i ls n with
  |true=>(s.out i).ct (s.pre i) ls<|v_ ls n
  |false=>.leaf .none⟩
def Out.SA(x:List lq)(y:cf)(ρ:Nat->Nat):∀o:Out,(o.ct x y ρ).get=⟨x,y,oA ρ o.get.1,qI ρ o.get.2⟩
 |.leaf r h=>rfl
 |.ite c a b=>by
  simp[Out.ct,CT.get,Out.get];cases @decide c.p c.d
  .exact Out.SA x y ρ b
  .exact Out.SA x y ρ a
def Out.Bd{p:List (Nat×bm)->Bool}:∀{o:Out},o.all p=ab->p o.get.2=ab
 |.leaf r h,x=>x
 |.ite c a b,x=>by
  simp[Out.all,bC]at x;simp[Out.get];cases @decide c.p c.d
  .exact Out.Bd x.2
  .exact Out.Bd x.1
def acM{ρ:Nat->Nat}{a:Nat}:∀{l:cf},T5 ρ a l=ab->∀b∈l,ρ a=ρ b->a=b
 |x::r,h,b,y,e=>by
  simp only[T5,bC,GK,pR]at h;simp[nZ]at y;rcases y with rfl|y
  .rcases h.1 with h1|h1
   .rw[e,MN]at h1;cases h1
   .exact cN h1
  .exact acM h.2 b y e
def Spec.dn:Prop:=∀l H n i h,s.dec l H=O (i,h)->l=qU (v_ h n) (s.args i)/\dK H h=qI (v_ h n) (s.hp i)
def Nn:List lq->Prop
 | []=>True
 |c::r=>c.p/\Nn r
def awu:∀{l:List lq},(∀c∈l,c.p)->Nn l
 | [],_=>trivial
 |c::r,h=>⟨h c<|.head _,awu λd x=>h d<|.tail _ x⟩
def Spec.sound(S:Spec){P:Program}{f:FuncId}(g:uc P f=ab)
  (w:S.dn)
  (h:∀i,(∀c∈S.pre i,c.p)->Sat P f (S.args i) (S.hp i) (S.ret i) (S.hp' i)):Sound P f S.iY:=by
 refine⟨g,λl H n hp=>?_⟩;simp[Spec.iY,u9.fn]at hp|-;cases z:S.dec l H with
 |none=>
  rw[z]at hp;exact(hp ⟨False,inferInstance⟩<|by simp[s4.none,CT.get]).elim
 |some x=>
  let⟨i,k⟩:=x;rw[z]at hp;simp at hp|-;cases y:S.cJ i k n
  .rw[y]at hp
   exact(hp ⟨False,inferInstance⟩<|by simp[s4.none,CT.get]).elim
  .rw[y]at hp
   simp at hp|-;rw[Out.SA]at hp|-;simp at hp|-;let⟨r,u⟩:=w l H n i k z;rw[u];rw[r];simp only[Spec.cJ,bC]at y;have v:=Out.Bd y.1;apply Sat.js (h i hp) (v_ k n) (λa b j d e=>acM (List.all_eq_true.1 v a j) b d e) y.2.1 y.2.2
mutual
def pv:SV->Value
 |.v x=>x
 |.bl b=>.bool b
 |.ag cs=>.agg (B4 cs).toArray
 |.tu cs=>.tuple (B4 cs).toArray
 |.fm t x=>.iface t (pv x)
 |_=>.nilIface
def B4:List SV->List Value
 | []=>[]
 |c::cs=>pv c::B4 cs
end
mutual
def plain:SV->Bool
 |.v _=>ab
 |.bl _=>ab
 |.ag cs=>Dx cs
 |.tu cs=>Dx cs
 |.fm _ x=>plain x
 |_=>ah
def Dx:List SV->Bool
 | []=>ab
 |c::cs=>plain c&&Dx cs
end
section
variable{D:aW}{w:World}{β:bp}
mutual
theorem F.plain:∀(x:SV) {u:Value},plain x=ab->(F D w β x u↔u=pv x)
 |.v _,_,_=>by simp only[F,pv]
 |.bl _,_,_=>by simp only[F,pv]
 |.ag cs,_,h=>by
  simp only[F,pv];constructor
  ·rintro⟨us,y,z⟩;rw[y,(Z.plain cs h).1 z]
  ·intro y;exact⟨_,y,(Z.plain cs h).2 rfl⟩
 |.tu cs,_,h=>by
  simp only[F,pv];constructor
  ·rintro⟨us,y,z⟩;rw[y,(Z.plain cs h).1 z]
  ·intro y;exact⟨_,y,(Z.plain cs h).2 rfl⟩
 |.fm t x,_,h=>by
  simp only[F,pv];constructor
  ·rintro⟨us,y,z⟩;rw[y,(F.plain x h).1 z]
  ·intro y;exact⟨_,y,(F.plain x h).2 rfl⟩
theorem Z.plain:∀(cs:bL) {us:bG},Dx cs=ab->(Z D w β cs us↔us=B4 cs)
 | [],_,_=>by simp only[Z,B4]
 |c::cs,_,h=>by
  simp only[Dx,bC]at h;simp only[Z,B4];constructor
  ·rintro⟨x,xs,rfl,z,e⟩;rw[(F.plain c h.1).1 z,(Z.plain cs h.2).1 e]
  ·intro y;exact⟨_,_,y,(F.plain c h.1).2 rfl,(Z.plain cs h.2).2 rfl⟩
end
end
def ag'{args:bL}{ret:SV}(h:∀w,Calls n a (B4 args).toArray w λe w'=>e=.returned (pv ret)/\Below w.heap.size w w')(u:Dx args=ab)(j:plain ret=ab):Sat n a args [] ret []:=by
 intro D β w p v f k P;rw[(Z.plain args u).1 v];apply(h w).mono ?_;rintro e w' ⟨i,x⟩;refine⟨_,D,β,i,?_⟩;exact{
  vB:=⟨λ_ h=>h,λg y=>x.block g<|k g y,λ_ _ h=>h⟩
  ret:=(F.plain ret j).2 rfl
  vI:=⟨λl b z=>(by cases z),λl c b o L m z=>(by cases z)⟩
  d:=λg y=>⟨.inl y,ng (k g y) x.size⟩
  ib:=λl L r=>.inl r
  own:=λl b L z=>(by cases z)
  os:=x.os,tape:=x.tape,output:=x.output,size:=x.size
  block:=λg y _=>x.block g y}
def oC(G:xp):ll:=λf=>cu G f
def m(P:Program)(G:xp):Prop:=∀f c,oC G f=O c->Sound P f c
def m.nil:m n []:=λf c h=>by cases h
def m.cons{f:Nat}{c:u9}{G:xp}(h1:Sound n f c)(z:m n G):m n ((f,c)::G):=by
 intro g y h;simp[oC,cu]at h;cases x:ap g f
 .rw[x]at h;exact z g y h
 .rw[x]at h
  simp[bo,Option.some.injEq]at h;subst h;rw[cN x];exact h1
def Mn(y:m n b)(k:n.follows .mixedOrders=ab){Ω:bO}{f:FuncId}{fn:Func}(z:n.funcs[f]? =O fn){args:bL}{hp:bN}{x:Out}
 {T:Prop} (e:T=Gx n (oC b) Ω fn args hp x) (h:T):Sat n f args hp x.get.1 x.get.2:=aQF y k z rfl (e▸h)
def Spec.vc(P:Program)(G:xp)(Ω:bO)(fn:Func)(i:s.ι):Prop:=Gx P (oC G) Ω fn (s.args i) (s.hp i)<|s.out i
def Spec.te(z:uc n a=ab)(x:s.dn){G:xp}(y:m n G)(k:n.follows .mixedOrders=ab){fn:Func}(e:n.funcs[a]? =O fn)
  (h:∀i,Nn (s.pre i)->∃Ω,s.vc n G Ω fn i):=
 s.sound z x λi r=>(h i<|awu r).elim λ_ h=>Mn y k e rfl h
inductive Lv where
 |s (x:M)
 |i (x:Int)
 |b (x:Bool)
 |l (x:N)
 |r (x:List (N))
class Tp (α:Type) where
 to:List Lv->Option (α×List Lv)
 of:α->List Lv->List Lv
 ok:∀l a r,to l=O (a,r)->of a r=l
instance:Tp Unit:=⟨λl=>O ((),l),λ_ l=>l,λl a r h=>by cases h;rfl⟩
instance:Tp M:=⟨λ|.s x::r=>O (x,r)|_=>ae,λx r=>.s x::r,λl a r h=>by split at h<;>cases h;rfl⟩
instance:Tp Int:=⟨λ|.i x::r=>O (x,r)|_=>ae,λx r=>.i x::r,λl a r h=>by split at h<;>cases h;rfl⟩
instance:Tp Bool:=⟨λ|.b x::r=>O (x,r)|_=>ae,λx r=>.b x::r,λl a r h=>by split at h<;>cases h;rfl⟩
instance:Tp (N):=⟨λ|.l x::r=>O (x,r)|_=>ae,λx r=>.l x::r,λl a r h=>by split at h<;>cases h;rfl⟩
instance:Tp (List<|N):=⟨λ|.r x::r=>O (x,r)|_=>ae,λx r=>.r x::r,λl a r h=>by split at h<;>cases h;rfl⟩
instance{α β:Type}[Tp α][Tp β]:Tp (α×β):=⟨λl=>match Tp.to l with
 |some (a,r)=>match Tp.to r with
  |some (b,q)=>O ((a,b),q)
  |none=>ae
 |none=>ae,λx r=>Tp.of x.1<|Tp.of x.2 r,λl a r h=>by
 split at h
 .rename_i e u y
  split at h
  .rename_i k v z
   cases h;rw[Tp.ok _ _ _ z,Tp.ok _ _ _ y]
  .cases h
 .cases h⟩
inductive Pt where
 |s|i|u|y|b|l|a|t
 |z (n:Nat)
 |r (n:Nat)
 |g (l:List Pt)
mutual
def Pt.dec:Pt->SV->List Lv->Option (List Lv)
 |.s,.v (.string x),w=>O (.s x::w)
 |.i,.v (.int .i64 x),w=>O (.i x::w)
 |.u,.v (.int .u64 x),w=>O (.i x::w)
 |.y,.v (.int .u8 x),w=>O (.i x::w)
 |.b,.v (.bool x),w=>O (.b x::w)
 |.l,.bZ (.ints .i64 x),w=>O (.l x::w)
 |.a,.av (.ints .i64 x),w=>O (.l x::w)
 |.t,.av (.ints .i64 [x,x1,e]),w=>O (.i x:: .i x1:: .i e::w)
 |.z n,.v (.int .i64 (.ofNat m)),w=>cond (ap m n) (O w) ae
 |.r n,.bZ (.cH m x),w=>cond (ap m n) (O (.r x::w)) ae
 |.g h,.ag cs,w=>Pt.cC h cs w
 |_,_,_=>ae
def Pt.cC:List Pt->List SV->List Lv->Option (List Lv)
 | [],[],w=>O w
 |p::h,v::x,w=>match Pt.cC h x w with
  |some q=>Pt.dec p v q
  |none=>ae
 |_,_,_=>ae
end
mutual
def Pt.enc:Pt->List Lv->SV×List Lv
 |.s,.s x::w=>(.v (.string x),w)
 |.i,.i x::w=>(.v (.int .i64 x),w)
 |.u,.i x::w=>(.v (.int .u64 x),w)
 |.y,.i x::w=>(.v (.int .u8 x),w)
 |.b,.b x::w=>(.v (.bool x),w)
 |.l,.l x::w=>(.bZ (.ints .i64 x),w)
 |.a,.l x::w=>(.av (.ints .i64 x),w)
 |.t,.i x:: .i x1:: .i e::w=>(.av (.ints .i64 [x,x1,e]),w)
 |.z n,w=>(.v (.int .i64 (.ofNat n)),w)
 |.r n,.r x::w=>(.bZ (.cH n x),w)
 |.g h,w=>(.ag (Pt.vu h w).1,(Pt.vu h w).2)
 |_,w=>(.any,w)
def Pt.vu:List Pt->List Lv->List SV×List Lv
 | [],w=>([],w)
 |p::h,w=>((Pt.enc p w).1::(Pt.vu h (Pt.enc p w).2).1,(Pt.vu h (Pt.enc p w).2).2)
end
mutual
theorem Pt.ok:∀(p:Pt) (v:SV) (w q:List Lv),Pt.dec p v w=O q->Pt.enc p q=(v,w):=by
 intro p v w q h;unfold Pt.dec at h;split at h
 case h_9=>
  rename_i n m;cases e:ap m n<;>rw[e]at h<;>cases h;rw[cN e];rfl
 case h_10=>
  rename_i n m x;cases e:ap m n<;>rw[e]at h<;>cases h;rw[cN e];rfl
 case h_11=>
  rename_i y cs;have:=Pt.UL y cs w q h;show(SV.ag (Pt.vu y q).1,(Pt.vu y q).2)=_;rw[this]
 all_goals cases h<;>rfl
theorem Pt.UL:∀(x:List Pt) (y:bL) (w q:List Lv),Pt.cC x y w=O q->Pt.vu x q=(y,w):=by
 intro x y w q h;unfold Pt.cC at h;split at h
 ·cases h;rfl
 ·split at h
  ·rename_i p x v y _ z e
   show((Pt.enc p q).1::(Pt.vu x (Pt.enc p q).2).1,(Pt.vu x (Pt.enc p q).2).2)=_;rw[Pt.ok p v z q h];show(v::(Pt.vu x z).1,(Pt.vu x z).2)=_;rw[Pt.UL x y w z e]
  ·cases h
 ·cases h
end
mutual
theorem Pt.js(ρ:Nat->Nat):∀(p:Pt) (w:List Lv),oA ρ (Pt.enc p w).1=(Pt.enc p w).1
 |p,w=>by
  unfold Pt.enc;split
  case h_11=>simp only[oA];rw[Pt.afV ρ]
  all_goals rfl
theorem Pt.afV(ρ:Nat->Nat):∀(h:List Pt) (w:List Lv),qU ρ (Pt.vu h w).1=(Pt.vu h w).1
 | [],w=>rfl
 |p::h,w=>by
  show oA ρ (Pt.enc p w).1::qU ρ (Pt.vu h (Pt.enc p w).2).1=_;rw[Pt.js ρ p w,Pt.afV ρ h];rfl
end
def Sp(ι:Type)[Tp ι](h:List Pt)(f:ι->List lq×Out)(o:Bool:=ah):Spec where
 ι:=ι
 own:=o
 dec l _:=match Pt.cC h l []with
  |some q=>match Tp.to q with
   |some (i,[])=>O (i,[])
   |_=>ae
  |none=>ae
 args i:=(Pt.vu h<|Tp.of i []).1
 pre i:=(f i).1
 out i:=(f i).2
def Sp.dn{ι:Type}[Tp ι]{x:List Pt}{f:ι->List lq×Out}{o:Bool}:(Sp ι x f o).dn:=by
 intro l H n i z h;simp[Sp]at h|-;split at h
 .rename_i q e
  split at h
  .rename_i j y
   cases h;refine⟨?_,rfl⟩;rw[Tp.ok _ _ _ y,Pt.UL x l [] q e];have:=Pt.afV (v_ [] n) x q;rw[Pt.UL x l [] q e]at this;exact this.symm
  .cases h
 .cases h
theorem J{p q:Prop}(h:p)(e:p=q:=by kernel_rfl):q:=e▸h
def Spec.gd(y:m n b){fn:Func}(e:n.funcs[a]? =O fn)
 (h:∀i,Nn (s.pre i)->∃Ω,s.vc n b Ω fn i) (x:s.dn:=by exact Sp.dn) (k:n.follows .mixedOrders=ab:=by exact mixed) (z:uc n a=ab:=by kernel_rfl):=s.te z x y k e h
def Spec.gE(x:s.dn){P:Program}{f:FuncId}{G:xp}(y:m P G){fn:Func}(e:P.funcs[f]? =O fn)
 (h:∀i,Nn (s.pre i)->∃Ω,s.vc P G Ω fn i) (k:P.follows .mixedOrders=ab:=by exact mixed) (z:uc P f=ab:=by kernel_rfl):=s.te z x y k e h
def aK:bO:=λ_=>ae
def sa(_:m n b):xp:=b
end Go.Proofs.YtegnkfbnmepmpaaGreatDoor
namespace Go.Proofs.YtegnkfbnmepmpaaGreatDoor
open Go Go.RowKit
def orC(h x:Spec):u9:=⟨h.own,λl H n=>match h.dec l H with
 |some _=>h.iY.tr l H n
 |none=>x.iY.tr l H n⟩
def adT{P:Program}{f:FuncId}{h z:Spec}(h1:Sound P f h.iY)(e:Sound P f z.iY):Sound P f (orC h z):=by
 refine⟨h1.1,λk H n r=>?_⟩;simp[orC,u9.fn]at r|-;cases y:h.dec k H with
 |none=>rw[y]at r;exact e.2 k H n r
 |some x=>rw[y]at r;exact h1.2 k H n r
end Go.Proofs.YtegnkfbnmepmpaaGreatDoor
namespace Go.Proofs.YtegnkfbnmepmpaaGreatDoor
open Go
variable{s:Int}(n:Nat){a:Int}
theorem wr{n:Int}(h1: -9223372036854775808<=n)(h:n<=9223372036854775807):Q bW n=n:=IntWalk.i64_in n ⟨h1,h⟩
theorem fW{n:Int}(h1:0<=n)(h:n<=18446744073709551615):Q fh n=n:=YJ n ⟨h1,h⟩
def Et:cZ bW=64:=rfl
def azV:cZ fh=64:=rfl
def nQ{a b:Nat}(h:a<=b):(2:Int)^a<=2^b:=by have:=nF (n:=2) Y h;exact_mod_cast this
def jJ(a:Nat):(0:Int)<2^a:=by have:=Nat.pow_pos (n:=a) (show 0<2 by lia);exact_mod_cast this
def ad4:2^n=((2^n:Nat):Int):=aj
theorem sS{g:Int}(h0:0<=g)(h:g<=62):Q bW ((1:Int)*(2:Int)^min (X g) (cZ bW))=2^g.toNat:=by
 rw[Et,wy Y,Int.one_mul];have x:=nQ (show g.toNat<=62 by omega);have y:=jJ g.toNat;exact wr Y Y
theorem take_succ{α:Type}(l:List α)(d:α){i:Nat}(h:i<l.length):l.take (i+1)=l.take i++ [l.getD i d]:=by
 rw[List.take_add_one,jR,kB h];rfl
theorem toNat_cast(i:Nat):(i:Int).toNat=i:=yz i
def e00:((0:Int)==0)=ab:=rfl
def n00:((0:Int) !=0)=ah:=rfl
def Hp:((31:Int)==0)=ah:=rfl
def n31:((31:Int) !=0)=ab:=rfl
def e23:((23:Int)==0)=ah:=rfl
def n23:((23:Int) !=0)=ab:=rfl
def UA{α β:Type}(p:α×β):(p.1,p.2)=p:=rfl
def gG{a b:Nat}:Nat.le a b↔a<=b:=xn
def yW{l:N}{i:Nat}(h:i<l.length):l.getD i 0∈l:=by rw[jR,kB h];exact List.getElem_mem h
def XX(h:0<=s):fi s 2=s/2:=MR h
def N4(h:0<=a):kQ s a=s/a:=by rw[yD _ h]
end Go.Proofs.YtegnkfbnmepmpaaGreatDoor
namespace Go.Proofs.YtegnkfbnmepmpaaGreatDoor
open Go.RowKit
variable{s:FuncId}
def yieldOf(o:Oper)(S:aq):=match o.op with
 |.call c=>match c.callee with
  |.value g=>match S.ev g with
   |.v (.func (.yield l) ⟨[]⟩ ⟨[]⟩)=>O (l,c.args.toList.map S.ev)
   |_=>ae
  |_=>ae
 |_=>ae
section
variable(P:Program)(Γ:ll)(l0:Nat)(xs:List (List Value))
def IL(h:Array Oper)(base:Nat->Nat):List Oper->Nat->aq->Nat×Bool->(aq->Nat×Bool->Prop)->Prop
 | [],_,S,m,K=>K S m
 |o::rest,i,S,m,K=>
  match gd h o S with
  |.yes=>match yieldOf o S with
   |some (l,args)=>match m with
    |(y,ab)=>cond (Dx args&&o.dst.all λd=>cK d S.n) (l=l0/\xs[y]? =O (B4 args)/\IL h base rest (i+1) (S.put o.dst<|.bl ab) (y+1,ab) K/\IL h base rest (i+1) (S.put o.dst<|.bl ah) (y,ah) K) False
    |(_,ah)=>False
   |none=>cond (Dt o.op) False<|S3 P Γ h i o S (base i) λx f=>IL h base rest (i+1) x m K
  |.no=>cond (o.dst.all λd=>cK d S.n) (IL h base rest (i+1) (S.put o.dst<|.v undef) m K) False
  |.bad=>False
structure CQ where
 ι:Type
 p:ι->Prop
 tm:ι->List (Nat×SV)
 hp:ι->List (Nat×bm)
 μ:ι->Nat
 y:ι->Nat
structure Ba where
 G:Type
 I:G->CQ
def apw(I:CQ)(S:aq)(m:Nat×Bool)(h:aq->Nat×Bool->(XE->aq->Nat×Bool->Prop)->Prop)(K:XE->aq->Nat×Bool->Prop):Prop:=
 ∃x,I.p x/\m=(I.y x,true)/\s7 (yI 1000 S (I.tm x) (I.hp x) [] [])/\
     ∀x,I.p x->h (lK 1000 S.n (I.tm x)<|I.hp x) (I.y x,ab) λe z k=>match e with
      |.normal=>cond (ap z.n S.n) (∃y,I.p y/\k=(I.y y,ab)/\I.μ y<I.μ x/\s7 (yI 1000 z (I.tm y) (I.hp y) [] [])) False
      |e=>K e z k
def ru(Ωi:Nat->Option Ba):Nat->Code->aq->Nat×Bool->(XE->aq->Nat×Bool->Prop)->Prop
 |_,.skip,S,m,K=>K .normal S m
 |_,.label _,S,m,K=>K .normal S m
 |_,.region id ops draw,S,m,K=>cond draw (cond (H8 ops) (zG P Γ ops (λi=>(id+1)*100000+8*i) ops.toList 0 S [] λh r=>cond (indep ops r) (K .normal h m) False) False)<|IL P Γ l0 xs ops (λi=>(id+1)*100000+8*i) ops.toList 0 S m λh z=>K .normal h z
 |k,.seq x y,S,m,K=>ru Ωi k x S m λe h z=>match e with
    |.normal=>ru Ωi (k+qd x) y h z K
    |e=>K e h z
 |k,.cond c x y,S,m,K=>match S.ev c with
  |.bl ab=>ru Ωi k x S m K
  |.bl ah=>ru Ωi (k+qd x) y S m K
  |.v (.bool v)=>(v=ab->ru Ωi k x S m K)/\(v=ah->ru Ωi (k+qd x) y S m K)
  |_=>False
 |k,.block id c,S,m,K=>ru Ωi k c S m λe h z=>match e with
  |.exit u=>cond (ap u id) (K .normal h z)<|K (.exit u) h z
  |e=>K e h z
 |k,.loop c,S,m,K=>match Ωi k with
  |none=>False
  |some F=>∃g,apw (F.I g) S m (ru Ωi (k+1) c) K
 |_,.exit id,S,m,K=>K (.exit id) S m
 |_,.ret,S,m,K=>K .ret S m
 |_,_,_,_,_=>False
def SO(hp:bN)(S:aq)(h:bN):Prop:=cond (h.all (λx=>isNil<|na x.2)&&nc (hp.map (·.1)) (h.map (·.1))) (s7<|BR (xS h) S h) False
def aaM(hp:bN)(h:Nat->List (Nat×bm))(e:XE)(S:aq)(m:Nat×Bool):Prop:=match e with
 |.exit _=>False
 |_=>match m with
  |(y,a)=>match h y with
   | []=>match a with
     |true=>y=xs.length
     |false=>True
   |x::r=>match a with
    |true=>y=xs.length/\SO hp S (x::r)
    |false=>SO hp S<|x::r
def Ye(Ωi:Nat->Option Ba)(fn:Func)(cap:bL)(hp:bN)(h:Nat->List (Nat×bm)):Prop:=
 match fn.body with
 |none=>False
 |some c=>cond (mF (cap.length+1) fn.ntmps&&qD (hp.map (·.1))&&(hp.all λx=>cK x.1 1000)&&isNil fn.results.toList)
  (ru P Γ l0 xs Ωi 0 c (oP fn (.v (.func (.yield l0) #[] #[])::cap) hp) (0,ab) λe S m=>aaM xs hp h e S m) False
def Yd(Ωi:Nat->Option Ba)(fn:Func)(cap:bL)(hp:bN):Prop:=Ye P Γ l0 xs Ωi fn cap hp adC
end
section
variable{P:Program}{Γ:ll}{l0:Nat}{xs:List (List Value)}
def Jm(J h:Nat->(Nat->Prop)->World->Prop):Nat×Bool->(Nat->Prop)->World->Prop
 |(y,ab)=>J y
 |(y,ah)=>h y
structure vd (D0:Nat->Prop) (gB:Nat->Option Loc) (J Jx:Nat->(Nat->Prop)->World->Prop) (S:aq) (m:Nat×Bool) (a:Act) (w:World):Prop where
 st:∃E D β X,St E D β S a w/\E.df= []/\(∀l,E.G l↔l<1000)/\(∀g,lN S.H β g->X g)/\(∀g,D g->D0 g\/X g)/\(∀l L,l<1000->E.gB l=O L->gB l=O L)/\Jm J Jx m X w
variable{D0:aW}{gB:bp}{J Jx:Nat->(Nat->Prop)->World->Prop}
structure ZJ (J Jx:Nat->(Nat->Prop)->World->Prop):Prop where
 j:∀i X W1 W2,J i X W1->dv X W1 W2->J i (more X W1 W2) W2
 x:∀i X W1 W2,Jx i X W1->dv X W1 W2->Jx i (more X W1 W2) W2
def vd.begin(A:ZJ J Jx){S:aq}{m:Nat×Bool}{a:Act}{w:World}(h:vd D0 gB J Jx S m a w):∃E D β,St E D β S a w/\(∀l,E.G l->l<1000)/\
  (∀E' D' β' n a' w',iO E E'->a'.defers= []->St E' D' β' n a' w'->vd D0 gB J Jx n m a' w')/\E.df= []:=by
 let⟨E,D,β,X,i,N,c,d,I,K,C⟩:=h.st;obtain⟨r,z⟩:∃r:Env,r=⟨w,lN S.H β,D,β,E.G,[]⟩:=⟨_,rfl⟩;have Q:St r D β S a w:=i.re (by rw[z]) (by rw[z];exact λ_ h=>h) (by rw[z];exact λ_=>xn) (by rw[z];exact λ_ _ _ h=>h) (by rw[z];exact λl v=>i.low l v) rfl (by rw[z,i.df,N]);refine⟨r,D,β,Q,by rw[z];exact λl h=>(c l).1 h,λE' D' β' n a' w' M f F=>?_,by rw[z]⟩;have e:=M.st F;rw[f]at e;have t:dv X w w':=by
  have o:=e.grow;have p:=e.os;have q:=e.tape;have s:=e.output;rw[z]at o p q s;refine⟨o,p,q,s,λg u R=>?_⟩;have:=e.block g c9 (by rw[z];exact λh=>R<|d g h);rw[this,z]
 refine⟨{r with df:=[]},D',β',more X w w',e,rfl,by rw[z];exact c,λg u=>?_,λg u=>?_,λl L v B=>?_,?_⟩
 .obtain⟨T,U,k3⟩:=e.vi u
  rw[z]at k3;rcases k3 with k3|k3
  .exact .inr ⟨k3,T⟩
  .exact .inl<|d g k3
 .have k:=e.d1 g u
  rw[z]at k;rcases k with k|k|k
  .exact(I g k).imp id .inl
  .exact .inr<|.inr ⟨k,e.eZ g u⟩
  .exact .inr<|.inl<|d g k
 .rw[z]at B
  exact K l L v<|i.k9 l L ((c l).2 v) B
 .obtain⟨y,b⟩:=m
  cases b with
  |true=>exact A.j _ _ _ _ C t
  |false=>exact A.x _ _ _ _ C t
def ZI(P:Program)(l0:Nat)(xs:List (List Value))(D0:aW)(J Jx:Nat->(Nat->Prop)->World->Prop):Prop:=
 ∀i X h x,xs[i]? =O x->J i X h->YieldAt ke 0 P l0 x.toArray h λe y=>
  dv (λg=>¬(X g\/D0 g)) h y/\((e=.returned (.bool ab)/\J (i+1) X y)\/(e=.returned (.bool ah)/\Jx i X y))
def aT'(hR:ZI P l0 xs D0 J Jx){o:Oper}{S:aq}{y:Nat}{a:Act}{w:World}{args:bL}(h:vd D0 gB J Jx S (y,ab) a w)(m:yieldOf o S=O (l0,args))(hp:Dx args=ab)(hd:(o.dst.all λd=>cK d S.n)=ab)
  (hx:xs[y]? =O (B4 args)) {K:Act->World->Prop} {Q:Exit->Act->World->Prop}
  (h1:∀a w,vd D0 gB J Jx (S.put o.dst<|.bl ab) (y+1,ab) a w->K a w) (h2:∀a w,vd D0 gB J Jx (S.put o.dst<|.bl ah) (y,ah) a w->K a w):o.wpIn (FR ae) 0 P a w K Q:=by
 let⟨E,D,β,X,r,ol,hG,hX,hD,hK,hm⟩:=h.st;let⟨fn,C,az,bd,gF,HN⟩:=hR y X w _ hx hm;let⟨dst,op,i,pos,z,k⟩:=o;unfold yieldOf at m;cases op with
 |call c=>
  let⟨callee,v,Y⟩:=c;cases callee with
  |value g=>
   simp at m;split at m
   .rename_i l e
    simp[Option.some.injEq,Prod.mk.injEq]at m;obtain⟨rfl,rfl⟩:=m;have f:=r.ev g;rw[e]at f;simp[F]at f;have kj:=(Z.plain _ hp).1<|Mh r v.toList;have hA:v.map a.eval=(B4<|v.toList.map S.ev).toArray:=by
     rw[<-kj];cases v;simp
    have N:(execOp a.eval ⟨dst,.call {callee:=.value g,args:=v,argTypes:=Y},i,pos,z,k⟩).run P w=.ok (.round l fn C az bd) w:=by
     simp[execOp,resolve,f,Deferred.ofValue,fX,iV,gM,invoke];rw[hA];simpa using gF
    refine⟨λ_ _=>trivial,?_⟩;have T:(Oper.mk dst (.call {callee:=.value g,args:=v,argTypes:=Y}) i pos z k).semAt (FR ae).round a.eval=execOp a.eval ⟨dst,.call {callee:=.value g,args:=v,argTypes:=Y},i,pos,z,k⟩:=rfl;rw[T,N,Oper.uponIn_round];refine⟨λhq=>by simp[FR,ke]at hq,RoundIn.mono HN ?_⟩;have B:∀b W j,dv (λg=>¬(X g\/D0 g)) w j->Jm J Jx W X j->vd D0 gB J Jx (S.put dst<|.bl b) W (a.put dst<|.bool b) j:=by
     intro b W j ⟨t1,t2,t3,t4,t5⟩ uv;obtain⟨Er,ul⟩:∃Er:Env,Er=⟨w,lN S.H β,D,β,E.G,[]⟩:=⟨_,rfl⟩;obtain⟨I,M⟩:∃I:Env,I=⟨j,lN S.H β,D,β,E.G,[]⟩:=⟨_,rfl⟩;have G:jx D w β D j β:=⟨λ_ h=>h,λg f=>t5 g (r.eZ g f) λh=>h<|(hD g f).symm,λ_ _ h=>h⟩;have bR:St I D β S a j:=by
      rw[M];exact{
       size:=r.size
       tm:=λt=>(r.tm t).mono G
       hp:=λl b p=>by
        let⟨L,A,V⟩:=r.hp l b p;exact⟨L,A,V.mono G b λs=>t5 _ (r.eJ l b L p A s).1 λh=>h<|.inl<|hX _ ⟨l,b,L,p,A,s,rfl⟩⟩
       eJ:=λl b L p q s=>by
        let⟨A,V,_⟩:=r.eJ l b L p q s;exact⟨ng A t1,V,.inr ⟨l,b,L,p,q,s,rfl⟩⟩
       inj:=r.inj,eZ:=⟨λg f=>ng (r.eZ g f) t1,r.eZ.laid.qB G.d G.h⟩
       d0:=λg h=>h,d1:=λg h=>.inl h
       ib:=r.ib
       os:=rfl,tape:=rfl,output:=rfl,grow:=gL _,block:=λ_ _ _=>rfl
       df:=by rw[r.df,ol]
       low:=r.low
       k9:=λl L _ h=>h}
     have U:=bR.put (x:=.bl b) (u:=.bool b) hd (by simp[F]);refine⟨I,D,β,X,U,by rw[M],by rw[M];exact hG,?_,hD,λl L hl q=>?_,uv⟩
     .cases dst<;>exact hX
     .rw[M]at q
      exact hK l L hl<|r.k9 l L ((hG l).2 hl) q
    rintro e' j ⟨t,⟨rfl,R⟩|⟨rfl,R⟩⟩
    .exact h1 _ _<|B ab (y+1,ab) j t R
    .exact h2 _ _<|B ah (y,ah) j t R
   .cases m
  |_=>cases m
 |_=>cases m
def Pl(p:∀f c,Γ f=O c->Sound P f c)(j:ZJ J Jx)(g:ZI P l0 xs D0 J Jx){k:Array Oper}{base:Nat->Nat}{K:aq->Nat×Bool->Prop}{Q:Exit->Act->World->Prop}
  (b:∀S m a w,K S m->vd D0 gB J Jx S m a w->Q .normal a w):∀l i S m a w,
  IL P Γ l0 xs k base l i S m K->vd D0 gB J Jx S m a w->wpListIn (FR ae) 0 P k Q l a w
 | [],i,S,m,a,w,h,s=>b S m a w h s
 |o::rest,i,S,m,a,w,h,s=>by
  unfold IL at h;unfold wpListIn;let⟨E,D,β,A,T,C,G⟩:=s.begin j;have r:=am8 A k o;split at h
  .rename_i q
   rw[q]at r;simp at r;rw[I r];split at h
   .rename_i l U H
    split at h
    .rename_i y
     cases z:Dx U&&o.dst.all λd=>cK d S.n
     .rw[z]at h;exact h.elim
     rw[z]at h;simp[bo]at h;rw[bC]at z;let⟨N,B,R,L⟩:=h;rw[N]at H;exact aT' g s H z.1 z.2 B (λa w x=>Pl p j g b rest (i+1) _ _ a w R x) λa w x=>Pl p j g b rest (i+1) _ _ a w L x
    .exact h.elim
   .cases t:Dt o.op
    .rw[t]at h
     simp[iw]at h;let⟨e,f,B,M⟩:=amt q h;have:=SY (Q:=Q) p A B λZ W X Y x=>
      Pl p j g b rest (i+1) _ _ X Y M<|C E Z W _ X Y (iO.refl E) (by rw[x.df,G]) x
     rw[I r]at this;exact adQ t this
    .rw[t]at h;exact h.elim
  .rename_i q
   rw[q]at r;simp at r;rw[V<|by rw[r];simp];cases z:o.dst.all λd=>cK d S.n
   .rw[z]at h;exact h.elim
   rw[z]at h;simp[bo]at h;have x:=A.put z (by simp[F]:F D w β (.v undef) undef);refine⟨λ_ _=>trivial,Pl p j g b rest (i+1) _ _ _ w h<|C E D β _ _ w (iO.refl E) (by rw[x.df,G]) x⟩
  .exact h.elim
def aSs(eF:∀f c,Γ f=O c->Sound P f c)(Z:P.follows .mixedOrders=ab)(U:ZJ J Jx)(hR:ZI P l0 xs D0 J Jx){Ωi:Nat->Option Ba}(c:Code):
  ∀k S m K a w Q,
  ru P Γ l0 xs Ωi k c S m K->vd D0 gB J Jx S m a w->(∀e S m a w,K e S m->vd D0 gB J Jx S m a w->Q e.ex a w)->c.wpIn (FR ae) 0 P Q a w:=by
 induction c with
 |skip=>intro k S m K a w Q h u r;simp[ru]at h;exact wpIn_skip<|r .normal S m a w h u
 |label l=>intro k S m K a w Q h u r;simp[ru]at h;exact wpIn_label<|r .normal S m a w h u
 |exit id=>intro k S m K a w Q h u r;simp[ru]at h;exact wpIn_exit<|r (.exit id) S m a w h u
 |ret=>intro k S m K a w Q h u r;simp[ru]at h;exact wpIn_ret<|r .ret S m a w h u
 |region id ops draw=>
  intro k S m K a w Q h u r;simp only[ru]at h;cases draw
  .exact MP<|Pl eF U hR (λi d a' w' hk o=>r .normal i d a' w' hk o) ops.toList 0 S m a w h u
  .simp only[bo]at h
   cases ko:H8 ops
   .rw[ko]at h;exact h.elim
   rw[ko]at h;simp only[bo]at h;let⟨E,D,β,bR,R,Ki,Y⟩:=u.begin U;obtain⟨C,W⟩:∃C,C=λe a w=>e≠.outgrown/\Q e a w:=⟨_,rfl⟩;have hL:¬LetsOut C:=by
    rintro⟨a,w,h⟩;rw[W]at h;exact h.1 rfl
   apply wpIn_mono (Q:=C) ?_ (λe a w h=>by rw[W]at h;exact h.2);let⟨fs,Sn,h1,h2,A⟩:=yN _ _ _ _ h;rw[rB]at A;cases hi:indep ops fs
   .rw[hi]at A;exact A.elim
   rw[hi]at A;apply MQ Z<|JM hL ko _ _ _ _<|W5 eF h1 h2 hi bR λD' β' a' w' G=>?_;rw[W];exact⟨aj,r .normal Sn m a' w' A<|Ki E D' β' Sn a' w' (iO.refl E) (by rw[G.df,Y]) G⟩
 |seq x y M N=>
  intro k S m K a w Q h u r;simp[ru]at h;apply Jj<|M k S m _ a w _ h u λe i d a' w' j o=>?_;cases e with
  |normal=>exact N _ i d K a' w' Q j o r
  |exit id=>exact r (.exit id) i d a' w' j o
  |ret=>exact r .ret i d a' w' j o
 |cond c x y M N=>
  intro k S m K a w Q h u r;simp[ru]at h;let⟨E,D,β,bR,_⟩:=u.begin U;have t:=bR.ev c;split at h
  .rename_i e
   rw[e]at t;exact wpIn_cond_true t<|M _ _ _ _ _ _ _ h u r
  .rename_i e
   rw[e]at t;exact wpIn_cond_false t<|N _ _ _ _ _ _ _ h u r
  .rename_i v e
   rw[e]at t;exact wpIn_cond_split t (λq=>M _ _ _ _ _ _ _ (h.1 q) u r) λq=>N _ _ _ _ _ _ _ (h.2 q) u r
  .exact h.elim
 |block id c ih=>
  intro k S m K a w Q h u r;simp only[ru]at h;apply wpIn_block<|ih k S m _ a w _ h u λe i d a' w' j o=>?_;cases e with
  |normal=>exact r .normal i d a' w' j o
  |exit H=>
   simp[XE.ex,Exit.inBlock];by_cases s:H=id
   .subst s
    simp[MN,bo]at j;rw[I rfl];exact r .normal i d a' w' j o
   .have:ap H id=ah:=by
     cases q:ap H id
     .rfl
     .exact absurd (cN q) s
    simp[this,iw]at j;rw[V s];exact r (.exit H) i d a' w' j o
  |ret=>exact r .ret i d a' w' j o
 |loop c ih=>
  intro k S m K a w Q h u r;simp[ru]at h;cases hI:Ωi k with
  |none=>rw[hI]at h;exact h.elim
  |some F=>
   rw[hI]at h;simp at h;let⟨g,h⟩:=h;obtain⟨z,T⟩:∃z,z=F.I g:=⟨_,rfl⟩;rw[<-T]at h;unfold apw at h;let⟨x,hx,TG,vJ,HN⟩:=h;have B:∀{i:aq} {tm hp d a' w'},vd D0 gB J Jx i d a' w'->s7 (yI 1000 i tm hp [] [])->vd D0 gB J Jx (lK 1000 i.n tm hp) d a' w':=by
    intro i tm hp d a' w' h G;let⟨E,D,β,X,u,Y,R,hX,hD,hK,Z⟩:=h.st;let⟨cI,iC,TC,_⟩:=Eo (λl h=>(R l).1 h) u G;refine⟨E,D,cI,X,iC,Y,R,?_,hD,hK,Z⟩;rintro g ⟨l,b,L,k1,k2,k3,rfl⟩;let⟨a1,b1,_,k5,k6⟩:=TC l L k2 k3;exact hX _ ⟨a1,b1,L,k5,k6,k3,rfl⟩
   apply YI (λn a w=>∃x,z.p x/\z.μ x=n/\vd D0 gB J Jx (lK 1000 S.n (z.tm x)<|z.hp x) (z.y x,ab) a w) (z.μ x) ⟨x,hx,rfl,TG▸B u vJ⟩ ?_;rintro n a w ⟨x,hx,rfl,u⟩;apply ih (k+1) _ _ _ a w _ (HN x hx) u λe i d a' w' j o=>?_;cases e with
   |normal=>
    simp[XE.ex,Exit.then];simp only at j;cases q:ap i.n S.n
    .rw[q]at j;exact j.elim
    .rw[q]at j
     let⟨y,hy,TH,ai,vJ⟩:=j;have:=B o vJ;rw[cN q,TH]at this;exact⟨z.μ y,ai,y,hy,rfl,this⟩
   |exit id=>exact r (.exit id) i d a' w' j o
   |ret=>exact r .ret i d a' w' j o
 |_=>intro k S m K a w Q h;simp[ru]at h
def aoS(eF:∀f c,Γ f=O c->Sound P f c)(hm:P.follows .mixedOrders=ab){Ωi:Nat->Nat->Option Ba}{f:FuncId}{fn:Func}(hf:P.funcs[f]? =O fn)(qy:uc P f=ab){cap:bL}{hp:bN}{C:Nat->List (Nat×bm)}
  (h:∀l0,Ye P Γ l0 xs (Ωi l0) fn cap hp C):xt P f cap hp xs C:=by
 refine⟨qy,λl D β w us kj fk hD gR J Jx hJ EZ hR h0=>?_⟩;have h:=h l;unfold Ye at h;cases hb:fn.body with
 |none=>rw[hb]at h;exact h.elim
 |some c=>
 rw[hb]at h;simp only at h;cases W:mF (cap.length+1) fn.ntmps&&qD (hp.map (·.1))&&(hp.all λx=>cK x.1 1000)&&isNil fn.results.toList
 .rw[W]at h;exact h.elim
 rw[W]at h;simp[bo]at h;simp only[bC]at W;let⟨⟨⟨q1,q2⟩,q3⟩,q4⟩:=W;have q1:=nh q1;have hlen:=Z.len cap kj;have A:Z D w β (.v (.func (.yield l) #[] #[])::cap) (.func (.yield l) #[] #[]::us):=by
  simp only[Z];exact⟨_,_,rfl,by simp[F],kj⟩
 obtain⟨args,B⟩:∃args,args=SV.v (.func (.yield l) #[] #[])::cap:=⟨_,rfl⟩;obtain⟨d,uz⟩:∃d,d=Value.func (.yield l) #[] #[]::us:=⟨_,rfl⟩;rw[<-B,<-uz]at A;rw[<-B]at h;rw[<-uz];have N:=Z.len args A;have ki:args.length<=fn.ntmps:=by rw[B];simpa using q1
 obtain⟨E,j⟩:∃E:Env,E=⟨w,nJ β hp,D,β,λl=>l<1000,[]⟩:=⟨_,rfl⟩;have bR:St E D β (oP fn args hp) {tmps:=d.toArray++sb (fn.ntmps-d.toArray.size) undef,defers:=[]} w:=by
  subst j;exact{
   size:=by simp[oP];lia
   tm:=λt=>by
    simp only[oP];rw[D6];rcases uQ t args.length with K|K
    .obtain⟨u,p,T⟩:=Z.get args t args[t] A<|by simp[K]
     have H:(d.toArray++sb (fn.ntmps-d.toArray.size) undef)[t]? =O u:=by
      rw[aiG<|by simpa using N▸K];simpa using p
     rw[H];simp[CG,jR,kB K];exact T
    .have H:((d.toArray++sb (fn.ntmps-d.toArray.size) undef)[t]?).getD undef=undef:=by
      rw[Array.getElem?_append_right<|by simpa using N▸K,Array.getElem?_replicate];split<;>rfl
     rw[H,jR,xk K];simp[Ji,F]
   hp:=λl b z=>by
    let⟨L,p,T,_⟩:=fk.1 l b<|pA z;exact⟨L,p,T⟩
   eJ:=λl b L z q bQ=>by
    let⟨L',p,T,H⟩:=fk.1 l b<|pA z;rw[q]at p;cases p;exact⟨(H bQ).2,(H bQ).1,.inr ⟨l,b,L,pA z,q,bQ,rfl⟩⟩
   inj:=λl l' b b' L L' z cn=>fk.2 l l' b b' L L' (pA z)<|pA cn
   eZ:=hD,d0:=λg h=>h,d1:=λg h=>.inl h
   ib:=λl z=>by
    simp[oP,qS]at z;cases hx:β l with
    |none=>rfl
    |some L=>
     have:=BA.2<|gR l (by rw[hx];simp);rw[this]at z;cases z.2
   os:=rfl,tape:=rfl,output:=rfl,grow:=gL _,block:=λ_ _ _=>rfl,df:=rfl
   low:=λl z=>by
    simp only[oP];have:cK l 1000=ab:=yB z;rw[this];rfl
   k9:=λl L _ q=>q}
 have hsI:vd D β J Jx (oP fn args hp) (0,ab) {tmps:=d.toArray++sb (fn.ntmps-d.toArray.size) undef,defers:=[]} w:=by
  refine⟨E,D,β,nJ β hp,bR,by rw[j],by rw[j];exact λl=>xn,?_,λg I=>.inl I,by rw[j];exact λl L _ h=>h,h0⟩;rintro g ⟨l,b,L,G,k2,k3,k4⟩;exact⟨l,b,L,pA G,k2,k3,k4⟩
 apply callsIn_wide.1<|callsIn_of_wp (n:=0) hf hb trivial ?_;apply aSs eF hm ⟨hJ,EZ⟩ hR c 0 _ _ _ _ w _ h hsI λe S m a w' he hs=>?_;let⟨E',D',β',X,Q,aD1,Og,hX',hD',hK',Kv⟩:=hs.st;have HM:(results fn a.tmps).run P w'=.ok (ah1 []) w':=by
  apply asu ?_;rw[Pa.1 q4];simp
 let⟨y,R⟩:=m;have o:∀{j:bN},SO hp S j->zY β D X w' j:=by
  intro j h;unfold SO at h;cases M:j.all (λx=>isNil<|na x.2)&&nc (hp.map (·.1)) (j.map (·.1))
  .rw[M]at h;exact h.elim
  rw[M,bo]at h;rw[bC]at M;have h:=JL h;refine⟨D',λg I=>⟨hD' g I,Q.eZ g I⟩,λl b z=>?_⟩;have U:=tq.1 M.2 l<|List.mem_map.2 ⟨_,z,rfl⟩;have ai:l<1000:=by
   obtain⟨x,hx,rfl⟩:=List.mem_map.1 U;exact nh<|List.all_eq_true.1 q3 x hx
  have nn:∀l,cu (xS j) l=O ae->Bb j l:=λl z=>by let⟨h,_⟩:=HY z;cases h
  rcases Dv h z with⟨a',b',Y,e2,e3⟩|⟨Y,_⟩
  .obtain⟨G,_⟩:=HY Y
   cases G;let⟨L,G,k2⟩:=Q.hp l b' e2;refine⟨L,hK' l L ai<|Q.k9 l L ((Og l).2 ai) G,?_,λhn=>?_⟩
   .have p:=Ud nn e3 k2
    have hi:∀k∈na b,k∈([]:cf):=λk U=>by
     have:=List.all_eq_true.1 M.1 _ z;simp at this;rw[Pa.1 this]at U;exact U
    apply(gk.cut b hi p).mono ⟨λ_ h=>h,λ_ _=>rfl,λl L q=>?_⟩ b λ_=>rfl;unfold nj at q;rw[V aj]at q;cases q
   .obtain⟨j1,j2,_⟩:=Q.eJ l b' L e2 G hn
    exact⟨j2,hX' _ ⟨l,b',L,e2,G,hn,rfl⟩,j1⟩
  .obtain⟨h,_⟩:=HY Y
   cases h
 have aGT:zY β D X w' []:=⟨λ_=>False,λg I=>I.elim,λl b z=>by cases z⟩;have fin:aaM xs hp C e S (y,R)->(R=ab->y=xs.length)/\zY β D X w' (C y):=by
  intro h;unfold aaM at h;split at h
  .exact h.elim
  .simp only at h
   cases hy:C y with
   |nil=>
    rw[hy]at h;refine⟨λha=>?_,aGT⟩;rw[ha]at h;exact h
   |cons x r=>
    rw[hy]at h;cases R with
    |true=>exact⟨λ_=>h.1,o h.2⟩
    |false=>exact⟨(λha=>by cases ha),o h⟩
 let⟨f1,f2⟩:=fin he;have s:a.defers= []/\∃v,(results fn a.tmps).run P w'=.ok v w'/\(∃v',Ef v=.returned v')/\((∃X,J xs.length X w'/\zY β D X w' (C xs.length))\/∃X i,Jx i X w'/\zY β D X w' (C i)):=by
  refine⟨by rw[Q.df,aD1],_,HM,⟨_,rfl⟩,?_⟩;cases R with
  |true=>
   have:=f1 rfl;subst this;exact .inl ⟨X,Kv,f2⟩
  |false=>exact .inr ⟨X,y,Kv,f2⟩
 cases e with
 |normal=>exact s
 |ret=>exact s
 |exit id=>exact he.elim
def acV(e:∀f c,Γ f=O c->Sound P f c)(z:P.follows .mixedOrders=ab){Ωi:Nat->Nat->Option Ba}{f:FuncId}{fn:Func}(y:P.funcs[f]? =O fn)(x:uc P f=ab){cap:bL}{hp:bN}
 (h:∀l0,Yd P Γ l0 xs (Ωi l0) fn cap hp):A' P f cap hp xs:=aoS e z y x h
def xt.js{f:FuncId}{cap:bL}{hp:bN}{H:Nat->List (Nat×bm)}(h:xt P f cap hp xs H)(ρ:Nat->Nat)
  (hi:∀a b,a∈hp.map (·.1)->b∈hp.map (·.1)->ρ a=ρ b->a=b)
  (A:nc (hp.map (·.1)) (kp cap)=ab) (t:hp.all (λx=>nc (hp.map (·.1))<|na x.2)=ab):xt P f (qU ρ cap) (qI ρ hp) xs (λi=>qI ρ<|H i):=by
 refine⟨h.1,λl D β w us Y G S gR J Jx T U W R=>?_⟩;obtain⟨gB,p⟩:∃gB,gB=nj (λl=>β<|ρ l) (hp.map (·.1)):=⟨_,rfl⟩;have v:∀{l},l∈hp.map (·.1)->gB l=β (ρ l):=λy=>by rw[p];exact I y
 have M:∀{l},l∉hp.map (·.1)->gB l=ae:=λy=>by rw[p];exact V y
 have A:=tq.1 A;have t:=λl b y=>tq.1<|List.all_eq_true.1 t (l,b) y;have N:Z D w gB cap us:=by rw[p];exact Z.cut cap A<|(Z.js cap).1 Y
 have Q:nJ β (qI ρ hp)=nJ gB hp:=by
  funext g;apply propext ⟨?_,?_⟩
  .rintro⟨l,b,L,z,r,n,q⟩
   obtain⟨k,c,u,rfl,rfl⟩:=sM.1 z;exact⟨k,c,L,u,by rw[v<|mem_keys.2 ⟨c,u⟩];exact r,n,q⟩
  .rintro⟨k,c,L,z,r,n,q⟩
   rw[v<|mem_keys.2 ⟨c,z⟩]at r;exact⟨ρ k,Gl ρ c,L,sM.2 ⟨k,c,z,C⟩,r,n,q⟩
 have p0:xr D w gB hp:=by
  refine⟨λl b y=>?_,λl K b b' L L' y B E F j C hg=>?_⟩
  .obtain⟨L,z,r,n⟩:=G.1 (ρ l) (Gl ρ b)<|sM.2 ⟨l,b,y,C⟩
   refine⟨L,by rw[v<|mem_keys.2 ⟨b,y⟩];exact z,?_,n⟩;rw[p];exact gk.cut b (t l b y)<|(gk.js b).1 r
  .rw[v<|mem_keys.2 ⟨b,y⟩]at E
   rw[v<|mem_keys.2 ⟨b',B⟩]at F;exact hi _ _ (mem_keys.2 ⟨b,y⟩) (mem_keys.2 ⟨b',B⟩)<|G.2 (ρ l) (ρ K) _ _ L L' (sM.2 ⟨l,b,y,rfl,rfl⟩) (sM.2 ⟨K,b',B,rfl,rfl⟩) E F j C hg
 have en:∀{X o s},zY gB D X o s->zY β D X o (qI ρ s):=by
  rintro X o s ⟨D2,u,m⟩;refine⟨D2,u,λl b y=>?_⟩;obtain⟨k,c,hk,rfl,rfl⟩:=sM.1 y;let⟨L,j,C,m3⟩:=m k c hk;by_cases d:k∈hp.map (·.1)
  .rw[v d]at j
   exact⟨L,j,(gk.js c).2 C,m3⟩
  .rw[M d]at j
   cases j
 apply(h.2 l D gB w us N p0 S (λl y=>by
  by_cases d:l∈hp.map (·.1)
  .exact d
  .exact absurd (M d) y) J Jx T U W<|Q▸R).mono ?_
 rintro e o ⟨z,r⟩;exact⟨z,r.imp (λ⟨X,u,m⟩=>⟨X,u,en m⟩) λ⟨X,i,u,m⟩=>⟨X,i,u,en m⟩⟩
def A'.js{f:FuncId}{cap:bL}{hp:bN}(h:A' P f cap hp xs)(ρ:Nat->Nat)
 (hi:∀a b,a∈hp.map (·.1)->b∈hp.map (·.1)->ρ a=ρ b->a=b)
 (z:nc (hp.map (·.1)) (kp cap)=ab) (y:hp.all (λx=>nc (hp.map (·.1))<|na x.2)=ab):A' P f (qU ρ cap) (qI ρ hp) xs:=xt.js h ρ hi z y
end
def G'(W:World):aW:=λg=>g<W.heap.size
def ZE:bp:=λ_=>ae
def az5{P:Program}{f:FuncId}{args:bL}{us:bG}{ret:SV}{hp':bN}{W:World}(h:Sat P f args [] ret hp')(x:Z (G' W) W ZE args us)(z:Laid (G' W) W):
  Calls P f us.toArray W λe w'=>∃v D' β',e=.returned v/\F D' w' β' ret v/\Below W.heap.size W w':=by apply(h (G' W) ZE W us x ⟨λl b y=>(by cases y),λl i b c L j y=>(by cases y)⟩ ⟨λg u=>u,z⟩ λl y=>absurd rfl y).mono ?_;rintro e w' ⟨v,D',β',r,x⟩;refine⟨v,D',β',r,x.ret,x.os,x.tape,x.output,x.size,λk w=>x.block k w ?_⟩;rintro⟨l,b,L,y,_⟩;cases y
def aFU{P:Program}{f:FuncId}{args:bL}{us:bG}{ret:SV}{hp':bN}{W:World}(h:Sat P f args [] ret hp')(u:ret=.bl ab\/ret=.v (.bool ab))(z:Z (G' W) W ZE args us)(y:Laid (G' W) W):
  Calls P f us.toArray W λe w'=>e=.returned (.bool ab)/\Below W.heap.size W w':=by apply(az5 h z y).mono ?_;rintro e w' ⟨v,j,i,r,x,k⟩;rcases u with rfl|rfl<;>(simp[F]at x;subst x;exact⟨r,k⟩)
end Go.Proofs.YtegnkfbnmepmpaaGreatDoor
namespace Go.Proofs.YtegnkfbnmepmpaaGreatDoor
def InR(n:Int):Prop:= -9223372036854775808<=n/\n<=9223372036854775807
end Go.Proofs.YtegnkfbnmepmpaaGreatDoor

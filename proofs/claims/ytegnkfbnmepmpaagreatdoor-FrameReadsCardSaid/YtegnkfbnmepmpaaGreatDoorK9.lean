/-
  Texts joined: C6qS, C6qD, C6qDt, C6qH, C6qE, HuF, HuG, Hu, Hut, HuB, HuC, HuD, HuE, ExG, Ey, LiF, Li, Lit, Lj, Lk. Conditions: each theorem's own.
-/
import Derived.Test.YtegnkfbnmepmpaaGreatDoorK8
import Derived.Test.YtegnkfbnmepmpaaGreatDoorK7
set_option maxRecDepth 100000
set_option linter.all false
open Array renaming getElem_toList->ax3
open BitVec renaming ofInt->lk
open Bool renaming false->ah,true->ab
open ByteArray renaming empty->aJ,extract->Ry,size->kD
open Go.IntKind renaming bits->cZ,i64->bW,u64->fh,u8->CM,wrap->Q
open Go.Proofs.Tryz renaming prog->ar
open Go.Sort renaming ahead->Rx,grow->Jw
open Go.Value renaming int->cg,string->zS
open Int renaming emod_add_mul_ediv->ax7,fdiv->kQ,tdiv->fi,tmod->kf,toNat->X
open List renaming drop->iI,getD->eU,getD_cons_succ->ax1,getElem?_set_ne->ax5,length->cY,length_filter_le->ax4,map->ma,map_id->ajb,pairwise_iff_getElem->ax2,range->fM,replicate->au,take->aC,take_append_drop->Jy
open List.Pairwise renaming nil->axH
open Max renaming max->uZ
open Min renaming min->aB
open Nat renaming add_sub_cancel->ax6,beq->ap,sub->fj
open Option renaming map->gN,none->ae,some->O
open UInt8 renaming ofNat->zW,toNat->M4
namespace Go.Proofs.YtegnkfbnmepmpaaGreatDoor
open Go Go.Shelf Go.RowKit Go.Lib Go.Sort
variable{w y v:N}
def Rr:=@List.Perm.refl
def MJ:=@ax1
def YS:=@List.drop_append_of_le_length
def aiY:=@Int.emod_lt_of_pos
theorem acN(a:N):∀l,(HU a l).Perm (a::l)
 | []=>Rr _
 |b::r=>by
  unfold HU;cases tQ a b
  ·exact((acN a r).cons b).trans (List.Perm.swap a b r)
  ·exact Rr _
def QD:∀l,(yp l).Perm l
 | []=>Rr _
 |a::r=>(acN a<|yp r).trans<|(QD r).cons a
theorem Ml{a b:N}:tQ a b=ab↔b.getD 1 0<a.getD 1 0\/(b.getD 1 0=a.getD 1 0/\a.getD 0 0<=b.getD 0 0):=by
 simp[tQ]
theorem aO7{a b:N}(h:tQ a b=ah):tQ b a=ab:=by grind [Ml]
theorem aO8{a b c:N}(h:tQ a b=ab)(k:tQ b c=ab):tQ a c=ab:=by grind [Ml]
def aoN(a:N):∀l,l.Pairwise (λx y=>tQ x y=ab)->(HU a l).Pairwise (λx y=>tQ x y=ab)
 | [],_=>by simp[HU]
 |b::r,h=>by
  unfold HU;obtain⟨e,z⟩:=List.pairwise_cons.1 h;cases k:tQ a b
  .refine List.pairwise_cons.2 ⟨λy u=>?_,aoN a r z⟩
   grind [acN,aO7]
  .grind [List.pairwise_cons,aO8]
theorem aht:∀l,(yp l).Pairwise (fun x y=>tQ x y=ab)
 | []=>axH
 |a::r=>aoN a _ (aht r)
def avQ{l d:q}(z:∀r∈l,r.length=2)(hp:d.Perm l)(v:d.Pairwise (λx y=>tQ x y=ab)):d=yp l:=by
 refine List.Perm.eq_of_pairwise ?_ v (aht l)<|hp.trans (QD l).symm;intro a b e u h k;have w:=z a<|hp.mem_iff.1 e;have i:=z b<|(QD l).mem_iff.1 u;rw[Ml]at h k
 match a,w,b,i with
 | [a0,a1],_,[b0,b1],_=>
   grind
def Lf(p:Int×Int):N:=[p.1,p.2]
def DX(r:N):Int×Int:=(r.getD 0 0,r.getD 1 0)
def aKy(h:w.length=2):Lf (DX w)=w:=by
 match w,h with
 | [a,b],_=>rfl
def Ac(x:Int×Int):bG:=[.int .i64 x.1,.int .i64 x.2]
def J4(x y:Int×Int):Int:=if Aa y.2 x.2=0 then Aa x.1 y.1 else Aa y.2 x.2
theorem Ut(x y:Int×Int):ltOf J4 x y=decide (y.2<x.2\/(y.2=x.2/\x.1<y.1)):=by
 unfold ltOf J4 Aa;grind
def aRq:SWO (ltOf J4) where
 irrefl x:=by rw[Ut];simp
 trans x y z h1 h:=by rw[Ut,dJ]at*;omega
 ntrans x y z h1 h:=by rw[Ut,dH]at*;omega
def aQQ(od off size:Nat)(w:World):CmpLays ar 310 #[] Ac 2 J4 od off size w:=λ_ _ _ _ x y=>aAg x y _
def aQV{xs:q}(x:∀r∈xs,r.length=2){h:Array (Int×Int)}(hp:PermIn 0 (xs.map DX).toArray.size (xs.map DX).toArray h)(y:SortedIn (ltOf J4) 0 (xs.map DX).toArray.size h):
  h.toList.map Lf=yp xs:=by
 obtain⟨p1,_,p3⟩:=hp;have z:(xs.map DX).toArray.size=h.size:=p1.symm;rw[z]at p3 y;have p4:h.toList.Perm (xs.map DX):=by
  have a:h.extract 0 h.size=h:=aj;grind
 refine avQ x ?_ ?_
 .have:=p4.map Lf
  rw[MS]at this;have e:xs.map (Lf∘DX)=xs:=by
   conv=>rhs;rw[<-ajb xs]
   exact CD λr w=>aKy<|x r w
  rw[e]at this;exact this
 .rw[aiV,ax2]
  intro i j hi u k;have n:i<h.size:=by simpa using hi
  have v:j<h.size:=by simpa using u
  have:=y i j (dx _) k v;grind [Ut,decide_eq_false_iff_not,Ml,Lf,List.getD_cons_zero,ax1]
def Xy:Spec where
 ι:=List<|N
 own:=ab
 dec l H:=match l with
  | [.o l0,.fn (.func 310) [] []]=>match H l0 with
    |some (.row 398<|.cH 2 xs)=>O (xs,[l0])
    |_=>ae
  |_=>ae
 args:=λxs=>[.o 0,.fn (.func 310) [] []]
 hp:=λxs=>[(0,.row 398<|.cH 2 xs)]
 pre:=λxs=>[E<|1<=xs.length,E<|xs.length<=4294967296,E<|xs.all (λr=>decide (r.length=2))=ab]
 out:=λxs=>.leaf (.tu []) [(0,.row 398<|.cH 2<|yp xs)]
def aPS:Xy.dn:=by
 intro l H n i x h;simp only[Xy]at h
 repeat' split at h
 all_goals first|(cases h;done)|(cases h;exact⟨rfl,rfl⟩)|(cases h;refine⟨rfl,?_⟩;simp only[dK,iF,iN,gN, *];rfl)
def aKV{w:World}{g:Nat}{m:Nat}{F:Array Value}{os:Array Obj}{us:Array Value}{ty:TypeId}{x:Nat×Nat}(h:w.heap[g]? =O (Obj.cells us ty x)):
  (Jw (putRow id (Rx w m) g 0 F) os).heap[g]? =O (Obj.cells (putCells id 0 F us) ty x):=by have y:=(Array.getElem?_eq_some_iff.1 h).1;unfold Jw putRow mapBlock Rx;rw[aiG c9,aiI,I rfl,h];rfl
def aKW{w:World}{g k:Nat}{m:Nat}{F:Array Value}{os:Array Obj}(h:k<w.heap.size)(x:k≠g):(Jw (putRow id (Rx w m) g 0 F) os).heap[k]? =w.heap[k]? :=by unfold Jw putRow mapBlock Rx;grind
def aQT(xs:q)(h0:1<=xs.length)(h1:xs.length<=4294967296)(f:xs.all (λr=>decide (r.length=2))=ab):
  Sat ar 309 [.o 0,.fn (.func 310) [] []] [(0,.row 398<|.cH 2 xs)] (.tu []) [(0,.row 398<|.cH 2<|yp xs)]:=by
 have f:∀r∈xs,r.length=2:=λr hr=>by simpa using List.all_eq_true.1 f r hr
 intro D β w us kj fk V gR;simp only[Z,F]at kj;obtain⟨u0,r0,rfl,⟨L,a,rfl⟩,u1,r1,rfl,⟨a1,a2,rfl,rfl,rfl⟩,rfl⟩:=kj;obtain⟨L',W,hB,M⟩:=fk.1 0 (bm.row 398<|.cH 2 xs) aj;rw[a]at W;cases W;obtain⟨hw,u,hB⟩:=hB;simp only[aA.wd,aA.len]at hw u hB;rcases hB with⟨_,hz⟩|⟨B,rP,Ku,cs,fZ,U,J,iZ,yY,rf⟩
 .omega
 obtain⟨TJ,ai⟩:=M B;obtain⟨d,K⟩:∃d:Array (Int×Int),d=(xs.map DX).toArray:=⟨_,rfl⟩;have s:d.size=xs.length:=by rw[K];simp
 have yZ:∀i,i<xs.length->d[i]! =DX (xs.getD i []):=λi hi=>by
  rw[getElem!_pos d i Y];subst K;simp[jR,kB hi]
 have E:∀i j,i<xs.length->j<2->cs[i*2+j]? =O (.int .i64<|(xs.getD i []).getD j 0):=λi j hi Q=>by
  obtain⟨x,hx,bT⟩:=rf i j hi Q;rw[hx];simp only[aA.ok,aA.vl]at bT;rw[bT]
 have hH:HoldsK Ac 2 w L.g 0 d:=by
  intro t ht;rw[size_flatK,s]at ht;have hi:t/2<xs.length:=Y;have C:(flatK Ac 2 d)[t]! =.int .i64 ((xs.getD (t/2) []).getD (t%2) 0):=by
   rw[get_flatK _ _ _ _<|by rw[s];exact ht,yZ _ hi];have:t%2=0\/t%2=1:=Y;rcases this with e|e<;>rw[e]<;>rfl
  have H:=E (t/2) (t%2) hi Y;rw[show t/2*2+t%2=t by omega]at H;rw[C];refine⟨?_,?_⟩
  .simp[World.cell?,J,H]
  .simp only[World.frozen?,J]
   exact iZ.at _ (by have:=(List.getElem?_eq_some_iff.1 H).1;omega)
 have R:L.val=.slice (O ⟨L.g,0,ae⟩) d.size L.cap:=by
  unfold Loc.val;rw[B,u,s];rfl
 have eg:∀args w,(callFunc 310 args).run ar w=.ok (.enter 310 args) w:=enters_of Tryz.func310 ax rfl;have S:=AnyQ.slices_SortFunc aQR 2 Tryz.isAgg398 Tryz.sizeOf398 Ac (λ_=>rfl) (λx v C=>by simp[Ac]at C;rcases C with rfl|rfl<;>rfl) J4 aRq 310 #[] L.g 0 L.cap d w eg (aQQ _ _ _ _) hH ai Y;have e:(L.val::Value.func (.func 310) [].toArray [].toArray:: []).toArray=#[.slice (O ⟨L.g,0,ae⟩) d.size L.cap,.func (.func 310) #[] #[]]:=by rw[R]
 rw[e];refine Calls.mono (show Calls ar 309 _ _ _ from S) ?_;rintro e w' ⟨rfl,y,n,os,c,p,rfl⟩;have aUX:y.size=xs.length:=by rw[c.1,s]
 have HP:y.toList.map Lf=yp xs:=by
  rw[K]at c p;exact aQV f c p
 refine⟨_,D,β,rfl,?_⟩;have hg:(sortWorldK Ac 2 w L.g 0 n y os).heap[L.g]? =O (Obj.cells (putCells id 0 (flatK Ac 2 y) cs.toArray) fZ U):=aKV J;have A:∀k,k<w.heap.size->k≠L.g->(sortWorldK Ac 2 w L.g 0 n y os).heap[k]? =w.heap[k]? :=λk hk A=>aKW hk A;have fB:w.heap.size<=(sortWorldK Ac 2 w L.g 0 n y os).heap.size:=by
  unfold sortWorldK Jw putRowK putRow mapBlock Rx;simp
 have G:jx D w β D (sortWorldK Ac 2 w L.g 0 n y os) β:=⟨λ_ h=>h,λg m=>A g (V g m) λe=>TJ<|e▸m,λ_ _ h=>h⟩;have HG:∀g,nJ β [(0,bm.row 398<|.cH 2 xs)] g↔g=L.g:=by
  intro g;constructor
  .rintro⟨l,b,T,h1,f,h3,h4⟩
   simp only[rD,Prod.mk.injEq]at h1;obtain⟨rfl,rfl⟩:=h1;rw[a]at f;cases f;exact h4.symm
  .rintro rfl
   exact⟨0,bm.row 398<|.cH 2 xs,L,aj,a,B,rfl⟩
 have aU':(yp xs).length=xs.length:=(QD xs).length_eq;exact{
  vB:=G
  ret:=by simp only[F,Z];exact⟨[],rfl,rfl⟩
  vI:=by
   refine⟨λl b z=>?_,λl l' b b' L1 T z cn _ _ _ _ _=>?_⟩
   .simp only[rD,Prod.mk.injEq]at z
    obtain⟨rfl,rfl⟩:=z;refine⟨L,a,⟨hw,by simp only[aA.len];omega,.inr ⟨B,by simp only[aA.len];omega,Ku,(putCells id 0 (flatK Ac 2 y) cs.toArray).toList,fZ,U,by simpa using hg,by simpa [putCells]using iZ,?_,?_⟩⟩,λ_=>⟨TJ,Y⟩⟩
    .simp only[putCells,uT,Array.size_mapIdx,zO]
     exact yY
    .intro i j hi Q
     simp only[aA.len,aA.wd]at hi Q;refine⟨.int .i64<|((yp xs).getD i []).getD j 0,?_,rfl⟩;have OO:i*2+j<cs.length:=Y;simp only[aA.wd,putCells,xl,Array.getElem?_mapIdx,Jg,kB OO,xm,size_flatK,rA,Nat.sub_zero,id];rw[I ⟨dx _,Y⟩,get_flatK _ _ _ _ Y];have q1:(i*2+j)/2=i:=Y;have q2:(i*2+j)%2=j:=Y;rw[q1,q2,<-HP];have P:i<y.toList.length:=by simp;omega
     simp only[jR,pS,kB P,xm,CG,ax3];rw[getElem!_pos y i Y];have:j=0\/j=1:=Y;rcases this with rfl|rfl<;>rfl
   .simp only[rD,Prod.mk.injEq]at z cn
    rw[z.1,cn.1]
  d:=λg m=>⟨.inl m,by have:=V g m;omega⟩
  ib:=λl L a=>.inl a
  own:=λl b T z X TI=>by
   simp only[rD,Prod.mk.injEq]at z;obtain⟨rfl,rfl⟩:=z;rw[a]at X;cases X;exact .inr<|(HG _).2 rfl
  os:=rfl,tape:=rfl,output:=rfl,size:=fB
  block:=λg N vE=>A g N λe=>vE<|(HG g).2 e}
def aQU:Sound ar 309 Xy.iY:=Xy.sound ax aPS λxs h=>by have x:=h _<|.head _;have y:=h _<|.tail _<|.head _;have z:=h _<|.tail _<|.tail _<|.head _;exact aQT xs x y z
end Go.Proofs.YtegnkfbnmepmpaaGreatDoor
namespace Go.Proofs.YtegnkfbnmepmpaaGreatDoor
open Go Go.RowKit
variable{w:M}(y:M)(v:Int)
def aPx:Spec:=Sp (N) [.l] λl=>([E<|cJ l=0],.leaf (.fn (.func 313) [] [U 2000,U 2001]) [(2000,.cells 42 [dm l]),(2001,.cells 403 [.o 2002]),(2002,.row 398<|.cH 2<|bU l)])
def atZ:Spec:=Sp (N) [.l] λl=>([E<|l.length<=4294967296],.ite (E<|cJ l=0) (.leaf (.tu [.o 2000,B 0]) [(2000,.row 317<|.cH 2<|jV l)])<|.leaf (.tu [.v<|.slice ae 0 0,B<|cJ l]) [])
def aP2:Spec:=Sp (N) [.l] λl=>([E<|l.length<=4294967296],.ite (E<|cJ l=0) (.leaf (.tu [.o 2000,B 0]) [(2000,.row 243<|.cH 3<|fR l)])<|.leaf (.tu [.v<|.slice ae 0 0,B<|cJ l]) [])
def aH9(l:N):dV:=bi Nat λi=>(i<=l.length,[(1,U 1000),(3,U 1001),(6,dm l),(7,B l.length),(8,cP i)],[(1000,.cells 42 [dm l]),(1001,.cells 403 [.o 1002]),(1002,.row 398<|.cH 2<|j_<|l.take i)],l.length-i)
def aqj(l0:Nat)(l:N):CQ:={ι:=Nat,p:=λi=>i<=(bU l).length,tm:=λi=>[(0,.v<|.func (.yield l0) #[] #[]),(1,U 0),(2,U 1),(4,B<|g l),(5,B<|oa (g l) (bU l) i),(10,.o 2),(11,.v<|.int .i64 (bU l).length),(12,cP i)],hp:=λi=>[(0,.cells 42 [dm l]),(1,.cells 403 [.o 2]),(2,.row 398<|.cH 2<|bU l)],μ:=λi=>(bU l).length-i,y:=λi=>i}
def aqs(x:CQ):Nat->Option Ba:=λk=>cond (ap k 0) (O ⟨Unit,λ_=>x⟩) ae
def aK6(l:N):Ha:={f:=313,cap:=[U 700008,U 700009],iR:=[(700008,.cells 42 [dm l]),(700009,.cells 403 [.o 700010]),(700010,.row 398<|.cH 2<|bU l)],xs:=items l,it:=λi=>[.agg #[.int .i64 ((ji l i).getD 0 0),.int .i64<|(ji l i).getD 1 0],.int .i64<|oa (g l) (bU l) i],tm:=[(5,U 1000),(6,U 1001)],hp:=λi=>[(1000,.cells 3 [B<|g l]),(1001,.cells 313 [.o 1002]),(1002,.row 317<|.cH 2<|sf l i)]}
def aHh(l:N):bO:=λk=>cond (ap k 0) (O<|.Cr Nat λ_=>aK6 l) ae
def aIK(l:N):dV:=bi Nat λj=>((j:Int)<=g l/\cJ l=0,[(0,dm l),(5,B<|g l),(6,.o 5000),(7,B<|g l-j)],[(5000,.row 243<|.cH 3<|yj l j)],(g l).toNat-j)
def aIL(l:N)(j:Nat):dV:=bi Nat λs=>((j:Int)<g l/\s<=l.length/\cJ l=0,[(0,dm l),(5,B<|g l),(6,.o 5000),(7,B<|g l-j),(8,cP s)],[(5000,.row 243<|.cH 3<|tP l j s)],l.length-s)
def aIM(l:N)(j s:Nat):dV:=bi Nat λk=>((j:Int)<g l/\s<l.length/\l.getD s 0=g l-j/\k<=2^j/\cJ l=0,[(0,dm l),(5,B<|g l),(6,.o 5000),(7,B<|g l-j),(8,cP s),(9,cP k)],[(5000,.row 243<|.cH 3<|v8 l j s k)],2^j-k)
def oRt(l:N):bO:=λk=>cond (ap k 0) (O<|.one<|aIK l)<|cond (ap k 1) (O<|.nk Nat λj=>aIL l j)<|cond (ap k 2) (O<|.nk (Nat×Nat) λx=>aIM l x.1 x.2) ae
def oRc(l:N):dV:=bi Nat λc=>(c<=(fR l).length/\cJ l=0,[(4,.o 5000),(6,B<|g l),(7,.o 5001),(8,B<|(fR l).length-1-c)],[(5000,.row 243<|.cH 3<|fR l),(5001,.row 317<|.cH 2<|uI l c)],(fR l).length-c)
def arS(l:N):Prop:=(∃(h:Nat),iT h l/\lG l (o l) (aZ h) (l=l/\gZ (j_<|aC h l)))/\(∀(x1:Nat),iT x1 l->kX (Zq x1) (o l) (Dq (b_ l x1>0) (((j_<|aC x1 l).length+((ma (λ(i:Nat)=>aC 2<|iI (i*2) [Zq x1,b_ l x1]) []).length.add 0).succ)*16<=140737488355328/\(∃(x:Nat),rl x l x1 (l=l)<|aw (o l) (bE x1 x)<|l=l/\j_ (aC x1 l)++ma (λ(i:Nat)=>aC 2<|iI (i*2) [Zq x1,b_ l x1]) (fM 1)=j_ (aC x l)))<|∃(y:Nat),rl y l x1 (l=l)<|aw (o l) (bE x1 y)<|l=l/\j_ (aC x1 l)=j_ (aC y l)) (1<=(j_<|aC x1 l).length) ((j_<|aC x1 l).length<=4294967296/\(j_<|aC x1 l).all (λ(r:N)=>decide (r.length=2))=ab/\l=l/\yp (j_<|aC x1 l)=bU l))
def LK(h0:N)(h1:Int)(h:q):Prop:=Cq (cJ h0=0) (h1=0/\gZ h)<|rX/\h1=h1
def Wa(h0:Nat×Nat)(h1:N)(h:Nat):Prop:=Zq h0.1<g h1/\h0.2<h1.length/\h1.getD h0.2 0=g h1-Zq h0.1/\h<=2^h0.1/\cJ h1=0
def Qe(h0:Nat)(h1:N)(h:Nat):Prop:=Zq h0<g h1/\jc h h1/\cJ h1=0
def aty(l:N)(D:Int):Prop:=cd l/\Bq (cJ l !=0) (LK l (cJ l)<|fR l) (cd l/\(∃(e:Nat),(Zq e<=D/\cJ l=0)/\lG l D (D=D-Zq e) (gZ<|yj l e))/\(∀(x1:Nat),Zq x1<=D/\cJ l=0->Dq (D-Zq x1>0) (∃(g2:Nat),(∃(k:Nat),Qe g2 l k/\lG l D (D-Zq x1=D-Zq g2) (aZ k/\yj l x1=tP l g2 k))/\(∀(x4:Nat),Qe g2 l x4->Dq (Zq x4<o l) (Rq (Zq x4) (o l)<|Bq (b_ l x4 !=D-Zq g2) (∃(y:Nat),Qe g2 l y/\gS l y x4/\lG l D (Jq<|D-Zq g2) (bE x4 y/\tP l g2 x4=tP l g2 y))<|∃(g6:Nat×Nat),(∃(r:Nat),Wa g6 l r/\lG l D (D-Zq g2=D-Zq g6.1) (fC x4 g6.2/\aZ r/\tP l g2 x4=v8 l g6.1 g6.2 r))/\(∀(x8:Nat),Wa g6 l x8->fU (Wq<|D- (D-Zq g6.1))/\Dq (Zq x8<fG (Wq<|D- (D-Zq g6.1))) (P_ (v8 l g6.1 g6.2 x8) [Zq g6.2,D-Zq g6.1,0]/\(∃(z:Nat),Wa g6 l z/\cl (2^g6.1) z x8/\lG l D (Jq<|D-Zq g6.1) (Jq (Zq g6.2)/\bE x8 z/\v8 l g6.1 g6.2 x8++zm [Zq g6.2,D-Zq g6.1,0]=v8 l g6.1 g6.2 z))) (∃(h:Nat),Qe g2 l h/\gS l h x4/\lG l D (D-Zq g6.1=D-Zq g2) (bE g6.2 h/\v8 l g6.1 g6.2 x8=tP l g2 h)))) (∃(x:Nat),(Zq x<=D/\cJ l=0)/\qh D x x1/\lG l D (bF (D-Zq g2)=D-Zq x) (tP l g2 x4=yj l x)))) (Cq (cJ l=0) (a_/\yj l x1=fR l)<|False/\0=cJ l)))
def aq8(h0:N)(h1 h:Nat):Prop:=(uI h0 h1).set (bM (fR h0) (Zq (fR h0).length-1-Zq h1).toNat).toNat [d (fR h0) (Zq (fR h0).length-1-Zq h1).toNat,(Zq (fR h0).length-1-Zq h1).fdiv<|pI (Wq<|g h0-d (fR h0) (Zq (fR h0).length-1-Zq h1).toNat) .i64]=uI h0 h
def aq9(h0:Nat)(h1 x k r:Int)(y:q)(z:N)(u:q):Prop:=∀(h:Nat),h<=h0/\h1=0->Dq (x-Zq h>=0) (Rq (x-Zq h) k<|(x-Zq h).toNat<h0/\Rq (x-Zq h) k ((x-Zq h).toNat<h0/\Rq (x-Zq h) k ((x-Zq h).toNat<h0/\0<=Uq (Wq<|r-d y (x-Zq h).toNat)/\Rq (bM y (x-Zq h).toNat) (Zq (uI z h).length) ((bM y (x-Zq h).toNat).toNat<(uI z h).length/\(∃(e:Nat),(e<=h0/\h1=0)/\cl h0 e h/\aw r (Wq (x-Zq h-1)=x-Zq e) (y=y/\aq8 z h e)))))) (Cq (h1=0) ((0:Int)=0/\uI z h=u)<|False/\0=h1)
def aeI(h0:N)(h1:Nat)(x y z e:Int)(k:Prop)(r u:q):Prop:=yb (Zq 16) (o h0) (∃(h:Nat),(h<=h1/\x=0)/\aw y (z=e-Zq h) (k/\r=uI h0 h))<|aq9 (fR h0).length (cJ h0) (Zq h1-1) (Zq u.length) (g h0) (fR h0) h0<|jV h0
def ao0(l:N)(l0 D:Nat):Prop:=cJ l=0/\aL (∃(x1:Nat),x1.le D/\FT x1/\(vU l0/\aw (g l) (0=oa (g l) (bU l) x1) (Jq (dk<|bU l)/\aZ x1/\l=l/\bU l=bU l))/\(∀(h:Nat),h.le D->Dq (Zq h<dk (bU l)) (Rq (Zq h) (dk<|bU l)<|T h<D/\l0=l0/\tG (items l) h [Value.agg (ot (bM (bU l)<|T h)<|cg .i64<|d (bU l)<|T h).toArray,cg .i64<|oa (g l) (bU l) h]/\(cE (g l-d (bU l) (T h))/\(∃(x:Nat),x.le D/\xW (h+1) x/\cl D x h/\vU l0/\aw (g l) (Wq (oa (g l) (bU l) h+jd (Wq<|g l-d (bU l) (T h)) .i64)=oa (g l) (bU l) x) (Jq (dk<|bU l)/\bE h x/\l=l/\bU l=bU l)))/\True) (h=(items l).length)))
def acZ(l:N)(l0:Nat):Prop:=ao0 l l0 (bU l).length
theorem av4(a b:N):∀i,rq i (a++b)=rq i a++rq (i+a.length) b:=by
 induction a with
 |nil=>grind [rq]
 |cons x r h=>grind [rq]
theorem av5(l:N):∀i r,r∈rq i l->∃k:Nat,k<l.length/\r= [i+k,l.getD k 0]/\0<l.getD k 0:=by
 induction l with
 |nil=>grind [rq]
 |cons x t u=>
  intro i r h;have y:r∈rq (i+1) t->∃k:Nat,k<(x::t).length/\r= [i+k,(x::t).getD k 0]/\0<(x::t).getD k 0:=fun h=>by
   obtain⟨k,z,v,e⟩:=u (i+1) r h;refine⟨k+1,by simpa using z,?_,by simpa using e⟩;grind
  grind [rq]
theorem Mv{l:N}{r:N}(h:r∈j_ l):∃k:Nat,k<l.length/\r= [(k:Int),l.getD k 0]/\0<l.getD k 0:=by
 obtain⟨k,x,y,z⟩:=av5 l 0 r h;grind
def av7{l:N}:∀r∈j_ l,r.length=2:=λr h=>by grind [Mv]
def av6(l:N):∀i,(rq i l).Pairwise (λa b=>a.getD 0 0<b.getD 0 0):=by
 induction l with
 |nil=>intro i;simp[rq]
 |cons x t h=>grind [rq,List.pairwise_cons,av5]
def QG(l:N):(j_ l).length<=l.length:=by
 have:∀(l:N) i,(rq i l).length<=l.length:=by
  intro l;induction l with
  |nil=>grind [rq]
  |cons x t h=>grind [rq]
 exact this l 0
theorem XT(l:N)(x:Int):j_ (l++ [x])=j_ l++cond (decide (0<x)) [[(l.length:Int),x]] []:=by
 unfold j_;rw[av4];simp only[rq,A5]
def ahz{l:N}{i:Nat}(h:i<l.length):j_ (l.take<|i+1)=j_ (l.take i)++cond (decide (0<l.getD i 0)) [[(i:Int),l.getD i 0]] []:=by grind [take_succ,XT]
theorem Pz(l:N):(bU l).Perm (j_ l):=QD _
def aqw{l:N}{r:N}(h:r∈bU l):∃k:Nat,k<l.length/\r= [(k:Int),l.getD k 0]/\0<l.getD k 0:=Mv<|(Pz l).mem_iff.1 h
def qL(h:q):Nat:=(h.map<|wid v).sum
theorem aww(m:Int)(a b:q):qL m (a++b)=qL m a+qL m b:=by simp[qL]
theorem aR2{m:Int}{a b:q}(h:a.Perm b):qL m a=qL m b:=(h.map (wid m)).sum_nat
def aw1(s:N):0<wid v s:=Nat.pow_pos Y
def awi(m:Int):∀h,(pa m h).length=qL m h
 | []=>rfl
 |s::r=>by simp[pa,JY,qL,awi m r]
def awh(a b:q):pa v (a++b)=pa v a++pa v b:=by
 induction a with
 |nil=>rfl
 |cons x r h=>simp[pa,h]
def aR3(l:N):(qL v (j_ l):Int)=ny v l:=by
 induction l using yn with
 |h0=>rfl
 |h1 l z h=>
  rw[XT,aww,DT,<-h];cases decide (0<z)
  .rfl
  .rfl
def aR1{l:N}(h:cJ l=0):qL (g l) (bU l)=2^(g l).toNat:=by obtain⟨z,x,e,y⟩:=ND h;have:=(af8 x).2 y;rw[<-aR3]at this;grind [aR2,Pz]
theorem JT(m:Int)(h:q)(i:Nat):oa m h i=(qL m (h.take i):Int):=by
 unfold oa qL;have:∀(l:q) (a:Int),l.foldl (fun a s=>a+(wid m s:Int)) a=a+((l.map (wid m)).sum:Nat):=by
  intro l;induction l with
  |nil=>intro a;simp
  |cons x r y=>grind
 grind
def ZV(x:q){i:Nat}(h:i<x.length):oa v x (i+1)=oa v x i+(wid v (x.getD i []):Int):=by grind [JT,take_succ,qL]
def azu(h:q)(i:Nat):oa v h i<=qL v h:=by grind [JT,aww,Jy]
def akb(h:q)(i:Nat):0<=oa v h i:=by grind [JT]
structure Good (l:N):Prop where
 len:l.length<=256
 lens:∀x∈l,0<=x/\x<=11
 m0:1<=g l
 m1:g l<=11
 sum:qL (g l) (bU l)=2^(g l).toNat
 big:2^(g l).toNat<=2048
def te{l:N}(h:cJ l=0):Good l:=by
 obtain⟨h1,e,v,w⟩:=ND h;have k:=EX l;have r:=abe Y λx y=>(Ep e x y).2;refine⟨h1,Ep e,?_,r,aR1 h,?_⟩
 .by_cases h0:g l=0
  .have i:∀x∈l,x=0:=λx y=>by have:=k.2 x y;have:=(Ep e x y).1;omega
   have:∀l:N,(∀x∈l,x=0)->lv l=0:=by
    intro l;induction l using yn with
    |h0=>intro _;rfl
    |h1 l z u=>
     intro h;rw[C2,h z aj,u λx y=>h x c9];rfl
   grind
  .omega
 .exact nF Y<|show(g l).toNat<=11 by omega
theorem av3{l:N}{i:Nat}(h:i<(bU l).length):∃k:Nat,k<l.length/\ji l i= [(k:Int),l.getD k 0]/\0<l.getD k 0:=by
 have x:ji l i∈bU l:=by grind [ji]
 exact aqw x
def av2{l:N}(e:Good l){i:Nat}(h:i<(bU l).length):0<=(ji l i).getD 0 0/\(ji l i).getD 0 0<l.length/\1<=(ji l i).getD 1 0/\(ji l i).getD 1 0<=g l:=by obtain⟨k,x,y,z⟩:=av3 h;rw[y];simp only[I8,MJ];have:=(EX l).2 _<|yW x;omega
def akc{l:N}(x:Good l){i:Nat}(h:i<(bU l).length):0<=oa (g l) (bU l) i/\oa (g l) (bU l) i+(wid (g l) (ji l i):Int)<=((2^(g l).toNat:Nat):Int):=by refine⟨akb _ _ _,?_⟩;have:=azu (g l) (bU l)<|i+1;rw[ZV _ _ h,x.sum]at this;exact this
def acY(m:Int):∀a h,(ze m a h).length=h.length
 |a,[]=>rfl
 |a,s::r=>by simp[ze,acY m _ r]
def aoZ(m:Int):∀(x:q) (a:Int) (i:Nat),i<x.length->
  (ze m a x)[i]? =O [.agg #[.int .i64 ((x.getD i []).getD 0 0),.int .i64<|(x.getD i []).getD 1 0],.int .i64<|a+oa m x i]
 | [],a,i,h=>by simp at h
 |s::r,a,0,_=>by simp[ze,oa]
 |s::r,a,i+1,h=>by
  simp only[ze,A4];rw[aoZ m r _ i<|by simpa using h];have:a+(wid m s:Int)+oa m r i=a+oa m (s::r) (i+1):=by
   grind [JT,qL]
  grind
def aFM(l:N):(items l).length=(bU l).length:=acY ..
def ao1{l:N}{i:Nat}(h:i<(bU l).length):(items l)[i]? =O (aFH l i):=by have:=aoZ (g l) (bU l) 0 i h;rw[A5]at this;exact this
theorem aam(m:Int):∀x a h,(ue m a x h).length=h.length
 | [],a,h=>rfl
 |s::r,a,h=>by rw[ue,aam m r,Ro]
def alo(m:Int)(s:N):∀(y:q) (a:Int) (h:q),ue m a (y++ [s]) h=(ue m a y h).set (s.getD 0 0).toNat [s.getD 1 0,(a+qL m y)/2^(m-s.getD 1 0).toNat]
 | [],a,h=>by simp[ue,qL]
 |x::r,a,h=>by
  simp only[yw,ue,alo m s r];have:a+(wid m x:Int)+qL m r=a+qL m (x::r):=by simp[qL];omega
  rw[this]
def aan{l:N}{i:Nat}(h:i<(bU l).length):sf l (i+1)=(sf l i).set ((ji l i).getD 0 0).toNat [(ji l i).getD 1 0,oa (g l) (bU l) i/2^(g l- (ji l i).getD 1 0).toNat]:=by unfold sf;rw[take_succ (bU l) [] h,alo,JT,A5];rfl
theorem alr(l:N)(i:Nat):(sf l i).length=l.length:=by grind [sf,aam]
def aRL{l:N}(h:Good l):(fR l).length=2^(g l).toNat:=by unfold fR;rw[awi,h.sum]
def awj(m:Int){c:N}:∀x,c∈pa m x->∃s∈x,c= [s.getD 0 0,s.getD 1 0,0]
 | [],h=>by simp[pa]at h
 |s::r,h=>by
  simp only[pa,jv,JY,aiH]at h;rcases h with⟨_,h⟩|h
  .grind
  .obtain⟨e,y,z⟩:=awj m r h
   grind
def az9{l:N}(u:Good l){i:Nat}(h:i<(fR l).length):0<=((fR l).getD i []).getD 0 0/\((fR l).getD i []).getD 0 0<l.length/\1<=((fR l).getD i []).getD 1 0/\((fR l).getD i []).getD 1 0<=g l:=by have z:(fR l).getD i []∈fR l:=c9;obtain⟨s,x,y⟩:=awj _ _ z;obtain⟨k,e,r,k3⟩:=aqw x;rw[y,r];simp only[I8,MJ];have:=(EX l).2 _<|yW e;omega
def Gk(l:N):Nat->List (N)
 |0=>[]
 |j+1=>Gk l j++(j_ l).filter (isLen<|g l-j)
def afT(l:N):∀j,yj l j=pa (g l) (Gk l j)
 |0=>rfl
 |j+1=>by rw[yj,Gk,awh,afT l j]
def aqM{α:Type}{p q r:α->Bool}(h:∀x,p x=(q x||r x))(k:∀x,(q x&&r x)=ah):∀S:List α,(S.filter p).Perm<|S.filter q++S.filter r
 | []=>Rr _
 |x::S=>by
  have u:=aqM h k S;have e:=h x;have v:=k x;cases y:q x<;>cases z:r x
  .grind
  .rw[y,z]at e
   simp only[MY,y,z,e];exact(u.cons x).trans List.perm_middle.symm
  .rw[y,z]at e
   simp only[MY,y,z,e];exact u.cons x
  .grind
theorem W3(l:N):∀j:Nat,((j_ l).filter fun r=>decide (g l-j<r.getD 1 0)).Perm (Gk l j)
 |0=>by
  have:((j_ l).filter fun r=>decide (g l- (0:Nat)<r.getD 1 0))= []:=by
   rw[List.filter_eq_nil_iff];intro r h;obtain⟨k,x,rfl,k3⟩:=Mv h;have:=(EX l).2 _ (yW x);grind
  rw[this];exact Rr _
 |j+1=>by
  refine(aqM (fun r=>?_) (fun r=>?_) (j_ l)).trans ((W3 l j).append_right _)
  ·grind [isLen]
  ·grind [isLen]
def asi(l:N):∀j,(Gk l j).Pairwise λx y=>tQ x y=ab
 |0=>axH
 |j+1=>by
  rw[Gk,List.pairwise_append];refine⟨asi l j,?_,λa k b r=>?_⟩
  .have:=(av6 l 0).filter<|isLen<|g l-j
   refine Yv ?_ this;intro a b k r h;have z:=(List.mem_filter.1 k).2;have e:=(List.mem_filter.1 r).2;simp only[isLen,wx]at z e;rw[Ml];omega
  .have z:=(List.mem_filter.1<|(W3 l j).mem_iff.2 k).2
   have e:=(List.mem_filter.1 r).2;simp only[isLen,wx]at e;simp only[dJ]at z;rw[Ml];omega
def aL_{l:N}(h:Good l):yj l (g l).toNat=fR l:=by rw[afT];unfold fR bU;rw[avQ av7 ?_<|asi l _];grind [W3,List.filter_eq_self,Mv]
def aL9(l:N)(j:Nat):tP l j 0=yj l j:=by simp[tP,j_,rq,pa]
def aL7{l:N}(j:Nat):tP l j l.length=yj l (j+1):=by unfold tP;rw[Ed];rfl
def aL8{l:N}{j s:Nat}(z:s<l.length)(hp:0<g l- (j:Int)):tP l j (s+1)=if l.getD s 0=g l-j then v8 l j s (2^j)else tP l j s:=by
 unfold tP;rw[ahz z];by_cases y:0<l.getD s 0
 .rw[jS y,bo,aiU,awh,<-qQ]
  split
  .rename_i h
   have: [[(s:Int),l.getD s 0]].filter (isLen<|g l-j)= [[(s:Int),l.getD s 0]]:=by
    have x:(l.getD s 0==g l- (j:Int))=ab:=c9;simp only[MY,isLen,MJ,I8,List.filter_nil,x,if_true]
   grind [v8,tP,pa,JY,wid]
  .rename_i h
   have: [[(s:Int),l.getD s 0]].filter (isLen<|g l-j)= []:=by
    have x:(l.getD s 0==g l- (j:Int))=ah:=c9;simp only[MY,isLen,MJ,I8,List.filter_nil,x,rz,xi]
   grind [pa]
 .grind
def aL6(l:N)(j s k:Nat):v8 l j s (k+1)=v8 l j s k++ [[(s:Int),g l-j,0]]:=by grind [v8,List.replicate_succ']
def ahN{m:Int}(z:m<=11):∀y:List (N),(∀s∈y,0<=s.getD 1 0)->(pa m y).length<=y.length*2048
 | [],_=>by simp[pa]
 |s::r,h=>by have v:=ahN z r λx e=>h x (by simp[e]);have k:=h s aj;have u:wid m s<=2^11:=nF Y Y;grind [pa,JY]
def aL5{l:N}(x:Good l){j s k:Nat}(i:(j:Int)<g l)(n:k<=2^j):(v8 l j s k).length<=2000000:=by
 have z:∀e:N,∀r∈j_ e,0<=r.getD 1 0:=λe r y=>by
  obtain⟨q,_,rfl,h⟩:=Mv y;simp only[MJ,I8];omega
 have w:(yj l j).length<=256*2048:=by
  rw[afT];have hp:=W3 l j;have:=ahN x.m1 (Gk l j) λr y=>z l r (List.mem_filter.1<|hp.mem_iff.2 y).1;have u:(Gk l j).length<=256:=by
   rw[<-hp.length_eq];exact sY (ax4 ..)<|sY (QG l) x.len
  omega
 have u:(pa (g l)<|(j_<|l.take s).filter<|isLen<|g l-j).length<=256*2048:=by
  have:=ahN x.m1 ((j_<|l.take s).filter<|isLen<|g l-j) λr y=>z _ r (List.mem_filter.1 y).1;have v:((j_<|l.take s).filter<|isLen<|g l-j).length<=256:=by
   have:=QG<|l.take s;rw[mT]at this;have:=ax4 (isLen<|g l-j)<|j_<|l.take s;have:=x.len;omega
  omega
 have v:(2:Nat)^j<=2^11:=nF Y (by have:=x.m1;omega);unfold v8 tP;simp only[gn,qR];omega
theorem asg(m:Int):∀(t:q) (a:Int) (h:q),(zE m a t h).length=h.length
 | [],a,h=>rfl
 |c::r,a,h=>by rw[zE,Ro,asg m r]
def asf(m:Int)(n b z:Int)(r h:q):∀(k:Nat) (a:Int),zE m a (au (k+1) [n,b,z]++r) h=(zE m (a+k+1) r h).set n.toNat [b,a/2^(m-b).toNat]
 |0,a=>by simp[zE]
 |k+1,a=>by
  rw[D9,yw,zE,asf m n b z r h k<|a+1];simp only[I8,MJ,List.set_set];have:a+1+(k:Int)+1=a+((k+1:Nat):Int)+1:=by push_cast;omega
  rw[this]
def NH(m:Int):Int->List (N)->List (N)->List (N)
 |_,[],out=>out
 |a,s::r,out=>(NH m (a+(wid m s:Int)) r out).set (s.getD 0 0).toNat [s.getD 1 0,a/2^(m-s.getD 1 0).toNat]
def ash(m:Int)(h:q):∀(x:q) (a:Int),zE m a (pa m x) h=NH m a x h
 | [],a=>rfl
 |s::r,a=>by
  obtain⟨k,y⟩:∃k,wid m s=k+1:=⟨wid m s-1,by have:=aw1 m s;omega⟩;simp only[pa,JY,NH];rw[y,asf,ash m h r];have:a+(k:Int)+1=a+((k+1:Nat):Int):=by push_cast;omega
  rw[this]
def aln(m:Int)(k:Nat)(v:N):∀(z:q) (a:Int) (y:q),(∀s∈z,(s.getD 0 0).toNat≠k)->ue m a z (y.set k v)=(ue m a z y).set k v
 | [],a,y,_=>rfl
 |s::r,a,y,h=>by rw[ue,ue,List.set_comm _ _<|GG<|h s aj,aln m k v r _ _ λx e=>h x<|by simp[e]]
def alm(m:Int):∀(e:q) (a:Int) (z:q),e.Pairwise (λx y=>(x.getD 0 0).toNat≠(y.getD 0 0).toNat)->NH m a e z=ue m a e z
 | [],a,z,_=>rfl
 |s::r,a,z,h=>by obtain⟨k,u⟩:=List.pairwise_cons.1 h;rw[NH,ue,alm m r _ _ u,aln m _ _ r _ _ λx v=>GG<|k x v]
def UO(l:N):(bU l).Pairwise (λx y=>(x.getD 0 0).toNat≠(y.getD 0 0).toNat):=by refine((Pz l).pairwise_iff λh=>GG h).2 ?_;refine Yv ?_<|av6 l 0;grind [Mv]
def aL4(l:N):uI l 0=au l.length [0,0]:=by grind [uI,zE]
def aL1(l:N):uI l (fR l).length=jV l:=by unfold uI;rw[Rp,I_,Int.sub_self];show zE _ _ (pa (g l)<|bU l) _=_;rw[ash,alm _ _ _ _<|UO l];rfl
def aL3{l:N}{c:Nat}(h:c<(fR l).length):uI l (c+1)=(uI l c).set (((fR l).getD ((fR l).length-1-c) []).getD 0 0).toNat
 [((fR l).getD ((fR l).length-1-c) []).getD 1 0,(((fR l).length:Int)-1-c)/2^(g l- ((fR l).getD ((fR l).length-1-c) []).getD 1 0).toNat]:=by grind [uI,List.drop_eq_getElem_cons,zE]
def aL2(l:N)(c:Nat):(uI l c).length=l.length:=by grind [uI,asg]
def aRs{l:N}(h:cJ l=0):1<=(j_ l).length:=by
 have x:=(ND h).2.2.1;have:∀l:N,lv l=((j_ l).length:Int):=by
  intro l;induction l using yn with
  |h0=>rfl
  |h1 l z y=>
   rw[C2,XT,gn,y];cases decide (0<z)<;>simp
 rw[this]at x;omega
def aKq(b:Int):ma (λ(i:Nat)=>aC 2<|iI (i*2) [v,b]) (fM 1)= [[v,b]]:=rfl
def aFL(l:N)(z:cJ l=0)(l0:Nat):acZ l l0:=by
 have h:=te z;have a:=h.m1;unfold acZ ao0 aw jd bE dk FT vU T cl aZ aL ot tG cE xW d bM Dq Rq Wq Zq Jq;refine⟨z,(),0,by rw[gG];omega,rfl,⟨rfl,rfl,rfl,rfl,rfl,rfl,rfl⟩,λi hi=>⟨λr=>?_,λk=>?_⟩⟩
 .simp only[dJ]at r
  have x:i<(bU l).length:=Y;have j:=av2 h x;have w:=akc h x;have n:=h.big;have u:(bU l).length<=256:=by
   have:=(Pz l).length_eq;have:=QG l;have:=h.len;omega
  have v:(wid (g l) (ji l i):Int)=2^(g l- (ji l i).getD 1 0).toNat:=by unfold wid;exact(ad4 _).symm
  simp only[toNat_cast];have e:(bU l).getD i []=ji l i:=rfl;rw[e];have y:Q bW (g l- (ji l i).getD 1 0)=g l- (ji l i).getD 1 0:=wr Y Y;refine⟨Y,Y,x,by trivial,ao1 x,⟨by rw[y];omega,i+1,by rw[gG];omega,by trivial,by show(bU l).length- (i+1)<(bU l).length-i;omega,by trivial,by trivial,?_,by trivial,by rw[wr Y Y];simp,by trivial,by trivial⟩,by trivial⟩;rw[y,sS Y Y,<-v,ZV _ _ x,e,wr Y Y]
 .simp only[dH]at k
  rw[gG]at hi;rw[aFM];omega
def M6:=m.cons aQU<|ays
def aFJ(l:N)(l0:Nat):acZ l l0=Yd ar (oC<|sa M6) l0 (items l) (aqs<|aqj l0 l) Tryz.f313 [.p 0 0 0,.p 1 0 0] [(0,.cells 42 [.bZ<|.ints .i64 l]),(1,.cells 403 [.o 2]),(2,.row 398<|.cH 2<|bU l)]:=ax
def aFK(l:N)(h:cJ l=0):A' ar 313 [.p 0 0 0,.p 1 0 0] [(0,.cells 42 [.bZ<|.ints .i64 l]),(1,.cells 403 [.o 2]),(2,.row 398<|.cH 2<|bU l)] (items l):=
 acV (Ωi:=λl0=>aqs<|aqj l0 l) M6 mixed Tryz.func313 ax λl0=>by have:=aFL l h l0;rw[aFJ]at this;exact this
def aFI(k:Nat)(l:N)(x:cJ l=0):A' ar 313 [.p k 0 0,.p (k+1) 0 0] [(k,.cells 42 [.bZ<|.ints .i64 l]),(k+1,.cells 403 [.o<|k+2]),(k+2,.row 398<|.cH 2<|bU l)] (items l):=by have:=(aFK l x).js (λi=>k+i) (λa b _ _ h=>by omega) rfl rfl;exact this
def aLq:=aPx.gd M6 Tryz.func302 λ(l:N) ⟨h,_⟩=>⟨(K5<|aH9 l),J (p:=arS l)<|by
 have z:=te h;have y:=z.len;unfold arS o lG aw bE rl gZ aZ gS cl iT kX b_ Dq Rq Wq Zq;refine⟨⟨0,by rw[gG];omega,rfl,rfl,rfl,rfl,rfl⟩,λi hi=>⟨λk=>?_,λe=>?_⟩⟩
 .simp only[dJ]at k
  have x:i<l.length:=Y;have v:=QG<|l.take i;rw[mT]at v;simp only[toNat_cast,kC,dJ,dH];refine⟨Y,Y,λhp=>⟨?_,i+1,by rw[gG];omega,by show l.length- (i+1)<l.length-i;omega,by trivial,by trivial,by rw[wr Y Y];simp,by trivial,?_⟩,λhp=>⟨i+1,by rw[gG];omega,by show l.length- (i+1)<l.length-i;omega,by trivial,by trivial,by rw[wr Y Y];simp,by trivial,?_⟩⟩
  .show((j_<|l.take i).length+1)*16<=_
   omega
  .rw[aKq,ahz x,jS hp];rfl
  .rw[ahz x,iW hp,iw,zK]
 .simp only[dH]at e
  rw[nE Y];have:=QG l;refine⟨aRs h,Y,?_,by trivial,by trivial⟩;rw[List.all_eq_true];intro r u;simp[av7 r u]⟩
def aNQ:=aP2.gd M6 Tryz.func284 λ(l:N) ⟨c,_⟩=>⟨(oRt l),J (p:=aty l<|g l)<|by
 unfold aty o cd lG aw Qe P_ a_ Wa bE LK qh fU bF gZ fG jd aZ zm jc fC rX Ik gS cl b_ Dq Bq Cq Rq Wq Uq Zq Jq;refine⟨c,λh=>⟨λx=>by rw[x]at h;simp at h,λx=>⟨rfl,rfl⟩⟩,λh=>?_⟩;have x:cJ l=0:=by simpa using h
 have z:=te x;have m0:=z.m0;have m1:=z.m1;have E:=z.len;refine⟨c,⟨0,⟨Y,x⟩,rfl,rfl,aj,rfl⟩,λj ⟨G,_⟩=>⟨λf=>?_,λt=>?_⟩⟩
 .simp only[kC,dJ]at f
  refine⟨j,⟨0,⟨Y,Y,x⟩,rfl,rfl,rfl,rfl,(aL9 l j).symm⟩,λs ⟨_,H,_⟩=>⟨λA=>?_,λv=>?_⟩⟩
  .simp only[dJ]at A
   have b:s<l.length:=Y;have step:=aL8 (l:=l) (j:=j) b f;simp only[toNat_cast];refine⟨Y,Y,λC=>?_,λq=>?_⟩
   .have D:¬l.getD s 0=g l-j:=by simpa using C
    rw[V D]at step;exact⟨s+1,⟨Y,Y,x⟩,by show l.length- (s+1)<l.length-s;omega,by trivial,by trivial,by trivial,by rw[wr Y Y];simp,step.symm⟩
   .have y:l.getD s 0=g l-j:=by simpa using q
    rw[I y]at step;refine⟨(j,s),⟨0,⟨by show(j:Int)<g l;omega,b,y,dx _,x⟩,by trivial,by trivial,by trivial,by trivial,by trivial,by simp[v8]⟩,λk ⟨_,_,_,d,_⟩=>?_⟩;have e:g l- (g l- (j:Int))=j:=Y;have r:(j:Int)<g l:=Y;simp only[e];have u:(2:Int)^j=((2^j:Nat):Int):=ad4 j;rw[wr (n:=(j:Int)) Y Y,fW Y Y,sS Y Y,toNat_cast,u];simp only at d;have i:j<=11:=Y;have m:2^j<=2^11:=nF (n:=2) Y i;refine⟨Y,λa=>?_,λw=>?_⟩
    .simp only[dJ]at a
     have F:=aL5 z (j:=j) (s:=s) (k:=k) r d;refine⟨?_,k+1,⟨r,b,y,Y,x⟩,by show 2^j- (k+1)<2^j-k;omega,by trivial,by trivial,by trivial,by trivial,by rw[wr Y Y];simp,?_⟩
     .show((v8 l j s k).length+1)*24<=_
      omega
     .rw[aL6];rfl
    .simp only[dH]at w
     have:k=2^j:=Y;subst this;exact⟨s+1,⟨Y,Y,x⟩,by show l.length- (s+1)<l.length-s;omega,by trivial,by trivial,by trivial,by rw[wr Y Y];simp,step.symm⟩
  .simp only[dH]at v
   have:s=l.length:=Y;subst this;refine⟨j+1,⟨Y,x⟩,by show(g l).toNat- (j+1)<(g l).toNat-j;omega,by trivial,by trivial,by rw[wr Y Y];push_cast;omega,aL7 j⟩
 .simp only[kC,dH]at t
  refine⟨λ_=>⟨rfl,?_⟩,λB=>absurd x B⟩;have:j=(g l).toNat:=Y;rw[this];exact aL_ z⟩
def Za:=m.cons aLq<| .cons aNQ<|M6
def aAs:=atZ.gd Za Tryz.func292 λ(l:N) ⟨r,_⟩=>⟨(aHh l),J (p:=cd l/\Bq (cJ l !=0) (LK l (cJ l)<|jV l) (cJ l=0/\aF (o l) (o l<=o l) (yb (Zq 16) (o l) (cJ l=0)<|∃(a:Nat),xt Proofs.Tryz.prog 313 [SV.p 700008 0 0,SV.p 700009 0 0] [(700008,bm.cells 42 [SV.bZ<|aA.ints .i64 l]),(700009,bm.cells 403 [SV.o 700010]),(700010,bm.row 398<|aA.cH 2<|bU l)] (ze (g l) 0<|bU l) (λ(x:Nat)=>([]:bN))/\(l=l/\bU l=bU l)/\True/\(g l=g l/\au (o l).toNat (au 2 (0:Int))=sf l 0)/\(∀(y:Nat),y<(ze (g l) 0<|bU l).length->True->tG (ze (g l) 0<|bU l) y [Value.agg (ot ((ji l y).getD 0 0)<|cg .i64<|(ji l y).getD 1 0).toArray,cg .i64<|oa (g l) (bU l) y]/\[Value.agg (ot ((ji l y).getD 0 0)<|cg .i64<|(ji l y).getD 1 0).toArray,cg .i64<|oa (g l) (bU l) y].length=F_ [21,22]/\cE (g l- (ji l y).getD 1 0)/\Rq ((ji l y).getD 0 0) (dk<|sf l y) (((ji l y).getD 0 0).toNat<(sf l y).length/\True/\g l=g l/\(sf l y).set ((ji l y).getD 0 0).toNat [(ji l y).getD 1 0,(oa (g l) (bU l) y).fdiv<|o9 (Wq<|g l- (ji l y).getD 1 0) .i64]=sf l (y+1)))/\(True->Cq (cJ l=0) (a_/\sf l (ze (g l) 0<|bU l).length=jV l) (False/\0=cJ l)))))<|by
 unfold o cd o9 aF a_ F_ LK dk yb gZ ot tG rX cE Bq Cq Rq Wq Zq Jq;refine⟨r,λh=>⟨λz=>by rw[z]at h;simp at h,λz=>⟨rfl,rfl⟩⟩,λh=>?_⟩;have z:cJ l=0:=by simpa using h
 have e:=te z;have m0:=e.m0;have m1:=e.m1;have v:=e.len;have k:(ze (g l) 0<|bU l).length=(bU l).length:=acY ..;refine⟨z,Y,Y,Y,Y,z,0,aFI 700008 l z,⟨rfl,rfl⟩,trivial,⟨rfl,by rw[toNat_cast];rfl⟩,λi hi _=>?_,λ_=>⟨λ_=>⟨rfl,?_⟩,λu=>absurd z u⟩⟩
 .rw[k]at hi
  have j:=av2 e hi;have w:=akc e hi;rw[wr (n:=g l- (ji l i).getD 1 0) Y Y,alr];refine⟨ao1 hi,by trivial,Y,Y,Y,Y,trivial,by trivial,?_⟩;rw[aan hi,Et,wy Y,N4<|wA<|jJ _]
 .rw[k]
  unfold sf jV;rw[Ed]⟩
def aLI:=atZ.gd Za Tryz.func244 λ(l:N) ⟨k,_⟩=>⟨(K5<|oRc l),J (p:=lZ (cJ l) (cd l) (Bq ((0:Int) !=0) (Cq (cJ l=0) (a_/\gZ (jV l))<|rX/\0=cJ l)<|cd l/\aF (o l) (o l<=o l) (aeI l (fR l).length (cJ l) (g l) (bF<|dk<|fR l) (dk (fR l)-1) (fR l=fR l) (au (o l).toNat<|au 2 (0:Int))<|fR l))<|Bq (cJ l !=0) (LK l (cJ l)<|jV l)<|cd l/\aF (o l) (o l<=o l) (aeI l (fR l).length (cJ l) (g l) (Wq<|0-1) (dk (fR l)-1) (gZ<|fR l) (au (o l).toNat<|au 2 (0:Int))<|fR l))<|by
 unfold cd aF a_ LK bF dk aeI o yb gZ lZ rX aq9 aw cl aq8 pI d bM Dq Bq Cq Rq Wq Uq Zq Jq;refine⟨λx=>⟨k,λh=>by simp at h,λ_=>?_⟩,λz=>⟨k,λ_=>⟨λx=>absurd x z,λ_=>⟨rfl,rfl⟩⟩,λh=>absurd (by simpa using h) z⟩⟩;have y:=te x;have m0:=y.m0;have m1:=y.m1;have j:=y.len;have v:=y.big;have r:=aRL y;have u:(fR l).length<=2048:=by rw[r];exact v
 refine⟨k,Y,Y,Y,Y,⟨0,⟨Y,x⟩,rfl,?_,rfl,?_⟩,λc ⟨b,_⟩=>⟨λi=>?_,λw=>?_⟩⟩
 .rw[wr Y Y];simp
 .rw[toNat_cast,aL4];rfl
 .simp only[MX,dJ]at i
  have hi:(fR l).length-1-c<(fR l).length:=Y;have e:(((fR l).length:Int)-1- (c:Int)).toNat=(fR l).length-1-c:=Y;have a:=az9 y hi;rw[e,aL2,wr (n:=g l- ((fR l).getD ((fR l).length-1-c) []).getD 1 0) Y Y,fW Y Y];refine⟨Y,Y,hi,Y,Y,hi,Y,Y,hi,Y,Y,Y,Y,c+1,⟨Y,x⟩,by show(fR l).length- (c+1)<(fR l).length-c;omega,by trivial,by rw[wr Y Y];push_cast;omega,by trivial,?_⟩;rw[aL3 Y,Et,wy Y,N4<|wA<|jJ _]
 .simp only[MX,dH]at w
  have:c=(fR l).length:=Y;subst this;exact⟨λ_=>⟨rfl,aL1 l⟩,λz=>absurd x z⟩⟩
def ayt:=m.cons aAs<| .cons aLI<|Za
def tw(l:N):Int:=l.foldl (λs x=>cond (x !=0) (s+1) s) 0
def lh(l:N):Int:=cond (decide (256<l.length)) 6<|cond (l.all jI) 0 2
def rZ(l:N):Int:=cond (lh l==0) (sO l) 0
def jz(l:N):Int:=cond (lh l==0) (cond (decide (lv l<2)) 7<|cond (sO l==2048) 0 21)<|lh l
def jH(l:N)(n:Int):Int:=cond (jz l==0) (cond (decide (n<0)||decide (131072<n)) 2 0)<|jz l
def hB(l:N)(i:Nat):Int:=((jV l).getD i []).getD 0 0
def hV(l:N)(i:Nat):Int:=((jV l).getD i []).getD 1 0
def mC(l:N):Nat->List (N×N)
 |0=>[]
 |i+1=>cond (decide (0<hB l i)) (([(i:Int)],[hB l i,hV l i])::mC l i)<|mC l i
def nN(l:N):Nat->List (N×N)
 |0=>[]
 |i+1=>cond (decide (0<hB l i)) (([hB l i,hV l i],[(i:Int)])::nN l i)<|nN l i
def mf(l:N)(b v:Int):Nat->Int
 |0=> -1
 |i+1=>cond (hB l i==b&&hV l i==v) (i:Int)<|mf l b v i
def yU(l:N)(b v:Int):Int:=mf l b v l.length
def so(l:N)(s:M)(n:Int):Nat->Int->Int->N->Option (N)
 |0,b,v,out=>cond (decide (n<=out.length)) (O out) ae
 |L+1,b,v,out=>cond (decide (n<=out.length)) ae<|cond (decide (11<=b)) ae
  <|cond (decide (yU l (b+1) (2*v+iQ s (L:Nat))<0)) (so l s n L (b+1) (2*v+iQ s (L:Nat)) out)<|so l s n L 0 0<|out++ [yU l (b+1)<|2*v+iQ s (L:Nat)]
def pK(l:N)(b:M)(n:Int):Option (N):=cond (gD b==0) (so l b n (aR b).toNat 0 0 []) ae
def oS(o:Option (N)):M:=match o with
 |some x=>strOfNums x
 |none=>aJ
def oE(o:Option (N)):Int:=match o with
 |some _=>0
 |none=>22
def qH(l:N)(b:M)(n:Int):M:=oS<|pK l b n
def qi(l:N)(b:M)(n:Int):Int:=oE<|pK l b n
def rO(l:N)(b:M)(n:Int):M:=cond (jH l n==0) (qH l b n) aJ
def rE(l:N)(b:M)(n:Int):Int:=cond (jH l n==0) (qi l b n)<|jH l n
def uC:Int:=cond (decide (v<0)||decide (131072<v)) 2<|cond (decide (v<6)) 20 0
def qe:Int:=(v+3)/4
def jr:N:=[qe v,qe v,qe v,v-3*qe v]
def vR:N:=cond (uC v==0) (jr v) [0,0,0,0]
def sQ(s:M)(p:N):Nat->M
 |0=>s
 |i+1=>(sQ s p i).extract (p.getD i 0).toNat (sQ s p i).size
def AD(p:N)(i:Nat):M:=(sQ y p i).extract 0 (p.getD i 0).toNat
def BQ(p:N):List (List Value):=(fM 4).map λi=>[.int .i64 (i:Nat),.string<|AD y p i]
def rS(i:Nat):Int:=u y i+256*u y (i+1)
def dU(i:Nat):Int:=rS y<|2*i
def q4:N:=[dU y 0,dU y 1,dU y 2,y.size-6-dU y 0-dU y 1-dU y 2]
def eH(i:Nat):Int:=6+((q4 y).take i).sum
def p4(i:Nat):M:=AD (y.extract 6 y.size) (q4 y) i
def I6(l:N)(b:M)(n:Int)(i:Nat):Option (N):=pK l (p4 b i)<|(jr n).getD i 0
def sA(l:N)(b:M)(n:Int)(i:Nat):Bool:=(fM i).all λj=>(I6 l b n j).isSome
def rW(l:N)(b:M)(n:Int):Nat->M
 |0=>aJ
 |i+1=>rW l b n i++oS (I6 l b n i)
def ZX(l:N)(b:M)(n:Int):Nat:=(fM 4).findIdx λj=> !(I6 l b n j).isSome
def e4(l:N)(b:M)(n:Int):Int:=cond (jH l n==0) (cond (decide (n<6)) 20<|cond (decide (b.size<6)||decide ((q4 b).getD 3 0<0)) 22 0)<|jH l n
def mu(l:N)(b:M)(n:Int):Int:=cond (e4 l b n==0) (cond (sA l b n 4) 0 22)<|e4 l b n
def qF(l:N)(b:M)(n:Int):Int:=cond (e4 l b n==0) (cond (sA l b n 4) 0<|eH b<|ZX l b n) 0
def rm(l:N)(b:M)(n:Int):M:=cond (e4 l b n==0) (cond (sA l b n 4) (rW l b n 4) aJ) aJ
structure jU where
 L:Nat
 b:Int
 v:Int
 out:N
structure lO (l:N) (s:M) (n:Int) (x:jU):Prop where
 e:gD s=0
 le:(x.L:Int)<=aR s
 b0:0<=x.b
 b1:x.b+x.L<=aR s
 v0:x.b<=11->0<=x.v
 v1:x.b<=11->x.v<2^x.b.toNat
 o1:(x.out.length:Int)<=n
 is:so l s n x.L x.b x.v x.out=pK l s n
def InP(l:N)(s:M)(n:Int)(h:Nat)(x:jU)(f:Int):Prop:=¬n<=x.out.length/\x.L<=h/\((f= -1/\lO l s n x/\x.b<=11)\/(0<=f/\f<l.length/\x.L<h/\lO l s n ⟨x.L,0,0,x.out++ [f]⟩))
def CP(l:N)(s:M)(n:Int)(h:Nat)(x:jU):Prop:=¬n<=x.out.length/\x.L+1<=h/\lO l s n ⟨x.L+1,x.b-1,(x.v-iQ s x.L)/2,x.out⟩/\1<=x.b/\x.b<=11/\x.v=2*((x.v-iQ s x.L)/2)+iQ s x.L
def RC(p:N):Prop:=p.length=4/\∀i,i<4->0<=p.getD i 0/\p.getD i 0<=(sQ y p i).size
def tB:Nat->N
 |0=>[0,0,0,y.size-6]
 |1=>[dU y 0,0,0,y.size-6-dU y 0]
 |2=>[dU y 0,dU y 1,0,y.size-6-dU y 0-dU y 1]
 |_=>q4 y
def Hs:Nat->N
 |0=>[0,0,0,0]
 |1=>[eH y 1,0,0,0]
 |2=>[eH y 1,eH y 2,0,0]
 |_=>[eH y 1,eH y 2,eH y 3,0]
def yT:N:=[eH y 1,eH y 2,eH y 3,y.size]
def Pf(i:Nat):Nat->Int
 |0=>0
 |1=>u y i
 |_=>rS y i
def Pg(i:Nat):Nat->Int
 |0=>0
 |1=>u y<|i+1
 |_=>u y (i+1)*256+u y i
def kI(l:N)(i:Nat):Nat:=((ji l i).getD 0 0).toNat
def bI(l:N)(i:Nat):Int:=l.getD (kI l i) 0
theorem QF{l:N}{i:Nat}(h:i<(bU l).length):ji l i= [(kI l i:Int),bI l i]/\kI l i<l.length/\0<bI l i:=by grind [av3,kI,bI]
def aI(l:N)(i:Nat):Nat:=(oa (g l) (bU l) i).toNat
theorem ZK{l:N}(i:Nat):oa (g l) (bU l) i=(aI l i:Int):=by
 have:=akb (g l) (bU l) i;grind [aI]
def wI(l:N)(i:Nat):Nat:=wid (g l)<|ji l i
theorem Q1{l:N}{i:Nat}(h:i<(bU l).length):wI l i=2^(g l-bI l i).toNat:=by grind [wI,wid,QF]
def ake{l:N}(e:Good l){i:Nat}(h:i<(bU l).length):1<=bI l i/\bI l i<=g l:=by obtain⟨y,x,z⟩:=QF h;exact⟨Y,(EX l).2 _<|yW x⟩
def Kd{α:Type}{l:List α}{i:Nat}(d:α)(h:i<l.length):l.getD i d=l[i]:=c9
def aKg{l:N}{i j:Nat}(hi:i<(bU l).length)(x:j<(bU l).length)(h:kI l i=kI l j):i=j:=by
 rcases Nat.lt_trichotomy i j with h1|h1|h1
 .have:=List.pairwise_iff_getElem.1 (UO l) i j hi x h1
  rw[<-Kd [] hi,<-Kd [] x]at this;exact absurd h this
 .exact h1
 .have:=List.pairwise_iff_getElem.1 (UO l) j i x hi h1
  rw[<-Kd [] hi,<-Kd [] x]at this;exact absurd h.symm this
theorem aKe{l:N}{k:Nat}(x:k<l.length)(h:0<l.getD k 0):∃i,i<(bU l).length/\kI l i=k:=by
 have y: [(k:Int),l.getD k 0]∈bU l:=by
  refine(Pz l).mem_iff.2 ?_;have z:=XT (l.take k) (l.getD k 0);rw[<-take_succ l 0 x,jS h,bo,mT,wy Y]at z;grind [j_,Jy,av4]
 obtain⟨i,hi,e⟩:=List.mem_iff_getElem.1 y;refine⟨i,hi,?_⟩;grind [kI,ji]
def alq{l:N}:∀j,j<=(bU l).length->∀i,i<j->(sf l j).getD (kI l i) []= [bI l i,((aI l i/wI l i:Nat):Int)]
 |0,_,i,h=>by omega
 |j+1,r,i,hi=>by
  have x:j<(bU l).length:=Y;obtain⟨u,v,w⟩:=QF x;rw[aan x];have y:((ji l j).getD 0 0).toNat=kI l j:=rfl;have z:(ji l j).getD 1 0=bI l j:=c9;rw[y,z,ZK];by_cases h:i=j
  .grind [alr,Q1]
  .have k:kI l j≠kI l i:=λe=>h (aKg x Y e).symm
   rw[jR,ax5 k,<-jR];exact alq j Y i Y
def als{l:N}{k:Nat}(h:k<l.length)(h0:¬0<l.getD k 0):∀j,j<=(bU l).length->(sf l j).getD k []= [0,0]
 |0,_=>by simp[sf,ue,eU,yy,h]
 |j+1,r=>by
  have x:j<(bU l).length:=Y;obtain⟨u,v,w⟩:=QF x;rw[aan x];have y:((ji l j).getD 0 0).toNat=kI l j:=rfl;have z:kI l j≠k:=λe=>by grind [bI]
  rw[y,jR,ax5 z,<-jR];exact als h h0 j Y
def alp(l:N):jV l=sf l (bU l).length:=by grind [jV,sf]
def aAl{l:N}{i:Nat}(h:i<(bU l).length):(jV l).getD (kI l i) []= [bI l i,((aI l i/wI l i:Nat):Int)]:=by rw[alp];exact alq _ (gL _) i h
theorem aAm{l:N}{k:Nat}(h:k<l.length)(h0:¬0<l.getD k 0):(jV l).getD k []= [0,0]:=by rw[alp];exact als h h0 _ (gL _)
theorem aj4{l:N}{i:Nat}(h:i<(bU l).length):aI l (i+1)=aI l i+wI l i:=by
 have:=ZV (g l) (bU l) h;grind [ZK,wI,ji]
def aj3{l:N}(h:Good l):aI l (bU l).length=2^(g l).toNat:=by have:=JT (g l) (bU l) (bU l).length;rw[Ed,h.sum,ZK]at this;omega
def aKf{l:N}{i j:Nat}(h:i<j)(x:j<(bU l).length):tQ (ji l i) (ji l j)=ab:=by grind [bU,aht,ax2,ji]
def aKd{l:N}{i j:Nat}(y:i<j)(x:j<(bU l).length):bI l j<bI l i\/(bI l j=bI l i/\kI l i<kI l j):=by have h:=aKf y x;have z:=List.pairwise_iff_getElem.1 (UO l) i j Y x y;rw[<-Kd [] Y,<-Kd [] x]at z;have e:kI l i≠kI l j:=z;grind [QF,tQ]
theorem aSD{l:N}(z:Good l){i j:Nat}(y:i<=j)(x:j<(bU l).length):wI l i∣wI l j:=by
 have hi:i<(bU l).length:=Y;rw[Q1 hi,Q1 x];refine Nat.pow_dvd_pow 2 ?_;rcases Nat.lt_or_eq_of_le y with h|h
 ·have:=aKd h x
  omega
 ·grind
def ay6{l:N}(x:Good l){i:Nat}(hi:i<(bU l).length):wI l i∣aI l i:=by
 have h:∀d j,j+d=(bU l).length->i<=j->wI l i∣aI l j:=by
  intro d;induction d with
  |zero=>
   intro j y _;have:j=(bU l).length:=Y;subst this;rw[aj3 x,Q1 hi];have k:=ake x hi;grind [Nat.pow_dvd_pow]
  |succ d z=>
   intro j y r;have e:=z (j+1) Y Y;grind [aj4,Nat.dvd_add_left,aSD]
 exact h ((bU l).length-i) i Y<|gL _
def ay7{l:N}{i j:Nat}(h:i<j)(x:j<=(bU l).length):aI l i+wI l i<=aI l j:=by
 induction j with
 |zero=>omega
 |succ j y=>grind [aj4]
structure Y_ (l:N) (k i:Nat):Prop where
 lt:i<(bU l).length
 at_:kI l i=k
 len:hB l k=l.getD k 0
 bits:hB l k=bI l i
 val:hV l k=((aI l i/wI l i:Nat):Int)
theorem aAn{l:N}{i:Nat}(hi:i<(bU l).length):Y_ l (kI l i) i:=by
 have h:=aAl hi;refine⟨hi,rfl,?_,?_,?_⟩
 ·unfold hB;rw[h];rfl
 ·grind [hB]
 ·grind [hV]
def aAp{l:N}{k:Nat}(x:k<l.length)(h:0<l.getD k 0):∃i,Y_ l k i:=by grind [aKe,aAn]
theorem aAq{l:N}{k:Nat}(x:k<l.length)(h:¬0<l.getD k 0):hB l k=0/\hV l k=0:=by grind [hB,hV,aAm]
structure ayi (l:N) (k:Nat):Prop where
 b0:1<=hB l k
 b1:hB l k<=11
 v0:0<=hV l k
 v1:hV l k<2^(hB l k).toNat
def aAo{l:N}(x:Good l){k i:Nat}(h:Y_ l k i):ayi l k:=by
 have w:=ake x h.lt;have n:=x.m1;obtain⟨q,u⟩:=ay6 x h.lt;have v:0<wI l i:=aw1 _ _;have e:aI l i/wI l i=q:=by simp_all
 have z:aI l i+wI l i<=2^(g l).toNat:=by
  rw[<-aj3 x];exact ay7 h.lt<|gL _
 have y:=Q1 h.lt;have r:2^(g l).toNat=wI l i*2^(bI l i).toNat:=by
  rw[y,<-Jk];grind
 have j:q<2^(bI l i).toNat:=by
  rw[r,u,show wI l i*q+wI l i=wI l i*(q+1)by rw[Nat.mul_add,xj]]at z;have:=Nat.le_of_mul_le_mul_left z v;omega
 refine⟨by rw[h.bits];omega,by rw[h.bits];omega,by rw[h.val];omega,?_⟩;rw[h.val,h.bits,e];grind
def aDe{l:N}(z:Good l){k:Nat}(e:k<l.length):0<=hB l k/\hB l k<=11/\(0<hB l k↔0<l.getD k 0):=by
 by_cases h:0<l.getD k 0
 .obtain⟨i,y⟩:=aAp e h
  have x:=aAo z y;have b0:=x.b0;have b1:=x.b1;grind
 .grind [aAq]
def amO(l:N)(b v:Int):∀n, -1<=mf l b v n/\mf l b v n<(n:Nat)
 |0=>by show(-1:Int)<= -1/\(-1:Int)<_;omega
 |n+1=>by have h:=amO l b v n;grind [mf]
def amN(l:N)(b v:Int):∀n,(∀k,k<n->¬(hB l k=b/\hV l k=v))->mf l b v n= -1
 |0,_=>rfl
 |n+1,h=>by
  have y:=h n Y;have x:(hB l n==b&&hV l n==v)=ah:=by
   grind
  simp only[mf,x,iw];exact amN l b v n λk z=>h k Y
def aB1{l:N}(x:Good l){b v:Int}(h:11<b):yU l b v= -1:=amN l b v _ λk y ⟨e,_⟩=>by have:=aDe x y;omega
def adn(l:N)(b v:Int)(k:0<b):∀n,eh (nN l n) [b,v]=cond (decide (mf l b v n<0)) ae (O [mf l b v n])
 |0=>rfl
 |n+1=>by
  have r:=adn l b v k n;have z:nN l (n+1)=cond (decide (0<hB l n)) (([hB l n,hV l n],[(n:Int)])::nN l n) (nN l n):=rfl;have h:mf l b v (n+1)=cond (hB l n==b&&hV l n==v) (n:Int) (mf l b v n):=rfl;by_cases x:hB l n=b/\hV l n=v
  .have y:(hB l n==b&&hV l n==v)=ab:=by simp[x.1,x.2]
   have e:decide (0<hB l n)=ab:=c9;rw[y,bo]at h;rw[z,e,bo,pC,x.1,x.2,I rfl,h,iW<|show¬((n:Int)<0)by omega,iw]
  .have y:(hB l n==b&&hV l n==v)=ah:=by
    grind
   rw[y,iw]at h;rw[h,<-r,z];cases decide (0<hB l n)
   .rfl
   .rw[bo,pC,V]
    grind
theorem aF0{l:N}(h:jz l=0):cJ l=0:=by
 unfold jz at h;cases x:lh l==0
 ·grind
 ·rw[x,bo]at h
  grind [lh,cJ]
def auy:Spec:=Sp (N) [.l] λl=>([E<|l.length<=4294967296],aE<|.tu [B<|rZ l,B<|lh l])
def aOt:Spec:=Sp (N) [.l] λl=>([E<|l.length<=4294967296],aE<|.tu [B<|lv l,B<|g l])
def aue:Spec:=Sp (N) [.l] λl=>([E<|l.length<=4294967296],aE<|B<|jz l)
def aul:Spec:=Sp (N×Int) [.l,.i] λ(l,n)=>([E<|l.length<=4294967296],aE<|B<|jH l n)
def aP3:Spec:=Sp (N) [.l] λl=>([E<|cJ l=0],.leaf (.tu [.m 2000,.m 2001]) [(2000,.mp (.one<|.i .u8) (.st [.i .i64,.i .i64])<|mC l l.length),(2001,.mp (.st [.i .i64,.i .i64]) (.one<|.i .u8)<|nN l l.length)])
def auo:Spec:=Sp (N×M×Int) [.l,.s,.i] λ(l,b,n)=>([E<|cJ l=0,E<|b.size<=1000000,E<|0<=n,E<|n<=131072],aE<|.tu [aD<|qH l b n,B<|qi l b n])
def aun:Spec:=Sp (M×Int) [.s,.i,.z 2] λ(b,i)=>([E<|0<=i,E<|i+2<=b.size,E<|b.size<=4294967296],aE<|.tu [dy<|rS b i.toNat,B<|i+2,.ag [B 0,B 0]])
def aPs:Spec:=Sp Int [.i] λn=>([E<|0<=n,E<|n<=131072],aE<|qT<|jr n)
def aPt:Spec:=Sp Int [.i] λn=>([],aE<|.tu [qT<|vR n,B<|uC n])
def aOM:Spec:=Sp (M×N) [.s,.a] λ(s,p)=>([E<|p.length=4],.leaf (.fn (.func 266) [] [U 2000,U 2001]) [(2000,.iA 78<|.ints .i64 p),(2001,.cells 9 [aD s])])
def aup:Spec:=Sp (N×M×Int) [.l,.s,.i] λ(l,b,n)=>([E<|l.length<=4294967296,E<|b.size<=1000000],aE<|.tu [aD<|rO l b n,B<|rE l b n])
def sR4:Spec:=Sp (N×M×Int) [.l,.s,.i] λ(l,b,n)=>([E<|l.length<=4294967296,E<|b.size<=1000000],aE<|.tu [aD<|rm l b n,B<|qF l b n,B<|mu l b n])
def sNz:Spec:=Sp (N) [.l] λl=>([E<|l.length<=4294967296],aE<|B<|tw l)
def oNz(l:N):dV:=bi Nat λi=>(i<=l.length,[(0,dm l),(3,B<|tw<|l.take i),(4,cP i)],[],l.length-i)
def aIs(l:N):dV:=bi Nat λi=>(i<=l.length/\l.length<=256/\(l.take i).all jI=ab,[(4,B<|ny 11<|l.take i),(10,dm l),(11,B l.length),(12,cP i)],[],l.length-i)
def aIt(l:N):dV:=bi Nat λi=>(i<=l.length/\l.length<=256/\(l.take i).all jI=ab,[(0,dm l),(4,B<|ny 11<|l.take i),(5,cP i)],[],l.length-i)
def aHg(l:N):dV:=bi Nat λi=>(i<=l.length,[(2,B<|lv<|l.take i),(3,B<|g<|l.take i),(6,dm l),(7,B l.length),(8,cP i)],[],l.length-i)
def hpT(l:N)(i:Nat):bN:=[(5000,.mp (.one<|.i .u8) (.st [.i .i64,.i .i64])<|mC l i),(5001,.mp (.st [.i .i64,.i .i64]) (.one<|.i .u8)<|nN l i),(5002,.row 317<|.cH 2<|jV l)]
def aI3(l:N):dV:=bi Nat λi=>(i<=l.length,[(6,.m 5000),(7,.m 5001),(17,.o 5002),(18,.v<|.int .i64 (jV l).length),(19,cP i)],hpT l i,l.length-i)
def WV(k:Nat)(s:M)(L:Nat):Nat×bm:=(k,.cells 231 [.v<|.string s,.v<|.int .i64 (L:Nat)])
def aIe(l:N)(s:M)(n:Int):dV:=bi jU λx=>(lO l s n x,[(2,B n),(8,U 5000),(11,.m 5001),(12,.o 5002),(13,U 5003)],[WV 5000 s x.L,(5001,.mp (.st [.i .i64,.i .i64]) (.one<|.i .u8)<|nN l l.length),(5002,.row 5<|.ints .u8 x.out),(5003,.cells 317 [B x.b,B x.v])],x.L)
def TR(l:N)(s:M)(x:jU):bN:=[WV 5000 s x.L,(5001,.row 317<|.cH 2<|jV l),(5002,.row 5<|.ints .u8 x.out)]
def aIE(l:N)(s:M)(n:Int):dV:=bi jU λx=>(lO l s n x/\x.b=0/\x.v=0,[(2,B n),(8,U 5000),(10,.o 5001),(12,.o 5002)],TR l s x,x.L)
def aIF(l:N)(s:M)(n:Int)(h:Nat):dV:=bi (jU×Int) λx=>(InP l s n h x.1 x.2,[(2,B n),(8,U 5000),(10,.o 5001),(12,.o 5002),(13,B x.1.v),(14,B x.1.b),(15,B x.2)],TR l s x.1,x.1.L)
def aIG(l:N)(s:M)(n:Int)(h:Nat)(x:jU):dV:=bi Nat λk=>(k<=l.length/\CP l s n h x,[(2,B n),(8,U 5000),(10,.o 5001),(12,.o 5002),(13,B x.v),(14,B x.b),(15,B<|mf l x.b x.v k),(19,cP k)],TR l s x,l.length-k)
def aIH(l:N)(s:M)(n:Int)(h:Nat)(x:jU):dV:=bi Unit λ_=>(¬n<=x.out.length/\x.L+1<=h/\lO l s n ⟨x.L+1,x.b,x.v,x.out⟩/\x.b<11,[(2,B n),(8,U 5000),(10,.o 5001),(12,.o 5002),(13,B x.v),(14,B x.b),(15,B<|-1),(16,U 5003),(17,dy<|iQ s x.L)],[WV 5000 s<|x.L+1,(5001,.row 317<|.cH 2<|jV l),(5002,.row 5<|.ints .u8 x.out),WV 5003 s x.L],0)
def aII(l:N)(s:M)(n:Int)(h:Nat)(x:jU)(k:Nat):dV:=bi Unit λ_=>(k<l.length/\CP l s n h x,[(2,B n),(8,U 5000),(10,.o 5001),(12,.o 5002),(13,B x.v),(14,B x.b),(15,B<|mf l x.b x.v<|k+1),(19,cP k)],TR l s x,0)
def aIC(l:N)(s:M)(n:Int):bO:=λk=>cond (ap k 0) (O<|.one<|aIE l s n)<|cond (ap k 1) (O<|.nk Nat λh=>aIF l s n h)<|cond (ap k 2) (O<|.nk (Nat×jU) λg=>aIG l s n g.1 g.2)<|cond (ap k 1012) (O<|.nk (Nat×jU) λg=>aIH l s n g.1 g.2)<|cond (ap k 1015) (O<|.nk (Nat×jU×Nat) λg=>aII l s n g.1 g.2.1 g.2.2) ae
def aIc:dV:=bi Nat λk=>(k<=2,[(0,aD y),(1,B v),(2,B 2),(6,dy<|Pf y v.toNat k),(8,U 5000),(38,B 2),(39,cP k)],[(5000,.cells 25 [B 0,B 0])],2-k)
def aID:dV:=bi Nat λk=>(k<=2,[(0,aD y),(1,B v),(2,B 2),(8,U 5000),(9,dy<|Pg y v.toNat k),(10,B<|1- (k:Nat))],[(5000,.cells 25 [B 0,B 0])],2-k)
def aHu(l0:Nat)(s:M)(p:N):CQ:={ι:=Nat,p:=λi=>i<=4,tm:=λi=>[(0,.v<|.func (.yield l0) #[] #[]),(1,U 0),(2,U 1),(6,qT p),(7,cP i)],hp:=λi=>[(0,.iA 78<|.ints .i64 p),(1,.cells 9 [aD<|sQ s p i])],μ:=λi=>4-i,y:=λi=>i}
def aHt(l0:Nat)(s:M)(p:N):Nat->Option Ba:=λk=>cond (ap k 0) (O ⟨Unit,λ_=>aHu l0 s p⟩) ae
def aon(l:N):bN:=[(1000,.cells 42 [.bZ<|.ints .i64 l]),(1001,.cells 9 [.v<|.string aJ]),(1002,.cells 3 [.v<|.int .i64 0]),(1003,.cells 23 [.v<|.int .i64 0])]
def aH5(l:N)(b:M)(n:Int):dV:=bi Nat λi=>(i<=3/\jH l n=0/\6<=n/\6<=b.size,[(1,aD b),(2,B n),(3,U 1000),(6,U 1001),(7,U 1002),(8,U 1003),(10,U 1004),(40,cP i)],aon l++ [(1004,.iA 78<|.ints .i64<|tB b i)],3-i)
def rR4(l:N)(b:M)(n:Int):Ha:={f:=266,cap:=[U 2200024,U 2200025],iR:=[(2200024,.iA 78<|.ints .i64<|q4 b),(2200025,.cells 9 [aD<|b.extract 6 b.size])],xs:=BQ (b.extract 6 b.size)<|q4 b,it:=λi=>[.int .i64 (i:Nat),.string<|p4 b i],tm:=[(3,U 1000),(6,U 1001),(7,U 1002),(8,U 1003),(15,U 1004),(16,U 1005),(17,U 1006)],hp:=λi=>aon l++ [(1004,.cells 9 [aD<|rW l b n i]),(1005,.cells 3 [B<|eH b i]),(1006,.iA 78<|.ints .i64<|jr n)],p:=λi=>sA l b n i=ab}
def oR4(l:N)(b:M)(n:Int):bO:=λk=>cond (ap k 0) (O<|.one<|aH5 l b n)<|cond (ap k 1) (O<|.Cr Nat λ_=>rR4 l b n) ae
def aIA(l:N)(b:M)(n:Int):dV:=bi Nat λi=>(i<=3/\jH l n=0/\6<=n/\6<=b.size,[(0,dm l),(1,aD b),(10,U 5000),(11,U 5001),(12,B<|eH b i),(13,cP i)],[(5000,.iA 78<|.ints .i64<|jr n),(5001,.iA 78<|.ints .i64<|Hs b i)],3-i)
def aIB(l:N)(b:M)(n:Int):dV:=bi Nat λi=>(i<=4/\e4 l b n=0/\sA l b n i=ab,[(0,dm l),(1,aD b),(10,U 5000),(11,U 5001),(17,aD<|rW l b n i),(18,B<|eH b i),(19,cP i)],[(5000,.iA 78<|.ints .i64<|jr n),(5001,.iA 78<|.ints .i64<|yT b)],4-i)
def aIz(l:N)(b:M)(n:Int):bO:=λk=>cond (ap k 0) (O<|.one<|aIA l b n)<|cond (ap k 1) (O<|.one<|aIB l b n) ae
def F0(h0:Nat)(h1:N):Prop:=jc h0 h1/\h1.length<=256/\Ls h0 h1
def zr(h0:Nat)(h1:N):Int:=ny 11<|aC h0 h1
def aff(h0:N)(h1:Nat)(x:Int):Prop:=∃(h:Nat),F0 h h0/\gS h0 h h1/\x=zr h h0/\tI h0 (bE h1 h)
def afh(h0:N)(h1:Nat)(x:Int):Prop:=∃(h:Nat),F0 h h0/\gS h0 h h1/\h0=h0/\x=zr h h0/\bE h1 h
def afd(h0:N)(h1:Nat)(x y:Int):Prop:=∃(h:Nat),rl h h0 h1 (x=lv (aC h h0))<|y=g (aC h h0)/\tI h0 (bE h1 h)
def aeV(h0 h1:Prop)(h x:Int)(y z:Prop):Prop:=Dq ((2:Int)>8) (h0/\h1)<|nS h h0 h1 x y z
def V5(h0 h1:Prop)(h x:Int)(y z:Prop):Prop:=Dq ((2:Int)<1) (h0/\h1)<|aeV h0 h1 h x y z
def L5(h0:M)(h1:Int)(h:Prop):Prop:=0=rS h0 h1.toNat/\0=h1+2/\h
def Vr(h0:Int):Prop:=gg [Wq<|(Wq<|h0+3).tdiv 4,Wq<|(Wq<|h0+3).tdiv 4,Wq<|(Wq<|h0+3).tdiv 4,Wq<|h0-Wq (3*Wq ((Wq<|h0+3).tdiv 4))]<|au 4 (0:Int)
def VC(h0:Int):N:=[Wq<|(Wq<|h0+3).tdiv 4,Wq<|(Wq<|h0+3).tdiv 4,Wq<|(Wq<|h0+3).tdiv 4,Wq<|h0-Wq (3*Wq ((Wq<|h0+3).tdiv 4))]
def VL(h0:Int):Prop:=4=qf [Wq<|(Wq<|h0+3).tdiv 4,Wq<|(Wq<|h0+3).tdiv 4,Wq<|h0-Wq (3*Wq ((Wq<|h0+3).tdiv 4))]
def as8(D:Prop):Prop:=Dq (v<0) D<|Dq (v>131072) D<|Dq (v<6) (gg ((0:Int)::fq) yd/\(4:Nat)=4/\(0:Int)::fq=vR v/\20=uC v)<|(4:Int)≠0/\Vr v/\VL v/\VC v=vR v/\0=uC v
def aFZ(l:N):Prop:=
 l.length<=4294967296/\
 l.length<=4294967296/\
 Bq (lh l !=0) (lh l=jz l) (Dq (lv l<2) (7=jz l)<|Bq (rZ l !=2048) (21=jz l)<|0=jz l)
def aMN(l:N):Prop:=
 cY l<=(4294967296:Nat)/\
 Bq (lh l !=(0:Int)) (lh l=jz l)
 (cY l<=(4294967296:Nat)/\Dq (tw l<(2:Int)) ((7:Int)=jz l) (Bq (rZ l !=(2048:Int)) ((21:Int)=jz l)<|(0:Int)=jz l))
def ari(h0:Nat)(h1:Int)(k:Nat)(e:q)(z:N)(r u:List (N×N)):Prop:=∀(h:Nat),h.le h0->Dq (Zq h<h1) (Rq (Zq h) h1<|(Zq h).toNat<k/\Dq ((e.getD (Zq h).toNat []).getD 0 (0:Int)>0) (∃(x:Nat),x.le h0/\cl h0 x h/\Jq h1/\Wq (Zq h+1)=Zq x/\(∀(y:N),eh (([Q .u8<|Zq h],[(e.getD (Zq h).toNat []).getD 0 (0:Int),(e.getD (Zq h).toNat []).getD 1 (0:Int)])::mC z h) y=eh (mC z x) y)/\(∀(y:N),eh (([(e.getD (Zq h).toNat []).getD 0 (0:Int),(e.getD (Zq h).toNat []).getD 1 (0:Int)],[Q .u8<|Zq h])::nN z h) y=eh (nN z x) y)/\e=e) (∃(x:Nat),x.le h0/\cl h0 x h/\Jq h1/\Wq (Zq h+1)=Zq x/\(∀(y:N),eh (mC z h) y=eh (mC z x) y)/\(∀(y:N),eh (nN z h) y=eh (nN z x) y)/\e=e)) ((∀(x:N),eh (mC z h) x=eh r x)/\(∀(x:N),eh (nN z h) x=eh u x))
def VF(h0:N)(h1 h x:Prop):Prop:=lZ (cJ h0) (cd h0) (h1/\h)<|x/\h
def ae_(h0:N)(h1 x:Prop):Prop:=∃(h:Nat),iT h h0/\h1/\aZ h/\Io (mC h0 h)/\Io (nN h0 h)/\x
def WN(h0:jU×Int)(h1:N)(h:M)(x:Int)(y:Nat):Prop:=h0.2= -1/\lO h1 h x h0.1/\h0.1.b<=11\/Rq h0.2 (Zq h1.length) (h0.1.L<y/\lO h1 h x (jU.mk h0.1.L 0 0<|h0.1.out++ [h0.2]))
def ard(h0:Nat)(h1:N)(x:q)(y:Nat)(z:Nat×jU)(h e k:Prop):Prop:=Rq (Zq h0) (Zq (jV h1).length)<|(Zq h0).toNat<(jV h1).length/\Bq (d x y==z.2.v) (aL<|h/\e) (aL<|h/\k)
def are(h0:Nat)(h1:N)(i:M)(z:Int)(c:Nat×jU)(f:q)(g t:Int)(l:Prop)(A:Bool)(m n:Nat)(e:Prop)(x y:Int)(k:Prop)(r:Nat)(u:Prop)(w:N)(a:Int)(p:Prop)(d s:Nat):Prop:=jc h0 h1/\CP h1 i z c.1 c.2->Dq (Zq h0<Zq f.length) (∃(h:Nat×jU×Nat),Rq g t (l/\Bq A (ard h0 h1 f m c (h.2.2<n/\CP h1 i z h.1 h.2.1) (e/\x=h.2.1.v/\y=h.2.1.b/\g=mf h1 h.2.1.b h.2.1.v (h.2.2+1)/\fC h0 h.2.2/\k/\fC r h.2.1.L/\u/\w=h.2.1.out)<|e/\x=h.2.1.v/\y=h.2.1.b/\a=mf h1 h.2.1.b h.2.1.v (h.2.2+1)/\fC h0 h.2.2/\k/\fC r h.2.1.L/\u/\w=h.2.1.out) (aL<|(h.2.2<n/\CP h1 i z h.1 h.2.1)/\e/\x=h.2.1.v/\y=h.2.1.b/\a=mf h1 h.2.1.b h.2.1.v (h.2.2+1)/\fC h0 h.2.2/\k/\fC r h.2.1.L/\u/\w=h.2.1.out))/\eO (h.2.2<n/\CP h1 i z h.1 h.2.1->(∃(j:Nat),(jc j h1/\p)/\gS h1 j h0/\e/\h.2.1.v=x/\h.2.1.b=y/\mf h1 h.2.1.b h.2.1.v (h.2.2+1)=mf h1 y x j/\bE h.2.2 j/\k/\fC h.2.1.L r/\u/\h.2.1.out=w))) (∃(h:jU×Int),(¬z<=o h.1.out/\h.1.L<=d/\WN h h1 i z d)/\h.1.L<s/\e/\x=h.1.v/\y=h.1.b/\a=h.2/\k/\fC r h.1.L/\u/\w=h.1.out)
def arf(h0:Int)(h1:N)(u:jU×Int)(c:Nat)(y:N)(z:M)(D:Bool)(f:Prop)(E:Bool)(w:Prop)(g m:Int)(p:Prop)(s:Int)(k:Prop)(i:Nat)(r t:Prop)(l A:Int)(d:q)(B:Int)(C j n:Nat)(a:N):Prop:=¬h0<=o h1/\u.1.L<=c/\WN u y z h0 c->Dq (u.2<0) (bD z/\(∃(h:Nat×jU),Bq D f (Bq E f<|aL<|(¬h0<=o h.2.out/\h.2.L+1<=h.1/\lO y z h0 (jU.mk (h.2.L+1) h.2.b h.2.v h.2.out)/\h.2.b<11)/\w/\g=h.2.v/\m=h.2.b/\p/\s=iQ z (Zq h.2.L)/\k/\fC i (h.2.L+1)/\r/\h1=h.2.out/\t/\l=Zq h.2.L)/\eO (¬h0<=o h.2.out/\h.2.L+1<=h.1/\lO y z h0 (jU.mk (h.2.L+1) h.2.b h.2.v h.2.out)/\h.2.b<11->(∃(x:Nat×jU),(∃(e:Nat),(jc e y/\CP y z h0 x.1 x.2)/\w/\Wq (Wq (2*h.2.v)+Wq (iQ z<|Zq h.2.L))=x.2.v/\ay h.2.b=x.2.b/\A=mf y x.2.b x.2.v e/\aZ e/\k/\fC h.2.L x.2.L/\r/\h.2.out=x.2.out)/\(∀(e:Nat),are e y z h0 x d (Zq e) B (T e<C) (bM d (T e)==x.2.b) (T e) j w x.2.v x.2.b k x.2.L r x.2.out (mf y x.2.b x.2.v e) (CP y z h0 x.1 x.2) c i))))) (FJ u.1.out/\(∃(h:jU),(lO y z h0 h/\h.b=0/\h.v=0)/\h.L<n/\w/\k/\fC i h.L/\r/\a=h.out))
def arh(h0:N)(h1:M)(x e:Int)(z:q)(k:M)(r w:Int)(i j:Nat):Prop:=∀(y:jU),lO h0 h1 x y/\y.b=0/\y.v=0->Dq (o y.out<x) (∃(u:Nat),(∃(h:jU×Int),(¬x<=o h.1.out/\h.1.L<=u/\WN h h0 h1 x u)/\x=x/\0=h.1.v/\0=h.1.b/\e=h.2/\h1=h1/\fC y.L h.1.L/\z=z/\y.out=h.1.out)/\(∀(h:jU×Int),arf x h.1.out h u h0 h1 (gx h1 (Zq h.1.L) 1 !=0) (aJ=k/\22=r) (h.1.b==11) (x=x) h.1.v h.1.b (h.2=e) (cm h1 (Zq h.1.L) 1) (h1=h1) h.1.L (z=z) (dw h1 (Zq h.1.L) 1=h1) (dQ h1 (Zq h.1.L) 1) e z w i j y.L<|h.1.out++ [Q .u8 h.2])) (bD h1/\Bq (gx h1 (Zq y.L) 1==0) (aJ=k/\22=r) (strOfNums y.out=k/\0=r))
def adE(l:N)(n:Int):Prop:=
 l.length<=4294967296/\Bq (jz l==0) (Dq (n<0) (2=jH l n)<|Dq (n>131072) (2=jH l n)<|jz l=jH l n) (jz l=jH l n)
def afn(h0:N)(h1:M)(h:Int)(x y:jU)(z:Prop):Prop:=lO h0 h1 h x/\x.L<y.L/\h=h/\dw h1 (Zq y.L) 1=h1/\dQ h1 (Zq y.L) 1=Zq x.L/\PQ (nN h0 h0.length)/\z
def ar_(l:N)(b:M)(n:Int):Prop:=
 l.length<=4294967296/\
 Bq (jH l n !=0) (aJ=rO l b n/\jH l n=rE l b n)
 (cJ l=0/\b.size<=1000000/\0<=n/\n<=131072/\qH l b n=rO l b n/\qi l b n=rE l b n)
def aNu(l:N)(b:M)(n:Int):Prop:=
 l.length<=4294967296/\
 Bq (jH l n !=0) (aJ=rO l b n/\jH l n=rE l b n)
 (cJ l=0/\b.size<=1000000/\0<=n/\n<=131072/\qH l b n=rO l b n/\qi l b n=rE l b n)
def wX(h0 h1:M):Prop:=h0.size+h1.size<=9223372036854775807
def AK(h0:Nat)(h1 h:Prop):Prop:=Rq (Zq h0) (Zq 4)<|h1/\h
def F5(h0:Nat)(h1:N)(h:Int)(x:M):Prop:=h0<=3/\jH h1 h=0/\6<=h/\6<=x.size
def Ix(h0 h1:Prop):Prop:=Rq 3 (Zq 4)<|h0/\h1
def DM(h0:N)(h1:M)(h:Int)(x:Prop):Prop:=aJ=rm h0 h1 h/\0=qF h0 h1 h/\x
def WE(h0:Nat)(h1:N)(h:M)(x:Int):Prop:=h0<=4/\e4 h1 h x=0/\sA h1 h x h0=ab
def P5(h0:M):bm:=bm.cells 9 [SV.v<|zS h0]
def Qf(h0:N)(h1:Prop):Prop:=h0=h0/\aJ=aJ/\ca h1
def aru(l:N)(b:M)(n:Int)(D:Nat)(P:List (List Value))(i:M)(p:Nat):Prop:=cd l/\Bq (jH l n !=0) (DM l b n<|jH l n=mu l b n) (Dq (n<6) (DM l b n<|20=mu l b n)<|Dq (ak b<6) (DM l b n<|22=mu l b n)<|Ix (p<4)<|(∃(y:Nat),F5 y l n b/\fV b n (aZ y) (Qf l<|yd.set p (Wq<|ak b-6)=tB b y))/\(∀(x1:Nat),F5 x1 l n b->Dq (Zq x1<3) (cE (2*Zq x1)/\Wq (2*Zq x1)+2<=ak b/\F9 b/\AK x1 (T x1<(tB b x1).length) (Ix (p<((tB b x1).set (T x1)<|Wq<|rS b<|b5<|2*Zq x1).length)<|AK x1 (T x1<((tB b x1).set (T x1)<|Wq<|rS b<|b5<|2*Zq x1).length)<|Ix (p<((tB b x1).set (T x1)<|Wq<|rS b<|b5<|2*Zq x1).length)<|∃(h:Nat),F5 h l n b/\fj 3 h<fj 3 x1/\fV b n (bE x1 h) (Qf l<|((tB b x1).set (T x1)<|Wq<|rS b<|b5<|2*Zq x1).set p (Wq<|((tB b x1).set (T x1)<|Wq<|rS b<|b5<|2*Zq x1).getD p (0:Int)- ((tB b x1).set (T x1)<|Wq<|rS b<|b5<|2*Zq x1).getD (T x1) (0:Int))=tB b h))) (Ix (p<(tB b x1).length)<|Dq ((tB b x1).getD p 0<0) (DM l b n<|22=mu l b n)<|aF n (n<=131072)<|(jr n).length=4/\gg (jr n) yd/\(0:Int)<=6/\6<=ak b/\w_ b/\4=(tB b x1).length/\(tB b x1).length=4/\(∃(z:Nat),xt Proofs.Tryz.prog 266 [SV.p 2200024 0 0,SV.p 2200025 0 0] [(2200024,bm.iA 78<|aA.ints .i64<|q4 b),(2200025,P5 i)] P (λ(x:Nat)=>([]:bN))/\(tB b x1=q4 b/\b.extract (X 6) (ak b).toNat=i)/\sA l b n 0=ab/\Qf l (aJ=rW l b n 0/\6=eH b 0/\jr n=jr n)/\(∀(i4:Nat),i4<D->sA l b n i4=ab->tG P i4 (ot (Zq i4)<|zS<|p4 b i4)/\(ot (Zq i4)<|zS<|p4 b i4).length=F_ [72,73]/\AK i4 (T i4<qf [qe n,qe n,n-3*qe n]) (cJ l=0/\bD (p4 b i4)/\aF ((jr n).getD (T i4) 0) ((jr n).getD (T i4) 0<=131072) (bS (qi l (p4 b i4)<|(jr n).getD (T i4) 0) (aJ=rm l b n) (eH b i4=qF l b n/\22=mu l b n) (wX (rW l b n i4)<|qH l (p4 b i4)<|(jr n).getD (T i4) 0)<|sA l b n (i4+1)=ab/\Qf l (rW l b n i4++qH l (p4 b i4) ((jr n).getD (T i4) 0)=rW l b n (i4+1)/\Wq (eH b i4+ak (p4 b i4))=eH b (i4+1)/\jr n=jr n))))/\(sA l b n D=ab->rW l b n D=rm l b n/\0=qF l b n/\0=mu l b n)))))
def aaG(p:N)(l0:Nat):Prop:=4=p.length/\aL (∃(x1:Nat),x1.le 4/\FT x1/\(vU l0/\p=p/\aZ x1/\p=p/\y=sQ y p x1)/\(∀(h:Nat),h.le 4->Dq (Zq h<4) (AK h (4=p.length)<|ft (0<=b_ p h)<|b_ p h<=ak (sQ y p h)/\l0=l0/\tG (BQ y p) h (ot (Zq h)<|zS<|(sQ y p h).extract bY<|G p<|T h)/\aF (b_ p h) (b_ p h<=ak (sQ y p h)) (w_ (sQ y p h)/\(∃(x:Nat),x.le 4/\xW (h+1) x/\fj 4 x<fj 4 h/\vU l0/\p=p/\bE h x/\p=p/\(sQ y p h).extract (G p<|T h) (ak<|sQ y p h).toNat=sQ y p x))/\True) (h=(BQ y p).length)))
def aBj(p:N)(l0:Nat):aaG y p l0=Yd ar (oC []) l0 (BQ y p) (aHt l0 y p) Tryz.f266 [.p 0 0 0,.p 1 0 0] [(0,.iA 78<|.ints .i64 p),(1,.cells 9 [.v<|.string y])]:=ax
theorem adJ(l:N)(x:Int):tw (l++ [x])=cond (x !=0) (tw l+1) (tw l):=by grind [tw]
def aG_(l:N):0<=tw l/\tw l<=l.length:=by
 induction l using yn with
 |h0=>exact⟨H,H⟩
 |h1 l z h=>grind [adJ]
def ail{x:Int}:Q CM x=x%256:=rfl
def asX{l:N}(h:256<l.length):lh l=6/\rZ l=0:=by grind [lh,rZ]
def asW{l:N}(h:l.length<=256)(x:l.all jI=ah):lh l=2/\rZ l=0:=by grind [lh,rZ]
theorem Xe{l:N}(h:l.length<=256)(x:l.all jI=ab):lh l=0/\rZ l=sO l:=by grind [lh,rZ]
structure RmS (l:N) (i:Nat):Prop where
 x0:0<=l.getD i 0
 x1:l.getD i 0<=11
 ok:(l.take (i+1)).all jI=ab
 s0:0<=ny 11 (l.take i)
 s1:ny 11 (l.take i)<=524288
 pos:0<l.getD i 0->ny 11 (l.take (i+1))=ny 11 (l.take i)+2^(11-l.getD i 0).toNat
 not:¬0<l.getD i 0->ny 11 (l.take (i+1))=ny 11 (l.take i)
 pw:0<l.getD i 0->(2:Int)^(11-l.getD i 0).toNat<=2048
def asU{l:N}{i:Nat}(hi:i<l.length)(z:l.length<=256)(y:(l.take i).all jI=ab)(h0:¬l.getD i 0<0)(h1:¬l.getD i 0>11):RmS l i:=by
 have x:=ahv 11 Y Y<|l.take i;rw[mT]at x;refine⟨Y,Y,by rw[ZO hi,y,H_.2 ⟨Y,Y⟩];rfl,x.1,Y,λh=>?_,λh=>?_,λh=>?_⟩
 .rw[take_succ l 0 hi,DT,jS h,bo]
 .rw[take_succ l 0 hi,DT,iW h,iw]
 .exact nQ<|show(11-l.getD i 0).toNat<=11 by omega
theorem aG'{l:N}(h:l.all jI=ab):tw l=lv l:=by
 induction l using yn with
 |h0=>rfl
 |h1 l z x=>
  simp only[YR,uR,ML,MM,bC]at h;grind [H_,adJ,C2]
def apd{l:N}(h:lh l≠0):jz l=lh l:=by grind [jz]
theorem ape{l:N}(h:lh l=0)(x:lv l<2):jz l=7:=by grind [jz]
theorem apf{l:N}(h:lh l=0)(x:¬lv l<2):jz l=cond (sO l==2048) 0 21:=by grind [jz]
theorem asV{l:N}(h:lh l=0):l.length<=256/\l.all jI=ab:=by grind [lh]
def aqa(l:N)(n:Int)(h0:l.length<=4294967296):adE l n:=by grind [adE,jH]
theorem NI(l:N):(jV l).length=l.length:=by grind [jV,aam]
def Sf{l:N}{i:Nat}:((jV l).getD i []).getD 0 0=hB l i/\((jV l).getD i []).getD 1 0=hV l i:=⟨rfl,rfl⟩
def Z4(s:M)(k:Int):iQ s k=0\/iQ s k=1:=by have:=R7 (s:=s) k;omega
def QI{L:Nat}(x:gD w=0)(y:(L:Int)<=aR w)(h0:L≠0):gx w (L:Int) 1=0/\dw w (L:Int) 1=w/\dQ w (L:Int) 1=((L-1:Nat):Int)/\cm w (L:Int) 1=iQ w ((L-1:Nat):Int):=by
 have z:=(Ez x).1;have h:gx w (L:Int) 1=0:=by grind [gx,kW,mv]
 have e:iD w L (X 1)=iQ w ((L-1:Nat):Int):=by
  show 2*0+iQ w ((L:Int)-1- (0:Nat))=_;grind
 exact⟨h,by unfold dw;rw[I h],by unfold dQ;rw[I h];omega,by unfold cm;rw[I h,e]⟩
def ahF(h:gD w=0):gx w ((0:Nat):Int) 1=5:=by have x:=(Ez h).1;have y:=JX x;grind [gx,kW,mv]
def ap4{a:Int}(h:(a !=(0:Int))=ab):(a==0)=ah:=c9
def WX{l:N}{s:M}{n:Int}{x:jU}(h:lO l s n x)(z:¬n<=x.out.length)(y:x.L=0\/11<=x.b):pK l s n=ae:=by
 obtain⟨L,b,v,out⟩:=x;rw[<-h.is];cases L with
 |zero=>grind [so]
 |succ L=>grind [so]
def ar3{l:N}{s:M}{n:Int}{x:jU}(h:lO l s n x)(y:n<=x.out.length)(h0:x.L=0):pK l s n=O x.out:=by obtain⟨L,b,v,out⟩:=x;rw[<-h.is];grind [so]
def ar6{l:N}{s:M}{n:Int}{x:jU}(h:lO l s n x)(y:n<=x.out.length)(h0:x.L≠0):pK l s n=ae:=by
 obtain⟨L,b,v,out⟩:=x;rw[<-h.is];cases L with
 |zero=>grind
 |succ L=>grind [so]
def IF{l:N}{s:M}{n:Int}(h:pK l s n=ae):aJ=qH l s n/\(22:Int)=qi l s n:=by unfold qH qi;rw[h];exact⟨rfl,rfl⟩
def ar7{l:N}{s:M}{n:Int}{o:N}(h:pK l s n=O o):strOfNums o=qH l s n/\(0:Int)=qi l s n:=by unfold qH qi;rw[h];exact⟨rfl,rfl⟩
def aKY{b:Int}(h:0<=b):(2:Int)^(b+1).toNat=2*2^b.toNat:=by rw[show(b+1).toNat=b.toNat+1 by omega,MW];omega
def ar5{l:N}{s:M}{n:Int}{L:Nat}{b v:Int}{x:N}(h:lO l s n ⟨L+1,b,v,x⟩)(d:¬n<=x.length)(a:b<11)(c:yU l (b+1) (2*v+iQ s (L:Nat))<0):
  lO l s n ⟨L,b+1,2*v+iQ s (L:Nat),x⟩:=by obtain⟨e,u,y,k,w,i,z,is⟩:=h;simp only at u y k w i z is;have r:=Z4 s (L:Nat);have j:=aKY y;refine⟨e,by show(L:Int)<=_;omega,by show 0<=b+1;omega,by show b+1+(L:Int)<=_;omega,λ_=>by show 0<=2*v+iQ s L;omega,λ_=>by show 2*v+iQ s L<2^(b+1).toNat;omega,z,?_⟩;grind [so]
def ar2{l:N}{s:M}{n:Int}{L:Nat}{b v:Int}{x:N}(h:lO l s n ⟨L+1,b,v,x⟩)(a:¬n<=x.length)(i:b<11)(j:¬yU l (b+1) (2*v+iQ s (L:Nat))<0):
  lO l s n ⟨L,0,0,x++ [yU l (b+1)<|2*v+iQ s (L:Nat)]⟩:=by obtain⟨e,k,y,z,u,w,r,is⟩:=h;simp only at k y z u w r is;refine⟨e,by show(L:Int)<=_;omega,jj 0,by show 0+(L:Int)<=_;omega,λ_=>jj 0,λ_=>by show(0:Int)<2^(0:Int).toNat;decide,by simp only[gn,rG];omega,?_⟩;grind [so]
def aLO{l:N}{s:M}{n:Int}{L:Nat}{b v w:Int}{x:N}(h:lO l s n ⟨L+1,b,v,x⟩)(j:¬n<=x.length)(i:11<=b):lO l s n ⟨L,b+1,w,x⟩:=by
 have u:=WX h j<|.inr i;obtain⟨e,a,z,k,c,d,y,is⟩:=h;simp only at a z k y;refine⟨e,by show(L:Int)<=_;omega,by show 0<=b+1;omega,by show b+1+(L:Int)<=_;omega,λh=>by have r:b+1<=11:=h;omega,λh=>by have r:b+1<=11:=h;omega,y,?_⟩;rw[u];cases L with
 |zero=>grind [so]
 |succ L=>grind [so]
theorem aJ9(a b:Nat)(z:b<2)(h:2*a+b<4294967296):bits .or .i64 ((2*a:Nat):Int) (b:Int)=((2*a+b:Nat):Int):=by
 have x:∀a:Nat,a<4294967296->(lk 64 (a:Int)).toNat=a:=fun a y=>by grind
 show IntKind.i64.wrap ((lk 64 ((2*a:Nat):Int)|||lk 64 (b:Int)).toNat:Int)=_;rw[Yy,x _ Y,x _ Y];have:=MI (i:=1) Y a;grind [wr]
def aGS{v:Int}{k:Nat}(h0:0<=v)(h1:v<4096):
  bits BinOp.or bW (Q bW<|v*(2:Int)^min (X (1:Int)) (cZ bW)) (Q bW<|iQ w (k:Nat))=2*v+iQ w (k:Nat):=by have h:=Z4 w (k:Nat);have e:min (X (1:Int)) (cZ bW)=1:=rfl;rw[e,show(2:Int)^1=2 from rfl,wr Y Y,wr Y Y];grind [Int.eq_ofNat_of_zero_le,iQ,aJ9]
def ar8{l:N}{s:M}{n:Int}(h:gD s=0)(x:0<=n):lO l s n ⟨(aR s).toNat,0,0,[]⟩:=by have y:=JX (Ez h).1;refine⟨h,by show(((aR s).toNat:Nat):Int)<=_;omega,jj 0,by show(0:Int)+(((aR s).toNat:Nat):Int)<=_;omega,λ_=>jj 0,λ_=>by show(0:Int)<2^(0:Int).toNat;decide,by simpa using x,?_⟩;grind [pK]
def aGD{l:N}{b v:Int}(h:0<b):AA (nN l l.length) [b,v]= !decide (yU l b v<0):=by rw[ads,adn l b v h];show _= !decide (mf l b v l.length<0);grind
def aGM{l:N}{b v:Int}(x:0<b)(h:¬yU l b v<0):sw 1 (nN l l.length) [b,v]= [yU l b v]:=by unfold sw;rw[adn l b v x,iW<|show¬mf l b v l.length<0 from h];rfl
def aa4(l:N)(b v:Int)(k:Nat):mf l b v (k+1)=cond (hB l k==b&&hV l k==v) (k:Int) (mf l b v k):=rfl
def aqv(p v n:Nat)(hp:p<2^n)(x:p+v*2^n<18446744073709551616):bits .or .u64 (p:Int) ((v*2^n:Nat):Int)=((p+v*2^n:Nat):Int):=by
 have h:∀a:Nat,a<18446744073709551616->(lk 64 (a:Int)).toNat=a:=λa y=>by grind
 show IntKind.u64.wrap ((lk 64 (p:Int)|||lk 64 ((v*2^n:Nat):Int)).toNat:Int)=_;rw[Yy,h p Y,h _ Y,Nat.or_comm,AY v<|2^n,<-MI hp];rw[AY]at x;rw[Rn];omega
theorem Se(s:M):(dY s).length=s.size:=by unfold dY;rw[qk];rfl
theorem N1(s:M)(a b:Nat):dY (s.extract a b)=((dY s).drop a).take (b-a):=by grind [dY,ByteArray.data_extract,Array.toList_extract,List.map_take,List.map_drop]
theorem amw{s:M}{a b:Nat}(h:b<=s.size):(s.extract a b).size=b-a:=by simp_all
def AB(p:N):Nat->Nat
 |0=>0
 |i+1=>AB p i+(p.getD i 0).toNat
theorem agd(s:M)(p:N):∀i,dY (sQ s p i)=(dY s).drop (AB p i)
 |0=>rfl
 |i+1=>by
  have h:=Se (sQ s p i);show dY ((sQ s p i).extract (p.getD i 0).toNat (sQ s p i).size)=_;rw[N1,nE (by rw[nW,h];omega),agd s p i,axz];rfl
theorem aND(s:M)(p:N)(i:Nat):(sQ s p i).size=s.size-AB p i:=by grind [agd,Se]
theorem aKt(s:M)(p:N)(i:Nat):dY (AD s p i)=((dY s).drop (AB p i)).take (p.getD i 0).toNat:=by
 unfold AD;rw[N1,agd,I_,Nat.sub_zero]
structure PtS (n:Int):Prop where
 k0:0<=qe n
 k1:3*qe n<=n
 k2:qe n<=n
def aKO{n:Int}(h:6<=n):PtS n:=by constructor<;>(show _<=_;unfold qe;omega)
theorem aKH(n:Int):(jr n).getD 0 0=qe n:=rfl
theorem aKI(n:Int):(jr n).getD 1 0=qe n:=rfl
theorem aKJ(n:Int):(jr n).getD 2 0=qe n:=rfl
theorem aKK(n:Int):(jr n).getD 3 0=n-3*qe n:=rfl
def ad7{n:Int}(h:6<=n){i:Nat}(hi:i<4):0<=(jr n).getD i 0/\(jr n).getD i 0<=n:=by obtain⟨x,y,z⟩:=aKO h;grind [aKH,aKI,aKJ,aKK]
def aJA{p:N}:∀{i j:Nat},i<=j->AB p i<=AB p j:=by
 intro i j h;induction j with
 |zero=>grind
 |succ j x=>grind [AB]
def aBm{p:N}(h:p.length=4)(h0:∀i,i<4->0<=p.getD i 0)(x:AB p 4=w.size):RC w p:=by refine⟨h,λi hi=>⟨h0 i hi,?_⟩⟩;have:=aJA (p:=p) (show i+1<=4 by omega);grind [AB,aND]
def aJ8{a b:Int}(h0:0<=a)(h1:a<256)(h:0<=b)(z:b<256):bits .or .u64 a (b*256)=a+256*b:=by obtain⟨x,rfl⟩:=pP h0;obtain⟨y,rfl⟩:=pP h;have:=aqv x y 8 Y Y;grind
def or0{b:Int}(h:0<=b)(x:b<256):bits .or .u64 0 b=b:=by obtain⟨y,rfl⟩:=pP h;have:=aqv 0 y 0 Y Y;grind
def aqU{n:Int}(h0:0<=n)(h1:n<=131072):
  Q bW (fi (Q bW<|n+3) 4)=qe n/\Q bW (n-Q bW (3*qe n))=n-3*qe n:=by have h:Q bW (n+3)=n+3:=wr Y Y;grind [qe,wr]
theorem aKN{n:Int}(h:n<0):uC n=2/\vR n= [0,0,0,0]:=by grind [uC,vR]
theorem aKL{n:Int}(h:131072<n):uC n=2/\vR n= [0,0,0,0]:=by
 have:uC n=2:=by unfold uC;rw[jS h,uY];rfl
 grind [vR]
theorem aqR{n:Int}(h0:0<=n)(h:n<6):uC n=20/\vR n= [0,0,0,0]:=by grind [uC,vR]
def aqS{n:Int}(h0:6<=n)(h:n<=131072):uC n=0/\vR n=jr n:=by grind [uC,vR]
def aoY{p:N}{i:Nat}(h:i<4):(BQ w p)[i]? =O [.int .i64 (i:Nat),.string<|AD w p i]:=by grind [BQ]
def aBk(p:N)(h:RC y p)(l0:Nat):aaG y p l0:=by
 unfold aaG G aF w_ bE bY ft AK FT vU T aZ aL ot tG ak xW b_ Dq Rq Wq Zq Jq;refine⟨h.1.symm,(),0,dx _,rfl,⟨A,A,A,A,rfl⟩,λi hi=>⟨λx=>?_,λz=>?_⟩⟩
 .have x:(i:Int)<4:=by simpa using x
  obtain⟨s,p1⟩:=h.2 i Y;refine⟨Y,Y,h.1.symm,Y,s,p1,A,aoY Y,⟨s,p1,Y,i+1,by rw[gG];omega,rfl,by show 4- (i+1)<4-i;omega,A,A,by rw[wr Y Y];push_cast;rfl,A,rfl⟩,trivial⟩
 .rw[gG]at hi
  have z:¬(i:Int)<4:=c9;show i=4;omega
def aBl(p:N)(x:RC y p)(k:Nat):A' ar 266 [.p k 0 0,.p (k+1) 0 0] [(k,.iA 78<|.ints .i64 p),(k+1,.cells 9 [.v<|.string y])] (BQ y p):=by
 have h:A' ar 266 [.p 0 0 0,.p 1 0 0] [(0,.iA 78<|.ints .i64 p),(1,.cells 9 [.v<|.string y])] (BQ y p):=
  acV m.nil mixed Tryz.func266 ax λl0=>by
   have:=aBk y p x l0;rw[aBj]at this;exact this
 exact h.js (λi=>k+i) aj rfl rfl
def adF{l:N}{n:Int}(h:jH l n=0):cJ l=0/\jz l=0/\0<=n/\n<=131072:=by grind [jH,aF0]
def ary{l:N}{b:M}{n:Int}(h:jH l n≠0):rO l b n=aJ/\rE l b n=jH l n:=by grind [rO,rE]
theorem aK9{l:N}{b:M}{n:Int}(h:jH l n=0):rO l b n=qH l b n/\rE l b n=qi l b n:=by grind [rO,rE]
def ar'(l:N)(b:M)(n:Int)(h0:l.length<=4294967296)(h1:b.size<=1000000):ar_ l b n:=by refine⟨h0,λh=>⟨(ary<|nz h).1.symm,(ary<|nz h).2.symm⟩,λh=>?_⟩;have e:=pW h;obtain⟨a,_,c,d⟩:=adF e;grind [aK9]
def DS(xs:N):(strOfNums xs).data=(xs.map λn=>zW n.toNat).toArray:=rfl
theorem aRn(s:M):strOfNums (dY s)=s:=by
 apply Yu;rw[DS];unfold dY;rw[MS];have e:((fun n:Int=>zW n.toNat)∘fun b:UInt8=>(b.toNat:Int))=id:=by
  funext b;simp
 rw[e,ajb,CB]
theorem bytes_inj{a b:M}(h:dY a=dY b):a=b:=by grind [aRn]
def xh(i:Nat):0<=dU y i/\dU y i<65536:=by have h:=me y ((2*i:Nat):Int);have x:=me y<|((2*i:Nat):Int)+1;grind [dU,rS]
theorem RU(b:M):eH b 0=6:=rfl
theorem RV(b:M):eH b 1=6+dU b 0:=by rfl
theorem Nr(b:M):eH b 2=6+dU b 0+dU b 1:=by
 show 6+([dU b 0,dU b 1]:N).sum=_;grind
theorem JR(b:M):eH b 3=6+dU b 0+dU b 1+dU b 2:=by
 show 6+([dU b 0,dU b 1,dU b 2]:N).sum=_;grind
theorem RW(b:M):eH b 4=b.size:=by
 show 6+(q4 b).sum=_;grind [q4]
theorem UY(b:M):(q4 b).getD 3 0=b.size-eH b 3:=by
 rw[JR];show(b.size:Int)-6-dU b 0-dU b 1-dU b 2=_;omega
theorem JS(b:M){i:Nat}(h:i<4):eH b (i+1)=eH b i+(q4 b).getD i 0:=by
 have:i=0\/i=1\/i=2\/i=3:=Y;rcases this with rfl|rfl|rfl|rfl
 ·rfl
 ·rw[RV,Nr];rfl
 ·rw[Nr,JR];rfl
 ·grind [RW,UY]
theorem ZU(b:M){i:Nat}(h:i<=3):6<=eH b i/\eH b i<=6+65536*i:=by
 have x:=xh b 0;have y:=xh b 1;have z:=xh b 2;have:i=0\/i=1\/i=2\/i=3:=Y;grind [RU,RV,Nr,JR]
def aBv{i:Nat}(h:i<4):(yT y).getD i 0=eH y (i+1):=by
 have:i=0\/i=1\/i=2\/i=3:=Y;rcases this with rfl|rfl|rfl|rfl
 .rfl
 .rfl
 .rfl
 .rw[RW];rfl
structure Q4 (b:M):Prop where
 s6:6<=b.size
 fit:eH b 3<=b.size
theorem Li{b:M}(h:Q4 b){i:Nat}(hi:i<4):0<=(q4 b).getD i 0/\eH b i+(q4 b).getD i 0<=b.size:=by
 have y:=xh b 0;have z:=xh b 1;have e:=xh b 2;have x:=h.fit;rw[JR]at x;have:i=0\/i=1\/i=2\/i=3:=Y;rcases this with rfl|rfl|rfl|rfl
 ·rw[RU];show 0<=dU b 0/\6+dU b 0<=_;omega
 ·rw[RV];show 0<=dU b 1/\6+dU b 0+dU b 1<=_;omega
 ·rw[Nr];show 0<=dU b 2/\6+dU b 0+dU b 1+dU b 2<=_;omega
 ·grind [UY,JR]
def UZ(h:Q4 w):∀i,i<=4->((AB (q4 w) i:Nat):Int)+6=eH w i
 |0,_=>by rw[RU];rfl
 |i+1,hi=>by have y:=UZ h i Y;have x:=Li h (i:=i) Y;grind [JS,AB]
def aK2(h:Q4 w):RC (w.extract 6 w.size) (q4 w):=by refine aBm rfl (λi hi=>(Li h hi).1) ?_;have:=UZ h 4<|gL _;rw[RW]at this;rw[amw<|gL _];omega
theorem aqB{b:M}(h:Q4 b){i:Nat}(hi:i<4):b.extract (eH b i).toNat (eH b (i+1)).toNat=p4 b i:=by
 have y:=UZ h i Y;have z:=Li h hi;have e:=JS b hi;have x:=Se b;grind [bytes_inj,p4,N1,aKt,List.take_of_length_le,List.drop_drop]
def aqC(h:Q4 w){i:Nat}(hi:i<4):((p4 w i).size:Int)=(q4 w).getD i 0:=by have x:=UZ h i Y;have y:=Li h hi;grind [JS,aqB,amw]
def al2{l:N}{b:M}{n:Int}(h:jH l n≠0):e4 l b n=jH l n:=by grind [e4]
def al1{l:N}{b:M}{n:Int}(h:jH l n=0)(x:n<6):e4 l b n=20:=by grind [e4]
def SM{l:N}{b:M}{n:Int}(h:jH l n=0)(x:¬n<6)(y:b.size<6\/(q4 b).getD 3 0<0):e4 l b n=22:=by grind [e4]
def al3{l:N}{b:M}{n:Int}(h:jH l n=0)(x:¬n<6)(y:¬b.size<6)(z:¬(q4 b).getD 3 0<0):e4 l b n=0:=by grind [e4]
def Gh{l:N}{b:M}{n e:Int}(h:e4 l b n=e)(x:e≠0):aJ=rm l b n/\(0:Int)=qF l b n/\e=mu l b n:=by grind [rm,qF,mu]
theorem adM(l:N)(b:M)(n:Int)(i:Nat):sA l b n (i+1)=(sA l b n i&&(I6 l b n i).isSome):=by grind [sA]
def arx{l:N}{b:M}{n:Int}(h:e4 l b n=0){i:Nat}(hi:i<4)(k:sA l b n i=ab)(r:I6 l b n i=ae):aJ=rm l b n/\eH b i=qF l b n/\(22:Int)=mu l b n:=by
 have e:sA l b n 4=ah:=by
  rw[Bool.eq_false_iff];grind [adM]
 have y:ZX l b n=i:=by
  unfold ZX;have x:∀j,j<i->(I6 l b n j).isSome=ab:=λj z=>by grind [sA]
  rw[List.findIdx_eq<|by simpa using hi];grind
 grind [rm,qF,mu]
def arw{l:N}{b:M}{n:Int}(h:e4 l b n=0)(x:sA l b n 4=ab):rW l b n 4=rm l b n/\(0:Int)=qF l b n/\(0:Int)=mu l b n:=by grind [rm,qF,mu]
def ar1{l:N}{b:M}{n:Int}(h:qi l b n=0):∃o,pK l b n=O o:=by
 unfold qi at h;cases x:pK l b n with
 |none=>rw[x]at h;cases h
 |some o=>grind
def WW{l:N}{b:M}{n:Int}(h:qi l b n≠0):pK l b n=ae:=by
 unfold qi at h;cases x:pK l b n with
 |none=>rfl
 |some o=>rw[x]at h;exact absurd rfl h
def aco{l:N}{s:M}{n:Int}:∀(L:Nat) (b v:Int) (x:N),(x.length:Int)<=n->∀o,so l s n L b v x=O o->(o.length:Int)<=n
 |0,b,v,x,h,o,e=>by grind [so]
 |L+1,b,v,x,h,o,e=>by
  simp only[so]at e;cases y:decide (n<=x.length)<;>rw[y]at e
  .cases z:decide (11<=b)<;>rw[z]at e
   .simp only[dH]at y
    simp only[iw]at e;cases k:decide (yU l (b+1) (2*v+iQ s (L:Nat))<0)<;>rw[k]at e
    .exact aco L _ _ _ (by simp only[gn,rG];omega) o e
    .exact aco L _ _ _ h o e
   .cases e
  .cases e
def adL{l:N}{b:M}{n:Int}(y:0<=n):((oS<|pK l b n).size:Int)<=n:=by
 cases x:pK l b n with
 |none=>exact y
 |some o=>
  show((strOfNums o).size:Int)<=n;rw[strOfNums_size];unfold pK at x;cases h:gD b==0<;>rw[h]at x
  .cases x
  .exact aco _ _ _ _ Y o x
def adU{l:N}(x:Good l){b:M}{n:Int}(h:6<=n)(y:n<=131072):∀i,i<=4->(rW l b n i).size<=i*131072
 |0,_=>dx _
 |i+1,hi=>by have z:=adU x (b:=b) h y i Y;have hp:=ad7 h (i:=i) Y;have:=adL (l:=l) (b:=p4 b i) hp.1;grind [rW,I6]
def QK{i:Nat}(h:i<3):i=0\/i=1\/i=2:=Y
def aM2:=auy.gd m.nil Tryz.func158 λ(l:N) ⟨w,_⟩=>⟨(one<|aIs l),J (p:=Dq (o l>256) (0=rZ l/\6=lh l)<|(∃(x0:Nat),F0 x0 l/\0=zr x0 l/\tI l (aZ x0))/\(∀(x1:Nat),F0 x1 l->kX (Zq x1) (o l) (Dq (b_ l x1<0) (0=rZ l/\2=lh l)<|Dq (b_ l x1>11) (0=rZ l/\2=lh l)<|Dq (b_ l x1>0) (cE (11-b_ l x1)/\aff l x1 (Wq<|zr x1 l+jd (Wq<|11-b_ l x1) .i64))<|aff l x1<|zr x1 l) (zr x1 l=rZ l) (0=lh l)))<|by
 unfold aff jd tI o bE zr F0 aZ jc Ls cE gS cl kX b_ Dq Rq Wq Zq;simp only[kC,dJ,dH];refine⟨λh=>?_,λh=>⟨⟨0,⟨Y,Y,rfl⟩,rfl,A,A,A⟩,λi ⟨hi,z,k⟩=>⟨λa=>?_,λj=>?_⟩⟩⟩
 .obtain⟨x,y⟩:=asX (l:=l) Y
  exact⟨y.symm,x.symm⟩
 .have u:i<l.length:=Y
  simp only[toNat_cast];have bad:jI (l.getD i 0)=ah->0=rZ l/\2=lh l:=λv=>by
   obtain⟨x,y⟩:=asW z<|ZN u v;exact⟨y.symm,x.symm⟩
  refine⟨Y,Y,λe=>bad<|Fy.2<|.inl e,λe=>⟨λr=>bad<|Fy.2<|.inr r,λr=>?_⟩⟩;have st:=asU u z k e Y;have x0:=st.x0;have x1:=st.x1;have s0:=st.s0;have s1:=st.s1;refine⟨λhp=>?_,λhp=>⟨i+1,⟨Y,z,st.ok⟩,by show l.length- (i+1)<l.length-i;omega,(st.not hp).symm,A,A,by rw[wr Y Y];push_cast;rfl⟩⟩;have pw:=st.pw hp;have b:=jJ (11-l.getD i 0).toNat;rw[wr (n:=11-l.getD i 0) Y Y,sS Y Y];refine⟨Y,i+1,⟨Y,z,st.ok⟩,by show l.length- (i+1)<l.length-i;omega,?_,A,A,by rw[wr Y Y];push_cast;rfl⟩;rw[st.pos hp,wr Y Y]
 .have:i=l.length:=Y
  subst this;rw[Ed]at k|-;obtain⟨x,y⟩:=Xe z k;exact⟨y.symm,x.symm⟩⟩
def aNC:=auy.gd m.nil Tryz.func238 λ(l:N) ⟨w,_⟩=>⟨(one<|aIt l),J (p:=Dq (o l>256) (0=rZ l/\6=lh l)<|(∃(x0:Nat),F0 x0 l/\l=l/\0=zr x0 l/\aZ x0)/\(∀(x1:Nat),F0 x1 l->kX (Zq x1) (o l) (Dq (b_ l x1<0) (0=rZ l/\2=lh l)<|Rq (Zq x1) (o l)<|Dq (b_ l x1>11) (0=rZ l/\2=lh l)<|Rq (Zq x1) (o l)<|Dq (b_ l x1>0) (o8 x1 l (fU<|Wq<|11-b_ l x1)<|afh l x1<|Wq<|zr x1 l+fG (Wq<|11-b_ l x1))<|afh l x1<|zr x1 l) (zr x1 l=rZ l) (0=lh l)))<|by
 unfold afh bE o8 o zr F0 fU fG jd aZ jc Ls gS cl kX b_ Dq Rq Wq Uq Zq;simp only[kC,dJ,dH];refine⟨λh=>?_,λh=>⟨⟨0,⟨Y,Y,rfl⟩,A,rfl,A⟩,λi ⟨hi,z,k⟩=>⟨λa=>?_,λj=>?_⟩⟩⟩
 .obtain⟨x,y⟩:=asX (l:=l) Y
  exact⟨y.symm,x.symm⟩
 .have u:i<l.length:=Y
  simp only[toNat_cast];have bad:jI (l.getD i 0)=ah->0=rZ l/\2=lh l:=λv=>by
   obtain⟨x,y⟩:=asW z<|ZN u v;exact⟨y.symm,x.symm⟩
  refine⟨Y,Y,λe=>bad<|Fy.2<|.inl e,λe=>⟨Y,Y,λr=>bad<|Fy.2<|.inr r,λr=>?_⟩⟩;have st:=asU u z k e Y;have x0:=st.x0;have x1:=st.x1;have s0:=st.s0;have s1:=st.s1;refine⟨Y,Y,λhp=>?_,λhp=>⟨i+1,⟨Y,z,st.ok⟩,by show l.length- (i+1)<l.length-i;omega,A,(st.not hp).symm,by rw[wr Y Y];push_cast;rfl⟩⟩;have pw:=st.pw hp;have b:=jJ (11-l.getD i 0).toNat;rw[wr (n:=11-l.getD i 0) Y Y,fW Y Y,sS Y Y];refine⟨Y,Y,Y,i+1,⟨Y,z,st.ok⟩,by show l.length- (i+1)<l.length-i;omega,A,?_,by rw[wr Y Y];push_cast;rfl⟩;rw[st.pos hp,wr Y Y]
 .have:i=l.length:=Y
  subst this;rw[Ed]at k|-;obtain⟨x,y⟩:=Xe z k;exact⟨y.symm,x.symm⟩⟩
def aAr:=aOt.gd m.nil Tryz.func159 λ(l:N) ⟨z,_⟩=>⟨(one<|aHg l),J (p:=(∃(h:Nat),iT h l/\0=lv (aC h l)/\0=g (aC h l)/\tI l (aZ h))/\(∀(x1:Nat),iT x1 l->kX (Zq x1) (o l) (Dq (b_ l x1>0) (afd l x1 (ay<|lv<|aC x1 l)<|uZ (g<|aC x1 l)<|b_ l x1)<|afd l x1 (lv<|aC x1 l)<|g<|aC x1 l) (lv (aC x1 l)=lv l) (g (aC x1 l)=g l)))<|by
 unfold afd tI o bE rl aZ ay gS cl iT kX b_ Dq Rq Wq Zq;simp only[kC,dJ,dH];refine⟨⟨0,dx _,rfl,rfl,A,A,A⟩,λi hi=>⟨λr=>?_,λk=>?_⟩⟩
 .rw[gG]at hi
  have x:i<l.length:=Y;simp only[toNat_cast];have y:=aak<|l.take i;rw[mT]at y;have e:=(EX<|l.take i).1;refine⟨Y,Y,λhp=>⟨i+1,by rw[gG];omega,by show l.length- (i+1)<l.length-i;omega,?_,?_,A,A,by rw[wr Y Y];push_cast;rfl⟩,λhp=>⟨i+1,by rw[gG];omega,by show l.length- (i+1)<l.length-i;omega,?_,?_,A,A,by rw[wr Y Y];push_cast;rfl⟩⟩
  .rw[take_succ l 0 x,C2,jS hp,bo,wr Y Y]
  .grind [take_succ,Ob]
  .rw[take_succ l 0 x,C2,iW hp,iw]
  .grind [take_succ,Ob]
 .grind⟩
def aG9:=sNz.gd m.nil Tryz.func239 λ(l:N) ⟨r,_⟩=>⟨(one<|oNz l),J (p:=(∃(h:Nat),iT h l/\l=l/\0=tw (aC h l)/\aZ h)/\(∀(x1:Nat),iT x1 l->w9 (Zq x1) (o l) (Bq (b_ l x1 !=0) (∃(x:Nat),AL x l x1 (ay<|tw<|aC x1 l)<|tw<|aC x l)<|∃(y:Nat),AL y l x1 (tw<|aC x1 l)<|tw<|aC y l) (tw<|aC x1 l) (tw l)))<|by
 unfold o AL bE rl w9 aZ ay gS cl iT b_ Dq Bq Rq Wq Zq;refine⟨⟨0,by rw[gG];omega,rfl,rfl,rfl⟩,λi hi=>⟨λe=>?_,λv=>?_⟩⟩
 .simp only[dJ]at e
  rw[toNat_cast];have z:i<l.length:=Y;have k:=adJ (l.take i)<|l.getD i 0;rw[<-take_succ l 0 z]at k;have u:=aG_<|l.take i;grind [wr]
 .grind⟩
def ayJ:=CS ayt Nd
def Nf:=m.cons aM2<| .cons aNC<| .cons aAr<| .cons aG9<|ayJ
def aFY:=aue.gd Nf Tryz.func113 λ(l:N) ⟨x,_⟩=>⟨aK,J (p:=aFZ l)<|by
 refine⟨x,x,λh=>(apd<|nz h).symm,λh=>⟨λy=>?_,λy=>?_⟩⟩
 .exact(ape (pW h) c9).symm
 .have e:=pW h
  grind [asV,apf,Xe]⟩
def aMM:=aue.gd Nf Tryz.func183 λ(l:N) ⟨x,_⟩=>⟨aK,J (p:=aMN l)<|by refine⟨x,λh=>(apd<|nz h).symm,λh=>⟨x,?_⟩⟩;have e:=pW h;grind [asV,aG',Xe,ape,apf]⟩
def aRw:=aP3.gd Nf Tryz.func265 λ(l:N) ⟨h,_⟩=>⟨(one<|aI3 l),J (p:=VF l (ae_ l (Jq<|dk<|jV l)<|jV l=jV l) (ari l.length (dk<|jV l) (jV l).length (jV l) l (mC l l.length)<|nN l l.length)<|ae_ l (aZ (jV l).length)<|gZ<|jV l)<|by
 unfold ae_ dk VF cd ari gZ cl aZ Io lZ iT Dq Cq Rq Wq Zq Jq;have z:=te h;have k:=z.len;refine⟨λ_=>⟨Y,⟨0,dx _,A,A,λ_=>rfl,λ_=>rfl,A⟩,λi hi=>⟨λx=>?_,λr=>?_⟩⟩,λe=>absurd h e⟩
 .rw[gG]at hi
  rw[NI]at x|-;simp only[kC,dJ,dH,toNat_cast]at x|-;rw[(Sf (l:=l) (i:=i)).1,(Sf (l:=l) (i:=i)).2];have y:Q CM (i:Int)=(i:Int):=by rw[ail];omega
  rw[y];refine⟨Y,Y,Y,λhp=>⟨i+1,by rw[gG];omega,by show l.length- (i+1)<l.length-i;omega,A,by rw[wr Y Y];push_cast;rfl,λq=>?_,λq=>?_,A⟩,λhp=>⟨i+1,by rw[gG];omega,by show l.length- (i+1)<l.length-i;omega,A,by rw[wr Y Y];push_cast;rfl,λq=>?_,λq=>?_,A⟩⟩
  .show _=eh (cond (decide (0<hB l i)) (([(i:Int)],[hB l i,hV l i])::mC l i)<|mC l i) q
   rw[jS hp];rfl
  .show _=eh (cond (decide (0<hB l i)) (([hB l i,hV l i],[(i:Int)])::nN l i)<|nN l i) q
   rw[jS hp];rfl
  .show _=eh (cond (decide (0<hB l i)) (([(i:Int)],[hB l i,hV l i])::mC l i)<|mC l i) q
   rw[iW hp];rfl
  .show _=eh (cond (decide (0<hB l i)) (([hB l i,hV l i],[(i:Int)])::nN l i)<|nN l i) q
   rw[iW hp];rfl
 .grind [NI]⟩
def aNs:=auo.gd Nf Tryz.func187 λ⟨l,s,n⟩ ⟨hc,P,BI,HK,_⟩=>⟨(aIC l s n),J (p:=bD s/\Bq (gD s !=0) (aJ=qH l s n/\22=qi l s n) (VF l (∃(E:jU),(lO l s n E/\E.b=0/\E.v=0)/\n=n/\kG s=s/\ia s=Zq E.L/\jV l=jV l/\([]:N)=E.out) (arh l s n fH (jV l) (qH l s n) (qi l s n) (dk<|jV l) (jV l).length l.length)<|∃(F:jU),(lO l s n F/\F.b=0/\F.v=0)/\n=n/\kG s=s/\ia s=Zq F.L/\gZ (jV l)/\([]:N)=F.out))<|by
 unfold fH dk VF cd arh arf are eO o WN bE FJ ard T gZ aZ lZ aL jc fC ay gS cl d bM bD Dq Bq Cq Rq Wq Zq;have hg:=te hc;have aUO:=hg.len;refine⟨P,λh=>IF<|by unfold pK;rw[ap4 h];rfl,λh=>⟨λ_=>?_,λhn=>absurd hc hn⟩⟩;have j:=pW h;obtain⟨k1,k2,k3,k4⟩:=Ez j;have hr:=JX k1;refine⟨Y,⟨_,⟨ar8 j BI,rfl,rfl⟩,A,k4,by rw[k3];show aR s=(((aR s).toNat:Nat):Int);omega,A,A⟩,λx ⟨I,hxb,hxv⟩=>⟨λai=>?_,λH=>?_⟩⟩
 .have m_:¬n<=x.out.length:=by
   have:(x.out.length:Int)<n:=by simpa using ai
   omega
  refine⟨x.L,⟨(x, -1),⟨m_,gL _,.inl ⟨rfl,I,by show x.b<=11;omega⟩⟩,A,hxv.symm,hxb.symm,A,A,A,A,A⟩,λ⟨y,f⟩ ⟨r,Fk,D⟩=>⟨λW=>?_,λW=>?_⟩⟩
  .have X:f<0:=by simpa using W
   obtain⟨Z,K,aFg⟩:f= -1/\lO l s n y/\y.b<=11:=by
    rcases D with g|⟨g,_⟩
    .exact g
    .have xI:0<=f:=g
     omega
   obtain⟨L,b,v,out⟩:=y;simp only at r Fk aFg|-;have c:=K.le;simp only at c;refine⟨P,(L,⟨L-1,b,v,out⟩),⟨λe=>?_,λe=>?_⟩,λ_ ⟨c1,c2,c3,c4⟩=>?_⟩
   .refine IF<|WX K r<|.inl ?_
    by_cases z:L=0
    .exact z
    .exact absurd (QI j c z).1 (nz e)
   .have z:L≠0:=λz=>by
     have:=ahF j;rw[z]at e;have:=pW e;omega
    obtain⟨t1,t2,t3,t4⟩:=QI j c z;have u:L-1+1=L:=Y;refine⟨λR=>IF<|WX K r<|.inr ?_,λR=>⟨(),⟨r,by show L-1+1<=L;omega,?_,?_⟩,A,A,A,Z,t4,A,by show(L:Int)=((L-1+1:Nat):Int);rw[u],A,A,t2,t3⟩⟩
    .have:b=11:=eq_of_beq R
     show 11<=b;omega
    .show lO l s n ⟨L-1+1,b,v,out⟩
     rw[u];exact K
    .have:b≠11:=ne_of_beq_false R
     show b<11;omega
   .simp only at c1 c2 c3 c4
    obtain⟨L',rfl⟩:∃L',L=L'+1:=⟨L-1,Y⟩;simp only[ax6]at c2 c3|-;have Aj:=c3.b0;have po:=c3.b1;have Dl:=c3.v0 (by show b<=11;omega);have oO:=c3.v1 (by show b<=11;omega);simp only at Aj po Dl oO;have hp:=nQ (show b.toNat<=11 by omega);have Dm:v<4096:=by
     have:(2:Int)^11=2048:=rfl;omega
    have h01:=Z4 s (L':Nat);obtain⟨B,S⟩:∃B,B=b+1:=⟨_,rfl⟩;obtain⟨V,w⟩:∃V,V=2*v+iQ s (L':Nat):=⟨_,rfl⟩;have q:CP l s n (L'+1) ⟨L',B,V,out⟩:=by
     refine⟨r,gL _,?_,by show 1<=B;omega,by show B<=11;omega,by show V=2*((V-iQ s (L':Nat))/2)+iQ s (L':Nat);omega⟩;show lO l s n ⟨L'+1,B-1,(V-iQ s (L':Nat))/2,out⟩;rw[show B-1=b by omega,show(V-iQ s (L':Nat))/2=v by omega];exact c3
    refine⟨(L'+1,⟨L',B,V,out⟩),⟨0,⟨dx _,q⟩,A,?_,?_,A,A,A,A,A,A⟩,λk ⟨hk,_⟩=>⟨λC=>⟨(L'+1,⟨L',B,V,out⟩,k),?_,λ_ ⟨d1,_⟩=>?_⟩,λt=>?_⟩⟩
    .show _=V
     rw[w,wr (n:=2*v) Y Y,wr (n:=iQ s (L':Nat)) Y Y,wr Y Y]
    .show _=B
     rw[S,wr Y Y]
    .have a:k<l.length:=by
      rw[NI]at C;have:(k:Int)<l.length:=by simpa using C
      omega
     simp only[NI,toNat_cast];rw[(Sf (l:=l) (i:=k)).1,(Sf (l:=l) (i:=k)).2];refine⟨Y,Y,a,λu=>⟨Y,Y,a,λM=>⟨(),⟨a,q⟩,A,A,A,?_,A,A,A,A,A⟩,λM=>⟨(),⟨a,q⟩,A,A,A,?_,A,A,A,A,A⟩⟩,λu=>⟨(),⟨a,q⟩,A,A,A,?_,A,A,A,A,A⟩⟩
     .rw[aa4,u,M];rfl
     ·rw[aa4,u,M];rfl
     ·rw[aa4,u];rfl
    ·have d1':k<l.length:=d1
     refine⟨k+1,⟨Y,q⟩,by show l.length- (k+1)<l.length-k;omega,A,A,A,A,?_,A,A,A,A⟩;show Q bW ((k:Int)+1)=((k+1:Nat):Int);rw[wr Y Y];push_cast;rfl
    ·have a:k=l.length:=by
      rw[NI]at t;have:¬(k:Int)<l.length:=by simpa using t
      omega
     subst a;have iZ:=amO l B V l.length;refine⟨(⟨L',B,V,out⟩,mf l B V l.length),⟨r,by show L'<=x.L;omega,?_⟩,by show L'<L'+1;omega,A,A,A,A,A,A,A,A⟩;by_cases G:mf l B V l.length<0
     ·left
      refine⟨by show mf l B V l.length= -1;omega,?_,by show B<=11;omega⟩;show lO l s n ⟨L',B,V,out⟩;rw[S,w]at G|-;exact ar5 c3 r c4 G
     ·right
      refine⟨by show 0<=mf l B V l.length;omega,by show mf l B V l.length<_;omega,by show L'<x.L;omega,?_⟩;show lO l s n ⟨L',0,0,out++ [mf l B V l.length]⟩;rw[S,w]at G|-;exact ar2 c3 r c4 G
  ·have X:¬f<0:=by simpa using W
   rcases D with⟨g,_⟩|⟨f0,f1,m,U⟩
   ·have xI:f= -1:=g
    omega
   ·simp only at f0 f1 m U|-
    have ho:=U.o1;simp only[gn,rG]at ho;refine⟨Y,⟨y.L,0,0,y.out++ [f]⟩,⟨U,rfl,rfl⟩,m,A,A,A,A,?_⟩;rw[show Q CM f=f by rw[ail];omega]
 ·have H:n<=x.out.length:=by
   have:¬(x.out.length:Int)<n:=by simpa using H
   omega
  refine⟨P,fun e=>IF (ar6 I H ?_),fun e=>ar7 (ar3 I H ?_)⟩
  ·intro z
   have:=ahF j;rw[z]at e;have:gx s ((0:Nat):Int) 1=0:=eq_of_beq e;omega
  ·by_cases z:x.L=0
   ·exact z
   ·exact absurd (QI j I.le z).1 (ne_of_beq_false e)⟩
def aLK:=aun.gd m.nil Tryz.func215 λ⟨b,i⟩ ⟨d,f,g,_⟩=>⟨(one<|aIc b i),J (p:=V5 (0=rS b i.toNat) (0=i+2/\sI) i (ak b) (L5 b i sI)<|Dq (2>Wq (ak b-i)) (L5 b i<|(5:Int)=0/\ak b=0)<|(∃(r:Nat),r.le 2/\fV b i ((2:Int)=2) (0=Pf b i.toNat r/\(2:Int)=2/\aZ r/\dE))/\(∀(x1:Nat),x1.le 2->Dq (Zq x1<2) (Rq (Wq<|i+Zq x1) (ak b)<|cE (8*Zq x1)/\(∃(y:Nat),y.le 2/\fj 2 y<fj 2 x1/\fV b i ((2:Int)=2) (bits .or .u64 (Pf b i.toNat x1) (Uq<|Uq (Zq<|Yq b<|b5<|i+Zq x1)*o9 (Wq<|8*Zq x1) .u64)=Pf b i.toNat y/\(2:Int)=2/\bE x1 y/\dE))) (Pf b i.toNat x1=rS b i.toNat/\Wq (i+2)=i+2/\dE)))<|by
 unfold sI L5 fV o9 a_ bE V5 aeV dE nS aZ ak cE b5 Dq Rq Wq Uq Zq Yq;refine⟨λh=>by simp at h,λ_=>⟨λh=>by simp at h,λ_=>⟨λh=>?_,λ_=>⟨λh=>?_,λ_=>⟨λh=>?_,λ_=>⟨⟨0,dx _,A,A,A,rfl,A,A,A,A⟩,λk a=>⟨λw=>?_,λv=>?_⟩⟩⟩⟩⟩⟩⟩
 .have:i<0:=by simpa using h
  omega
 .have:i>b.size:=by simpa using h
  omega
 .rw[wr Y Y]at h
  have:(2:Int)>b.size-i:=by simpa using h
  omega
 .have w:(k:Int)<2:=by simpa using w
  have c:k=0\/k=1:=Y;rw[wr (n:=i+(k:Int)) Y Y,wr (n:=8*(k:Int)) Y Y];rcases c with rfl|rfl
  .have x:=me b i.toNat
   have e:(((b.data.toList.getD (i+((0:Nat):Int)).toNat 0).toNat:Nat):Int)=u b i.toNat:=by
    rw[show i+((0:Nat):Int)=i by omega];rfl
   rw[e];refine⟨Y,Y,Y,1,by rw[gG];omega,by show 2-1<2-0;omega,A,A,A,?_,A,by rw[wr Y Y];rfl,A,A⟩;have z:(2:Int)^min (X<|8*((0:Nat):Int)) (cZ fh)=1:=rfl;rw[z,fW (n:=u b i.toNat) Y Y,Int.mul_one,fW (n:=u b i.toNat) Y Y];exact or0 x.1 x.2
  .have x:=me b<|i.toNat+1
   have j:=me b i.toNat;have e:(((b.data.toList.getD (i+((1:Nat):Int)).toNat 0).toNat:Nat):Int)=u b (i.toNat+1):=by
    rw[show(i+((1:Nat):Int)).toNat=i.toNat+1 by omega];rfl
   rw[e];refine⟨Y,Y,Y,2,by rw[gG];omega,by show 2-2<2-1;omega,A,A,A,?_,A,by rw[wr Y Y];rfl,A,A⟩;have z:(2:Int)^min (X<|8*((1:Nat):Int)) (cZ fh)=256:=rfl;rw[z,fW (n:=u b<|i.toNat+1) Y Y,fW (n:=u b (i.toNat+1)*256) Y Y];exact aJ8 j.1 j.2 x.1 x.2
 .rw[gG]at a
  have v:¬(k:Int)<2:=by simpa using v
  have:k=2:=Y;subst this;exact⟨rfl,wr Y Y,rfl,rfl⟩⟩
def aNq:=aun.gd m.nil Tryz.func44 λ⟨b,i⟩ ⟨a,c,d,_⟩=>⟨(one<|aID b i),J (p:=V5 (0=rS b i.toNat) (0=i+2/\sI) i (ak b) (L5 b i sI)<|Dq (Wq (ak b-i)<2) (L5 b i<|(5:Int)=0/\ak b=0)<|(∃(y:Nat),y.le 2/\fV b i ((2:Int)=2) (0=Pg b i.toNat y/\Wq (2-1)=1-Zq y/\dE))/\(∀(x1:Nat),x1.le 2->Dq (1-Zq x1>=0) (Rq (Wq<|i+(1-Zq x1)) (ak b)<|∃(x:Nat),x.le 2/\fj 2 x<fj 2 x1/\fV b i ((2:Int)=2) (Uq (Uq (Pg b i.toNat x1*256)+Uq (Zq<|Yq b<|b5<|i+(1-Zq x1)))=Pg b i.toNat x/\bF (1-Zq x1)=1-Zq x/\dE)) (Pg b i.toNat x1=rS b i.toNat/\Wq (i+2)=i+2/\dE)))<|by
 unfold sI L5 fV a_ V5 aeV dE bF nS ak b5 Dq Rq Wq Uq Zq Yq;refine⟨λh=>by simp at h,λ_=>⟨λh=>by simp at h,λ_=>⟨λh=>?_,λ_=>⟨λh=>?_,λ_=>⟨λh=>?_,λ_=>⟨⟨0,dx _,A,A,A,rfl,by rw[wr Y Y];rfl,A,A⟩,λk v=>⟨λr=>?_,λz=>?_⟩⟩⟩⟩⟩⟩⟩
 .have:i<0:=by simpa using h
  omega
 .have:i>b.size:=by simpa using h
  omega
 .rw[wr Y Y]at h
  have:(b.size:Int)-i<2:=by simpa using h
  omega
 .have r:(1:Int)-k>=0:=by simpa using r
  have w:k=0\/k=1:=Y;rw[wr (n:=i+(1- (k:Int))) Y Y];rcases w with rfl|rfl
  .have j:=me b<|i.toNat+1
   have e:(((b.data.toList.getD (i+(1- ((0:Nat):Int))).toNat 0).toNat:Nat):Int)=u b (i.toNat+1):=by
    rw[show(i+(1- ((0:Nat):Int))).toNat=i.toNat+1 by omega];rfl
   rw[e];refine⟨Y,Y,1,by rw[gG];omega,by show 2-1<2-0;omega,A,A,A,?_,by rw[wr Y Y];rfl,A,A⟩;show Q fh (Q fh (0*256)+_)=u b (i.toNat+1);rw[fW (n:=(0:Int)*256) Y Y,fW (n:=u b<|i.toNat+1) Y Y,fW Y Y];omega
  .have j:=me b<|i.toNat+1
   have f:=me b i.toNat;have e:(((b.data.toList.getD (i+(1- ((1:Nat):Int))).toNat 0).toNat:Nat):Int)=u b i.toNat:=by
    rw[show(i+(1- ((1:Nat):Int))).toNat=i.toNat by omega];rfl
   rw[e];refine⟨Y,Y,2,by rw[gG];omega,by show 2-2<2-1;omega,A,A,A,?_,by rw[wr Y Y];rfl,A,A⟩;show Q fh (Q fh (u b (i.toNat+1)*256)+_)=u b (i.toNat+1)*256+u b i.toNat;rw[fW (n:=u b (i.toNat+1)*256) Y Y,fW (n:=u b i.toNat) Y Y,fW Y Y]
 .rw[gG]at v
  have z:¬(1:Int)-k>=0:=by simpa using z
  have:k=2:=Y;subst this;refine⟨?_,wr Y Y,rfl,rfl⟩;show u b (i.toNat+1)*256+u b i.toNat=u b i.toNat+256*u b (i.toNat+1);omega⟩
def aKP:=aPs.gd m.nil Tryz.func216 λ(n:Int) ⟨y,z,_⟩=>⟨aK,J (p:=(4:Int)≠0/\Vr n/\VL n/\VC n=jr n)<|by unfold VL VC Vr gg qf Wq;obtain⟨h,x⟩:=aqU y z;rw[h,x];exact⟨Y,rfl,rfl,rfl⟩⟩
def aNd:=aPt.gd m.nil Tryz.func188 λ(n:Int) _=>⟨aK,J (p:=as8 n<|gg ((0:Int)::fq) yd/\(4:Nat)=4/\(0:Int)::fq=vR n/\2=uC n)<|by
 unfold as8 yd fq VL VC Vr gg qf Dq Wq;simp only[kC,dJ,dH];refine⟨λh=>?_,λh=>⟨λe=>?_,λe=>⟨λk=>?_,λk=>?_⟩⟩⟩
 .grind [aKN]
 .grind [aKL]
 .grind [aqR]
 .obtain⟨x,y⟩:=aqS (n:=n) Y Y
  obtain⟨z,e4⟩:=aqU (n:=n) Y Y;rw[z,e4];exact⟨Y,rfl,rfl,y.symm,x.symm⟩⟩
def aA_:=aOM.gd m.nil Tryz.func217 λ⟨s,p⟩ ⟨h,_⟩=>⟨aK,J (p:=p=p/\s=s)<|⟨rfl,rfl⟩⟩
def RL:=m.cons aFY<| .cons aMM<| .cons aRw<| .cons aNs<| .cons aLK<| .cons aNq<| .cons aKP<| .cons aNd<| .cons aA_<|Nf
def aG4:=aul.gd RL Tryz.func213 λ⟨l,n⟩ ⟨h,_⟩=>⟨aK,J (p:=adE l n)<|aqa l n h⟩
def aM1:=aul.gd RL Tryz.func186 λ⟨l,n⟩ ⟨h,_⟩=>⟨aK,J (p:=l.length<=4294967296/\Bq (jz l==0) (Dq (n<0) (2=jH l n)<|Dq (n>131072) (2=jH l n)<|jz l=jH l n) (jz l=jH l n))<|aqa l n h⟩
def aLM:=auo.gd RL Tryz.func214 λ⟨l,s,n⟩ ⟨t,q,M,S,_⟩=>⟨(one<|aIe l s n),J (p:=bD s/\bS (gD s) (aJ=qH l s n) (22=qi l s n) (cJ l=0) (ft (0<=n)<|yb (Zq 1) n (∃(i:jU),lO l s n i/\n=n/\kG s=s/\ia s=Zq i.L/\PQ (nN l l.length)/\au bY (0:Int)=i.out/\0=i.b/\0=i.v)<|∀(y:jU),lO l s n y->Dq (o y.out<n) (bD s/\bS (gx s (Zq y.L) 1) (aJ=qH l s n) (22=qi l s n) ((0:Int)<=1) (Bq (!AA (nN l l.length) [ay y.b,bits .or .i64 (Wq<|y.v*gH (X 1) IntKind.i64.bits) (Wq<|cm s (Zq y.L) 1)]) (∃(c:jU),afn l s n c y<|y.out=c.out/\ay y.b=c.b/\bits .or .i64 (Wq<|y.v*gH (X 1) IntKind.i64.bits) (Wq<|cm s (Zq y.L) 1)=c.v)<|FJ y.out/\(∃(d:jU),afn l s n d y<|y.out++ [(sw 1 (nN l l.length) [ay y.b,bits .or .i64 (Wq<|y.v*gH (X 1) IntKind.i64.bits) (Wq<|cm s (Zq y.L) 1)]).headD 0]=d.out/\0=d.b/\0=d.v))) (Dq (Zq y.L>0) (aJ=qH l s n/\22=qi l s n)<|strOfNums y.out=qH l s n/\0=qi l s n)))<|by
 unfold o afn bY ft yb FJ gH PQ ay bS bD Dq Bq Wq Zq Jq;have I:=te t;refine⟨q,λh=>IF<|by unfold pK;rw[ap4 h];rfl,λh=>?_⟩;have u:=pW h;obtain⟨N,U,k3,P⟩:=Ez u;have T:=JX N;refine⟨t,Y,Y,Y,Y,⟨_,ar8 u M,A,P,by rw[k3];show aR s=(((aR s).toNat:Nat):Int);omega,λ_=>rfl,rfl,rfl,rfl⟩,λx z=>⟨λe=>?_,λj=>?_⟩⟩
 .have K:¬n<=x.out.length:=by
   have:(x.out.length:Int)<n:=by simpa using e
   omega
  clear e;have e:=K;refine⟨q,λa=>?_,λa=>?_⟩
  .refine IF<|WX z e<|.inl ?_
   by_cases k:x.L=0
   .exact k
   .exact absurd (QI u z.le k).1 (nz a)
  .have k:x.L≠0:=λk=>by
    have:=ahF u;rw[k]at a;have:=pW a;omega
   obtain⟨R,B,C,D⟩:=QI u z.le k;obtain⟨L,b,v,out⟩:=x;simp only at e k R B C D|-;have F:=z.b0;have G:=z.b1;have g:=z.le;have m:=z.o1;simp only at F G g m;have E:Q bW (b+1)=b+1:=wr Y Y;rw[B,C,D,E];obtain⟨L',rfl⟩:∃L',L=L'+1:=⟨L-1,Y⟩;simp only[ax6];rw[aGD Y];by_cases H:11<=b
   .have r:=aB1 I (b:=b+1) (v:=bits BinOp.or bW (Q bW<|v*(2:Int)^min (X (1:Int)) (cZ bW)) (Q bW<|iQ s (L':Nat))) Y
    rw[r];refine⟨Y,λ_=>⟨⟨L',b+1,_,out⟩,aLO z e H,by show L'<L'+1;omega,A,A,A,(by intro _;first|rfl|trivial),A,A,A⟩,λw=>by simp at w⟩
   .have Dl:=z.v0<|by show b<=11;omega
    have oO:=z.v1 (by show b<=11;omega);simp only at Dl oO;have hp:=nQ (show b.toNat<=11 by omega);have Dm:v<4096:=by
     have:(2:Int)^11=2048:=rfl;omega
    rw[aGS Dl Dm];refine⟨Y,λw=>?_,λw=>?_⟩
    .have r:yU l (b+1) (2*v+iQ s (L':Nat))<0:=by simpa using w
     exact⟨⟨L',b+1,_,out⟩,ar5 z e Y r,by show L'<L'+1;omega,A,A,A,(by intro _;first|rfl|trivial),A,A,A⟩
    .have r:¬yU l (b+1) (2*v+iQ s (L':Nat))<0:=by simpa using w
     rw[aGM Y r];refine⟨Y,⟨L',0,0,_⟩,ar2 z e Y r,by show L'<L'+1;omega,A,A,A,(by intro _;first|rfl|trivial),A,A,A⟩
 .have j:n<=x.out.length:=by
   have:¬(x.out.length:Int)<n:=by simpa using j
   omega
  refine⟨λf=>IF<|ar6 z j ?_,λf=>ar7<|ar3 z j ?_⟩
  .have:(x.L:Int)>0:=by simpa using f
   omega
  .have:¬(x.L:Int)>0:=by simpa using f
   omega⟩
def Zx:=m.cons aG4<| .cons aM1<| .cons aLM<|RL
def aLR:=aup.gd Zx Tryz.func162 λ⟨l,b,n⟩ ⟨h,x,_⟩=>⟨aK,J (p:=ar_ l b n)<|ar' l b n h x⟩
def aNt:=aup.gd Zx Tryz.func137 λ⟨l,b,n⟩ ⟨h,x,_⟩=>⟨aK,J (p:=aNu l b n)<|ar' l b n h x⟩
def Zy:=m.cons aLR<| .cons aNt<|Zx
def aK3:=sR4.gd Zy Tryz.func163 λ⟨l,b,n⟩ ⟨D,N,_⟩=>⟨(oR4 l b n),J (p:=aru l b n (ot (Zq 0) (zS<|AD (b.extract 6 b.size) (q4 b) 0)::ma (λ(i:Nat)=>ot (Zq i)<|zS<|AD (b.extract 6 b.size) (q4 b) i) [1,2,3]).length (ot (Zq 0) (zS<|AD (b.extract 6 b.size) (q4 b) 0)::ma (λ(i:Nat)=>ot (Zq i)<|zS<|AD (b.extract 6 b.size) (q4 b) i) [1,2,3]) (b.extract 6 b.size)<|X 3)<|by
 unfold aru cd Qf DM Ix fV aF yd F_ F9 w_ F5 P5 bE AK T aZ ot tG wX ak cE bS b5 ca gg bD qf Dq Bq Rq Wq Zq;refine⟨D,λh=>Gh (al2<|nz h)<|nz h,λh=>?_⟩;have e:=pW h;obtain⟨f,_,I,t⟩:=adF e;have F:=te f;refine⟨λy=>?_,λy=>?_⟩
 .have y:n<6:=by simpa using y
  exact Gh (al1 e y) H
 have y:¬n<6:=by simpa using y
 refine⟨λk=>?_,λk=>?_⟩
 .have k:(b.size:Int)<6:=by simpa using k
  exact Gh (SM e y<|.inl Y) H
 .have k:¬(b.size:Int)<6:=by simpa using k
  have w:Q bW ((b.size:Int)-6)=(b.size:Int)-6:=wr Y Y;refine⟨Y,Y,H,⟨0,⟨Y,e,Y,Y⟩,A,A,A,A,A,A,A,by rw[w];rfl⟩,λi ⟨hi,_⟩=>⟨λs=>?_,λm=>?_⟩⟩
  .have s:(i:Int)<3:=by simpa using s
   have q:i<3:=Y;have u:Q bW (2*(i:Int))=2*(i:Int):=wr Y Y;have C:rS b (X<|2*(i:Int))=dU b i:=by
    unfold dU;rw[show X (2*(i:Int))=2*i by omega]
   have U:=xh b i;have V:=xh b 0;have W:=xh b 1;have Z:=xh b 2;rw[u,C,wr (n:=dU b i) Y Y];have x:(tB b i).length=4:=by rcases QK q with rfl|rfl|rfl<;>rfl
   simp only[Ro,x,toNat_cast];refine⟨Y,Y,Y,Y,Y,Y,Y,Y,H,Y,Y,Y,Y,Y,H,i+1,⟨Y,e,Y,Y⟩,by show 3- (i+1)<3-i;omega,A,A,by rw[wr Y Y];push_cast;rfl,A,A,A,A,?_⟩;rcases QK q with rfl|rfl|rfl
   .show [dU b 0,0,0,Q bW<|(b.size:Int)-6-dU b 0]= [dU b 0,0,0,(b.size:Int)-6-dU b 0]
    rw[wr Y Y]
   .show [dU b 0,dU b 1,0,Q bW<|(b.size:Int)-6-dU b 0-dU b 1]= [dU b 0,dU b 1,0,(b.size:Int)-6-dU b 0-dU b 1]
    rw[wr Y Y]
   .show [dU b 0,dU b 1,dU b 2,Q bW<|(b.size:Int)-6-dU b 0-dU b 1-dU b 2]= [dU b 0,dU b 1,dU b 2,(b.size:Int)-6-dU b 0-dU b 1-dU b 2]
    rw[wr Y Y]
  .have m:¬(i:Int)<3:=by simpa using m
   have:i=3:=Y;subst this;have B:tB b 3=q4 b:=rfl;have v:(q4 b).getD (X 3) 0=(q4 b).getD 3 0:=rfl;have R:=UY b;rw[B,v];refine⟨Y,Y,by show 3<4;omega,λz=>?_,λz=>?_⟩
   .have z:(q4 b).getD 3 0<0:=by simpa using z
    exact Gh (SM e y<|.inr z) H
   .have z:¬(q4 b).getD 3 0<0:=by simpa using z
    have g:e4 l b n=0:=al3 e y Y z;have j:Q4 b:=⟨Y,Y⟩;have G:([cg bW (↑((0:Nat)):Int),zS<|AD (Ry b (6:Nat)<|kD b) (q4 b)<|(0:Nat)]::ma (λ(i:Nat)=>[cg bW (↑i:Int),zS<|AD (Ry b (6:Nat)<|kD b) (q4 b) i]) [(1:Nat),(2:Nat),(3:Nat)])=BQ (b.extract 6 b.size) (q4 b):=rfl;have x:(BQ (b.extract 6 b.size)<|q4 b).length=4:=rfl;rw[G,x];refine⟨I,t,rfl,rfl,Y,Y,Y,rfl,rfl,0,aBl _ _ (aK2 j) 2200024,⟨A,rfl⟩,rfl,⟨A,A,A,A,rfl,rfl,A⟩,λi hi r=>?_,λr=>arw g r⟩;have hp:=ad7 (n:=n) Y hi;have P:=Li j hi;have M:=JS b hi;have L:=aqC j hi;have d:=ZU b (i:=min i 3) Y;have E:6<=eH b i:=by rw[show min i 3=i by omega]at d;exact d.1
    have K:=adU F (b:=b) (n:=n) Y t i Y;have S:=adL (l:=l) (b:=p4 b i) hp.1;simp only[toNat_cast];refine⟨aoY hi,rfl,Y,Y,hi,f,Y,hp.1,Y,λa=>arx g hi r<|WW<|nz a,λa=>?_⟩;obtain⟨o,c⟩:=ar1<|pW a;refine⟨by show(rW l b n i).size+(oS<|pK l (p4 b i)<|(jr n).getD i 0).size<=_;omega,?_,A,A,A,A,rfl,by rw[wr Y Y,M,L],A⟩;rw[adM,r];show(ab&&(pK l (p4 b i)<|(jr n).getD i 0).isSome)=ab;rw[c];rfl⟩
def aNl:=sR4.gd Zy Tryz.func138 λ⟨l,b,n⟩ ⟨K,R,_⟩=>⟨(aIz l b n),J (p:=cd l/\bS (jH l n) (aJ=rm l b n) (0=qF l b n/\jH l n=mu l b n) ((vR n).length=4) (gg (vR n) yd/\Bq (uC n !=0) (DM l b n<|uC n=mu l b n) (Dq (ak b<6) (DM l b n<|22=mu l b n)<|(∃(a:Nat),F5 a l n b/\l=l/\b=b/\6=eH b a/\aZ a/\vR n=jr n/\yd=Hs b a)/\(∀(x1:Nat),F5 x1 l n b->Dq (Zq x1<3) (cE (2*Zq x1)/\Wq (2*Zq x1)+2<=ak b/\F9 b/\AK x1 (T x1<(Hs b x1).length) (∃(v:Nat),F5 v l n b/\fj 3 v<fj 3 x1/\l=l/\b=b/\Wq (eH b x1+Wq (rS b<|b5<|2*Zq x1))=eH b v/\bE x1 v/\jr n=jr n/\(Hs b x1).set (T x1) (Wq<|eH b x1+Wq (rS b<|b5<|2*Zq x1))=Hs b v)) (Dq (eH b x1>ak b) (DM l b n<|22=mu l b n)<|Ix (X 3<(Hs b x1).length)<|(∃(c:Nat),WE c l b n/\l=l/\b=b/\aJ=rW l b n c/\6=eH b c/\aZ c/\jr n=jr n/\(Hs b x1).set (X 3) (ak b)=yT b)/\(∀(x4:Nat),WE x4 l b n->Dq (Zq x4<4) (AK x4 (T x4<qf [eH b 2,eH b 3,ak b])<|aF (eH b x4) (eH b x4<=(yT b).getD (T x4) 0)<|(yT b).getD (T x4) 0<=ak b/\AK x4 (T x4<qf [qe n,qe n,n-3*qe n]) (cJ l=0/\bD (b.extract (eH b x4).toNat<|G (yT b)<|T x4)/\aF ((jr n).getD (T x4) 0) ((jr n).getD (T x4) 0<=131072) (bS (qi l (b.extract (eH b x4).toNat<|G (yT b)<|T x4)<|(jr n).getD (T x4) 0) (aJ=rm l b n) (eH b x4=qF l b n/\22=mu l b n) (wX (rW l b n x4)<|qH l (b.extract (eH b x4).toNat<|G (yT b)<|T x4)<|(jr n).getD (T x4) 0)<|AK x4 (T x4<qf [eH b 2,eH b 3,ak b])<|∃(w:Nat),WE w l b n/\fj 4 w<fj 4 x4/\l=l/\b=b/\rW l b n x4++qH l (b.extract (eH b x4).toNat<|G (yT b)<|T x4) ((jr n).getD (T x4) 0)=rW l b n w/\(yT b).getD (T x4) 0=eH b w/\bE x4 w/\jr n=jr n/\yT b=yT b))) (rW l b n x4=rm l b n/\0=qF l b n/\0=mu l b n)))))))<|by
 unfold G cd WE DM Ix aF yd F9 F5 bE AK T aZ wX ak cE bS b5 gg bD qf Dq Bq Rq Wq Zq;refine⟨K,λh=>Gh (al2<|nz h)<|nz h,λh=>?_⟩;have y:=pW h;obtain⟨D,_,N,E⟩:=adF y;have M:=te D;by_cases z:n<6
 .obtain⟨d,f⟩:=aqR N z
  rw[f,d];exact⟨rfl,rfl,λ_=>Gh (al1 y z) H,λh=>by simp at h⟩
 obtain⟨d,f⟩:=aqS (n:=n) Y E;rw[f,d];refine⟨rfl,rfl,λh=>by simp at h,λ_=>⟨λe=>?_,λe=>?_⟩⟩
 .have e:(b.size:Int)<6:=by simpa using e
  exact Gh (SM y z<|.inl Y) H
 .have e:¬(b.size:Int)<6:=by simpa using e
  refine⟨⟨0,⟨Y,y,Y,Y⟩,A,A,rfl,A,A,rfl⟩,λi ⟨hi,_⟩=>⟨λu=>?_,λr=>?_⟩⟩
  .have u:(i:Int)<3:=by simpa using u
   have s:i<3:=Y;have g:Q bW (2*(i:Int))=2*(i:Int):=wr Y Y;have I:rS b (X<|2*(i:Int))=dU b i:=by
    unfold dU;rw[show X (2*(i:Int))=2*i by omega]
   have Z:=xh b i;have q:=ZU b (i:=i) Y;rw[g,I,wr (n:=dU b i) Y Y,wr (n:=eH b i+dU b i) Y Y];have F:eH b i+dU b i=eH b (i+1):=by
    rw[JS b Y];rcases QK s with rfl|rfl|rfl<;>rfl
   rw[F];refine⟨Y,Y,Y,Y,Y,?_,i+1,⟨Y,y,Y,Y⟩,by show 3- (i+1)<3-i;omega,A,A,A,by rw[wr Y Y];push_cast;rfl,A,?_⟩
   .rcases QK s with rfl|rfl|rfl<;>(show _<4;omega)
   .rcases QK s with rfl|rfl|rfl<;>rfl
  .have r:¬(i:Int)<3:=by simpa using r
   have:i=3:=Y;subst this;have V:=UY b;refine⟨λk=>?_,λk=>?_⟩
   .have k:eH b 3>b.size:=by simpa using k
    exact Gh (SM y z<|.inr Y) H
   .have k:¬eH b 3>b.size:=by simpa using k
    have j:e4 l b n=0:=al3 y z Y Y;have m:Q4 b:=⟨Y,Y⟩;refine⟨Y,Y,by show 3<4;omega,⟨0,⟨Y,j,rfl⟩,A,A,rfl,rfl,A,A,rfl⟩,λi ⟨hi,_,t⟩=>⟨λu=>?_,λr=>?_⟩⟩
    .have u:(i:Int)<4:=by simpa using u
     have x:i<4:=Y;simp only[toNat_cast];have hp:=ad7 (n:=n) Y x;have U:=Li m x;have F:=JS b x;have q:=ZU b (i:=min i 3) Y;have L:6<=eH b i:=by rw[show min i 3=i by omega]at q;exact q.1
     have S:=aqC m x;have P:=adU M (b:=b) (n:=n) Y E i hi;have W:=adL (l:=l) (b:=p4 b i) hp.1;rw[aBv b x,aqB m x];refine⟨Y,Y,x,Y,Y,Y,Y,Y,x,D,Y,hp.1,Y,λB=>arx j x t<|WW<|nz B,λB=>?_⟩;obtain⟨o,C⟩:=ar1<|pW B;refine⟨by show(rW l b n i).size+(oS<|pK l (p4 b i)<|(jr n).getD i 0).size<=_;omega,Y,Y,x,i+1,⟨Y,j,?_⟩,by show 4- (i+1)<4-i;omega,A,A,rfl,A,by rw[wr Y Y];push_cast;rfl,A,A⟩;rw[adM,t];show(ab&&(pK l (p4 b i)<|(jr n).getD i 0).isSome)=ab;rw[C];rfl
    .have r:¬(i:Int)<4:=by simpa using r
     have:i=4:=Y;subst this;exact arw j t⟩
def ajO:=m.cons aK3<| .cons aNl<|Zy
section
variable{l:q}{t bf:M}{a b c W:Int}{s:n_}{j:Nat}
def aaP(h:Ad l t bf W≠0):lP l t bf a b c W=Ad l t bf W:=by grind [Ad,lP]
def amm(h:Ad l t bf W=0):Ej l t bf W:=by
 unfold Ad at h;by_cases x:jB l≠0
 .omega
 .rw[V x]at h
  by_cases y:W<0
  .omega
  .rw[V y]at h
   by_cases z:131072<t.size\/1048576<bf.size
   .omega
   .exact⟨mV x,Y,Y,Y⟩
theorem SX(C:Ej l t bf W):lP l t bf a b c W=(cG l t.size bf.size a b c W).e:=by
 have x:=C.w;have y:=C.tz;have z:=C.bz;unfold lP;rw[V (fun h=>h C.q),V Y,V Y]
def aaU(h:lP l t bf a b c W=0):Ej l t bf W/\(cG l t.size bf.size a b c W).e=0:=by have C:=amm<|mV λk=>k (by rw[<-aaP k,h]);grind [SX]
theorem z_(s:M):(dY s).length=s.size:=Se s
def akR:∀s∈dY y,0<=s/\s<256:=λy h=>by unfold dY at h;obtain⟨u,_,rfl⟩:=List.mem_map.1 h;have:=u.toNat_lt;grind
def az1{xs:N}(h:∀y∈xs,0<=y/\y<256):dY (strOfNums xs)=xs:=by unfold dY;rw[DS];rw[MS];refine(CD λx z=>?_).trans<|ajb xs;grind [UInt8.toNat_ofNat']
def aBn(k:Nat):dY (y.extract k y.size)=(dY y).drop k:=by rw[N1,nE];rw[nW,z_];exact gL _
def aBW(k:Nat):dY (y.extract 0 k)=(dY y).take k:=by grind [N1]
def amh(d:Nat):∀(k:Nat) (F:N),∃r,uh d k F=F++r
 |0,F=>⟨[],by unfold uh;rw[zK]⟩
 |k+1,F=>by obtain⟨r,h⟩:=amh d k<|F++ [F.getD (F.length-d) 0];exact⟨F.getD (F.length-d) 0::r,by unfold uh;rw[h,qQ];rfl⟩
def aCV{F:N}(h:∀y∈F,0<=y/\y<256)(i:Nat):0<=F.getD i 0/\F.getD i 0<256:=by
 by_cases hi:i<F.length
 .simp_all
 .grind
def amf(d:Nat):∀(k:Nat) (F:N),(∀y∈F,0<=y/\y<256)->∀y∈uh d k F,0<=y/\y<256
 |0,F,h=>by grind [uh]
 |k+1,F,h=>by unfold uh;refine amf d k _ λy x=>?_;grind
structure RD (l:List (N)) (t bf:M) (a b c W:Int) (s:n_):Prop where
 ok:RQ (ic l s)
 l0:bg (ic l s)<=s.t.size
 nd:ff s.a (dC (ic l s)) (bg (ic l s))=ah
 d:(cG l t.size bf.size a b c W).d.getD s.i 0=ta l s
 d0:1<=ta l s
 d1:ta l s<=s.F.length+bg (ic l s)
 n:(cG l t.size bf.size a b c W).d.length=l.length
 dr:(cG l t.size bf.size a b c W).d.drop s.i=ta l s::(cG l t.size bf.size a b c W).d.drop (s.i+1)
 tk:(cG l t.size bf.size a b c W).d.take (s.i+1)=(cG l t.size bf.size a b c W).d.take s.i++ [ta l s]
 g:ph W bf.size (l.drop (s.i+1)) (s.i+1) (s.t.size-bg (ic l s)) (s.F.length+bg (ic l s)+kN (ic l s)) (gU s.a s.b s.c (dC (ic l s)) (bg (ic l s))) (fb s.a s.b s.c (dC (ic l s)) (bg (ic l s))) (fc s.a s.b s.c (dC (ic l s)) (bg (ic l s))) ((cG l t.size bf.size a b c W).d.take s.i++ [ta l s])=cG l t.size bf.size a b c W
def N0(Q:ExQ l t bf a b c W s)(hi:s.i<l.length):RD l t bf a b c W s:=by
 obtain⟨C,x⟩:=aaU Q.e;have o:=(Mt Q.q).2 _<|Tf hi;have g:=Q.g;rw[NQ hi]at g;unfold ph at g;by_cases w:(s.t.size:Int)<bg (l.getD s.i [])
 .rw[I w]at g;rw[<-g]at x;cases x
 rw[V w]at g;by_cases u:yS W s.a s.b s.c s.F.length (l.getD s.i [])
 .rw[I u]at g;rw[<-g]at x;cases x
 rw[V u]at g;have hB:ff s.a (dC<|ic l s) (bg<|ic l s)=ah:=af'.1<|mV λh=>u<|.inl h;have N:=Xi Q.r ⟨o.o0,o.o1,o.l0⟩ hB;have m:(cG l t.size bf.size a b c W).d.length=l.length:=by
  obtain⟨r,h,k⟩:=aaB (W:=W) (bf:=bf.size) l 0 t.size bf.size a b c [] x;have h:(cG l t.size bf.size a b c W).d= []++r:=h;rw[h,rB,k]
 have z:=x;rw[<-g]at z;obtain⟨r,h,k⟩:=aaB _ _ _ _ _ _ _ _ z;rw[g,qQ]at h;have n:(cG l t.size bf.size a b c W).d.drop s.i=ta l s::r:=List.append_cancel_left<|(Ra s.i _).trans h;have v:s.i<(cG l t.size bf.size a b c W).d.length:=Y;have y:=zJ v;rw[n]at y;injection y with y e2
 have f:(cG l t.size bf.size a b c W).d.getD s.i 0=ta l s:=by rw[jR,kB v,y];rfl
 refine⟨o,by show bg (l.getD s.i [])<=_;omega,hB,f,N.2.1,?_,m,by rw[n,e2],by rw[axC v,y],g⟩;have:¬(s.F.length:Int)+bg (l.getD s.i [])<dT s.a s.b s.c (dC<|l.getD s.i []) (bg<|l.getD s.i []):=λh=>u<|.inr<|.inr h;show dT s.a s.b s.c (dC<|l.getD s.i []) (bg<|l.getD s.i [])<=s.F.length+bg (l.getD s.i []);omega
theorem adl(S:RD l t bf a b c W s):((C5 l s).size:Int)=bg (ic l s):=by grind [S.l0,S.ok.l0,C5,ByteArray.size_extract]
def NZ(S:RD l t bf a b c W s):((gV l s j).length:Int)=s.F.length+bg (ic l s)+j:=by grind [gV,amg,z_,adl]
def aaX(Q:ExQ l t bf a b c W s):∀y∈gV l s j,0<=y/\y<256:=by
 refine amf _ _ _ λy h=>?_;rcases List.mem_append.1 h with h|h
 .exact Q.by' y h
 .exact akR _ y h
def ams(Q:ExQ l t bf a b c W s):(gV l s j).take bf.size=dY bf:=by unfold gV;obtain⟨r,h⟩:=amh (ta l s).toNat j<|s.F++dY (C5 l s);grind [Q.f0,Q.p]
def amn(C:Ej l t bf W)(h:(cG l t.size bf.size a b c W).e=0)(x:fI a b c):ExQ l t bf a b c W ⟨0,t,dY bf,a,b,c⟩:=by
 refine⟨⟨dx _,by rw[SX C,h],x,gL _,?_,?_,?_,rfl,?_⟩,C.q,C.tz,C.bz,akR bf⟩
 .show bf.size<=(dY bf).length
  rw[z_];exact gL _
 .show(dY bf).length<=bf.size+262146*0
  rw[z_];exact gL _
 .show ph W bf.size l 0 t.size ((dY bf).length:Nat) a b c []=_
  rw[z_];rfl
 .exact nE<|by rw[z_];exact gL _
def aaY(Q:ExQ l t bf a b c W s)(hi:s.i<l.length):ExQ l t bf a b c W (SU l s):=by
 have S:=N0 Q hi;have o:=S.ok;have o0:=o.l0;have o1:=o.l1;have k:=o.m0;have u:=o.m1;have l0:=S.l0;have f0:=Q.f0;have f1:=Q.f1;have y:=NZ (j:=pj l s) S;have h:(pj l s:Int)=kN (ic l s):=Rb Y;have z:((tc l s).size:Int)=s.t.size-bg (ic l s):=by
  unfold tc;rw[r8];omega
 have t1:=Q.t1;refine⟨⟨hi,Q.e,(Xi Q.r ⟨o.o0,o.o1,o.l0⟩ S.nd).1,?_,?_,?_,?_,?_,ams Q⟩,Q.q,Q.tz,Q.bz,aaX Q⟩
 .show(tc l s).size<=t.size;omega
 .show bf.size<=(gV l s<|pj l s).length;omega
 .show(gV l s<|pj l s).length<=bf.size+262146*(s.i+1);omega
 .show ph W bf.size (l.drop<|s.i+1) (s.i+1) ((tc l s).size:Nat) ((gV l s<|pj l s).length:Nat) _ _ _ ((cG l t.size bf.size a b c W).d.take<|s.i+1)=_
  rw[S.tk,y,h,z];exact S.g
 .have x:=Q.x
  rw[NQ hi,S.dr]at x;show SS (l.drop<|s.i+1) ((cG l t.size bf.size a b c W).d.drop<|s.i+1) (dY<|tc l s) (gV l s<|pj l s)=_;unfold tc;rw[aBn];rw[<-x];unfold gV C5;rw[aBW];rfl
def alT{z:Int}:∀(l:q) (i:Nat) (lt th a b c:Int) (d:N),(∀x∈l,RQ x)->(ph W z l i lt th a b c d).e=0->th+lt<=z+131072
 | [],i,lt,th,a,b,c,d,_,h=>by grind [ph]
 |x::l,i,lt,th,a,b,c,d,o,h=>by
  unfold ph at h;split at h
  .cases h
  .split at h
   .cases h
   .have:=alT l _ _ _ _ _ _ _ (λy k=>o y<|.tail _ k) h
    have:=(o x<|.head _).m0;omega
def NR(Q:ExQ l t bf a b c W s):s.F.length+s.t.size<=bf.size+131072:=by have:=alT _ _ _ _ _ _ _ _ (λy h=>(Mt Q.q).2 y<|aiE h)<|(dR zX.e Q.g).trans (aaU Q.e).2;omega
def amr(Q:ExQ l t bf a b c W s)(hi:s.i<l.length)(h:j<=pj l s):(gV l s j).length<=bf.size+131072:=by have:=NR<|aaY Q hi;have x:(SU l s).F.length=(gV l s<|pj l s).length:=rfl;have y:=NZ (j:=j)<|N0 Q hi;have z:=NZ (j:=pj l s)<|N0 Q hi;omega
def amq(S:RD l t bf a b c W s):gV l s (j+1)=gV l s j++ [(gV l s j).getD ((gV l s j).length- (ta l s).toNat) 0]:=ami _ _ _
def aka:sc y v=(dY y).getD v.toNat 0:=by unfold sc dY;rw[jR,jR,pS];cases y.data.toList[v.toNat]? <;>rfl
def aBo{F:N}{d:Int}(hp:F.take bf.size=dY bf)(h:∀y∈F,0<=y/\y<256)(k:bf.size<=F.length)(z:1<=d)(e:d<=F.length):(if d<=((F.drop bf.size).length:Nat)then sc (strOfNums<|F.drop bf.size) (((F.drop bf.size).length:Nat)-d)else sc bf<|(bf.size:Nat)+((F.drop bf.size).length:Nat)-d)=F.getD (F.length-d.toNat) 0:=by rw[aka,aka,az1 λy x=>h y<|aiE x,<-hp];grind
def amp(Q:ExQ l t bf a b c W s)(hi:¬s.i<l.length):strOfNums (s.F.drop bf.size++dY s.t)=rL l t bf a b c W:=by have x:=Q.x;rw[List.drop_of_length_le Y]at x;have x:s.F++dY s.t=exF l t bf a b c W:=x;unfold rL;rw[I Q.e,<-x,YS Q.f0]
def amc(h:lP l t bf a b c W=0): [qt l t bf a b c W,pX l t bf a b c W,pY l t bf a b c W]= [(cG l t.size bf.size a b c W).a,(cG l t.size bf.size a b c W).b,(cG l t.size bf.size a b c W).c]:=by grind [qt,pX,pY]
def aaO(h:lP l t bf a b c W≠0): [qt l t bf a b c W,pX l t bf a b c W,pY l t bf a b c W]= [0,0,0]/\rL l t bf a b c W=aJ:=by grind [qt,pX,pY,rL]
end
section
variable{l:q}{t bf:M}{a b c W:Int}
def aBT(y:fI a b c)(H:l.length<=1000000):aaZ l t bf a b c W:=by
 have x:True:=trivial;unfold aaZ amu cd WC afl yf fV P' aF ae6 F9 w_ LP mr iy eO bE V' aw o8 o ft VZ fq dk aV T wY cl aZ lZ fC Il ay fP ck ak sB d B5 tC kX ja aL bM gg gY Rq Wq Zq Jq;refine⟨Y,de (λh=>⟨rfl,y,(),x,rfl,rfl,rfl,rfl,h.symm,rfl,rfl⟩) λh=>⟨(),x,rfl,rfl,rfl,rfl,rfl,rfl,rfl⟩,λ_ _=>⟨?_,λ_ _=>⟨bV (λh=>?_) λh=>⟨(),amm h,rfl,rfl,rfl,rfl,h,rfl,rfl⟩,λ_ C=>⟨rfl,cq (λr=>?_) λr=>?_⟩⟩⟩⟩
 .unfold Ad
  refine bV (λh=>⟨(),x,rfl,rfl,rfl,rfl,(I h).symm,rfl,rfl⟩) λh=>?_;have f:¬jB l≠0:=λk=>k h;rw[V f];refine dq (λw=>⟨(),x,rfl,rfl,rfl,rfl,(I w).symm,rfl,rfl⟩) λw=>?_;rw[V w];refine dq (λw=>⟨(),x,rfl,rfl,rfl,rfl,(I Y).symm,rfl,rfl⟩) λw=>dq (λw=>⟨(),x,rfl,rfl,rfl,rfl,(I Y).symm,rfl,rfl⟩) λw=>⟨(),x,rfl,rfl,rfl,rfl,?_,rfl,rfl⟩;rw[V Y,h]
 .have E:=aaP (a:=a) (b:=b) (c:=c) h
  have N:=aaO (a:=a) (b:=b) (c:=c) (by rw[E];exact h);exact⟨rfl,rfl,rfl,rfl,N.2.symm,N.1.symm,E.symm⟩
 .refine⟨C.q,y,⟨Y,by have:=C.tz;omega⟩,⟨Y,by have:=C.bz;omega⟩,rfl,rfl,⟨_,amn C r y,rfl,rfl,rfl,rfl,rfl,rfl,rfl,rfl,?_⟩,λs Q=>dq (λhi=>?_) λhi=>?_⟩
  .show((dY bf).drop bf.size).length=0
   rw[nW,z_];omega
  .have hi:s.i<l.length:=Y
   have S:=N0 Q hi;have bd:=NR Q;have tz:=Q.tz;have bz:=Q.bz;have t1:=Q.t1;have f0:=Q.f0;have f1:=Q.f1;have i1:=Q.i1;have l0:=S.l0;have u:=S.ok.l0;have P:=S.ok.l1;have R:=S.ok.m0;have U:=S.ok.m1;have v:eU (eU l (X (s.i:Nat)) []) 0 0=bg (ic l s):=rfl;have g:(cG l t.size bf.size a b c W).d.getD (X (s.i:Nat)) 0=ta l s:=S.d;have p:eU (eU l (X (s.i:Nat)) []) 1 0=kN (ic l s):=rfl;have z:(s.F.drop bf.size).length<=4294967296:=by rw[nW];omega
   have lt:=adl S;rw[v];refine⟨Y,Y,Y,u,l0,z,?_,u,l0,jj _,s,⟨0,⟨Q,hi,dx _⟩,rfl,rfl,rfl,rfl,rfl,rfl,rfl,rfl,rfl,rfl,rfl,rfl,rfl,rfl,?_⟩,λj K=>?_⟩
   .show(C5 l s).size<=_
    omega
   .show s.F.drop bf.size++dY (C5 l s)=(s.F++dY (C5 l s)).drop bf.size
    rw[YS f0]
   .have L:=NZ (j:=j) S;have J:=amr Q hi K.j1
    have D:(pj l s:Int)=kN (ic l s):=Rb Y;have j1:=K.j1;have d0:=S.d0;have d1:=S.d1;have B:((gV l s j).drop bf.size).length=(gV l s j).length-bf.size:=nW;refine dq (fun m=>?_) fun m=>⟨SU l s,aaY Q hi,?_,rfl,rfl,rfl,rfl,wr Y Y,rfl,rfl,rfl,?_⟩
    ·have A:=aBo (ams (j:=j) Q) (aaX Q) Y d0 Y
     have G:=aCV (aaX (j:=j) Q) ((gV l s j).length- (ta l s).toNat);rw[g,A];refine⟨Y,by rw[S.n];omega,Y,Y,d0,Y,Y,G.1,G.2,j+1,⟨Q,hi,Y⟩,?_,rfl,rfl,rfl,rfl,rfl,rfl,rfl,wr Y Y,rfl,rfl,rfl,rfl,rfl,rfl,?_⟩
     ·show pj l s- (j+1)<pj l s-j
      omega
     ·rw[amq S,YS Y]
    ·show l.length- (s.i+1)<l.length-s.i
     omega
    ·have:j=pj l s:=Y
     rw[this];rfl
  ·have hi:¬s.i<l.length:=Y
   have bd:=NR Q;have tz:=Q.tz;have bz:=Q.bz;have t1:=Q.t1;have f0:=Q.f0;have f1:=Q.f1;have i1:=Q.i1;have z:(s.F.drop bf.size).length<=4294967296:=by rw[nW];omega
   refine⟨z,Y,?_,rfl,rfl,rfl,rfl,amp Q hi,(amc Q.e).symm,Q.e.symm⟩;show(s.F.drop bf.size++dY s.t).length<=_;rw[gn,nW,z_];omega
 ·have E:=SX (a:=a) (b:=b) (c:=c) C
  have N:=aaO (a:=a) (b:=b) (c:=c) (by rw[E];exact r);exact⟨C.q,y,⟨Y,by have:=C.tz;omega⟩,⟨Y,by have:=C.bz;omega⟩,rfl,rfl,rfl,rfl,rfl,rfl,N.2.symm,N.1.symm,E.symm⟩
def aMp(r:fI a b c)(F:l.length<=1000000):af0 l t bf a b c W:=by
 have u:True:=trivial;unfold af0 asy o mr WC afl P' fQ aF ae6 w_ bE Cc V' aw ft VZ fq dk FJ T wY cl aZ fC Il ay fP ak sB bS d b5 B5 tC kX ja aL bM gg gY Rq Wq Zq Jq;have bad:∀v:Int,v≠0->lP l t bf a b c W=v->aJ=rL l t bf a b c W/\[0,0,0]= [qt l t bf a b c W,pX l t bf a b c W,pY l t bf a b c W]/\v=lP l t bf a b c W:=λv h E=>by
  have N:=aaO (a:=a) (b:=b) (c:=c) (by rw[E];exact h);exact⟨N.2.symm,N.1.symm,E.symm⟩
 refine⟨Y,de (λh=>⟨rfl,r,(),u,rfl,rfl,rfl,rfl,h.symm,rfl,rfl⟩) λh=>⟨(),u,rfl,rfl,rfl,rfl,rfl,rfl,rfl⟩,λ_ _=>?_⟩;have x:=@aaP l t bf a b c W;unfold Ad at x;refine bV (λh=>⟨rfl,rfl,bad _ h ?_⟩) λh=>?_
 .rw[I h]at x;exact x h
 have p:¬jB l≠0:=λk=>k h;rw[V p]at x;refine dq (λw=>⟨rfl,rfl,bad _ H ?_⟩) λw=>?_
 .rw[I w]at x;exact x H
 rw[V w]at x;refine dq (λw=>⟨rfl,rfl,bad _ H ?_⟩) λU=>dq (λw=>⟨rfl,rfl,bad _ H ?_⟩) λZ=>?_
 .rw[I Y]at x;exact x H
 .rw[I Y]at x;exact x H
 have C:Ej l t bf W:=⟨h,Y,Y,Y⟩;refine⟨rfl,C.q,r,⟨Y,by have:=C.tz;omega⟩,⟨Y,by have:=C.bz;omega⟩,rfl,rfl,bV (λz=>⟨rfl,rfl,bad _ z<|SX C⟩) λz=>⟨Y,⟨_,amn C z r,rfl,rfl,rfl,rfl,rfl,rfl,rfl,rfl⟩,λs Q=>dq (λhi=>?_) λhi=>?_⟩⟩
 .have hi:s.i<l.length:=Y
  have S:=N0 Q hi;have bd:=NR Q;have tz:=Q.tz;have bz:=Q.bz;have t1:=Q.t1;have f0:=Q.f0;have f1:=Q.f1;have i1:=Q.i1;have l0:=S.l0;have f:=S.ok.l0;have L:=S.ok.l1;have P:=S.ok.m0;have R:=S.ok.m1;have g:eU (eU l (X (s.i:Nat)) []) 0 0=bg (ic l s):=rfl;have A:(cG l t.size bf.size a b c W).d.getD (X (s.i:Nat)) 0=ta l s:=S.d;have m:eU (eU l (X (s.i:Nat)) []) 1 0=kN (ic l s):=rfl;have lt:=adl S;have y:ma (λ(b:UInt8)=>((M4 b:Nat):Int)) (Ry s.t 0 (bg<|ic l s).toNat).data.toList=dY (C5 l s):=rfl;rw[g,y];refine⟨Y,Y,Y,f,l0,?_,Y,Y,f,l0,jj _,s,⟨0,⟨Q,hi,dx _⟩,rfl,rfl,rfl,rfl,rfl,rfl,rfl,rfl,rfl⟩,λj K=>?_⟩
  .rw[z_];omega
  .have J:=NZ (j:=j) S;have G:=amr Q hi K.j1
   have D:(pj l s:Int)=kN (ic l s):=Rb Y;have j1:=K.j1;have d0:=S.d0;have d1:=S.d1;rw[A,m];refine⟨Y,Y,dq (λB=>?_) λB=>⟨SU l s,aaY Q hi,?_,rfl,rfl,rfl,rfl,wr Y Y,rfl,rfl,?_⟩⟩
   .rw[wr (n:=((gV l s j).length:Int)-ta l s) Y Y]
    refine⟨Y,by rw[S.n];omega,Y,Y,Y,Y,j+1,⟨Q,hi,Y⟩,?_,rfl,rfl,rfl,rfl,rfl,wr Y Y,rfl,rfl,?_⟩
    .show pj l s- (j+1)<pj l s-j
     omega
    .rw[amq S,show(((gV l s j).length:Int)-ta l s).toNat=(gV l s j).length- (ta l s).toNat by omega]
   .show l.length- (s.i+1)<l.length-s.i
    omega
   .have:j=pj l s:=Y
    rw[this];rfl
 .have hi:¬s.i<l.length:=Y
  have bd:=NR Q;have tz:=Q.tz;have bz:=Q.bz;have t1:=Q.t1;have f0:=Q.f0;have f1:=Q.f1;have i1:=Q.i1;have y:ma (λ(b:UInt8)=>((M4 b:Nat):Int)) s.t.data.toList=dY s.t:=rfl;have E:=amp Q hi;rw[y];refine⟨?_,Y,?_,jj _,rfl,rfl,rfl,rfl,?_,(amc Q.e).symm,Q.e.symm⟩
  .rw[z_];omega
  .rw[gn,z_];omega
  .rw[toNat_cast,toNat_cast,<-E,YS f0,nE]
   rw[gn,gn,nW];omega
end
def Zl:=m.cons aJw<| .cons aJu<| .cons aJy<| .cons aJs<|ayw
def aBR:=sEx.gd Zl Tryz.func81 λ⟨l,t,bf,a,b,c,W⟩ ⟨h,x,_⟩=>⟨(oEx l t bf a b c W),J (p:=aaZ l t bf a b c W)<|aBT h x⟩
def aMo:=sEx.gd Zl Tryz.func92 λ⟨l,t,bf,a,b,c,W⟩ ⟨h,x,_⟩=>⟨(oEr l t bf a b c W),J (p:=af0 l t bf a b c W)<|aMp h x⟩
def ayy:=Zl
def fmR:N:=[1,3,5,0,0,2,4,12,0,0,1,3,5,0,0,3,4,20,0,0]
def fmC:N:=[3,4,10,10,1,3,4,10,10,4,4,4,14,14,4,5,4,18,18,4]
def cQ(j:Nat):Int:=(if v<=1 then fmR else fmC).getD j 0
def fmA:bL:=(fM 20).map λj=>.v<|.int .i64<|cQ v j
def yi(z:Int):Int:=if v+z<=y.size then bh y v z else 0
def Cn(z:Int):Int:=if v+z<=y.size then v+z else 0
def Cm(z:Int):Int:=if v+z<=y.size then 0 else 5
def IE(z:Int):Int:=if v+z<=y.size then 0 else y.size
def aU(j:Nat):Int:=cQ (u y v%4)<|(u y v/4%4).toNat*5+j
def frR:q:=[[0,1,3,8,8,0],[1,2,4,16,16,0],[3,3,4,24,24,0]]
def frC:q:=[[0,3,4,14,24,1],[1,3,4,14,24,4],[2,4,4,18,32,4],[3,5,4,22,40,4]]
def qY:q:=if v<=1 then frR else frC
def vz(n:Int):Nat:=if v<=1 then(if n=1 then 1 else if n=3 then 2 else 0)else n.toNat
def ir:Int×Int:=if v<0\/(y.size:Int)<v then(2,0)else if v=y.size\/(y.size:Int)<v+aU y v 0 then(20,v)else(0,0)
def lhU:Int:=bh y v<|aU y v 0
def fO:Int:=if(ir y v).1=0 then u y v%4 else 0
def iM:Int:=if(ir y v).1=0 then aU y v 4 else 0
def dz:Int:=if(ir y v).1=0 then lhU y v/2^(aU y v 1).toNat%2^(aU y v 2).toNat else 0
def py:Int:=if(ir y v).1=0 then lhU y v/2^(aU y v 1+aU y v 2).toNat%2^(aU y v 3).toNat else 0
def cx:Int:=if(ir y v).1=0 then v+aU y v 0 else 0
def CY(l:N)(b:M)(n k:Int):Int:=if k=1 then rE l b n else mu l b n
def yM(l:N)(b:M)(n k:Int):M:=if k=1 then rO l b n else rm l b n
def J3(l:N)(b:M)(n k:Int):Int:=if k=1 then 0 else qF l b n
def qX(l:N)(b:M)(n k:Int):Int×Int:=if CY l b n k=0 then(0,0)else(22,v+J3 l b n k)
def qu:Int:=if u y v%4<=1/\u y v/4%4=2 then 0 else u y v/4%4
def frI(i:Nat):Prop:=i<=vz (u y v%4) (qu y v)/\0<=v/\v<y.size
def gX:Int:=if fO y v=0 then dz y v else if fO y v=1 then 1 else py y v
def dL:Int:=cx y v+gX y v
def oU:M:=y.extract 0 (dL y v).toNat
def kr(l:N):N:=if fO y v=2 then trZ (oU y v) (cx y v)else l
def jZ:Int:=if fO y v=2 then trN (oU y v) (cx y v)else cx y v
def zh:M:=y.extract (jZ y v).toNat (dL y v).toNat
def pB:Int×Int:=if fO y v=2 then(if(trE (oU y v)<|cx y v).1=5 then(21,v)else trE (oU y v)<|cx y v)else(0,0)
def gr(l:N)(m:Int):Int×Int:=
 if(ir y v).1≠0 then ir y v else if m<0\/131072<m then(2,0)else if 0<l.length/\jz l≠0 then(jz l,0)
 else if m<dz y v\/(y.size:Int)<dL y v then(20,v)else if fO y v<=1 then(0,0)else if fO y v=3/\l.length=0 then(26,v)
 else if iM y v=4/\dz y v<6 then(20,v)else if(pB y v).1≠0 then pB y v
 else if CY (kr y v l) (zh y v) (dz y v) (iM y v)≠0 then(22,jZ y v+J3 (kr y v l) (zh y v) (dz y v) (iM y v))else(0,0)
def IH:M:=strOfNums<|au v.toNat<|u y 0
def lY(l:N)(m:Int):M:=if(gr y v l m).1=0 then(if fO y v=0 then y.extract (cx y v).toNat (dL y v).toNat else if fO y v=1 then strOfNums (au (dz y v).toNat<|u y<|cx y v)else yM (kr y v l) (zh y v) (dz y v)<|iM y v)else aJ
def oT(l:N)(m:Int):N:=if(gr y v l m).1=0 then(if fO y v<=1 then l else kr y v l)else []
def ku(l:N)(m:Int):Int:=if(gr y v l m).1=0 then dL y v else 0
def aPb:Spec:=Sp (M×Int×Int) [.g [.s,.i,.z 0,.z 0],.i] λ(s,a,n)=>([E<|0<=a,E<|a<=s.size,E<|s.size<=600],aE<|.tu [.ag [aD<|cond (dI s a 0 n==0) (s.extract 0 (a+n).toNat) s,B a,B<|dI s a 0 n,B<|gf s a 0 0 n],.ag [aD s,B<|ee s a 0 n,B<|dI s a 0 n,B<|gf s a 0 0 n]])
def aO':Spec:=Sp Int [.i] λk=>([E<|0<=k],aE<|.ag<|fmA k)
def aPd:Spec:=Sp Int [.i] λk=>([E<|0<=k],aE<|.bZ<|.cH 6<|qY k)
def aPe:Spec:=Sp (Int×Int) [.u,.i] λ(n,k)=>([E<|0<=n,E<|n<18446744073709551616,E<|0<=k,E<|k<=32],aE<|.tu [dy<|n%2^k.toNat,B 0])
def aPy:Spec:=Sp (M×Int×Int) [.s,.i,.i] λ(s,a,z)=>([E<|1<=z,E<|z<=8,E<|0<=a,E<|a<=s.size,E<|s.size<=1000000],aE<|.tu [dy<|yi s a z,B<|Cn s a z,.ag [B<|Cm s a z,B<|IE s a z]])
def aug:Spec:=Sp (M×Int) [.s,.i] λ(s,a)=>([E<|s.size<=600],aE<|.tu [B<|fO s a,B<|iM s a,B<|dz s a,B<|py s a,B<|cx s a,.ag [.v<|.int .i64 (ir s a).1,.v<|.int .i64 (ir s a).2]])
def agF:Spec where
 ι:=M×Int×Int×Int×Int×Int
 dec l H:=match l with
  | [.p l0 0 0,.v<|.int .i64 x]=>match H l0 with
    |some (.cells 162 [.v<|.string s,.v<|.int .i64 a,.v<|.int .i64 e,.v<|.int .i64 f,.v<|.int .i64 g])=>O ((s,a,e,f,g,x),[l0])
    |_=>ae
  |_=>ae
 args:=λ(s,a,e,f,g,x)=>[U 0,B x]
 hp:=λ(s,a,e,f,g,x)=>[(0,.cells 162 [aD s,B a,B e,B f,B g])]
 out:=λ(s,a,e,f,g,x)=>.leaf (.ag [B x,B g]) [(0,.cells 162 [aD s,B a,B e,B f,B g])]
def aO9:agF.dn:=by
 intro l H n i x h;simp only[agF]at h
 repeat' split at h
 all_goals first|(cases h;done)|(cases h;exact⟨rfl,rfl⟩)|(cases h;refine⟨rfl,?_⟩;simp only[dK,iF,iN,gN, *];rfl)
def agG:Spec where
 ι:=N×M×Int×Int×M×Int×Int×Int×Int
 dec l H:=match l with
  | [.p l0 0 0,.bZ<|.ints .i64 l,.v<|.string b,.v<|.int .i64 n,.v<|.int .i64 k]=>match H l0 with
    |some (.cells 162 [.v<|.string s,.v<|.int .i64 a,.v<|.int .i64 e,.v<|.int .i64 f,.v<|.int .i64 g])=>O ((l,b,n,k,s,a,e,f,g),[l0])
    |_=>ae
  |_=>ae
 args:=λ(l,b,n,k,s,a,e,f,g)=>[U 0,dm l,aD b,B n,B k]
 hp:=λ(l,b,n,k,s,a,e,f,g)=>[(0,.cells 162 [aD s,B a,B e,B f,B g])]
 pre:=λ(l,b,n,k,s,a,e,f,g)=>[E<|l.length<=4294967296,E<|b.size<=1000000,E<|0<=a,E<|a<=1000000]
 out:=λ(l,b,n,k,s,a,e,f,g)=>.leaf (.tu [aD<|yM l b n k,.ag [.v<|.int .i64 (qX a l b n k).1,.v<|.int .i64 (qX a l b n k).2]]) [(0,.cells 162 [aD s,B a,B e,B f,B g])]
def aO_:agG.dn:=by
 intro l H n i x h;simp only[agG]at h
 repeat' split at h
 all_goals first|(cases h;done)|(cases h;exact⟨rfl,rfl⟩)|(cases h;refine⟨rfl,?_⟩;simp only[dK,iF,iN,gN, *];rfl)
def aId(z:Int):bO:=dX [(0,.one<|bi Nat λi=>((i:Int)<=z/\v+z<=y.size,[(0,aD y),(1,B v),(2,B z),(9,dy<|bh y (v+(z- (i:Nat))) i),(8,U 1001),(10,B<|z-1- (i:Nat))],[(1001,.cells 25 [B 0,B 0])],z.toNat-i))]
def aHO(k:Int):bO:=dX [(0,.one<|bi Nat λi=>(i<=k.toNat,[(0,dy<|v/2^i),(1,B k),(6,dy<|v%2^i),(7,dy<|2^i),(8,cP i)],[],k.toNat-i))]
def aHL:bO:=dX [(1009,.one<|bi Unit λ_=>(0<=v/\v<y.size,[(0,aD y),(1,B v),(9,U 1000),(10,U 1001),(11,B<|u y v%4),(12,B<|qu y v)],[(1000,.cells 25 [B 0,B 0]),(1001,.cells 25 [B 20,B v])],0)),(0,.one {ι:=Nat,p:=frI y v,tm:=λi=>[(0,aD y),(1,B v),(9,U 1000),(10,U 1001),(11,B<|u y v%4),(12,B<|qu y v),(13,.bZ<|.cH 6<|qY<|u y v%4),(14,cP i)],hp:=λi=>[(1000,.cells 25 [B 0,B 0]),(1001,.cells 25 [B 20,B v])],μ:=λi=>8-i})]
def aH1:bO:=dX [(1006,.one<|bi Unit λ_=>(0<=v/\v<=y.size,[(0,aD y),(1,B v),(9,U 1000),(10,U 1001),(12,B<|u y v%4),(13,U 1002)],[(1000,.cells 25 [B 0,B 0]),(1001,.cells 70 [aD y,B<|ee y v 0 1,B<|dI y v 0 1,B<|gf y v 0 0 1]),(1002,.cells 218 [B<|aU y v 0,B<|aU y v 1,B<|aU y v 2,B<|aU y v 3,B<|aU y v 4])],0))]
def aGi(n:Int)(x:Int)(a:Prop)(h:Int)(z:M):Prop:=
 fu y v 0 0=ab/\
 fu y v 0 0=ab/\
 y.size<=9223372036854775807/\
 Bq (x !=0) (y=z/\h=v/\Jq x/\Jq (gf y v 0 (0:Int) n)/\a)
 ((0:Int)<=0/\
 0<=h/\h<=Zq (y.size)/\y.extract (X 0) (X h)=z/\v=v/\0=x/\0=gf y v 0 (0:Int) n/\a)
def aGh(n:Int):Prop:=
 aGi y v n (dI y v 0 n) (y=y/\Jq (ee y v 0 n)/\Jq (dI y v 0 n)/\Jq (gf y v 0 (0:Int) n)) (ee y v 0 n)
<|bif dI y v 0 n==0 then y.extract 0 (X<|v+n)else y
def aGe(h:Prop):Prop:=
 Bq (v==0) h
<|Bq (v==1) h
<|3=cQ v ((0:Nat))/\
 4=cQ v ((1:Nat))/\
 10=cQ v ((2:Nat))/\
 10=cQ v ((3:Nat))/\
 1=cQ v ((4:Nat))/\
 3=cQ v ((5:Nat))/\
 4=cQ v ((6:Nat))/\
 10=cQ v ((7:Nat))/\
 10=cQ v ((8:Nat))/\
 4=cQ v ((9:Nat))/\
 4=cQ v ((10:Nat))/\
 4=cQ v ((11:Nat))/\
 14=cQ v ((12:Nat))/\
 14=cQ v ((13:Nat))/\
 4=cQ v ((14:Nat))/\
 5=cQ v ((15:Nat))/\4=cQ v ((16:Nat))/\18=cQ v ((17:Nat))/\18=cQ v ((18:Nat))/\4=cQ v ((19:Nat))
def aGd:Prop:=
 aGe v
<|1=cQ v ((0:Nat))/\
 3=cQ v ((1:Nat))/\
 5=cQ v ((2:Nat))/\
 0=cQ v ((3:Nat))/\
 0=cQ v ((4:Nat))/\
 2=cQ v ((5:Nat))/\
 4=cQ v ((6:Nat))/\
 12=cQ v ((7:Nat))/\
 0=cQ v ((8:Nat))/\
 0=cQ v ((9:Nat))/\
 1=cQ v ((10:Nat))/\
 3=cQ v ((11:Nat))/\
 5=cQ v ((12:Nat))/\
 0=cQ v ((13:Nat))/\
 0=cQ v ((14:Nat))/\
 3=cQ v ((15:Nat))/\4=cQ v ((16:Nat))/\20=cQ v ((17:Nat))/\0=cQ v ((18:Nat))/\0=cQ v ((19:Nat))
def aMQ(h:Prop):Prop:=
 Bq (v==0) h
<|Bq (v==1) h
<|ma
 (λ(i:Nat)=>
 aC ((6:Nat))
<|iI (i*6)
 [(0:Int),3,4,14,24,1,1,3,4,14,24,4,2,4,4,18,
 32,4,3,5,4,22,40,4])
 (fM 4)=
 qY v
def aMP:Prop:=
 aMQ v
<|ma
 (λ(i:Nat)=>
 aC ((6:Nat))
<|iI (i*6)
 [(0:Int),1,3,8,8,0,1,2,4,16,16,0,3,3,4,24,
 24,0])
 (fM 3)=
 qY v
def DJ(h0:Int×Int)(h1:Prop):Prop:=0=h0.1/\0=h0.2/\h1
def apo(l:N)(b:M)(n k a:Int)(D P:Prop):Prop:=Bq (k==1) (cd l/\bD b/\bS (rE l b n) (aJ=yM l b n k) (22=(qX a l b n k).1/\a=(qX a l b n k).2/\P) (rO l b n=yM l b n k) D)<|cd l/\bD b/\bS (mu l b n) (aJ=yM l b n k) (22=(qX a l b n k).1/\Wq (a+qF l b n)=(qX a l b n k).2/\P) (rm l b n=yM l b n k) D
def apC(k:Int)(y:Prop):Prop:=
 Dq (k<0) y
<|Dq (k>64) y
<|(∃(x:Nat),Nat.le x (k.toNat)/\v=v/2^x/\k=k/\0=v%2^x/\(1:Int)=2^x/\0=Zq x)/\
 ∀(x1:Nat),
 Nat.le x1 (k.toNat)->
 Dq (Zq x1<k)
 ((2:Int)≠0/\
 (2:Int)≠0/\
 ∃(h:Nat),
 Nat.le h (k.toNat)/\
 fj (k.toNat) h<fj (k.toNat) x1/\
 Uq (fi (v/2^x1) 2)=v/2^h/\
 k=k/\
 Uq (v%2^x1+Uq (kf (v/2^x1) (2:Int)*2^x1))=v%2^h/\
 Uq ((2:Int)^x1*2)=2^h/\Wq (Zq x1+1)=Zq h)
 (v%2^x1=v%2^k.toNat/\(0:Int)=0)
def ati(z:Int)(D:Prop):Prop:=Lz z (yi y v z) (0=Cn y v z) (2=Cm y v z/\0=IE y v z) (0=yi y v z) D v (ak y) (0=yi y v z/\D)<|Dq (Wq (ak y-v)<z) (0=yi y v z/\0=Cn y v z/\5=Cm y v z/\ak y=IE y v z)<|(∃(x:Nat),(Zq x<=z/\v+z<=ak y)/\fV y v (z=z) (0=bh y (v+(z-Zq x)) (Zq x)/\bF z=z-1-Zq x/\dE))/\(∀(x1:Nat),Zq x1<=z/\v+z<=ak y->Dq (z-1-Zq x1>=0) (Rq (Wq<|v+(z-1-Zq x1)) (ak y)<|∃(h:Nat),(Zq h<=z/\v+z<=ak y)/\qh z h x1/\fV y v (z=z) (Uq (Uq (bh y (v+(z-Zq x1)) (Zq x1)*256)+Uq (Zq<|Yq y<|b5<|v+(z-1-Zq x1)))=bh y (v+(z-Zq h)) (Zq h)/\bF (z-1-Zq x1)=z-1-Zq h/\dE)) (bh y (v+(z-Zq x1)) (Zq x1)=yi y v z/\Wq (v+z)=Cn y v z/\0=Cm y v z/\0=IE y v z))
def afx(h0:Int)(h1:IntKind):Int:=1*2^aB h0.toNat h1.bits
def F8(h0:M)(h1:Int)(h:Prop):Prop:=0=iM h0 h1/\0=dz h0 h1/\0=py h0 h1/\0=cx h0 h1/\h
def Ci(h0:Int×Int)(h1:Int):Prop:=20=h0.1/\h1=h0.2
def apq(D:N)(P:Nat)(i p j h x:Int):Prop:=nS v (0=fO y v) (F8 y v<|ig<|ir y v) (ak y) (0=fO y v/\F8 y v (ig<|ir y v))<|DH y v/\fQ y/\aF j ((0:Int)<=2) (Rq i (Zq 4)<|aL<|(0<=v/\v<=ak y)/\fV y v (j=u y v%4) (ca<|y=y/\ee y (d_ y v) (dS y v) 1=ee y v 0 1/\dI y (d_ y v) (dS y v) 1=dI y v 0 1/\gf y (d_ y v) (dS y v) 0 1=gf y v 0 0 1/\D.getD (P+0) 0=h/\D.getD (P+1) 0=aU y v 1/\D.getD (P+2) 0=x/\D.getD (P+3) 0=aU y v 3/\D.getD (P+4) 0=aU y v 4))/\eO (0<=v/\v<=ak y->DH y v/\fQ y/\1<=h/\h<=8/\bS (dI y (d_ y v) (dS y v) h) (0=fO y v) (F8 y v<|Ci (ir y v) v) (0<=aU y v 1) (aF x (0<=x)<|aF (aU y v 3) (u y v%4=fO y v)<|aU y v 4=iM y v/\Wq (bits .and .u64 p (Uq<|Uq (afx x .u64)-1))=dz y v/\Wq (bits .and .u64 (p.fdiv<|o9 x .u64) (Uq<|Uq (afx (aU y v 3) .u64)-1))=py y v/\ee y (d_ y v) (dS y v) h=cx y v/\dO (ir y v)))
def aeN(h0:M)(h1:Int)(h:Nat)(x:Prop):Prop:=u h0 h1%4=fO h0 h1/\((qY<|u h0 h1%4).getD (T h) []).getD 5 (0:Int)=iM h0 h1/\Wq ((yi h0 h1<|d (qY<|u h0 h1%4)<|T h).fdiv (pI (aV (qY<|u h0 h1%4)<|T h) .u64)%2^b5 (((qY<|u h0 h1%4).getD (T h) []).getD 3 (0:Int)-aV (qY<|u h0 h1%4) (T h)))=dz h0 h1/\x
def Wx(h0:Nat)(h1:M)(h:Int):Prop:=h0<=vz (u h1 h%4) (qu h1 h)/\0<=h/\h<ak h1
def asQ(D P:Prop)(i:Int)(p j:Prop)(h:q)(a:Prop):Prop:=nS v a (F8 y v<|ig<|ir y v) (ak y) (a/\F8 y v (ig<|ir y v))<|Bq (v==ak y) (a/\j)<|Rq v (ak y)<|(4:Int)≠0/\Rq v (ak y) ((4:Int)≠0/\(4:Int)≠0/\Dq (Wq ((Zq<|Yq y v.toNat).tmod 4)<2) (Bq (i==2) (aL<|(0<=v/\v<ak y)/\fV y v P (0=qu y v/\p)) D) D/\eO (0<=v/\v<ak y->aF (u y v%4) (∃(x4:Nat),Wx x4 y v/\fV y v (Jq<|u y v%4) (aw (qu y v) (Jq h)<|aZ x4/\p)) (∀(x:Nat),Wx x y v->kX (Zq x) (dk h) (Bq (bM h (T x) !=qu y v) (∃(z:Nat),Wx z y v/\fj 8 z<fj 8 x/\fV y v (Jq<|u y v%4) (aw (qu y v) (Jq h)<|bE x z/\p))<|1<=d h (T x)/\d h (T x)<=8/\aF v (v<=ak y) (bD y/\bS (Cm y v<|d h<|T x) a j (fU<|aV h<|T x) (Rq ((yi y v<|d h<|T x).fdiv<|pI (aV h<|T x) .u64) 18446744073709551616<|cE ((h.getD (T x) []).getD 3 (0:Int)-aV h (T x))/\Wq ((h.getD (T x) []).getD 3 (0:Int)-aV h (T x))<=32/\Dq ((h.getD (T x) []).getD 4 (0:Int)>(h.getD (T x) []).getD 3 (0:Int)) (fU ((h.getD (T x) []).getD 3 (0:Int))/\Rq ((yi y v<|d h<|T x).fdiv<|pI ((h.getD (T x) []).getD 3 (0:Int)) .u64) 18446744073709551616 (cE ((h.getD (T x) []).getD 4 (0:Int)- (h.getD (T x) []).getD 3 (0:Int))/\Wq ((h.getD (T x) []).getD 4 (0:Int)- (h.getD (T x) []).getD 3 (0:Int))<=32/\aeN y v x (Wq ((yi y v<|d h<|T x).fdiv (pI ((h.getD (T x) []).getD 3 (0:Int)) .u64)%2^b5 ((h.getD (T x) []).getD 4 (0:Int)- (h.getD (T x) []).getD 3 (0:Int)))=py y v/\Cn y v (d h<|T x)=cx y v/\dO (ir y v)))) (aeN y v x<|Wq 0=py y v/\Cn y v (d h<|T x)=cx y v/\dO (ir y v))))) a j)))
def aBt{a b:Int}(y:0<a)(z:0<b):v%(a*b)=v%a+a*(v/a%b):=by
 have k:=ax7 v a;have r:=ax7 (v/a) b;have u:=Int.emod_nonneg v (show a≠0 by omega);have X:=aiY v y;have x:=Int.emod_nonneg (v/a) (show b≠0 by omega);have w:=aiY (v/a) z;have i:0<=a*(v/a%b):=Int.mul_nonneg Y x;have e:a*(v/a%b)<=a*(b-1):=Int.mul_le_mul_of_nonneg_left Y Y;rw[Int.mul_sub,Int.mul_one]at e;have h:v=v%a+a*(v/a%b)+a*b*(v/a/b):=c9
 conv=>lhs;rw[h]
 rw[Int.add_mul_emod_self_left,Int.emod_eq_of_lt Y Y]
section
variable{s b:M}{a n k z e f g x:Int}{l:N}
def aau(h0:0<=a)(h1:a<=s.size):fu s a 0 0=ab/\d_ s a=a/\dS s a=0:=by
 have h:lc s a=ah:=by grind [lc]
 refine⟨?_,by unfold d_;rw[h];rfl,by unfold dS;rw[h];rfl⟩;show(vL s a&&((0:Int)==0))=ab;grind [vL]
theorem J0(h0:0<=n)(h1:a+n<=s.size):dI s a 0 n=0/\ee s a 0 n=a+n/\gf s a 0 0 n=0/\ch s a 0 n=s.extract a.toNat (a+n).toNat:=by
 have e:dI s a 0 n=0:=by
  show cond (decide (n<0)) 2 (cond (decide ((s.size:Int)-a<n)) 5 0)=_;grind
 refine⟨e,by unfold ee;rw[e];rfl,?_,by unfold ch;rw[e];rfl⟩;show cond (decide (n<0)) a (cond (decide ((s.size:Int)-a<n)) (s.size:Int) 0)=_;grind
def aac(h0:0<=n)(h1:(s.size:Int)<a+n):dI s a 0 n=5/\ee s a 0 n=a:=by grind [dI,ee]
def r_0(h:rE l b n≠0):rO l b n=aJ:=by
 unfold rO rE at*;cases y:jH l n==0<;>rw[y]at h
 .rfl
 .show qH l b n=_
  rw[qH,WW h];rfl
def aK4(h:mu l b n≠0):rm l b n=aJ:=by grind [rm,mu]
def azt(i:Nat):0<=eH y i/\eH y i<=300000+y.size:=by
 have b:=xh y 0;have r:=xh y 1;have u:=xh y 2;have h:eH y i=eH y (min i 4):=by
  unfold eH;by_cases hi:i<=4
  .grind
  .rw[Nat.min_eq_right Y,nE<|by show 4<=i;omega];rfl
 rw[h];have:min i 4=0\/min i 4=1\/min i 4=2\/min i 4=3\/min i 4=4:=Y;grind [RU,RV,Nr,JR,RW]
def arv:0<=qF l b n/\qF l b n<=300000+b.size:=by
 unfold qF;cases e4 l b n==0
 .grind
 .cases sA l b n 4
  .exact azt b _
  .grind
end
def aze:∀x:Fin 256,bits .and .i64 (x.val:Int) 3=(x.val:Int)%4/\bits .and .i64 (kQ (x.val:Int)<|2^min (X 2) (cZ .i64)) 3=(x.val:Int)/4%4:=by decide+kernel
def aCl:∀k i:Fin 4,(1<=cQ (k.val:Int) (i.val*5+0)/\cQ (k.val:Int) (i.val*5+0)<=5)/\(0<=cQ (k.val:Int) (i.val*5+1)/\cQ (k.val:Int) (i.val*5+1)<=4)/\(0<=cQ (k.val:Int) (i.val*5+2)/\cQ (k.val:Int) (i.val*5+2)<=20)/\(0<=cQ (k.val:Int) (i.val*5+3)/\cQ (k.val:Int) (i.val*5+3)<=20):=by decide+kernel
def aCk:∀k i:Fin 4,∀j:Fin 5,((fM 20).map λj=>cQ (k.val:Int) j).getD (i.val*5+j.val) 0=cQ (k.val:Int) (i.val*5+j.val):=c9
def aqz{f m:Nat}(h:f<=m):(2:Int)^f<=2^m:=by have:=nF (show 0<2 by omega) h;grind
def msk{v:Int}{f:Nat}(h0:0<=v)(h1:v<18446744073709551616)(h:f<=32):bits .and .u64 v (Q .u64<|Q .u64 (1*2^min f (cZ .u64))-1)=v%2^f:=by have hp:=jJ f;have x:=aqz h;rw[show(2:Int)^32=4294967296 from rfl]at x;have y:min f (cZ .u64)=f:=wy (by show f<=64;omega);rw[y,Int.one_mul,fW (n:=2^f) Y Y,fW Y Y];obtain⟨n,rfl⟩:=pP h0;have e:(2:Int)^f-1=((2^f-1:Nat):Int):=c9;have z:=nF (show 0<2 by omega) h;rw[show(2:Nat)^32=4294967296 from rfl]at z;rw[e,u64_and_nat _ _ Y Y,aiS];push_cast;rfl
section
variable{s:M}{a:Int}
def azY(h0:0<=a)(h1:a<=s.size):fo (ch s a 0 1)=u s a:=by
 by_cases h:a<s.size
 .rw[(J0 (s:=s) (a:=a) (n:=1) Y Y).2.2.2,adH h0 Y,N2 h0 h]
 .have e:=(aac (s:=s) (a:=a) (n:=1) Y Y).1
  have:u s a=0:=by
   unfold u;rw[jR,xk<|by show s.size<=_;omega];rfl
  rw[this];unfold ch;rw[e];rfl
def S_:(1<=aU y v 0/\aU y v 0<=5)/\(0<=aU y v 1/\aU y v 1<=4)/\(0<=aU y v 2/\aU y v 2<=20)/\(0<=aU y v 3/\aU y v 3<=20):=by have h:=me y v;have:=aCl ⟨(u y v%4).toNat,Y⟩ ⟨(u y v/4%4).toNat,Y⟩;simp only[show(((u y v%4).toNat:Nat):Int)=u y v%4 by omega]at this;exact this
def N8(j:Nat)(h:j<5):((fM 20).map λj=>cQ (u y v%4) j).getD ((u y v/4%4).toNat*5+j) 0=aU y v j:=by have x:=me y v;have:=aCk ⟨(u y v%4).toNat,Y⟩ ⟨(u y v/4%4).toNat,Y⟩ ⟨j,h⟩;simp only[show(((u y v%4).toNat:Nat):Int)=u y v%4 by omega]at this;exact this
def Uk(h:(ir s a).1≠0):fO s a=0/\iM s a=0/\dz s a=0/\py s a=0/\cx s a=0:=by unfold fO iM dz py cx;grind
def apm(h:a<0\/(s.size:Int)<a):ir s a=(2,0):=by unfold ir;rw[I h]
def apl(h0:0<=a)(h1:a<=s.size)(h:a=s.size\/(s.size:Int)<a+aU s a 0):ir s a=(20,a):=by unfold ir;rw[V Y,I h]
def aF'(h0:0<=a)(h1:a<s.size)(h:a+aU s a 0<=s.size):ir s a=(0,0):=by unfold ir;rw[V Y,V Y]
structure LhV (s:M) (a:Int):Prop where
 e:ir s a=(0,0)
 k:fO s a=u s a%4
 t:iM s a=aU s a 4
 n:dz s a=bh s a (aU s a 0)/2^(aU s a 1).toNat%2^(aU s a 2).toNat
 m:py s a=bh s a (aU s a 0)/2^(aU s a 1).toNat/2^(aU s a 2).toNat%2^(aU s a 3).toNat
 x:cx s a=a+aU s a 0
 u0:0<=bh s a (aU s a 0)
 u1:bh s a (aU s a 0)<18446744073709551616
def ac'(h0:0<=a)(h1:a<s.size)(h:a+aU s a 0<=s.size):LhV s a:=by
 have e:=aF' h0 h1 h;have f:=S_ s a;have h0:(ir s a).1=0:=by rw[e]
 refine⟨e,I h0,I h0,I h0,?_,I h0,S7 ..,?_⟩
 .unfold py lhU
  rw[I h0,Rm<|wA<|jJ _,<-Jr,Int.toNat_add Y Y]
 .have:=aB9 (s:=s) (a:=a) (i:=(aU s a 0).toNat) Y
  grind
def KX{f:Int}(h:f<=20):0<=v%2^f.toNat/\v%2^f.toNat<=1048576:=by have hp:=jJ f.toNat;have x:=aqz (show f.toNat<=20 by omega);omega
end
end Go.Proofs.YtegnkfbnmepmpaaGreatDoor

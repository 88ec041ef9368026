/-
  Texts joined: Df, TwF, Tw, Twt, Tx, WtF, Wt, Wtt, Wu, Wv, Ww, TrF, Tr, Trt, Ts, TbF, Tb, Tbt, Tc, Td, C6qF, C6qG, C6qA, C6qAt, C6qB, C6qC, C6qL. Conditions: each theorem's own.
-/
import Derived.Test.YtegnkfbnmepmpaaGreatDoorK7
import Derived.Shelf.SlSortCmp.WholeK
set_option maxRecDepth 100000
set_option linter.all false
open And renaming intro->fY
open Bool renaming false->ah,true->ab
open ByteArray renaming empty->aJ,extract_extract->ax0
open Go.IntKind renaming bits->cZ,i64->bW,u64->fh,wrap->Q
open Go.Proofs.Tryz renaming func311->ai',ntmps311->aja,prog->ar
open Go.Sort renaming grow->Jw
open Int renaming fdiv->kQ,mul_le_mul_of_nonneg_right->axY,tdiv->fi,tmod->kf,toNat->X
open List renaming count_append->axX,drop->iI,getD->eU,length->cY,map->ma,map_singleton->axZ,mem_range'_1->axW,range->fM,range_succ->GY,replicate->au,take->aC
open Max renaming max->uZ
open Min renaming min->aB
open Nat renaming beq->ap,log2->wD,sub->fj,succ->oy
open Option renaming map->gN,none->ae,some->O
namespace Go.Proofs.YtegnkfbnmepmpaaGreatDoor
open Go Go.RowKit
variable{b:Int->Bool}{x:Int}{y:N}{z:Nat}{v:M}
def aiV:=@List.pairwise_map
def Yv:=@List.Pairwise.imp_of_mem
def Jr:=@Int.pow_add
def Ro:=@List.length_set
def YR:=@List.all_append
def MY:=@List.filter_cons
def aiW:=@List.set_append_right
def Rp:=@Nat.sub_self
def aiX:=@Go.Sort.alloc_eq_grow
def an1(h:0<x):aS x=(wD x.toNat:Nat):=by grind [aS]
def uA(x:Int×Int):Nat:=x.1.toNat
def aqY:∀(xs:List (Int×Int)) (o:N) (p:Nat),p∉xs.map uA->(Dy o xs).getD p 0=o.getD p 0
 | [],_,_,_=>rfl
 |x::xs,o,p,h=>by simp only[kd,nZ,not_or]at h;show(Dy (FE o x) xs).getD p 0=_;rw[aqY xs _ p h.2];unfold FE;simp only[jR,Rh];rw[V λe=>h.1 e.symm]
def aqX:∀(xs:List (Int×Int)) (o:N) (x:Int×Int),(xs.map uA).Nodup->x∈xs->uA x<o.length->(Dy o xs).getD (uA x) 0=x.2
 |y::xs,o,x,z,h,e=>by
  simp only[kd,List.nodup_cons]at z;show(Dy (FE o y) xs).getD (uA x) 0=_;simp only[nZ]at h;rcases h with rfl|h
  .rw[aqY xs _ _ z.1]
   unfold FE;simp only[jR,Rh];have k:x.1.toNat<o.length:=e;rw[I<|show x.1.toNat=uA x from rfl,I k];rfl
  .exact aqX xs _ x z.2 h<|by rw[aqW];exact e
def aRv(g:Int)(l:N):(tL g l).Nodup:=List.Pairwise.filter _ aiv
def ahB:z∈tL x y↔z<aG x/\lE x y (oN x z)=ab:=by grind [tL]
def apz{g:Int}:∀(xs:N) (c:Nat),c+xs.length<=aG g->(Aw g c xs).map uA=(List.range' c xs.length).map λk=>aG g-1-k
 | [],_,_=>rfl
 |x::r,c,h=>by simp only[Jb]at h;simp only[Aw,kd,Jb,List.range'_succ,apz (g:=g) r (c+1) Y];grind [uA]
def anZ:∀(xs:N) (c:Nat),(y_ x y c xs).map uA=(List.range' c xs.length).map λk=>oN x<|(tL x y).getD k 0
 | [],_=>rfl
 |g::r,c=>by simp only[y_,kd,Jb,List.range'_succ,anZ r<|c+1];congr 1
def ad3{g:Int}{l:N}(h:oB g l):((kL g l).map uA).Perm (fM<|aG g):=by
 have o:=h.total;have u:(Du g l).map uA=(List.range' 0<|bu l).map λk=>aG g-1-k:=by
  unfold Du;rw[apz _ _<|by rw[Pn];omega,Pn]
 have d:(Fl g l).map uA=(tL g l).map (oN g):=by
  unfold Fl;rw[anZ];apply D8;intro i;rw[pS,pS,<-av_ h];by_cases hi:i<(tL g l).length
  .rw[List.getElem?_range' hi,kB hi]
   simp[jR,kB hi]
  .rw[xk<|by simp;omega,xk Y]
   rfl
 have z:∀x∈(kL g l).map uA,x<aG g:=by
  intro x c;simp only[List.mem_map]at c;obtain⟨y,m,rfl⟩:=c;obtain⟨k,j,v⟩:=List.mem_iff_getElem.1 m;have:=aoU h (k:=k) (x:=y) (by rw[kB j,v]);unfold uA;omega
 refine aqL ?_ (by rw[qk,T_ h]) z;unfold kL;rw[yA,u,d,List.nodup_append];refine⟨?_,?_,?_⟩
 .unfold List.Nodup
  rw[aiV];refine Yv ?_<|List.nodup_range' (s:=0) (n:=bu l);intro a b e z r w;simp only[axW]at e z;omega
 .unfold List.Nodup
  rw[aiV];refine Yv ?_<|aRv g l;intro a b e z r w;exact r<|aqk h.g5 (ahB.1 e).1 (ahB.1 z).1 w
 .intro a e b z r
  simp only[List.mem_map,axW]at e z;obtain⟨k,j,rfl⟩:=e;obtain⟨t,f,rfl⟩:=z;have:=(ahB.1 f).2;unfold lE at this;simp only[dJ]at this;omega
theorem avs{g:Int}{l:N}(h:oB g l){x:Int×Int}(y:x∈kL g l):(aH g l).getD (uA x) 0=x.2:=by
 have hp:=ad3 h;refine aqX _ _ x (hp.nodup_iff.2 aiv) y ?_;grind [List.mem_map_of_mem,zL]
def aFG(h:oB x y){c:Nat}(l:c<aG x):∃g∈kL x y,uA g=c/\(aH x y).getD c 0=g.2:=by have z:=(ad3 h).mem_iff.2<|List.mem_range.2 l;grind [avs]
def adf:∀(l:N) (s x:Int),x∈oR s l->∃i:Nat,i<l.length/\x=s+i/\oQ (l.getD i 0)=ab
 |p::r,s,x,h=>by
  cases hp:oQ p
  .simp only[oR,hp,iw]at h
   obtain⟨i,y,e,z⟩:=adf r (s+1) x h;exact⟨i+1,by simpa using y,by push_cast;omega,by simpa using z⟩
  .simp only[oR,hp,bo,nZ]at h
   rcases h with rfl|h
   .grind
   .obtain⟨i,y,e,z⟩:=adf r (s+1) x h
    exact⟨i+1,by simpa using y,by push_cast;omega,by simpa using z⟩
theorem anX:∀(l:N) (s x:Int),x∈km s l->∃i:Nat,i<l.length/\x=s+i/\0<l.getD i 0
 |p::r,s,x,h=>by
  simp only[km,jv,aiH]at h;rcases h with⟨y,rfl⟩|h
  ·grind
  ·obtain⟨i,y,e,z⟩:=anX r (s+1) x h
   exact⟨i+1,by simpa using y,by push_cast;omega,by simpa using z⟩
theorem apA(g:Int):∀(xs:N) (c:Nat),(Aw g c xs).map (·.2)=xs
 | [],_=>rfl
 |x::r,c=>by simp[Aw,apA g r]
theorem an0(g:Int)(l:N):∀(xs:N) (c:Nat),(y_ g l c xs).map (·.2)=xs
 | [],_=>rfl
 |x::r,c=>by simp[y_,an0 g l r]
theorem aoX(g:Int)(l:N):(kL g l).map (·.2)=oR 0 l++km 0 l:=by grind [kL,Du,Fl,apA,an0]
theorem avt{g:Int}{l:N}(h:oB g l){c:Nat}(u:c<aG g):∃s:Nat,s<l.length/\l.getD s 0≠0/\(aH g l).getD c 0=s:=by
 obtain⟨x,v,_,e⟩:=aFG h u;have hm:x.2∈oR 0 l++km 0 l:=by grind [aoX]
 rw[jv]at hm;rcases hm with hm|hm
 ·obtain⟨i,k,r,y⟩:=adf l 0 _ hm
  refine⟨i,k,fun z=>?_,by rw[e,r];omega⟩;rw[z]at y;cases y
 ·grind [anX]
def aQY(h:oB x y):(aH x y).Perm (oR 0 y++km 0 y):=by
 rw[<-aoX];have e:aH x y=(fM<|aG x).map λc=>(aH x y).getD c 0:=by
  apply D8;grind [IN]
 rw[e];refine((ad3 h).map λc=>(aH x y).getD c 0).symm.trans ?_;rw[MS];refine List.Perm.of_eq<|CD λx l=>?_;exact avs h l
def apy:∀(l:N) (s:Int) (k:Nat),k<l.length->(oR s l).count (s+k)=cond (oQ<|l.getD k 0) 1 0/\∀z,z<s->(oR s l).count z=0
 | [],_,_,h=>by simp at h
 |x::r,s,k,h=>by
  have e:∀(l:N) (s z:Int),z<s->(oR s l).count z=0:=by
   intro l;induction l with
   |nil=>intro s z _;rfl
   |cons y t u=>grind [oR]
  refine⟨?_,e _ _⟩;show(cond (oQ x) (s::oR (s+1) r)<|oR (s+1) r).count (s+k)=_;cases k with
  |zero=>
   grind
  |succ k=>
   have u:=(apy r (s+1) k<|by simpa using h).1;grind
def anW:∀(l:N) (s:Int) (k:Nat),k<l.length->(km s l).count (s+k)=(l.getD k 0).toNat
 | [],_,_,h=>by simp at h
 |x::r,s,k,h=>by
  have u:∀(l:N) (s z:Int),z<s->(km s l).count z=0:=by
   intro l;induction l with
   |nil=>intro s z _;rfl
   |cons y t v=>grind [km]
  show(au x.toNat s++km (s+1) r).count (s+k)=_;rw[axX];cases k with
  |zero=>
   grind
  |succ k=>
   have e:s+((k+1:Nat):Int)=s+1+(k:Int):=Y;rw[e,anW r (s+1) k c9,List.count_replicate];grind
def aQX(h:oB x y){k:Nat}(g:k<y.length):((aH x y).count (k:Int):Int)=pt (y.getD k 0):=by rw[(aQY h).count_eq,axX];have l:=(apy y 0 k g).1;have z:=anW y 0 k g;rw[A5]at l z;rw[l,z];have lo:=h.lo _<|yW g;grind [pt,oQ]
def ne0(h:(x !=(0:Int))=ab):(x==0)=ah:=c9
def pW(h:(x !=(0:Int))=ah):x=0:=c9
def Z3(h:x=0):(x==0)=ab:=by rw[h];rfl
def aKG:=sPt.gd m.nil Tryz.func279 λ(x:Int) _=>⟨aK,J (p:=Dq (x<0) (1=pt x)<|x=pt x)<|⟨λh=>(ad8 h).symm,λh=>(UX h).symm⟩⟩
def Zh:=m.cons aKG<|ayx
def aKz:=agH.gE aPq Zh Tryz.func278 λ⟨x,g,p⟩ ⟨h,y,_⟩=>⟨aK,J (p:=Rq x (Zq<|p.length)<|Jq (pt<|eU p (x.toNat) 0)/\g=g/\p=p)<|⟨h,y,rfl,rfl,rfl⟩⟩
theorem ahE{l:N}{i:Nat}(h:i<l.length)(s:Int):(l.take (i+1)).count s=(l.take i).count s+cond (l.getD i 0==s) 1 0:=by grind [take_succ]
structure ayg (g:Int) (p:N) (i:Nat):Prop where
 s0:0<=(aH g p).getD i 0
 s1:(aH g p).getD i 0<p.length
 p1:1<=pt (p.getD ((aH g p).getD i 0).toNat 0)
 pz:pt (p.getD ((aH g p).getD i 0).toNat 0)<=(aG g:Int)
 x1:1<=iL p (aH g p) i
 lo:pt (p.getD ((aH g p).getD i 0).toNat 0)<=iL p (aH g p) i
 hi:iL p (aH g p) i<2*pt (p.getD ((aH g p).getD i 0).toNat 0)
def aag(h:oB x y){i:Nat}(hi:i<(aH x y).length):ayg x y i:=by
 have v:=IN x y;obtain⟨s,k,_,p⟩:=avt h (show i<aG x by omega);have r:=aQX h k;have z:=ahE hi<|(aH x y).getD i 0;rw[beq_self_eq_true,bo]at z;have g:((aH x y).take<|i+1).count ((aH x y).getD i 0)<=(aH x y).count ((aH x y).getD i 0):=(List.take_sublist _ _).count_le _;have u:(aH x y).count (s:Int)<=(aH x y).length:=List.count_le_length;have e:iL y (aH x y) i=pt (y.getD ((aH x y).getD i 0).toNat 0)+(((aH x y).take i).count ((aH x y).getD i 0):Nat):=rfl;rw[p]at z g e;rw[toNat_cast]at e;refine⟨by rw[p];omega,by rw[p];omega,?_,?_,Y,?_,?_⟩
 all_goals
  grind
def abZ(h:1<=x):0<=aS x/\2^(aS x).toNat<=x/\x<2^((aS x).toNat+1):=by rw[an1 Y,toNat_cast];obtain⟨n,rfl⟩:=pP (show 0<=x by omega);have y:=Nat.log2_self_le (n:=n) Y;have z:=Nat.lt_log2_self (n:=n);grind
structure ajm (g:Int) (p:N) (i:Nat):Prop where
 b0:0<=kJ g p (aH g p) i
 b1:kJ g p (aH g p) i<=g
 a0:0<=iL p (aH g p) i*2^(kJ g p (aH g p) i).toNat-2^g.toNat
 a1:iL p (aH g p) i*2^(kJ g p (aH g p) i).toNat-2^g.toNat+2^(kJ g p (aH g p) i).toNat<=(aG g:Int)
def aKx{b:Nat}(h:(2:Int)^z<2^b):z<b:=by
 rcases uQ z b with h1|h1
 .exact h1
 .have:=nQ h1;omega
def Si(h:oB x y){i:Nat}(hi:i<(aH x y).length):ajm x y i:=by
 have p:=aag h hi;obtain⟨u,z,v⟩:=abZ p.x1;have a:=Gt x;have hp:=p.pz;have n:=p.hi;have g5:=h.g5;have j:(aS<|iL y (aH x y) i).toNat<x.toNat+1:=aKx Y;have w:(kJ x y (aH x y) i).toNat=x.toNat- (aS<|iL y (aH x y) i).toNat:=by grind [kJ]
 have g:=jJ (kJ x y (aH x y) i).toNat;have k:(2:Int)^(aS<|iL y (aH x y) i).toNat*2^(kJ x y (aH x y) i).toNat=2^x.toNat:=by
  rw[<-Jr];grind
 have r:(2:Int)^((aS<|iL y (aH x y) i).toNat+1)*2^(kJ x y (aH x y) i).toNat=2*2^x.toNat:=c9;have b:=axY z<|wA g;have e:=axY (show iL y (aH x y) i+1<=2^((aS<|iL y (aH x y) i).toNat+1)by omega)<|wA g;rw[Int.add_mul,Int.one_mul]at e;refine⟨by unfold kJ;omega,by unfold kJ;omega,Y,Y⟩
def ak6{p sy:N}{n i:Nat}(h:i<n):(qq x p sy n).getD i []=NB x p sy i:=by grind [qq]
theorem Sh(g:Int)(p sy:N)(n:Nat):(qq g p sy n).length=n:=by grind [qq]
def aaz{g:Int}{p:N}(h:cb g p=0):RA g (cC g p):=by
 have u:=C3 h;have i:=IN g p;have g5:=u.g5;have y:(cC g p).length=aG g:=by grind [cC,Sh]
 have e:∀x:Int,0<=x->x<(cC g p).length->(cC g p).getD x.toNat []=NB g p (aH g p) x.toNat/\ajm g p x.toNat:=λx k r=>by
  have w:x.toNat<(aH g p).length:=Y;exact⟨ak6 w,Si u w⟩
 refine⟨Y,u.g12,y,λx k r=>?_,λx k r=>?_⟩
 .obtain⟨v,z⟩:=e x k r
  unfold cB;rw[v];exact⟨z.b0,z.b1⟩
 .obtain⟨v,z⟩:=e x k r
  unfold cA cB;rw[v,y];exact⟨z.a0,z.a1⟩
def aG5(h:z<y.length):zi y (z+1)=zi y z++ [pt<|y.getD z 0]:=by grind [zi,take_succ]
def aG8(p sy:N):lD p sy 0=zi p p.length:=by unfold zi lD;refine D8 λi=>?_;grind
def aqd(p sy:N)(i:Nat):(lD p sy i).length=p.length:=by grind [lD]
def aG6{p sy:N}{i s:Nat}(h:s<p.length):(lD p sy i).getD s 0=pt (p.getD s 0)+((sy.take i).count (s:Int):Nat):=by grind [lD]
def aG7{p sy:N}{i s:Nat}(hi:i<sy.length)(x:sy.getD i 0=(s:Int))(h:s<p.length):(lD p sy i).set s (iL p sy i+1)=lD p sy (i+1):=by refine D8 λk=>?_;grind [lD,ahE,iL]
def ak5(g:Int)(p sy:N)(i:Nat):qq g p sy (i+1)=qq g p sy i++ [NB g p sy i]:=by grind [qq,GY]
def aKM(h: -1<=x)(y:x<=100000):max x (Q bW<|0-x)=pt x:=by grind [wr,pt]
def aKp(h:oB x y)(i:Nat): -1<=y.getD i 0/\y.getD i 0<=4096:=by
 have e:=xe h.g5 h.g12;by_cases hi:i<y.length
 .have p:=h.lo _<|yW hi
  have g:=aqV<|yW hi;have z:=h.sum;grind [Gt,pt]
 .grind
theorem NO{g:Int}{p:N}(h:cb g p=0):xB g p=cC g p:=by
 unfold xB;rw[show Fx g p=ab from Z3 h];rfl
def SH(h:(cb x y !=(0:Int))=ab):xB x y= []:=by unfold xB;rw[show Fx x y=ah from ne0 h];rfl
def akh(h:oB x y){i:Nat}(hi:i<(aH x y).length):Q bW (Q bW (iL y (aH x y) i*(2:Int)^min (X<|Q fh<|kJ x y (aH x y) i) (cZ bW))-Q bW ((1:Int)*(2:Int)^min (X<|Q fh x) (cZ bW)))=iL y (aH x y) i*2^(kJ x y (aH x y) i).toNat-2^x.toNat:=by have p:=Si h hi;have g5:=h.g5;have g12:=h.g12;have g:=xe g5 g12;have e:=Gt x;have b0:=p.b0;have b1:=p.b1;have a0:=p.a0;have a1:=p.a1;have q:=jJ (kJ x y (aH x y) i).toNat;rw[wu g5 g12,Mx g5 g12,show Q fh (kJ x y (aH x y) i)=kJ x y (aH x y) i from fW Y Y,Et,wy Y];rw[show Q bW (iL y (aH x y) i*2^(kJ x y (aH x y) i).toNat)=iL y (aH x y) i*2^(kJ x y (aH x y) i).toNat from wr Y Y,wr Y Y,e]
def aqe{p sy:N}:∀(i:Nat),i<=sy.length->∀s:Int,eh (pD p sy i) [s]=if(sy.take i).count s=0 then ae else O [pt (p.getD s.toNat 0)+((sy.take i).count s:Nat)]
 |0,_,s=>by simp[pD,eh]
 |i+1,h,s=>by
  have y:=aqe (p:=p) (sy:=sy) i Y s;show eh (([sy.getD i 0],[iL p sy i+1])::pD p sy i) [s]=_;rw[H7,ahE<|show i<sy.length by omega];by_cases x:sy.getD i 0=s
  .rw[I<|by rw[x],V<|by rw[x,beq_self_eq_true];simp]
   grind [iL]
  .grind
def aGE(h:List (N×N))(k:N):AA h k=(eh h k).isSome:=by grind [AA,eh]
def apY(k v:N)(h:List (N×N))(n:Nat):sw n ((k,v)::h) k=v:=by unfold sw;rw[H7,I rfl];rfl
def aA5(g:Int)(p:N)(n:cb g p=0):aay g p:=by
 unfold aay alO G pI Wi zw P_ a_ zv F7 iy eO bE bY ft FZ PZ o fU T fG jd aZ Io aL zm fC DA ay fP Ik gS cl iT kX Dq Bq Rq Wq Uq Zq Jq;have y:=C3 n;have s:=IN g p;have l:=xe y.g5 y.g12;have g5:=y.g5;have g12:=y.g12;have t:=y.n2;refine⟨rfl,H,H,H,H,rfl,H,⟨0,dx _,rfl,rfl,rfl,rfl,rfl,rfl,rfl,λq=>rfl⟩,λi hi=>⟨λh=>?_,λa=>?_⟩⟩
 .have h:i<(aH g p).length:=by simpa using h
  have e:=aag y h;have w:=Si y h;have f:=e.pz;have m:=e.hi;have b0:=w.b0;have b1:=w.b1;have d:=e.x1;have b:=(abZ d).1;have r:=akh y h;have j:g-aS (iL p (aH g p) i)=kJ g p (aH g p) i:=rfl;have v:=aqe (p:=p) i (Nat.le_of_lt h)<|(aH g p).getD i 0;have u:iL p (aH g p) i=pt (p.getD ((aH g p).getD i 0).toNat 0)+(((aH g p).take i).count ((aH g p).getD i 0):Nat):=rfl;simp only[toNat_cast,aGE,v];refine⟨Y,Y,i,⟨λk=>⟨e.s0,e.s1,(),h,A,A,A,A,A,A,A,A,λq=>?_⟩,λk=>⟨(),h,A,A,A,A,A,A,A,A,λq=>?_⟩⟩,λ_ _=>⟨i,⟨(),h,A,A,?_,A,A,A,A,A,A,λq=>?_⟩,λ_ _=>⟨i,⟨Y,(),h,A,A,A,by rw[j];exact wr Y Y,A,A,A,A,A,A,λq=>A⟩,λ_ _=>?_⟩⟩⟩
  .by_cases z:((aH g p).take i).count ((aH g p).getD i 0)=0
   .rw[u,z]
    rw[show((0:Nat):Int)=0 from rfl,MU]
   .rw[V z]at k;simp at k
  .by_cases z:((aH g p).take i).count ((aH g p).getD i 0)=0
   .rw[I z]at k;simp at k
   .rw[H7]
    by_cases x: [(aH g p).getD i 0]=q
    .rw[I x,<-x,v,V z,u]
    .rw[V x]
  .rw[apY]
   rfl
  .rw[apY]
   show eh (_::_) q=eh (([(aH g p).getD i 0],[iL p (aH g p) i+1])::pD p (aH g p) i) q;rw[H7,H7,H7];by_cases x: [(aH g p).getD i 0]=q
   .rw[I x,I x]
    show O [Q bW<|iL p (aH g p) i+1]=_;rw[wr Y Y]
   .rw[V x,V x,V x]
  .rw[r,Sh]
   refine⟨by rw[fW Y Y];exact b0,by rw[wu g5 g12];omega,by show(i+oy 0)*24<=_;omega,i+1,by rw[gG];omega,by rw[r_,r_];omega,A,A,A,wJ Y,A,A,?_,λq=>A⟩;rw[ak5];rfl
 .have c:i=(aH g p).length:=by rw[gG]at hi;simp only[dH]at a;omega
  rw[c];exact⟨rfl,rfl,rfl⟩
def aLQ:=at0.gd Zh Tryz.func249 λ⟨g,p⟩ ⟨w,_⟩=>⟨(aIf g p),J (p:=ar9 g p (aH g p=aH g p)<|aH g p)<|by
 unfold ar9 eO G cd pI Wi zw P_ zv bE o8 o rl FZ fU T gZ fG jd aZ aL zm fC ay ck Ik gS cl bS iT kX b_ lf Dq Bq Rq Wq Uq Zq;refine⟨w,λh=>⟨by rw[SH h];rfl,rfl⟩,λh=>⟨w,λh=>⟨by rw[SH h];rfl,rfl⟩,λh=>?_⟩⟩;have k:=pW h;have y:=C3 k;have l:=IN g p;have C:=xe y.g5 y.g12;have g5:=y.g5;have g12:=y.g12;have B:=y.n2;refine⟨⟨0,dx _,XJ k,rfl,rfl,rfl,rfl⟩,λi hi=>⟨λx=>?_,λu=>⟨⟨0,dx _,rfl,rfl,rfl,rfl,?_,rfl⟩,λj c=>⟨λx=>?_,λu=>?_⟩⟩⟩⟩
 .have x:i<p.length:=by simpa using x
  have hp:=aKp y i;simp only[toNat_cast];refine⟨Y,Y,Y,Y,by unfold zi;rw[qk,mT];omega,i+1,by rw[gG];omega,by rw[r_,r_];omega,A,wJ Y,A,A,?_⟩;rw[aKM hp.1 Y];exact(aG5 x).symm
 .have:i=p.length:=by rw[gG]at hi;simp only[dH]at u;omega
  rw[this,aG8]
 .have x:j<(aH g p).length:=by simpa using x
  have e:=aag y x;have n:=Si y x;have q:=e.pz;have t:=e.hi;have b0:=n.b0;have b1:=n.b1;obtain⟨s,z⟩:=pP e.s0;have f:=e.s1;rw[z]at f;have v:(lD p (aH g p) j).getD s 0=iL p (aH g p) j:=by
   rw[aG6 Y];unfold iL;rw[z,toNat_cast]
  have m:=e.x1;have b:=(abZ m).1;have r:=akh y x;have a:g-aS (iL p (aH g p) j)=kJ g p (aH g p) j:=rfl;simp only[toNat_cast,z,v,aqd,Sh];refine⟨Y,Y,j,⟨Y,Y,Y,Y,(),x,A,A,z.symm,by rw[a];exact wr Y Y,A,A,A,A⟩,λ_ _=>?_⟩;rw[z];simp only[toNat_cast,v,r];refine⟨j,⟨Y,Y,Y,by rw[fW Y Y];exact b0,by rw[wu g5 g12];omega,by show(j+oy 0)*24<=_;omega,(),x,A,A,z.symm,A,A,A,?_⟩,λ_ _=>?_⟩
  .rw[ak5]
   unfold NB;rw[z];rfl
  .rw[z]
   simp only[toNat_cast,v,aqd];refine⟨Y,Y,Y,Y,Y,Y,j+1,by rw[gG];omega,by rw[r_,r_];omega,A,wJ Y,A,A,?_,A⟩;rw[wr Y Y];exact aG7 x z Y
 .have d:j=(aH g p).length:=by rw[gG]at c;simp only[dH]at u;omega
  rw[d,NO k];exact⟨rfl,k.symm⟩⟩
def Zi:=m.cons aKz<| .cons aLQ<|Zh
def aA3(g:Int)(p:N):aay g p=Gx ar (oC<|sa Zi) (aHm g p) Tryz.f277 [.v<|.int .i64 g,.fn (.func 278) [] [.p 0 0 0],.bZ<|.ints .i64<|aH g p] [dF 0 g p] (.leaf ((.bZ<|.cH 3<|cC g p))<|[dF 0 g p]):=ax
def aA4:Sound ar 277 Xp.iY:=Xp.sound ax aOL λ⟨y,q,g,p⟩ h=>by have x:=h _<|.head _;have z:y=g:=h _<|.tail _<|.head _;have e:q=aH g p:=h _<|.tail _<|.tail _<|.head _;subst z e;exact Mn Zi mixed Tryz.func277 (aA3 y p)<|aA5 y p x
def ajw:=m.cons aA4<|Zi
def aA6:=at0.gd ajw Tryz.func226 λ⟨g,p⟩ ⟨x,_⟩=>⟨aK,J (p:=aA7 g p)<|⟨x,λh=>⟨by rw[SH h];rfl,rfl⟩,λh=>⟨x,λh=>⟨by rw[SH h];rfl,rfl⟩,λh=>⟨pW h,rfl,XJ<|pW h,(NO<|pW h).symm,(pW h).symm⟩⟩⟩⟩
def ajx:=m.cons aA6<|ajw
def qw(ok:Nat->Bool):Nat->Nat
 |0=>0
 |n+1=>cond (ap (qw ok n) n&&ok n) (n+1)<|qw ok n
abbrev TSt:Type:=N×Int
def tS(s:M)(left n:Int):Bool:=gx s left n==0
def tv(s:M)(left n:Int):Int:=cond (gx s left n==0) (left-n) left
def pE(g:Int)(p:N)(s:M):Int:=cond (cb g p==0) (gD s)<|cb g p
def IX(s:M)(L g:Int):Nat->TSt
 |0=>([0,0],L)
 |j+1=>((IX s L g j).1.set j<|cm s (IX s L g j).2 g,tv s (IX s L g j).2 g)
def Cz(s:M)(L g:Int)(j:Nat):Bool:=tS s (IX s L g j).2 g
def Gu(s:M)(L g:Int)(c:q):Nat->TSt
 |0=>IX s L g 2
 |i+1=>((Gu s L g c i).1.set (i%2)<|cA c ((Gu s L g c i).1.getD (i%2) 0)+cm s (Gu s L g c i).2 (cB c<|(Gu s L g c i).1.getD (i%2) 0),tv s (Gu s L g c i).2<|cB c<|(Gu s L g c i).1.getD (i%2) 0)
def iz(s:M)(L g:Int)(c:q)(i:Nat):N:=(Gu s L g c i).1
def l8(s:M)(L g:Int)(c:q)(i:Nat):Int:=(Gu s L g c i).2
def yr(s:M)(L g:Int)(c:q)(i j:Nat):Int:=(iz s L g c i).getD (j%2) 0
def Gv(s:M)(L g:Int)(c:q)(i:Nat):Bool:=tS s (l8 s L g c i)<|cB c<|yr s L g c i i
def tW(s:M)(L g:Int)(c:q):Nat:=qw (Gv s L g c) 256
def nA(s:M)(L g:Int)(c:q)(i:Nat):N:=(fM i).map λk=>cS c<|yr s L g c k k
def AT(g:Int)(p:N)(s:M):Bool:= !(Cz s (aR s) g 0&&Cz s (aR s) g 1)||decide (253<tW s (aR s) g (cC g p))||decide (0<l8 s (aR s) g (cC g p) (tW s (aR s) g<|cC g p))
def QR(g:Int)(p:N)(s:M):N:=nA s (aR s) g (cC g p) (tW s (aR s) g (cC g p)+1)++ [cS (cC g p)<|yr s (aR s) g (cC g p) (tW s (aR s) g<|cC g p)<|tW s (aR s) g (cC g p)+1]
def twE(g:Int)(p:N)(s:M):Int:=cond (pE g p s==0) (cond (AT g p s) 21 0)<|pE g p s
def twV(g:Int)(p:N)(s:M):N:=cond (twE g p s==0) (QR g p s) []
def tV(s:M)(L g:Int)(j:Nat):N:=(IX s L g j).1
def r6(s:M)(L g:Int)(j:Nat):Int:=(IX s L g j).2
def IY(s:M)(L g:Int)(j:Nat):Prop:=j<=2/\∀k,k<j->Cz s L g k=ab
def smB(k:Nat)(s:M)(l g:Int)(c:q):Nat×bm:=(k,.cells 382 [.v<|.string s,.v<|.int .i64 l,.bZ<|.cH 3 c,.v<|.int .i64 g])
def ar0(k:Nat)(s:M)(l:Int):Nat×bm:=(k,.cells 231 [.v<|.string s,.v<|.int .i64 l])
def aI8(s:M)(L g:Int)(p:N)(c:q):dV:=bi Nat λj=>(IY s L g j,[(2,U 1000),(6,U 1001),(8,U 1002),(26,cP j)],[dF 1000 g p,smB 1001 s (r6 s L g j) g c,(1002,.iA 371<|.ints .i64<|tV s L g j)],2-j)
def aI9(s:M)(L g:Int)(c:q):dV:=bi Nat λi=>(i<=tW s L g c/\i<=255/\IY s L g 2,[(6,U 1001),(8,U 1002),(12,.o 5000),(13,cP i)],[smB 1001 s (l8 s L g c i) g c,(1002,.iA 371<|.ints .i64<|iz s L g c i),(5000,.row 3<|.ints .i64<|nA s L g c i)],256-i)
def aIO(s:M)(L g:Int)(p:N)(c:q):dV:=bi Nat λj=>(IY s L g j,[(2,U 1000),(7,U 1001),(9,.bZ<|.cH 3 c),(11,U 1002),(12,cP j)],[dF 1000 g p,ar0 1001 s<|r6 s L g j,(1002,.iA 371<|.ints .i64<|tV s L g j)],2-j)
def aIP(s:M)(L g:Int)(c:q):dV:=bi Nat λi=>(i<=tW s L g c/\i<=255/\IY s L g 2,[(7,U 1001),(9,.bZ<|.cH 3 c),(11,U 1002),(16,.o 5000),(17,B ((i%2:Nat):Int))],[ar0 1001 s<|l8 s L g c i,(1002,.iA 371<|.ints .i64<|iz s L g c i),(5000,.row 3<|.ints .i64<|nA s L g c i)],256-i)
def agT:Spec where
 ι:=M×Int×Int×List (N)×Int
 own:=ab
 dec l H:=match l with
  | [.p l0 0 0,.v<|.int .i64 n]=>match H l0 with
    |some (.cells 382 [.v<|.string s,.v<|.int .i64 l,.bZ<|.cH 3 c,.v<|.int .i64 g])=>O ((s,l,g,c,n),[l0])
    |_=>ae
  |_=>ae
 args:=λ(s,l,g,c,n)=>[U 0,B n]
 hp:=λ(s,l,g,c,n)=>[(0,.cells 382 [aD s,B l,.bZ<|.cH 3 c,B g])]
 pre:=λ(s,l,g,c,n)=>[E<|s.size<=1000000]
 out:=λ(s,l,g,c,n)=>.leaf (.tu [B<|cm s l n,fN<|tS s l n]) [(0,.cells 382 [aD s,B<|tv s l n,.bZ<|.cH 3 c,B g])]
def aP4:agT.dn:=by
 intro l H n i x h;simp only[agT]at h
 repeat' split at h
 all_goals first|(cases h;done)|(cases h;exact⟨rfl,rfl⟩)|(cases h;refine⟨rfl,?_⟩;simp only[dK,iF,iN,gN, *];rfl)
def aPo:Spec:=Sp (Int×N×M) [.g [.i,.l],.s] λ(g,p,s)=>([E<|p.length<=4294967296,E<|s.size<=1000000],.ite (E<|pE g p s=0) (.leaf (.tu [U 2000,B 0]) [(2000,.cells 382 [aD s,B<|aR s,.bZ<|.cH 3<|cC g p,B g])])<|.leaf (.tu [.v<|.pointer ae,B<|pE g p s]) [])
def auq:Spec:=Sp (Int×N×M) [.g [.i,.l],.s] λ(g,p,s)=>([E<|p.length<=4294967296,E<|s.size<=1000000],aE<|.tu [dm<|twV g p s,B<|twE g p s])
def oTw(s:M)(L g:Int)(p:N)(c:q):bO:=λk=>cond (ap k 0) (O<|.one<|aI8 s L g p c)<|cond (ap k 1) (O<|.one<|aI9 s L g c) ae
def aIN(s:M)(L g:Int)(p:N)(c:q):bO:=λk=>cond (ap k 0) (O<|.one<|aIO s L g p c)<|cond (ap k 1) (O<|.one<|aIP s L g c) ae
def aqt(g:Int)(p:N)(s:M)(D:Prop):Prop:=cd p/\Bq (cb g p !=0) (Cq (pE g p s=0) (False/\cb g p=0/\False)<|D/\cb g p=pE g p s) (bD s/\Bq (gD s !=0) (Cq (pE g p s=0) (False/\gD s=0/\False)<|D/\gD s=pE g p s) (cd p/\Cq (pE g p s=0) (cb g p=0/\kG s=s/\ia s=aR s/\xB g p=cC g p/\g=g) (False/\cb g p=pE g p s)))
def ahD(s:M)(l g:Int)(c:q)(n:Int):Prop:=bD s/\bS (gx s l n) (0=cm s l n) (xa (tS s l n) (s=s)<|l=tv s l n/\c=c/\g=g) (Wq (cm s l n)=cm s l n) (ab=tS s l n/\dw s l n=s/\dQ s l n=tv s l n/\c=c/\g=g)
def Lj(h0:Int)(h1:N)(h x:Nat)(y z:Prop):Prop:=h0.toNat<h1.length/\Rq (h1.getD h 0) (Zq x) (y/\z)
def aeu(h0 h1:N)(x:Int)(y:N)(h:M)(z:Int)(e:q)(k:Nat)(r u:N):Prop:=Dq (Zq (h0++h1).length>255) ((twV x y h).length=0/\21=twE x y h)<|Dq (tv h (l8 h z x e k) (r.getD 1 0)>0) (u.length=0/\21=twE x y h)<|h0++h1=twV x y h/\0=twE x y h
def art(h0:Nat)(h1:Int)(h:M)(e x:Int)(z:q)(r:N)(c:Int)(k:N)(d u:Nat)(v:Prop)(w:Nat)(i:Prop)(j:Int)(n a:Prop)(b:N):Prop:=Rq ((Zq h0).tmod 2) (Zq 2)<|(h1.tmod 2).toNat<(iz h e x z h0).length/\Dq (o r>255) (aeu (nA h e x z h0) [c] x k h (aR h) (cC x k) h0 (z.getD d [])<|twV x k h) (∃(y:Nat),(y<=u/\y<=255/\v)/\fj 256 y<w/\bE h0 y/\i/\j=l8 h e x z y/\n/\a/\b=iz h e x z y/\r=nA h e x z y)
def aq2(h0:Nat)(h1:M)(y z:Int)(f:Bool)(g m:Prop)(o u:Int)(p:Prop)(e:Nat)(k v:Prop)(a:Int)(x:q)(w i:Prop)(b:N)(r:Prop)(j:Nat)(c:Prop)(n d:N):Prop:=h0<=2/\(∀(h:Nat),h<h0->Cz h1 y z h=ab)->Dq (Zq h0<2) (bD h1/\Bq (!f) (g/\m) (Rq o u p)) ((∃(h:Nat),(h<=e/\h<=255/\k)/\0=Zq h/\v/\a=l8 h1 y z x h/\w/\i/\b=iz h1 y z x h/\(nA h1 y z x h).length=0)/\(∀(h:Nat),h<=e/\h<=255/\k->r/\Rq ((Zq h).tmod 2) u (Lj ((Zq h).tmod 2) (iz h1 y z x h) ((Zq h).tmod 2).toNat j (lf<|nA h1 y z x h)<|c/\Bq (!tS h1 (l8 h1 y z x h) ((x.getD (G (iz h1 y z x h) ((Zq h).tmod 2).toNat) []).getD 1 (0:Int))) (r/\Rq (Wq<|1- (Zq h).tmod 2) u (Lj (Wq<|1- (Zq h).tmod 2) (iz h1 y z x h) (Wq<|1- (Zq h).tmod 2).toNat j (lf<|nA h1 y z x h++ [(x.getD (G (iz h1 y z x h) ((Zq h).tmod 2).toNat) []).getD 0 (0:Int)])<|aeu (nA h1 y z x h++ [(x.getD (G (iz h1 y z x h) ((Zq h).tmod 2).toNat) []).getD 0 (0:Int)]) [(x.getD (G (iz h1 y z x h) (Wq<|1- (Zq h).tmod 2).toNat) []).getD 0 (0:Int)] z n h1 y x h (x.getD (G (iz h1 y z x h) ((Zq h).tmod 2).toNat) []) d)) (r/\art h (Zq h) h1 y z x (nA h1 y z x h++ [(x.getD (G (iz h1 y z x h) ((Zq h).tmod 2).toNat) []).getD 0 (0:Int)]) ((x.getD (G (iz h1 y z x h) ((Zq h).tmod 2).toNat) []).getD 0 (0:Int)) n (G (iz h1 y z x h) ((Zq h).tmod 2).toNat) e k (fj 256 h) v (tv h1 (l8 h1 y z x h)<|(x.getD (G (iz h1 y z x h) ((Zq h).tmod 2).toNat) []).getD 1 (0:Int)) w i ((iz h1 y z x h).set ((Zq h).tmod 2).toNat<|Wq<|(x.getD (G (iz h1 y z x h) ((Zq h).tmod 2).toNat) []).getD 2 (0:Int)+cm h1 (l8 h1 y z x h) ((x.getD (G (iz h1 y z x h) ((Zq h).tmod 2).toNat) []).getD 1 (0:Int)))))))
def aq3(h0:M)(h1 h:Int)(u:Nat)(v w:Int)(e:N)(z:q)(i j:Nat)(r:N):Prop:=∀(x:Nat),aq2 x h0 h1 h (tS h0 (r6 h0 h1 h x) h) (u=0) (21=v) (Zq x) w ((Zq x).toNat<(tV h0 h1 h x).length/\(∃(y:Nat),(y<=2/\(∀(k:Nat),k<y->Cz h0 h1 h k=ab))/\fj 2 y<fj 2 x/\bE x y/\h=h/\e=e/\h0=h0/\tv h0 (r6 h0 h1 h x) h=r6 h0 h1 h y/\z=z/\h=h/\(tV h0 h1 h x).set (Zq x).toNat (cm h0 (r6 h0 h1 h x) h)=tV h0 h1 h y)) i (IY h0 h1 h 2) (h0=h0) (r6 h0 h1 h x) z (z=z) (h=h) (tV h0 h1 h x) ((2:Int)≠0) j (bD h0) e r
def aeM(h0:Nat)(h1:M)(x y:Int):Prop:=∀(h:Nat),h<h0->Cz h1 x y h=ab
def Iz(h0:Nat)(h1:M)(h:Int):Prop:=h0<=2/\aeM h0 h1 (aR h1) h
def ase(g:Int)(p:N)(s:M)(D:Prop):Prop:=lZ (pE g p s) (cd p) (bD s/\sF (ck<|twV g p s) (0=twE g p s) (∃(h:Nat),Iz h s g/\aZ h/\g=g/\p=p/\s=s/\aR s=r6 s (aR s) g h/\cC g p=cC g p/\g=g/\au 2 (0:Int)=tV s (aR s) g h) D)<|bD s/\bS (pE g p s) (ck<|twV g p s) (pE g p s=twE g p s) (∃(x:Nat),Iz x s g/\False/\aZ x/\g=g/\p=p/\False/\au 2 (0:Int)=tV s (aR s) g x) D
def Ws(h0:Nat)(h1:M)(h:Int)(x:N):Prop:=h0<=tW h1 (aR h1) h (cC h x)/\h0<=255/\IY h1 (aR h1) h 2
def atj(g:Int)(p:N)(s:M)(D:Prop)(P:q)(i:Int):Prop:=cd p/\bS (cb g p) (ck<|twV g p s) (cb g p=twE g p s) (bD s) (bS (gD s) (ck<|twV g p s) (gD s=twE g p s) (cd p)<|(∃(k:Nat),Iz k s g/\xB g p=P/\aZ k/\g=g/\p=p/\kG s=s/\ia s=r6 s i g k/\au 2 (0:Int)=tV s i g k)/\(∀(x:Nat),Iz x s g->Dq (Zq x<2) (bD s/\Bq (gx s (r6 s i g x) g !=0) D (Rq (Zq x) (Zq 2)<|T x<(tV s i g x).length/\(∃(e:Nat),Iz e s g/\fj 2 e<fj 2 x/\P=P/\bE x e/\g=g/\p=p/\dw s (r6 s i g x) g=s/\dQ s (r6 s i g x) g=r6 s i g e/\(tV s i g x).set (T x) (Wq<|cm s (r6 s i g x) g)=tV s i g e))) ((∃(z:Nat),Ws z s g p/\P=P/\aZ (z%2)/\s=s/\r6 s i g x=l8 s i g P z/\tV s i g x=iz s i g P z/\ck (nA s i g P z))/\(∀(h:Nat),Ws h s g p->Bq (o (nA s i g P h)==255) D (Rq (Zq<|h%2) (Zq 2)<|Lj (Zq<|h%2) (iz s i g P h) (T<|h%2) P.length (lf<|nA s i g P h)<|Dq (d P (G (iz s i g P h)<|T<|h%2)>l8 s i g P h) (Bq (o (nA s i g P h++ [bM P<|G (iz s i g P h)<|T<|h%2])==255) D<|Dq (l8 s i g P h>0) D<|(2:Int)≠0/\Rq ((o<|nA s i g P h++ [bM P<|G (iz s i g P h)<|T<|h%2]).tmod 2) (Zq 2) (Lj ((o<|nA s i g P h++ [bM P<|G (iz s i g P h)<|T<|h%2]).tmod 2) (iz s i g P h) ((o<|nA s i g P h++ [bM P<|G (iz s i g P h)<|T<|h%2]).tmod 2).toNat P.length (lf<|nA s i g P h++ [bM P<|G (iz s i g P h)<|T<|h%2])<|nA s i g P h++ [bM P<|G (iz s i g P h)<|T<|h%2]++ [bM P<|G (iz s i g P h) ((o<|nA s i g P h++ [bM P<|G (iz s i g P h)<|T<|h%2]).tmod 2).toNat]=twV g p s/\0=twE g p s))<|bD s/\Rq (Zq<|h%2) (Zq 2) (T (h%2)<(iz s i g P h).length/\(∃(y:Nat),Ws y s g p/\fj 256 y<fj 256 h/\P=P/\Wq (1-Zq (h%2))=Zq (y%2)/\dw s (l8 s i g P h) (d P<|G (iz s i g P h)<|T<|h%2)=s/\dQ s (l8 s i g P h) (d P<|G (iz s i g P h)<|T<|h%2)=l8 s i g P y/\(iz s i g P h).set (T<|h%2) (Wq<|aV P (G (iz s i g P h)<|T<|h%2)+Wq (cm s (l8 s i g P h)<|d P<|G (iz s i g P h)<|T<|h%2))=iz s i g P y/\nA s i g P h++ [bM P<|G (iz s i g P h)<|T<|h%2]=nA s i g P y)))))))
def nz(h:(x !=(0:Int))=ab):x≠0:=c9
def aRV(a b:Nat):kf (a:Int) (b:Int)=((a%b:Nat):Int):=(Int.ofNat_tmod a b).symm
def sz0(h1:0<=x)(h:x<=12):1<=aG x/\aG x<=4096:=by have:=Mw x;have b:=nF (show 0<2 by omega) (show x.toNat<=12 by omega);exact⟨this,b⟩
def akW(c:q)(x:Int):(c.getD (X x) []).getD 0 0=cS c x:=rfl
def akV(c:q)(x:Int):(c.getD (X x) []).getD 1 0=cB c x:=rfl
def akU(c:q)(x:Int):(c.getD (X x) []).getD 2 0=cA c x:=rfl
def awt(a:Nat):kf (a:Int) 2=((a%2:Nat):Int):=aRV a 2
def akX{c:q}(h:RA x c):c.length<=4096:=by have:=sz0 h.g0 h.g12;rw[h.len];omega
def abb(ok:Nat->Bool):∀n,qw ok n<=n
 |0=>gL _
 |n+1=>by have:=abb ok n;grind [qw]
theorem am7(ok:Nat->Bool):∀n k,k<qw ok n->ok k=ab
 |0,k,h=>by cases h
 |n+1,k,h=>by
  have z:=am7 ok n k;have y:=abb ok n;change k<cond (ap (qw ok n) n&&ok n) (n+1) (qw ok n)at h;cases x:ap (qw ok n) n&&ok n
  ·grind
  ·rw[x]at h
   rw[bC]at x;grind [Nat.eq_of_beq_eq_true]
theorem am_(ok:Nat->Bool):∀n,qw ok n<n->ok (qw ok n)=ah
 |0,h=>by cases h
 |n+1,h=>by
  have k:=am_ ok n;have z:=abb ok n;have e:qw ok (n+1)=cond (ap (qw ok n) n&&ok n) (n+1) (qw ok n):=rfl;cases x:ap (qw ok n) n&&ok n
  ·rw[x,iw]at e
   rw[e];by_cases y:qw ok n=n
   ·rw[y]at x|-
    rw[MN,Jp]at x;exact x
   ·grind
  ·grind
def am9{ok:Nat->Bool}{n i:Nat}(h:i<n)(hi:i<=qw ok n)(x:ok i=ab):i+1<=qw ok n:=by grind [am_]
def am6{ok:Nat->Bool}{n i:Nat}(h:i<n)(hi:i<=qw ok n)(x:ok i=ah):qw ok n=i:=by
 rcases uQ i (qw ok n)with h1|h1
 .grind [am7]
 .omega
theorem ana{l:N}{i j:Nat}{x:Int}(P:Int->Prop)(h0:P 0)(y:P x)(h:∀j,P (l.getD j 0)):P ((l.set i x).getD j 0):=by
 rw[jR,Rh];split
 ·grind
 ·simp_all
def JX(h:i_ v=ah):8*((v.size:Int)-1)<=aR v/\aR v<8*v.size/\0<=aR v:=by have:=BW h;have x:0<=rh v/\rh v<256:=me v _;have:=(OH x.1 x.2).2.2;omega
def awn{l n:Int}(h:gx v l n=0):v=dw v l n/\l-n=dQ v l n/\iD v l n.toNat=cm v l n/\(ab=tS v l n)/\tv v l n=l-n:=by grind [dw,dQ,cm,tS,tv]
def aRR{l n:Int}(h:gx v l n≠0):aJ=dw v l n/\0=dQ v l n/\0=cm v l n/\(ah=tS v l n)/\l=tv v l n:=by unfold dw dQ cm tS tv;rw[V h,V h,V h,oc h];exact⟨rfl,rfl,rfl,rfl,rfl⟩
def awk{l n:Int}(h:gx v l n=0):kW v l n=0/\n<=l:=by grind [gx]
def IU(s:M)(l n:Int):0<=cm s l n/\cm s l n<2^n.toNat:=by have:=Le s l n.toNat;have:=jJ n.toNat;unfold cm;grind
def aRO(s:M)(l n:Int):cm s l n<=4294967296:=by
 by_cases h:gx s l n=0
 .have:=(PE (awk h).1).2.2;have:=IU s l n;have:(2:Int)^n.toNat<=2^32:=nQ Y;omega
 .unfold cm;rw[V h];decide
def aqf{l n:Int}(h0:0<=l)(h1:l<=aR v):0<=tv v l n/\tv v l n<=aR v:=by have:=@awk v l n;have:=@PE v l n;grind [tv]
theorem bk0(s:M):gD s=0/\i_ s=ah/\kG s=s/\ia s=aR s\/gD s=22/\i_ s=ab/\kG s=aJ/\ia s=0:=by grind [gD,kG,ia]
theorem Ez{s:M}(h:gD s=0):i_ s=ah/\True/\ia s=aR s/\kG s=s:=by grind [bk0]
theorem aRQ{s:M}{l n:Int}(h:gD s=0)(h0:0<=l)(h1:l<=aR s)(x:0<=n)(y:n<=32):(n<=l->gx s l n=0)/\(l<n->gx s l n=5):=by grind [Ez,gx,kW,mv]
theorem UM{g:Int}{p:N}{s:M}(h:cb g p=0):pE g p s=gD s:=by grind [pE]
theorem adP{g:Int}{p:N}{s:M}(h:cb g p≠0):pE g p s=cb g p:=by unfold pE;rw[oc h];rfl
def aRy(s:M)(l g:Int)(c:q)(n:Int)(h:s.size<=1000000):ahD s l g c n:=by
 have:=IU s l n;have:=aRO s l n;unfold ahD xa bS bD Wq;unfold tS tv;refine⟨h,bV (λe=>?_) λe=>?_⟩
 .rw[oc e];unfold cm;rw[V e];exact⟨rfl,rfl,rfl,rfl,rfl,rfl⟩
 .rw[wr Y Y,e];unfold dw dQ;rw[I e,I e];exact⟨rfl,rfl,rfl,rfl,rfl,rfl⟩
def aJ6:=aPo.gd ajx Tryz.func290 λ⟨g,p,s⟩ ⟨x,h,_⟩=>⟨aK,J (p:=aqt g p s<|Value.pointer Option.none=Value.pointer Option.none)<|by unfold aqt cd bD;grind [UM,adP,bk0,NO]⟩
def ajN:=m.cons aJ6<|ajx
def aRx:=agT.gE aP4 ajN Tryz.func291 λ⟨s,l,g,c,n⟩ ⟨h,_⟩=>⟨aK,J (p:=ahD s l g c n)<|aRy s l g c n h⟩
def Zw:=m.cons aRx<|ajN
def X1(s:M)(L g:Int):∀j,(tV s L g j).length=2
 |0=>rfl
 |j+1=>by have h:=X1 s L g j;show((tV s L g j).set j _).length=2;rw[Ro,h]
theorem awH{s:M}{g:Int}(h:0<=aR s):∀j,0<=r6 s (aR s) g j/\r6 s (aR s) g j<=aR s
 |0=>⟨h,jj _⟩
 |j+1=>by
  have x:=awH (g:=g) h j;exact aqf x.1 x.2
def aUl(j:Nat):([0,0]:N).getD j 0=0:=c9
def awI{s:M}{L g:Int}{c:q}(h:RA g c):∀j k,0<=(tV s L g j).getD k 0/\(tV s L g j).getD k 0<c.length
 |0,k=>by
  have:=Mw g;have y:=h.len;show 0<=([0,0]:N).getD k 0/\([0,0]:N).getD k 0<_;rw[aUl];omega
 |j+1,k=>by have e:=awI (s:=s) (L:=L) h j;have x:=IU s (r6 s L g j) g;rw[<-Gt,<-h.len]at x;have:=Mw g;have y:=h.len;exact ana (λz=>0<=z/\z<c.length) ⟨Y,Y⟩ x e
def ah5(s:M)(L g:Int)(c:q):∀i,(iz s L g c i).length=2
 |0=>X1 s L g 2
 |i+1=>by have h:=ah5 s L g c i;show((iz s L g c i).set (i%2) _).length=2;rw[Ro,h]
def ah6{s:M}{L g:Int}{c:q}(h:RA g c):∀i k,0<=(iz s L g c i).getD k 0/\(iz s L g c i).getD k 0<c.length
 |0,k=>awI h 2 k
 |i+1,k=>by have e:=ah6 (s:=s) (L:=L) h i;have y:=e<|i%2;have r:=h.a0 _ y.1 y.2;have v:=IU s (l8 s L g c i)<|cB c<|(iz s L g c i).getD (i%2) 0;have:=Mw g;have u:=h.len;exact ana (λz=>0<=z/\z<c.length) ⟨Y,Y⟩ (x:=cA c ((iz s L g c i).getD (i%2) 0)+cm s (l8 s L g c i) (cB c<|(iz s L g c i).getD (i%2) 0)) ⟨Y,Y⟩ e
theorem ah3{s:M}{g:Int}{c:q}(h:0<=aR s):∀i,0<=l8 s (aR s) g c i/\l8 s (aR s) g c i<=aR s
 |0=>awH h 2
 |i+1=>by
  have x:=ah3 (g:=g) (c:=c) h i;exact aqf x.1 x.2
def X4(s:M)(L g:Int)(c:q)(i:Nat):nA s L g c (i+1)=nA s L g c i++ [cS c<|yr s L g c i i]:=by grind [nA,GY]
theorem ah4(s:M)(L g:Int)(c:q)(i:Nat):(nA s L g c i).length=i:=by grind [nA]
def X6(s:M)(L g:Int)(c:q)(i j:Nat):(iz s L g c i).getD (j%2) 0=yr s L g c i j:=rfl
def one_sub(i:Nat):Q bW ((1:Int)- ((i%2:Nat):Int))=(((i+1)%2:Nat):Int):=by grind [wr]
def ap9{b:Bool}(h:(!b)=ab):b=ah:=by simpa using h
def ap8{b:Bool}(h:(!b)=ah):b=ab:=by simpa using h
def X7{e:Int}(h:twE x y v=e)(s:e≠0):(twV x y v).length=0/\e=twE x y v:=by grind [twV]
theorem X2{g:Int}{p:N}{s:M}(h:pE g p s≠0):twE g p s=pE g p s:=by grind [twE]
theorem ah2{g:Int}{p:N}{s:M}(h:pE g p s=0):twE g p s=cond (AT g p s) 21 0:=by grind [twE]
def Gw(h:pE x y v=0)(hB:AT x y v=ab):(twV x y v).length=0/\(21:Int)=twE x y v:=by refine X7 ?_ H;grind [ah2]
def awK{j:Nat}(s:j<2)(h:Cz v (aR v) x j=ah):AT x y v=ab:=by grind [AT]
theorem QQ{g:Int}{p:N}{s:M}(h:253<tW s (aR s) g (cC g p)):AT g p s=ab:=by
 grind [AT]
def awJ(h:0<l8 v (aR v) x (cC x y) (tW v (aR v) x<|cC x y)):AT x y v=ab:=by unfold AT;rw[jS h,uY]
def awL(z:pE x y v=0)(h:IY v (aR v) x 2)(s:¬253<tW v (aR v) x (cC x y))(g:¬0<l8 v (aR v) x (cC x y) (tW v (aR v) x<|cC x y)):QR x y v=twV x y v/\(0:Int)=twE x y v:=by
 have hB:AT x y v=ah:=by
  unfold AT;rw[h.2 0 Y,h.2 1 Y,iW s,iW g];rfl
 grind [ah2,twV]
def aLV:=auq.gd Zw Tryz.func260 λ⟨g,p,s⟩ ⟨q,a,_⟩=>⟨(oTw s (aR s) g p<|cC g p),J (p:=ase g p s<|aq3 s (aR s) g (twV g p s).length (twE g p s) (Zq 2) p (cC g p) (tW s (aR s) g<|cC g p) (cC g p).length<|twV g p s)<|by
 unfold ase cd Iz sF aeM aZ lZ ck bS aq3 aq2 art o bE G aeu bD lf Lj Dq Bq Cq Rq Wq Zq;simp only[awt,one_sub,toNat_cast,akW,akV,akU,X6,gn,rG,ah4,X1,ah5];refine⟨λx=>⟨q,a,λr=>by simp at r,λ_=>?_⟩,λx=>⟨q,a,λr=>X7 (X2 x) x,λr=>absurd (pW r) x⟩⟩;have B:cb g p=0:=by
  rcases Classical.em (cb g p=0)with h|h
  .exact h
  .exact absurd (adP (s:=s) h▸x) h
 have K:gD s=0:=by rw[<-UM (p:=p) B];exact x
 have u:=aaz B;obtain⟨R,k2,k3,k4⟩:=Ez K;have I:=(JX R).2.2;have W:=akX u;have g12:=u.g12;refine⟨⟨0,⟨Y,λk P=>by omega⟩,A,A,A,A,rfl,A,A,rfl⟩,λj ⟨X,C⟩=>⟨λw=>⟨a,λz=>?_,λz=>?_⟩,λM=>?_⟩⟩
 .have w:j<2:=by simp only[dJ]at w;omega
  exact Gw x<|awK w<|ap9 z
 .have w:j<2:=by simp only[dJ]at w;omega
  have z:Cz s (aR s) g j=ab:=ap8 z;refine⟨Y,Y,Y,j+1,⟨Y,λk P=>?_⟩,by rw[r_,r_];omega,wJ Y,A,A,A,rfl,A,A,rfl⟩;by_cases d:k=j
  .rw[d];exact z
  .exact C k Y
 .have N:j=2:=by simp only[dH]at M;omega
  subst N;refine⟨⟨0,⟨dx _,Y,⟨Y,C⟩⟩,A,A,rfl,A,A,rfl,A⟩,λi ⟨l,E,t⟩=>?_⟩;have D:=ah6 (s:=s) (L:=aR s) u i;have e:=D<|i%2;have m:=D<|(i+1)%2;rw[X6]at e m;have V:=u.b0 _ e.1 e.2;have U:=u.a0 _ e.1 e.2;have Z:=ah3 (g:=g) (c:=cC g p) I i;have hv:=IU s (l8 s (aR s) g (cC g p) i)<|cB (cC g p)<|yr s (aR s) g (cC g p) i i;refine⟨H,Y,Y,Y,e.1,e.2,Y,a,λz=>?_,λz=>?_⟩
  .have v:Gv s (aR s) g (cC g p) i=ah:=ap9 z
   have b:tW s (aR s) g (cC g p)=i:=am6 Y l v;have Q:tv s (l8 s (aR s) g (cC g p) i) (cB (cC g p)<|yr s (aR s) g (cC g p) i i)=l8 s (aR s) g (cC g p) i:=by
    refine(aRR ?_).2.2.2.2.symm;unfold Gv tS at v;simpa using v
   rw[Q];refine⟨H,Y,Y,Y,m.1,m.2,Y,λy=>?_,λy=>⟨λf=>?_,λf=>?_⟩⟩
   .refine Gw x (QQ ?_)
    simp only[kC,dJ]at y;omega
   ·refine Gw x (awJ ?_)
    rw[b];simpa using f
   ·obtain⟨S,T⟩:=awL x t (by simp only[kC,dH]at y;omega) (by rw[b];simpa using f)
    refine⟨?_,T⟩;rw[<-S];unfold QR;rw[b,X4]
  ·have v:Gv s (aR s) g (cC g p) i=ab:=ap8 z
   have F:i+1<=tW s (aR s) g (cC g p):=am9 Y l v;have n:decide (((i+1:Nat):Int)>(255:Int))=ab->(twV g p s).length=0/\(21:Int)=twE g p s:=fun y=>Gw x (QQ (by simp only[kC,dJ]at y;omega));refine⟨H,Y,Y,Y,fun y=>⟨fun _=>n y,fun r=>absurd y (by rw[r];decide)⟩,fun y=>⟨i+1,⟨F,?_,t⟩,by rw[r_,r_];omega,wJ Y,A,rfl,A,A,?_,(X4 _ _ _ _ _).symm⟩⟩
   ·simp only[kC,dH]at y
    omega
   ·rw[wr Y Y]
    rfl⟩
def aNv:=auq.gd Zw Tryz.func241 λ⟨g,p,s⟩ ⟨M,D,_⟩=>⟨(aIN s (aR s) g p<|cC g p),J (p:=atj g p s (ck (twV g p s)/\21=twE g p s) (cC g p)<|aR s)<|by
 unfold atj o G cd Iz Ws bE aeM aV T aZ ck bS d bM bD lf Lj Dq Bq Rq Wq Zq;simp only[awt,one_sub,toNat_cast,akW,akV,akU,X6,gn,rG,ah4,X1,ah5];refine⟨M,λh=>?_,λh=>⟨D,λx=>?_,λx=>?_⟩⟩
 .have e:=adP (s:=s)<|nz h
  have:=X2 (g:=g) (p:=p) (s:=s) (by rw[e];exact nz h);rw[e]at this;exact X7 this (nz h)
 ·have e:=UM (s:=s) (pW h)
  have:=X2 (g:=g) (p:=p) (s:=s) (by rw[e];exact nz x);rw[e]at this;exact X7 this (nz x)
 have t:=pW h;have x:=pW x;have v:pE g p s=0:=by rw[UM t];exact x
 have r:=aaz t;obtain⟨k1,k2,k3,k4⟩:=Ez x;have Z:=(JX k1).2.2;have yY:=akX r;have g12:=r.g12;have g0:=r.g0;refine⟨M,⟨0,⟨Y,fun k hk=>by omega⟩,NO t,A,A,A,k4,k3,rfl⟩,fun j ⟨hj,R⟩=>⟨fun u=>⟨D,fun q=>?_,fun q=>?_⟩,fun bA=>?_⟩⟩
 ·have u:j<2:=by simp only[dJ]at u;omega
  refine Gw v (awK u ?_);unfold Cz tS;exact ne0 q
 ·have u:j<2:=by simp only[dJ]at u;omega
  have w:=pW q;obtain⟨F,I,v3,v4,K⟩:=awn w;have U:=IU s (r6 s (aR s) g j) g;have hz:=sz0 g0 g12;rw[<-Gt]at U;refine⟨Y,Y,Y,j+1,⟨Y,fun k hk=>?_⟩,by rw[r_,r_];omega,A,wJ Y,A,A,F.symm,by rw[<-I];exact K.symm,?_⟩
  ·by_cases B:k=j
   ·rw[B]
    unfold Cz tS;exact Z3 w
   ·exact R k Y
  ·rw[wr Y Y]
   rfl
 ·have HH:j=2:=by simp only[dH]at bA;omega
  subst HH;refine⟨⟨0,⟨dx _,Y,⟨Y,R⟩⟩,A,A,A,rfl,rfl,A⟩,fun i ⟨P,W,N⟩=>⟨fun a=>?_,fun a=>?_⟩⟩
  ·refine Gw v (QQ ?_)
   simp only[wx]at a;omega
  have a:i≠255:=by simp only[wo,ne_eq]at a;omega
  have V:=ah6 (s:=s) (L:=aR s) r i;have z:=V (i%2);have E:=V ((i+1)%2);rw[X6]at z E;have qy:=r.b0 _ z.1 z.2;have ha:=r.a0 _ z.1 z.2;have S:=ah3 (g:=g) (c:=cC g p) Z i;have U:=IU s (l8 s (aR s) g (cC g p) i) (cB (cC g p) (yr s (aR s) g (cC g p) i i));obtain⟨t1,t2⟩:=aRQ (n:=cB (cC g p) (yr s (aR s) g (cC g p) i i)) x S.1 S.2 qy.1 Y;refine⟨Y,Y,Y,z.1,z.2,Y,fun l=>?_,fun y=>?_⟩
  ·have l:l8 s (aR s) g (cC g p) i<cB (cC g p) (yr s (aR s) g (cC g p) i i):=by simpa using l
   have m:Gv s (aR s) g (cC g p) i=ah:=by
    unfold Gv tS;rw[t2 l];rfl
   have f:tW s (aR s) g (cC g p)=i:=am6 Y P m;refine⟨fun b=>Gw v (QQ ?_),fun b=>⟨fun C=>Gw v (awJ ?_),fun C=>⟨H,Y,Y,Y,E.1,E.2,Y,?_⟩⟩⟩
   ·simp only[wx]at b
    omega
   ·rw[f]
    simpa using C
   ·obtain⟨r1,r2⟩:=awL v N (by simp only[wo,ne_eq]at b;omega) (by rw[f];simpa using C)
    refine⟨?_,r2⟩;rw[<-r1];unfold QR;rw[f,X4]
  ·have y:cB (cC g p) (yr s (aR s) g (cC g p) i i)<=l8 s (aR s) g (cC g p) i:=by simpa using y
   have w:=t1 y;have m:Gv s (aR s) g (cC g p) i=ab:=by
    unfold Gv tS;exact Z3 w
   have X:i+1<=tW s (aR s) g (cC g p):=am9 Y P m;obtain⟨F,I,v3,v4,K⟩:=awn w;refine⟨D,Y,Y,Y,i+1,⟨X,Y,N⟩,by rw[r_,r_];omega,A,A,F.symm,by rw[<-I];exact K.symm,?_,(X4 _ _ _ _ _).symm⟩;rw[show Q bW (cm s (l8 s (aR s) g (cC g p) i) (cB (cC g p) (yr s (aR s) g (cC g p) i i)))=cm s (l8 s (aR s) g (cC g p) i) (cB (cC g p) (yr s (aR s) g (cC g p) i i))from wr Y Y,wr Y Y];rfl⟩
def Em:=m.cons aLV<| .cons aNv<|Zw
def ov(x:Int):Bool:=decide (0<=x)&&decide (x<=11)
def nC(x:Int):Int:=if 0<x then 2^(x-1).toNat else 0
def cF(l:N):Int:=(l.map nC).sum
def pc(l:N):Nat:=(l.filter λx=>x !=0).length
def wM(l:N):Int:=aS (cF l)+1
def jQ(l:N):Int:=2^(wM l).toNat-cF l
def AV(l:N):Bool:=cF l==0||decide (11<wM l)||jQ l !=2^(aS<|jQ l).toNat
def impE(l:N):Int:=if l.length<1\/255<l.length then 4 else if l.all ov=ab then(if AV l=ab then 21 else 0)else 2
def jY(l:N):Int:=if impE l=0 then aS (jQ l)+1 else 0
def iS(l:N):Int:=if impE l=0 then wM l else 0
def Gm(l:N):Int:=if AV l=ab then 0 else aS (jQ l)+1
def Mi(l:N):Int:=if AV l=ab then 0 else wM l
def qO(m x:Int):Int:=if x=0 then 0 else m+1-x
def qa(l:N):N:=if impE l=0 then(l++ [jY l]).map (qO<|iS l)else []
def Ft(s:M)(a:Int)(i:Nat):Int:=if i%2=0 then u s (a+1+(i/2:Nat))/16 else u s (a+1+(i/2:Nat))%16
def rT(s:M)(a:Int)(n:Nat):N:=(fM n).map<|Ft s a
def gT(s:M)(a:Int):Int:=u s a-127
def rdWE(s:M)(a:Int):Int×Int:=if a<0\/(s.size:Int)<a then(2,0)else if a=s.size then(5,a)else if gT s a<1 then(21,a)else if(s.size:Int)- (a+1)<(gT s a+1)/2 then(5,s.size)else if impE (rT s a (gT s a).toNat)=0 then(0,0)else(21,a)
def rdWL(s:M)(a:Int):N:=if(rdWE s a).1=0 then rT s a (gT s a).toNat else []
def rdWN(s:M)(a:Int):Int:=if(rdWE s a).1=0 then a+1+(gT s a+1)/2 else 0
def lI(l:N)(i:Nat):Prop:=i<=l.length
def lA(l:N)(i:Nat):Prop:=i<=l.length/\(l.take i).all ov=ab
def sV(l:N)(m:Int)(i:Nat):N:=(l.take i).map (qO m)++au (l.length-i) 0
def dG(s:M)(a:Int):Prop:=0<=a/\a<s.size/\1<=gT s a/\(gT s a+1)/2<=(s.size:Int)- (a+1)
def aQe:Spec:=Sp Int [.i] λx=>([E<|1<=x,E<|x<=11],aE<|B<|nC x)
def aQg:Spec:=Sp (N) [.l] λl=>([E<|l.length<=1000],.ite (E<|l.all ov=ab) (aE<|.tu [B (pc l:Nat),fN ab])<|aE<|.tu [B 0,fN ah])
def ag2:Spec where
 ι:=N
 dec l H:=match l with
  | [.bZ<|.ints .i64 l,.fn (.func 263) [] []]=>O (l,[])
  |_=>ae
 args:=λl=>[dm l,.fn (.func 263) [] []]
 pre:=λl=>[E<|l.length<=255,E<|l.all ov=ab]
 out:=λl=>.leaf (B<|cF l) []
def aQk:ag2.dn:=λl H n i x h=>by simp only[ag2]at h;split at h<;>cases h;exact⟨rfl,rfl⟩
def auT:Spec:=Sp (N) [.l] λl=>([E<|l.length<=1000],aE<|.tu [B<|jY l,B<|iS l,B<|impE l])
def aQj:Spec:=Sp (N) [.l] λl=>([E<|1<=l.length,E<|l.length<=255,E<|l.all ov=ab],aE<|.tu [B<|Gm l,B<|Mi l])
def auU:Spec:=Sp (N) [.l] λl=>([E<|l.length<=1000],aE<|B<|impE l)
def aQl:Spec:=Sp (N×Int) [.l,.i] λ(l,m)=>([E<|1<=l.length,E<|l.length<=256,E<|0<=m,E<|m<=11,E<|l.all ov=ab],aE<|dm<|l.map<|qO m)
def auS:Spec:=Sp (N) [.l] λl=>([E<|l.length<=1000],aE<|.tu [dm<|qa l,B<|impE l])
def Q5(k:Nat)(s:M)(a:Int)(l:SV):Nat×bm:=(k,.cells 330 [.v<|.string s,.v<|.int .i64 a,l])
def agX:Spec where
 ι:=M×Int
 dec l H:=match l with
  | [.p l0 0 0]=>match H l0 with
    |some (.cells 330 [.v<|.string s,.v<|.int .i64 a,.v<|.slice ae 0 0])=>O ((s,a),[l0])
    |_=>ae
  |_=>ae
 args:=λ(s,a)=>[U 0]
 hp:=λ(s,a)=>[(0,.cells 330 [aD s,B a,.v<|.slice ae 0 0])]
 pre:=λ(s,a)=>[E<|s.size<=1000000,E<|0<=a,E<|a<=1000000]
 out:=λ(s,a)=>.leaf (B<|s.size-a) [Q5 0 s a<|.v<|.slice ae 0 0]
def aQd:agX.dn:=by
 intro l H n i x h;simp only[agX]at h
 repeat' split at h
 all_goals first|(cases h;done)|(cases h;exact⟨rfl,rfl⟩)|(cases h;refine⟨rfl,?_⟩;simp only[dK,iF,iN,gN, *];rfl)
def ag0:Spec where
 ι:=M×Int
 dec l H:=match l with
  | [.p l0 0 0]=>match H l0 with
    |some (.cells 330 [.v<|.string s,.v<|.int .i64 a,.v<|.slice ae 0 0])=>O ((s,a),[l0])
    |_=>ae
  |_=>ae
 args:=λ(s,a)=>[U 0]
 hp:=λ(s,a)=>[(0,.cells 330 [aD s,B a,.v<|.slice ae 0 0])]
 pre:=λ(s,a)=>[E<|s.size<=1000000,E<|0<=a,E<|a<s.size]
 out:=λ(s,a)=>.leaf (B<|u s a) [Q5 0 s (a+1)<|.v<|.slice ae 0 0]
def aQh:ag0.dn:=by
 intro l H n i x h;simp only[ag0]at h
 repeat' split at h
 all_goals first|(cases h;done)|(cases h;exact⟨rfl,rfl⟩)|(cases h;refine⟨rfl,?_⟩;simp only[dK,iF,iN,gN, *];rfl)
def ag1:Spec where
 ι:=M×Int×N
 own:=ab
 dec l H:=match l with
  | [.p l0 0 0]=>match H l0 with
    |some (.cells 330 [.v<|.string s,.v<|.int .i64 a,.o l1])=>match H l1 with
     |some (.row 3<|.ints .i64 l)=>O ((s,a,l),[l0,l1])
     |_=>ae
    |_=>ae
  |_=>ae
 args:=λ(s,a,l)=>[U 0]
 hp:=λ(s,a,l)=>[(0,.cells 330 [aD s,B a,.o 1]),(1,.row 3<|.ints .i64 l)]
 pre:=λ(s,a,l)=>[E<|s.size<=1000000,E<|0<=a,E<|a<s.size]
 out:=λ(s,a,l)=>.leaf (B<|u s a) [Q5 0 s (a+1)<|.o 1,(1,.row 3<|.ints .i64 l)]
def aQi:ag1.dn:=by
 intro l H n i x h;simp only[ag1]at h
 repeat' split at h
 all_goals first|(cases h;done)|(cases h;exact⟨rfl,rfl⟩)|(cases h;refine⟨rfl,?_⟩;simp only[dK,iF,iN,gN, *];rfl)
def agY:Spec where
 ι:=M×Int×N×Int
 own:=ab
 dec l H:=match l with
  | [.p l0 0 0,.v<|.int .i64 n]=>match H l0 with
    |some (.cells 330 [.v<|.string s,.v<|.int .i64 a,.o l1])=>match H l1 with
     |some (.row 3<|.ints .i64 l)=>O ((s,a,l,n),[l0,l1])
     |_=>ae
    |_=>ae
  |_=>ae
 args:=λ(s,a,l,n)=>[U 0,B n]
 hp:=λ(s,a,l,n)=>[(0,.cells 330 [aD s,B a,.o 1]),(1,.row 3<|.ints .i64 l)]
 pre:=λ(s,a,l,n)=>[E<|s.size<=1000000,E<|0<=a,E<|a<s.size,E<|l.length<=1000]
 out:=λ(s,a,l,n)=>.leaf (.tu []) [Q5 0 s (a+1)<|.o 2000,(2000,.row 3<|.ints .i64<|l++u s a/16::cond (decide (n>1)) [u s a%16] [])]
def aQf:agY.dn:=by
 intro l H n i x h;simp only[agY]at h
 repeat' split at h
 all_goals first|(cases h;done)|(cases h;exact⟨rfl,rfl⟩)|(cases h;refine⟨rfl,?_⟩;simp only[dK,iF,iN,gN, *];rfl)
def auR:Spec:=Sp (M×Int) [.s,.i] λ(s,a)=>([E<|s.size<=1000000],aE<|.tu [dm<|rdWL s a,B<|rdWN s a,.ag [.v<|.int .i64 (rdWE s a).1,.v<|.int .i64 (rdWE s a).2]])
def aJa(l:N):bO:=dX [(0,.one<|bi Nat λi=>(lA l i,[(2,B (pc (l.take i):Nat)),(6,dm l),(7,B (l.length:Nat)),(8,cP i)],[],l.length-i))]
def aJe(l:N):bO:=dX [(0,.one<|bi Nat λi=>(lI l i,[(1,.fn (.func 263) [] []),(4,B<|cF<|l.take i),(7,dm l),(8,B (l.length:Nat)),(9,cP i)],[],l.length-i))]
def aJc(l:N):bO:=dX [(0,.one<|bi Nat λi=>(lI l i,[(0,dm l),(4,B<|cF<|l.take i),(5,cP i)],[],l.length-i))]
def aJd(l:N):bO:=dX [(0,.one<|bi Nat λi=>(lA l i/\1<=l.length/\l.length<=255,[(0,dm l),(3,cP i)],[],l.length-i))]
def aJf(l:N)(m:Int):bO:=dX [(0,.one<|bi Nat λi=>(lI l i,[(1,B m),(6,.o 1000),(14,dm l),(15,B (l.length:Nat)),(16,cP i)],[(1000,.row 3<|.ints .i64<|sV l m i)],l.length-i))]
def aJb(l:N):bO:=dX [(0,.one<|bi Nat λi=>(lI l i/\impE l=0,[(0,dm l),(4,B<|jY l),(5,B<|iS l),(7,.o 1000),(8,cP i)],[(1000,.row 3<|.ints .i64<|(l.take i).map<|qO<|iS l)],l.length-i))]
def aI_(s:M)(a:Int):bO:=dX [(0,.one<|bi Nat λj=>(dG s a/\2*j<=(gT s a).toNat+1,[(0,aD s),(1,B a),(6,U 1001),(7,U 1000),(8,B<|gT s a)],[Q5 1000 s (a+1+(j:Nat))<|.o 1002,(1001,yl),(1002,.row 3<|.ints .i64<|rT s a<|min (2*j) (gT s a).toNat)],(gT s a).toNat+1-j))]
def aI'(s:M)(a:Int):bO:=dX [(0,.one<|bi Nat λi=>(dG s a/\i<=(gT s a).toNat,[(0,aD s),(1,B a),(6,U 1001),(7,B<|gT s a),(8,B<|a+1+(gT s a+1)/2),(9,.o 1002),(10,cP i)],[(1001,yl),(1002,.row 3<|.ints .i64<|rT s a i)],(gT s a).toNat-i))]
def aw6(x:Int):Prop:=
 0<=Uq (Wq<|x-1)/\Wq ((1:Int)*2^min (X<|Uq<|Wq<|x-1) (cZ .i64))=nC x
def AJ(h0:N):Prop:=h0.all ov=ab
def tJ:Prop:=ah=ab
def Qh(h0:Nat)(h1:N):Prop:=jc h0 h1/\AJ (aC h0 h1)
def aw9(l:N)(D:Prop):Prop:=(∃(y:Nat),Qh y l/\aZ (pc<|aC y l)/\tI l (aZ y))/\(∀(x1:Nat),Qh x1 l->Dq (Zq x1<o l) (Rq (Zq x1) (o l)<|Dq (b_ l x1<0) D<|Dq (b_ l x1>11) D<|Bq (b_ l x1 !=0) (∃(h:Nat),Qh h l/\gS l h x1/\ay (Zq<|pc<|aC x1 l)=Zq (pc<|aC h l)/\tI l (bE x1 h))<|∃(x:Nat),Qh x l/\gS l x x1/\fC (pc<|aC x1 l) (pc<|aC x l)/\tI l (bE x1 x)) (Cq (AJ l) (fC (pc<|aC x1 l) (pc l)/\ab=ab)<|Zq (pc<|aC x1 l)=0/\ab=ah))
def atO(l:N)(D:Prop):Prop:=(∃(h:Nat),iT h l/\l=l/\0=cF (aC h l)/\aZ h)/\(∀(x1:Nat),iT x1 l->kX (Zq x1) (o l) (Dq (b_ l x1>0) (o8 x1 l (fU<|bF<|b_ l x1)<|∃(x:Nat),AL x l x1 (Wq<|cF (aC x1 l)+fG (bF<|b_ l x1))<|cF<|aC x l)<|∃(y:Nat),AL y l x1 (cF<|aC x1 l)<|cF<|aC y l) (cF (aC x1 l)<=9223372036854775807) (Bq (cF (aC x1 l)==0) D<|Dq (aS (cF<|aC x1 l)+1>11) D<|fU (aS (cF<|aC x1 l)+1)/\Wq (fG (aS (cF<|aC x1 l)+1)-cF (aC x1 l))<=9223372036854775807/\fU (aS<|Wq<|fG (aS (cF<|aC x1 l)+1)-cF (aC x1 l))/\Bq (Wq (fG (aS (cF<|aC x1 l)+1)-cF (aC x1 l)) !=fG (aS<|Wq<|fG (aS (cF<|aC x1 l)+1)-cF (aC x1 l))) D (ay (aS<|Wq<|fG (aS (cF<|aC x1 l)+1)-cF (aC x1 l))=Gm l/\aS (cF<|aC x1 l)+1=Mi l)))
def axb(l:N)(m D:Int):Prop:=a_/\aF D (D<=D) (0<D/\D<=Zq 256/\(256:Nat)=256/\(256:Nat)<=4294967296/\(∃(h:Nat),iT h l/\m=m/\lG l D (aZ h) (aC D.toNat (iI 0<|au 256 (0:Int))=sV l m h))/\(∀(x1:Nat),iT x1 l->Dq (Zq x1<D) (Rq (Zq x1) D<|Bq (b_ l x1 !=0) (o8 x1 (sV l m x1) (T x1<(sV l m x1).length)<|∃(x:Nat),rl x l x1 (m=m)<|lG l D (bE x1 x)<|(sV l m x1).set (T x1) (Wq<|ay m-b_ l x1)=sV l m x)<|∃(y:Nat),rl y l x1 (m=m)<|lG l D (bE x1 y)<|sV l m x1=sV l m y) (sV l m x1=ma (qO m) l)))
def aw5(s:M)(a:Int):Prop:=
 Wq (Zq (s.size)-a)=Zq (s.size)-a/\s=s/\a=a/\Jq (Value.slice ae 0 (0:Nat))
def aio(s:M)(a:Int):Prop:=
 Rq (Wq<|Wq (a+1)-1) (Zq<|s.size)
<|Wq (Zq<|Yq s<|X<|Wq<|Wq (a+1)-1)=u s a/\s=s/\Wq (a+1)=a+1/\Jq (Value.slice ae 0 (0:Nat))
def aip(s:M)(a:Int)(l:N):Prop:=Rq (bF<|ay a) (ak s)<|l6 s (b5<|ay a-1)=u s a/\s=s/\ay a=a+1/\l=l
def Wy(h0:N)(h1:Nat):Prop:=lA h0 h1/\1<=h0.length/\h0.length<=255
def aw8(s:M)(a:Int)(l:N)(n:Int)(D P:N):Prop:=bD s/\Rq a (ak s) ((0:Int)<=4/\lf l/\Dq (n>1) (lf P/\s=s/\Jq (a+1)/\P++ [bits .and .i64 (u s a) 15]=D) (s=s/\Jq (a+1)/\P=D))
def sH(h0:N):Prop:=h0.length<=1000
def Wd(h0:Bool)(h1:N)(h:Int)(x y:Prop):Prop:=Bq (!h0) (0=jY h1/\0=iS h1/\2=impE h1)<|h1.length<=255/\AJ h1/\h<=9223372036854775807/\x/\y
def air(l:N)(D P:Prop):Prop:=Dq (o l<1) (0=jY l/\0=iS l/\4=impE l)<|Dq (o l>255) (0=jY l/\0=iS l/\4=impE l)<|pG (l.all ov) (sH l) (Wd ab l (cF l) (fU<|uZ (aS (cF l)+1) (0:Int))<|Bq (Zq (pc l)==0) P D)<|Wd ah l (cF l) (fU<|uZ (aS (cF l)+1) (0:Int))<|Bq ((0:Int)==0) P D
def aiq(l:N):Prop:=air l (Dq (aS (cF l)+1>11) (0=jY l/\0=iS l/\21=impE l)<|Dq (Wq (fG (uZ (aS (cF l)+1) (0:Int))-cF l)<1) (0=jY l/\0=iS l/\21=impE l)<|bS (bits .and .i64 (Wq<|fG (uZ (aS (cF l)+1) (0:Int))-cF l) (bF<|Wq<|fG (uZ (aS (cF l)+1) (0:Int))-cF l)) (0=jY l) (0=iS l/\21=impE l) (Wq (fG (uZ (aS (cF l)+1) (0:Int))-cF l)<=9223372036854775807)<|aS (Wq<|fG (uZ (aS (cF l)+1) (0:Int))-cF l)+1=jY l/\aS (cF l)+1=iS l/\0=impE l)<|0=jY l/\0=iS l/\21=impE l
def atN(l:N):Prop:=
 l.length<=1000/\
 Bq (impE l !=0) (0=jY l/\0=iS l/\impE l=impE l)
 (1<=l.length/\l.length<=255/\List.all l ov=ab/\Gm l=jY l/\Mi l=iS l/\0=impE l)
def Lm(h0:N)(h1:Nat)(h x:Prop)(y:N)(z e:Prop):Prop:=Bq (impE h0 !=0) (h1=0/\h/\x)<|h0=y/\z/\e
def arp(h0:M)(h1:Int)(z:Nat)(x:Int)(y:Nat)(e:Int)(k:N):Prop:=∃(h:Nat),(dG h0 h1/\h<=z)/\qh x h y/\h0=h0/\h1=h1/\aw x (Jq e) (bE y h/\ca (k=rT h0 h1 h))
def Cd(h0:M)(h1:Int)(h:Prop):Prop:=ck (rdWL h0 h1)/\0=rdWN h0 h1/\h
def zy(h0:Int×Int)(h1:Int):Prop:=5=h0.1/\h1=h0.2
def zz(h0:Int×Int)(h1:Int):Prop:=21=h0.1/\h1=h0.2
def DN(h0:Int×Int)(h1:M):Prop:=5=h0.1/\ak h1=h0.2
def afv(h0:M)(h1:Int)(h:Nat)(x y:Int):Prop:=lf (rT h0 h1 h)/\arp h0 h1 (gT h0 h1).toNat (gT h0 h1) h (h1+1+x/2) (rT h0 h1 h++ [y])
def atM(s:M)(a D:Int):Prop:=nS a (ck<|rdWL s a) (0=rdWN s a/\ig (rdWE s a)) (ak s) (Cd s a<|ig<|rdWE s a)<|Bq (a==ak s) (Cd s a<|zy (rdWE s a) a)<|Rq a (ak s)<|Dq (Wq (l6 s a.toNat-127)<1) (Cd s a<|zz (rdWE s a) a)<|(2:Int)≠0/\Dq (D>ak s) (Cd s a<|DN (rdWE s a) s) ((∃(h:Nat),(dG s a/\h<=(gT s a).toNat)/\fV s a (Wq (l6 s a.toNat-127)=gT s a) (D=a+1+(gT s a+1)/2/\aZ h/\ca (ck<|rT s a h)))/\(∀(x1:Nat),dG s a/\x1<=(gT s a).toNat->Dq (Zq x1<gT s a) ((2:Int)≠0/\Rq (Wq<|ay a+Wq ((Zq x1).tdiv 2)) (ak s) ((2:Int)≠0/\Bq ((Zq x1).tmod 2==0) ((0:Int)<=4/\afv s a x1 (gT s a+1) ((l6 s<|b5<|ay a+Wq ((Zq x1).tdiv 2)).fdiv<|gH (X 4) IntKind.i64.bits)) (afv s a x1 (gT s a+1)<|bits .and .i64 (l6 s<|b5<|ay a+Wq ((Zq x1).tdiv 2)) 15))) (sH (rT s a x1)/\Lm (rT s a x1) (rdWL s a).length (0=rdWN s a) (zz (rdWE s a) a) (rdWL s a) (a+1+(gT s a+1)/2=rdWN s a) (dO<|rdWE s a))))
def axa(l:N):Prop:=
 l.length<=1000/\impE l=impE l
def aw_(l:N)(D:Nat)(P:N):Prop:=sH l/\bS (impE l) (ck<|qa l) (impE l=impE l) ((0:Int)<=0) (aF (o l) (o l<=o l)<|aw (o l) (lf<|Cc (o l).toNat bY l)<|1<=D/\D<=256/\aF (iS l) (iS l<=11) (AJ P/\ma (qO<|iS l) P=qa l/\0=impE l))
def Ce(h0:N)(h1:Nat):N:=ma (qO<|iS h0)<|aC h1 h0
def DL(h0:M)(h1:Int)(h:Nat):N:=rT h0 h1<|aB (2*h) (gT h0 h1).toNat
def aw7(s:M)(a:Int)(D:Nat):Prop:=nS a (ck<|rdWL s a) (0=rdWN s a/\ig (rdWE s a)) (ak s) (Cd s a<|ig<|rdWE s a)<|bD s/\aF a (a<=1000000) (Bq (ak s-a==0) (Cd s a<|DN (rdWE s a) s)<|bD s/\Rq a (ak s) (Dq (Wq (u s a-127)<1) (Cd s a<|zz (rdWE s a) a)<|bD s/\aF (a+1) (a+1<=1000000) ((2:Int)≠0/\Dq (ak s- (a+1)<Wq ((oY<|u s a-127).tdiv 2)) (Cd s a<|DN (rdWE s a) s) ((∃(x:Nat),(dG s a/\2*x<=D)/\fV s a (Wq (u s a-127)=gT s a) (s=s/\a+1=a+1+Zq x/\ca (ck<|DL s a x)))/\(∀(x1:Nat),dG s a/\2*x1<=D->Dq (o (DL s a x1)<gT s a) (bD s/\Rq (a+1+Zq x1) (ak s) (sH (DL s a x1)/\(∃(h:Nat),(dG s a/\2*h<=D)/\cl D h x1/\s=s/\a=a/\aw (gT s a) (s=s) (a+1+Zq x1+1=a+1+Zq h/\ca (DL s a x1++u s (a+1+Zq x1)/16::(bif decide (Wq (gT s a-o (DL s a x1))>1)then [u s (a+1+Zq x1)%16]else([]:N))=DL s a h))))) (sH (DL s a x1)/\Lm (DL s a x1) (rdWL s a).length (0=rdWN s a) (zz (rdWE s a) a) (rdWL s a) (a+1+Zq x1=rdWN s a) (dO<|rdWE s a)))))))
section
variable{l:N}{s:M}{a m:Int}
def aSE:∀k:Fin 12,0<=nC (k.val:Int)/\nC (k.val:Int)<=1024/\(k.val≠0->0<nC (k.val:Int)/\Q .u64 (Q .i64<|(k.val:Int)-1)=(k.val:Int)-1/\Q .i64 ((1:Int)*2^min (X<|(k.val:Int)-1) (cZ .i64))=nC (k.val:Int)):=by decide+kernel
def Q3(h0:0<=x)(h1:x<=11):0<=nC x/\nC x<=1024/\(x≠0->0<nC x/\Q .u64 (Q .i64<|x-1)=x-1/\Q .i64 ((1:Int)*2^min (X<|x-1) (cZ .i64))=nC x):=by obtain⟨n,rfl⟩:=pP h0;have:=aSE ⟨n,Y⟩;grind
def I5:ov x=ab↔0<=x/\x<=11:=by grind [ov]
def Bd(h:l.all ov=ab){i:Nat}(hi:i<l.length):0<=l.getD i 0/\l.getD i 0<=11:=I5.1<|List.all_eq_true.1 h _<|yW hi
def aw4{i:Nat}(h:i<l.length):cF (l.take<|i+1)=cF (l.take i)+nC (l.getD i 0):=by grind [cF,take_succ]
def Q6:∀{l:N},l.all ov=ab->0<=cF l/\cF l<=1024*l.length
 | [],_=>by decide
 |x::r,h=>by simp only[uR,bC]at h;have:=Q6 h.2;have:=Q3 (I5.1 h.1).1 (I5.1 h.1).2;grind [cF]
def azc(h:l.all ov=ab)(i:Nat):(l.take i).all ov=ab:=List.all_eq_true.2 λx y=>List.all_eq_true.1 h x<|List.mem_of_mem_take y
def aw3(h:l.all ov=ab)(i:Nat):0<=cF (l.take i)/\cF (l.take i)<=1024*l.length:=by have:=Q6<|azc h i;have:(l.take i).length<=l.length:=c9;omega
def an5{n:Int}(h:0<n):0<=aS n/\(2:Int)^(aS n).toNat<=n/\n<2^((aS n).toNat+1):=by obtain⟨k,rfl⟩:=pP<|wA h;rw[an1 h,toNat_cast];have x:=Nat.log2_self_le (n:=k) Y;have y:=@Nat.lt_log2_self k;grind
structure WOk (l:N):Prop where
 s0:0<=cF l
 s1:cF l<=261120
 m0:0<=wM l
 m1:wM l<=18
 mz:cF l=0->wM l=0
 lt:cF l<2^(wM l).toNat
 l0:1<=jQ l
 l1:jQ l<=2^(wM l).toNat
 K_:(2:Int)^(wM l).toNat<=262144
 h0:0<=aS (jQ l)
 h1:(2:Int)^(aS (jQ l)).toNat<=jQ l
 q_:aS (jQ l)<=18
def ME(h:l.all ov=ab)(j:l.length<=255):WOk l:=by
 have b:=Q6 h;have y:0<=wM l/\wM l<=18/\(cF l=0->wM l=0)/\cF l<2^(wM l).toNat:=by
  unfold wM;by_cases r:cF l=0
  .rw[r];decide
  .obtain⟨z,e,k⟩:=an5 (n:=cF l) Y
   have:¬18<=(aS<|cF l).toNat:=λx=>by have:(2:Int)^18<=2^(aS<|cF l).toNat:=nQ x;omega
   grind
 obtain⟨u,v,k3,w⟩:=y;have i:(2:Int)^(wM l).toNat<=2^18:=nQ Y;have l0:1<=jQ l:=by grind [jQ]
 have l1:jQ l<=2^(wM l).toNat:=by grind [jQ]
 obtain⟨z,e,k⟩:=an5 (n:=jQ l) Y;have:¬19<=(aS<|jQ l).toNat:=λx=>by have:(2:Int)^19<=2^(aS<|jQ l).toNat:=nQ x;omega
 exact⟨b.1,Y,u,v,k3,w,l0,l1,i,z,e,Y⟩
def ahd(h0:0<=x)(h1:x<=18):Q .u64 x=x/\Q .i64 ((1:Int)*2^min (X x) (cZ .i64))=2^x.toNat:=⟨fW h0 Y,sS h0 Y⟩
def aSK{i:Nat}(h:i<l.length):pc (l.take<|i+1)=pc (l.take i)+cond (l.getD i 0 !=0) 1 0:=by grind [pc,take_succ]
def ac2{i:Nat}(h:(l.take i).all ov=ab)(hi:i<l.length)(h0:¬l.getD i 0<0)(h1:¬l.getD i 0>11):(l.take<|i+1).all ov=ab:=by rw[take_succ l 0 hi,YR,h];simp only[uR,ML,MM,Jp];exact I5.2 ⟨Y,Y⟩
def Ua{i:Nat}(hi:i<l.length)(h:l.getD i 0<0\/l.getD i 0>11):l.all ov≠ab:=λx=>by have:=Bd x hi;omega
theorem akN(h:0<=a):((s.data.toList.getD a.toNat 0).toNat:Int)=u s a:=rfl
def aw'(h0:s.size<=1000000)(h1:0<=a)(x:a<s.size):aio s a/\(∀l,aip s a l):=by
 have y:=me s a;have e:Q .i64 (a+1)=a+1:=wr Y Y;have h:Q .i64 (a+1-1)=a:=by grind [wr]
 constructor
 .grind [aio,akN,wr]
 .intro l;unfold aip l6 bF ay ak b5 Rq Wq Zq Yq;rw[e,h,akN h1,wr Y Y];exact⟨h1,x,rfl,rfl,rfl,rfl⟩
end
section
variable{l:N}{s:M}{a m n:Int}
def aGO:∀x:Fin 256,kQ (x.val:Int) ((2:Int)^min (X 4) (cZ .i64))=x.val/16/\bits .and .i64 (x.val:Int) 15=x.val%16:=by decide+kernel
theorem ap1(s:M)(a:Int):kQ (u s a) ((2:Int)^min (X 4) (cZ .i64))=u s a/16/\bits .and .i64 (u s a) 15=u s a%16:=by
 have h:=me s a;obtain⟨k,x⟩:=pP h.1;have:=aGO ⟨k,Y⟩;grind
def apO:∀{l:N},l.all ov=ab->(pc l=0↔cF l=0)
 | [],_=>by decide
 |x::r,h=>by
  simp only[uR,bC]at h;have:=Q6 h.2;have k:=apO h.2;obtain⟨u,v,w⟩:=Q3 (I5.1 h.1).1 (I5.1 h.1).2;have e:cF (x::r)=nC x+cF r:=rfl;by_cases y:x=0
  .have z:pc (x::r)=pc r:=by unfold pc;rw[MY,y];rfl
   grind [nC]
  .have z:pc (x::r)=pc r+1:=by unfold pc;rw[MY,Sa y];rfl
   grind
def azh:∀v:Fin 2049,v.val≠0->(bits .and .i64 (v.val:Int) ((v.val:Int)-1)=0↔(v.val:Int)=2^(aS (v.val:Int)).toNat):=by decide+kernel
structure IOk (l:N):Prop where
 n0:1<=l.length
 n1:l.length<=255
 al:l.all ov=ab
 m0:0<=iS l
 m1:iS l<=11
 w0:1<=jY l
 w1:jY l<=11
def TY(h:impE l=0):IOk l:=by
 have y:=h;unfold impE at y;by_cases c:l.length<1\/255<l.length
 .grind
 rw[V c]at y;by_cases x:l.all ov=ab
 .rw[I x]at y
  have W:=ME x Y;obtain⟨o,p,b,d,f,lt,l0,l1,g,w,i,j⟩:=W;by_cases e:AV l=ab
  .grind
  have z:AV l=ah:=by simpa using e
  unfold AV at z;simp only[qS,wo,dH,bne_eq_false_iff_eq]at z;have r:jY l=aS (jQ l)+1:=by unfold jY;rw[I h]
  have k:iS l=wM l:=by unfold iS;rw[I h]
  have u:aS (jQ l)<=10:=by
   have v:jQ l<2^(wM l).toNat:=by grind [jQ]
   have:(2:Int)^(wM l).toNat<=2^11:=nQ Y;have:¬11<=(aS<|jQ l).toNat:=λx=>by have:(2:Int)^11<=2^(aS<|jQ l).toNat:=nQ x;omega
   omega
  exact⟨Y,Y,x,Y,Y,Y,Y⟩
 .grind
def KO(h:impE l=0):qa l=(l++ [jY l]).map (qO<|iS l):=by unfold qa;rw[I h]
def apk(h:impE l≠0):qa l= []:=by unfold qa;rw[V h]
end
section
variable{l:N}{s:M}{a m n:Int}
def Ps(i:Nat):rT s a (i+1)=rT s a i++ [Ft s a i]:=by grind [rT,GY]
theorem UD(i:Nat):(rT s a i).length=i:=by unfold rT;rw[qk,YB]
def aLP(h:dG s a):rdWE s a=if impE (rT s a (gT s a).toNat)=0 then(0,0)else(21,a):=by obtain⟨x,y,z,e⟩:=h;unfold rdWE;rw[V Y,V Y,V Y,V Y]
def ar4(h:dG s a):Bq (impE (rT s a (gT s a).toNat) !=0) ((rdWL s a).length=0/\0=rdWN s a/\21=(rdWE s a).1/\a=(rdWE s a).2) (rT s a (gT s a).toNat=rdWL s a/\a+1+(gT s a+1)/2=rdWN s a/\0=(rdWE s a).1/\0=(rdWE s a).2):=by
 have e:=aLP h;refine bV (λc=>?_) λc=>?_
 .rw[V c]at e;unfold rdWL rdWN;rw[e];exact⟨rfl,rfl,rfl,rfl⟩
 .rw[I c]at e;unfold rdWL rdWN;rw[e];exact⟨rfl,rfl,rfl,rfl⟩
def afO(s:M)(a:Int): -127<=gT s a/\gT s a<=128:=by have:=me s a;unfold gT;omega
end
def aSR:=aQe.gd Em Tryz.func263 λ(x:Int) ⟨z,y,_⟩=>⟨aK,J (p:=aw6 x)<|by obtain⟨_,_,h⟩:=Q3 Y y;grind [aw6]⟩
def aSU:=aQg.gd Em Tryz.func261 λ(l:N) ⟨y,_⟩=>⟨(aJa l),J (p:=aw9 l<|Cq (AJ l) (aZ (pc l)/\tJ)<|a_/\o5)<|by
 unfold aw9 Qh tJ a_ tI o bE o5 AJ aZ jc fC ay gS cl b_ Rq Wq Zq;refine⟨⟨0,⟨dx _,rfl⟩,rfl,rfl,rfl,rfl⟩,λi ⟨hi,h⟩=>dq (λc=>?_) λc=>?_⟩
 .have hi:i<l.length:=Y
  have z:pc (l.take i)<=l.length:=by grind [pc]
  have x:=aSK hi;rw[toNat_cast];refine⟨Y,c,dq (λd=>cq (λe=>absurd e (Ua hi<|.inl d)) λ_=>⟨rfl,rfl⟩) λd=>dq (λe=>cq (λf=>absurd f (Ua hi<|.inr e)) λ_=>⟨rfl,rfl⟩) λe=>bV (λf=>⟨i+1,⟨hi,ac2 h hi d e⟩,by show l.length- (i+1)<l.length-i;omega,?_,rfl,rfl,wr Y Y⟩) λf=>⟨i+1,⟨hi,ac2 h hi d e⟩,by show l.length- (i+1)<l.length-i;omega,?_,rfl,rfl,wr Y Y⟩⟩
  .rw[x,Sa f,wr Y Y];rfl
  .grind
 .grind⟩
def aOe:=aQj.gd Em Tryz.func283 λ(l:N) ⟨s,a,x,_⟩=>⟨(aJc l),J (p:=atO l<|0=Gm l/\0=Mi l)<|by
 unfold atO AL bE o8 o rl fU bF fG jd aZ ay gS cl iT kX b_ Rq Wq Uq Zq;refine⟨⟨0,dx _,rfl,rfl,rfl⟩,λi (hi:i<=l.length)=>dq (λc=>?_) λc=>?_⟩
 .have hi:i<l.length:=Y
  have t:=aw3 x i;have z:=aw4 hi;have y:=Bd x hi;rw[toNat_cast];obtain⟨F,G,g⟩:=Q3 y.1 y.2;refine⟨Y,c,dq (λd=>?_) λd=>⟨i+1,hi,by show l.length- (i+1)<l.length-i;omega,rfl,?_,wr Y Y⟩⟩
  .obtain⟨H,m,q⟩:=g Y
   rw[m,q];exact⟨Y,c,Y,i+1,hi,by show l.length- (i+1)<l.length-i;omega,rfl,by rw[z];exact wr Y Y,wr Y Y⟩
  .rw[z];unfold nC;rw[V Y];omega
 .rw[nE Y]
  have W:=ME x a;obtain⟨D,E,k,f,B,lt,l0,l1,C,e,A,b⟩:=W;have j:aS (cF l)+1=wM l:=rfl;have w:2^(wM l).toNat-cF l=jQ l:=rfl;obtain⟨r,u⟩:=ahd k f;obtain⟨v,e4⟩:=ahd e b;rw[j,r,u,w,wr (n:=jQ l) Y Y,v,e4,wr (n:=aS _+1) Y Y];unfold Gm Mi AV;refine⟨Y,de (λh=>?_) λh=>dq (λh=>?_) λh=>⟨k,Y,e,bV (λh=>?_) λh=>?_⟩⟩<;>grind⟩
def aS1:=aQl.gd Em Tryz.func212 λ⟨l,m⟩ ⟨u,z,v,w,r,_⟩=>⟨(aJf l m),J (p:=axb l m<|o l)<|by
 unfold axb lG aw aF a_ bE o8 o rl T aZ ay gS cl iT b_ Rq Wq Zq;refine⟨rfl,Y,Y,Y,Y,rfl,Y,⟨0,dx _,rfl,rfl,rfl,rfl,?_⟩,λi (hi:i<=l.length)=>dq (λc=>?_) λc=>?_⟩
 .rw[toNat_cast,I_,List.take_replicate,wy z];rfl
 .have hi:i<l.length:=Y
  have j:=Bd r hi;have e:(sV l m i).length=l.length:=by unfold sV;rw[gn,qk,mT,qR];omega
  have k:(l.take i).length=i:=by rw[mT];omega
  have y:sV l m (i+1)=(sV l m i).set i (qO m<|l.getD i 0):=by
   unfold sV;rw[take_succ l 0 hi,yA,show l.length-i=(l.length- (i+1))+1 by omega,D9,aiW _ _<|by rw[qk];omega,qk,k,Rp,Rg,qQ];rfl
  have x:l.getD i 0=0->sV l m (i+1)=sV l m i:=λh=>by
   unfold sV;rw[take_succ l 0 hi,yA,show l.length-i=(l.length- (i+1))+1 by omega,D9,h,qQ];rfl
  rw[toNat_cast,e];refine⟨Y,c,bV (λd=>⟨Y,c,Y,i+1,hi,by show l.length- (i+1)<l.length-i;omega,rfl,rfl,rfl,wr Y Y,?_⟩) λd=>⟨i+1,hi,by show l.length- (i+1)<l.length-i;omega,rfl,rfl,rfl,wr Y Y,(x d).symm⟩⟩;rw[y,wr (n:=m+1) Y Y,wr Y Y];unfold qO;rw[V d]
 .unfold sV;rw[nE Y,show l.length-i=0 by omega];simp⟩
def aSQ:=agX.gE aQd Em Tryz.func257 λ⟨s,a⟩ ⟨h,x,y,_⟩=>⟨aK,J (p:=aw5 s a)<|by grind [aw5,wr]⟩
def aSW:=ag0.gE aQh Em Tryz.func258 λ⟨s,a⟩ ⟨h,x,y,_⟩=>⟨aK,J (p:=aio s a)<|(aw' h x y).1⟩
def aSX:=ag1.gE aQi Em Tryz.func258 λ⟨s,a,l⟩ ⟨h,x,y,_⟩=>⟨aK,J (p:=aip s a l)<|(aw' h x y).2 l⟩
def RM:=m.cons aSR<| .cons aSU<| .cons aOe<| .cons aS1<| .cons aSQ<| .cons (adT aSW aSX)<|Em
def aS0:=ag2.gE aQk RM Tryz.func262 λl ⟨r,z,_⟩=>⟨(aJe l),J (p:=(∃(h:Nat),iT h l/\0=cF (aC h l)/\tI l (aZ h))/\(∀(x1:Nat),iT x1 l->w9 (Zq x1) (o l) (Bq (b_ l x1 !=0) (1<=b_ l x1/\b_ l x1<=11/\(∃(x:Nat),rl x l x1 (Wq (cF (aC x1 l)+nC (b_ l x1))=cF (aC x l))<|tI l<|bE x1 x))<|∃(y:Nat),rl y l x1 (cF (aC x1 l)=cF (aC y l))<|tI l<|bE x1 y) (cF<|aC x1 l) (cF l)))<|by
 unfold tI o bE rl w9 aZ gS cl iT b_ Rq Wq Zq;refine⟨⟨0,dx _,rfl,rfl,rfl,rfl⟩,λi (hi:i<=l.length)=>dq (λc=>?_) λc=>?_⟩
 .have hi:i<l.length:=Y
  have u:=aw3 z i;have k:=aw4 hi;have e:=Bd z hi;rw[toNat_cast];obtain⟨v,w,j⟩:=Q3 e.1 e.2;refine⟨Y,c,bV (λd=>⟨Y,Y,i+1,hi,by show l.length- (i+1)<l.length-i;omega,by rw[k];exact wr Y Y,rfl,rfl,wr Y Y⟩) λd=>⟨i+1,hi,by show l.length- (i+1)<l.length-i;omega,?_,rfl,rfl,wr Y Y⟩⟩;rw[k,d];exact(MU _).symm
 .grind⟩
def aOf:=auU.gd RM Tryz.func242 λ(l:N) ⟨r,_⟩=>⟨(aJd l),J (p:=Dq (o l<1) (4=impE l)<|Dq (o l>255) (4=impE l)<|(∃(z:Nat),Wy l z/\l=l/\aZ z)/\(∀(x1:Nat),Wy l x1->kX (Zq x1) (o l) (Dq (b_ l x1<0) (2=impE l)<|Rq (Zq x1) (o l)<|Dq (b_ l x1>11) (2=impE l)<|∃(y:Nat),Wy l y/\gS l y x1/\l=l/\bE x1 y) (1<=l.length) (l.length<=255/\AJ l/\Bq (Gm l==0) (21=impE l) (0=impE l))))<|by
 unfold o Wy bE AJ aZ gS cl kX b_ Rq Wq Zq;unfold impE;refine dq (λh=>by rw[I Y]) λh=>dq (λh=>by rw[I Y]) λk=>?_;rw[V Y];refine⟨⟨0,⟨⟨dx _,rfl⟩,Y,Y⟩,rfl,rfl⟩,λi ⟨⟨hi,x⟩,_,_⟩=>dq (λc=>?_) λc=>?_⟩
 .have hi:i<l.length:=Y
  refine⟨Y,c,dq (λd=>by rw[V<|Ua hi<|.inl d]) λd=>⟨Y,c,dq (λe=>by rw[V<|Ua hi<|.inr e]) λe=>⟨i+1,⟨⟨hi,ac2 x hi d e⟩,Y,Y⟩,by show l.length- (i+1)<l.length-i;omega,rfl,wr Y Y⟩⟩⟩
 .rw[nE Y]at x
  have W:=ME x Y;have:=W.h0;refine⟨Y,Y,x,de (λh=>?_) λh=>?_⟩<;>unfold Gm at h<;>grind⟩
def aST:=agY.gE aQf RM Tryz.func259 λ⟨s,a,l,n⟩ ⟨h,x,y,z,_⟩=>⟨aK,J (p:=aw8 s a l n (l++u s a/16::(bif decide (n>1)then [u s a%16]else([]:N)))<|l++ [(u s a).fdiv<|gH (X 4) IntKind.i64.bits])<|by unfold aw8 gH ak bD lf Rq Zq Jq;grind [ap1]⟩
def RN:=m.cons aS0<| .cons aOf<| .cons aST<|RM
def aSY:=auT.gd RN Tryz.func211 λ(l:N) ⟨r,_⟩=>⟨aK,J (p:=aiq l)<|by
 by_cases x:l.all ov=ab/\l.length<=255
 .have W:=ME x.1 x.2
  obtain⟨q,s,w,i,g,lt,l0,l1,m,c,d,f⟩:=W;obtain⟨y,z⟩:=ahd w i;have k:aS (cF l)+1=wM l:=rfl;have e:2^(wM l).toNat-cF l=jQ l:=rfl;have hp:wM l<=11->(bits .and .i64 (jQ l) (jQ l-1)=0↔jQ l=2^(aS<|jQ l).toNat):=fun h=>by
   have:(2:Int)^(wM l).toNat<=2^11:=nQ Y;obtain⟨v,u⟩:=pP (show 0<=jQ l by omega);rw[u];exact azh ⟨v,Y⟩ (by dsimp only;omega)
  have b:=apO x.1;unfold aiq air o Wd sH AJ fU bF fG jd pG bS Wq Uq Zq;rw[k,show max (wM l) 0=wM l by omega,y,z,e,wr (n:=jQ l) Y Y,wr (n:=jQ l-1) Y Y];unfold jY iS impE AV
  (repeat' (first|refine dq (fun _=>?_) fun _=>?_|refine de (fun _=>?_) fun _=>?_|refine bV (fun _=>?_) fun _=>?_|refine bq (fun _=>?_) fun _=>?_|refine cq (fun _=>?_) fun _=>?_|refine fY ?_ ?_))<;>grind
 ·unfold aiq air o Wd sH AJ fU bF fG jd pG bS Wq Uq Zq;unfold jY iS impE
  have j:=@Q6 l;have a:=@ME l;refine dq (fun _=>by grind) fun _=>dq (fun _=>by grind) fun _=>cq (fun h=>absurd ⟨h,Y⟩ x) fun h=>⟨r,bq (fun _=>by grind) fun h=>by cases h⟩⟩
def aOd:=auT.gd RN Tryz.func243 λ(l:N) ⟨h,_⟩=>⟨aK,J (p:=atN l)<|by grind [atN,jY,iS,Gm,Mi,impE]⟩
def aOb:=auR.gd RN Tryz.func240 λ⟨s,a⟩ ⟨g,_⟩=>⟨(aI' s a),J (p:=atM s a<|Wq<|ay a+Wq ((oY<|l6 s a.toNat-127).tdiv 2))<|by
 unfold atM afv DN zz zy fV Cd arp aw sH bE l6 qh nS ig gH cl aZ dO ay oY ck ak b5 ca Lm lf Rq Wq Zq Yq Jq;have j:=me s a;have b:=afO s a;rw[show((s.data.toList.getD a.toNat 0).toNat:Int)=u s a from rfl,wr (n:=u s a) Y Y,wr (n:=u s a-127) Y Y,show u s a-127=gT s a from rfl];refine dq (λ_=>by unfold rdWL rdWN rdWE;grind) λe=>dq (λ_=>by unfold rdWL rdWN rdWE;grind) λk=>de (λ_=>by unfold rdWL rdWN rdWE;grind) λr=>⟨Y,Y,dq (λ_=>by unfold rdWL rdWN rdWE;grind) λv=>⟨H,?_⟩⟩;have h:Q .i64 (Q .i64 (a+1)+Q .i64 (fi (Q .i64<|gT s a+1) 2))=a+1+(gT s a+1)/2:=by
  rw[wr (n:=gT s a+1) Y Y,XX Y,wr (n:=_/2) Y Y,wr (n:=a+1) Y Y,wr Y Y]
 rw[h];refine dq (λ_=>by unfold rdWL rdWN rdWE;grind) λw=>?_;have D:dG s a:=⟨Y,Y,Y,Y⟩;refine⟨⟨0,⟨D,dx _⟩,rfl,rfl,rfl,rfl,rfl,rfl,rfl,rfl⟩,λi ⟨_,hi⟩=>dq (λc=>?_) λc=>?_⟩
 .have x:Q .i64 (Q .i64 (a+1)+Q .i64 (fi (i:Int) 2))=a+1+(i/2:Nat):=by
   rw[XX Y,wr (n:=_/2) Y Y,wr (n:=a+1) Y Y,wr Y Y];omega
  have f:=me s<|a+1+(i/2:Nat);obtain⟨y,z⟩:=ap1 s<|a+1+(i/2:Nat);rw[x,show((s.data.toList.getD (a+1+(i/2:Nat)).toNat 0).toNat:Int)=u s (a+1+(i/2:Nat))from rfl,wr (n:=u s<|a+1+(i/2:Nat)) Y Y,y,z,UD,Jo Y];refine⟨H,Y,Y,H,de (λd=>⟨H,Y,i+1,⟨D,Y⟩,by show _- (i+1)<_-i;omega,rfl,rfl,rfl,rfl,wr Y Y,rfl,rfl,?_⟩) λd=>⟨Y,i+1,⟨D,Y⟩,by show _- (i+1)<_-i;omega,rfl,rfl,rfl,rfl,wr Y Y,rfl,rfl,?_⟩⟩
  .rw[Ps];unfold Ft;rw[I Y]
  .rw[Ps];unfold Ft;rw[V Y]
 .rw[show i=(gT s a).toNat by omega,UD]
  exact⟨Y,ar4 D⟩⟩
def RO:=m.cons aSY<| .cons aOd<| .cons aOb<|RN
def aSZ:=auU.gd RO Tryz.func210 λ(l:N) ⟨h,_⟩=>⟨aK,J (p:=axa l)<|by grind [axa]⟩
def aSV:=auS.gd RO Tryz.func161 λ(l:N) ⟨x,_⟩=>⟨aK,J (p:=aw_ l (Cc (o l).toNat bY l++ [jY l]).length<|Cc (o l).toNat bY l++ [jY l])<|by
 unfold aw_ aw o aF sH Cc bY AJ ck bS lf Zq;refine⟨x,bV (λh=>⟨by rw[apk h];rfl,rfl⟩) λh=>?_⟩;have I:=TY h;have e:aC (X (l.length:Int)-X 0) (iI (X 0) l)=l:=by rw[toNat_cast];exact nE<|gL _
 rw[e,<-KO h,gn,rG,YR,I.al];exact⟨Y,Y,Y,rfl,Y,Y,by have:=I.n1;omega,I.m0,I.m1,by simp only[uR,ML,MM,Jp];exact I5.2 ⟨by have:=I.w0;omega,I.w1⟩,rfl,h.symm⟩⟩
def aOc:=auS.gd RO Tryz.func185 λ(l:N) ⟨e,_⟩=>⟨(aJb l),J (p:=sH l/\bS (impE l) (ck<|qa l) (impE l=impE l) (∃(z:Nat),(lI l z/\impE l=0)/\lG l (jY l) (iS l=iS l) (aZ z/\ck (Ce l z))) (∀(x1:Nat),lI l x1/\impE l=0->kX (Zq x1) (o l) (Bq (b_ l x1==0) (lf (Ce l x1)/\(∃(x:Nat),(lI l x/\impE l=0)/\gS l x x1/\lG l (jY l) (iS l=iS l) (bE x1 x/\Ce l x1++ [(0:Int)]=Ce l x)))<|o8 x1 l (lf<|Ce l x1)<|∃(y:Nat),(lI l y/\impE l=0)/\gS l y x1/\lG l (jY l) (iS l=iS l) (bE x1 y/\Ce l x1++ [Wq<|ay (iS l)-b_ l x1]=Ce l y)) (lf<|Ce l x1) (Ce l x1++ [Wq<|ay (iS l)-jY l]=qa l/\0=impE l)))<|by
 unfold lG aw Ce sH bE o8 o aZ ay ck gS cl bS kX b_ lf Rq Wq Zq;refine⟨e,bV (λh=>⟨by rw[apk h];rfl,rfl⟩) λh=>⟨⟨0,⟨dx _,h⟩,rfl,rfl,rfl,rfl,rfl⟩,λi ⟨(hi:i<=l.length),_⟩=>dq (λc=>?_) λc=>?_⟩⟩
 .have I:=TY h
  have hi:i<l.length:=Y;have r:=Bd I.al hi;have u:=I.m1;have v:=I.m0;have k:((l.take i).map<|qO<|iS l).length<=l.length:=by rw[qk,mT];omega
  rw[toNat_cast];refine⟨Y,c,de (λd=>⟨Y,i+1,⟨hi,h⟩,by show l.length- (i+1)<l.length-i;omega,rfl,rfl,rfl,wr Y Y,?_⟩) λd=>⟨Y,c,Y,i+1,⟨hi,h⟩,by show l.length- (i+1)<l.length-i;omega,rfl,rfl,rfl,wr Y Y,?_⟩⟩
  .rw[take_succ l 0 hi,yA,d];rfl
  .rw[take_succ l 0 hi,yA,wr (n:=_+1) Y Y,wr Y Y,axZ];unfold qO;rw[V d]
 .have I:=TY h
  have:=I.m0;have:=I.m1;have:=I.w0;have:=I.w1;rw[nE Y,KO h,yA,qk,wr (n:=_+1) Y Y,wr Y Y,axZ];exact⟨Y,by unfold qO;rw[V Y],h.symm⟩⟩
def ajP:=m.cons aSZ<| .cons aSV<| .cons aOc<|RO
def aSS:=auR.gd ajP Tryz.func208 λ⟨s,a⟩ ⟨h,_⟩=>⟨(aI_ s a),J (p:=aw7 s a<|(gT s a).toNat+1)<|by
 unfold aw7 aw o DN zz fV DL aF Cd sH nS ig cl dO oY ck ak ca Lm bD Rq Wq Zq;have i:=me s a;have f:=afO s a;rw[wr (n:=u s a-127) Y Y,show u s a-127=gT s a from rfl];refine dq (λ_=>by unfold rdWL rdWN rdWE;grind) λe=>dq (λ_=>by unfold rdWL rdWN rdWE;grind) λk=>⟨h,Y,Y,de (λ_=>by unfold rdWL rdWN rdWE;grind) λr=>⟨h,Y,Y,dq (λ_=>by unfold rdWL rdWN rdWE;grind) λv=>⟨h,Y,Y,H,?_⟩⟩⟩;rw[wr (n:=gT s a+1) Y Y,XX Y,wr (n:=_/2) Y Y];refine dq (λ_=>by unfold rdWL rdWN rdWE;grind) λw=>?_;have D:dG s a:=⟨Y,Y,Y,Y⟩;refine⟨⟨0,⟨D,Y⟩,rfl,rfl,rfl,rfl,Y,rfl,rfl,rfl⟩,λj ⟨_,b⟩=>?_⟩;rw[UD];refine dq (λc=>?_) λc=>?_
 .have y:min (2*j) (gT s a).toNat=2*j:=Y
  rw[y,wr (n:=_-_) Y Y];refine⟨h,Y,Y,Y,j+1,⟨D,Y⟩,by show _- (j+1)<_-j;omega,rfl,rfl,rfl,rfl,Y,rfl,rfl,?_⟩;have x:Ft s a (2*j)=u s (a+1+j)/16:=by unfold Ft;rw[I Y,show 2*j/2=j by omega]
  have z:Ft s a (2*j+1)=u s (a+1+j)%16:=by unfold Ft;rw[V Y,show(2*j+1)/2=j by omega]
  by_cases d:gT s a- ((2*j:Nat):Int)>1
  .rw[jS d,show min (2*(j+1)) (gT s a).toNat=2*j+1+1 by omega,Ps,Ps,x,z,qQ];rfl
  .rw[iW d,show min (2*(j+1)) (gT s a).toNat=2*j+1 by omega,Ps,x];rfl
 .rw[show min (2*j) (gT s a).toNat=(gT s a).toNat by omega,show a+1+(j:Int)=a+1+(gT s a+1)/2 by omega]
  exact⟨Y,ar4 D⟩⟩
def Zz:=m.cons aSS<|ajP
def EK(T:M):Int:=(readF 600 T 0 6 12).2.2.1
def Bs(T:M):Int:=(readF 600 T 0 6 12).2.1
def drG(T:M):Int:=(readF 600 T 0 6 12).1.1
def drP(T:M):N:=(readF 600 T 0 6 12).1.2
def EL(T:M):M:=T.extract (Bs T).toNat T.size
def IZ(T:M):Int:=twE (drG T) (drP T)<|EL T
def X5(T:M):N:=twV (drG T) (drP T)<|EL T
def inE(T:M):Int×Int:=if EK T=0 then(if IZ T=0 then(0,0)else(IZ T,Bs T))else(EK T,0)
def inV(T:M):N:=if(inE T).1=0 then X5 T else []
def cW(s:M)(a:Int):M:=s.extract (a+1).toNat (a+1+u s a).toNat
def trE(s:M)(a:Int):Int×Int:=if a<0\/(s.size:Int)<a then(2,0)else if a=s.size then(5,a)else if 127<u s a then rdWE s a else if(s.size:Int)<a+1+u s a then(5,s.size)else if(inE<|cW s a).1=0 then(if impE (inV<|cW s a)=0 then(0,0)else(21,a))else((inE<|cW s a).1,(inE<|cW s a).2+(a+1))
def kO(s:M)(a:Int):N:=if(trE s a).1=0 then(if 127<u s a then rdWL s a else inV<|cW s a)else []
def trN(s:M)(a:Int):Int:=if(trE s a).1=0 then(if 127<u s a then rdWN s a else a+1+u s a)else 0
def trZ(s:M)(a:Int):N:=if(trE s a).1=0 then qa (kO s a)else []
def Bo(e f h:Int):Int:=if e=0 then f else f+h
def Bp(e:Int)(l:N):N:=if e=0 then l else []
def Br(e n:Int):Int:=if e=0 then n else 0
def trI(s:M)(a:Int):Prop:=0<=a/\a<s.size
def Bk(k:Nat)(x:Int):Nat×bm:=(k,.cells 3 [.v<|.int .i64 x])
def NC(k:Nat)(e f:Int):Nat×bm:=(k,.cells 25 [.v<|.int .i64 e,.v<|.int .i64 f])
def NG(k:Nat)(x:SV):Nat×bm:=(k,.cells 42 [x])
def adu:SV:=.v<|.slice ae 0 0
def aQb:Spec:=Sp M [.s] λT=>([E<|T.size<=600],aE<|.tu [dm<|inV T,.ag [.v<|.int .i64 (inE T).1,.v<|.int .i64 (inE T).2]])
def Gp:Spec where
 ι:=Int×Int×N×Int×Int
 own:=ab
 dec l H:=match l with
  | [.p l0 0 0,.p l1 0 0,.p l2 0 0,.p l3 0 0]=>match H l0 with
    |some (.cells 25 [.v<|.int .i64 e,.v<|.int .i64 f])=>match H l1 with
     |some (.cells 42 [.bZ<|.ints .i64 l])=>match H l2 with
      |some (.cells 3 [.v<|.int .i64 n])=>match H l3 with
       |some (.cells 3 [.v<|.int .i64 h])=>O ((e,f,l,n,h),[l0,l1,l2,l3])
       |_=>ae
      |_=>ae
     |_=>ae
    |_=>ae
  |_=>ae
 args:=λ(e,f,l,n,h)=>[U 0,U 1,U 2,U 3]
 hp:=λ(e,f,l,n,h)=>[(0,.cells 25 [B e,B f]),(1,.cells 42 [dm l]),(2,.cells 3 [B n]),(3,.cells 3 [B h])]
 pre:=λ(e,f,l,n,h)=>[E<|0<=f,E<|f<=1000000,E<|0<=h,E<|h<=1000000]
 out:=λ(e,f,l,n,h)=>.leaf (.tu []) [NC 0 e<|Bo e f h,NG 1<|dm<|Bp e l,Bk 2<|Br e n,Bk 3 h]
def aQa:Gp.dn:=by
 intro l H n i x h;simp only[Gp]at h
 repeat' split at h
 all_goals first|(cases h;done)|(cases h;exact⟨rfl,rfl⟩)|(cases h;refine⟨rfl,?_⟩;simp only[dK,iF,iN,gN, *];rfl)
def IM:Spec where
 ι:=Int×Int×Int×Int
 own:=ab
 dec l H:=match l with
  | [.p l0 0 0,.p l1 0 0,.p l2 0 0,.p l3 0 0]=>match H l0 with
    |some (.cells 25 [.v<|.int .i64 e,.v<|.int .i64 f])=>match H l1 with
     |some (.cells 42 [.v<|.slice ae 0 0])=>match H l2 with
      |some (.cells 3 [.v<|.int .i64 n])=>match H l3 with
       |some (.cells 3 [.v<|.int .i64 h])=>O ((e,f,n,h),[l0,l1,l2,l3])
       |_=>ae
      |_=>ae
     |_=>ae
    |_=>ae
  |_=>ae
 args:=λ(e,f,n,h)=>[U 0,U 1,U 2,U 3]
 hp:=λ(e,f,n,h)=>[(0,.cells 25 [B e,B f]),(1,.cells 42 [.v<|.slice ae 0 0]),(2,.cells 3 [B n]),(3,.cells 3 [B h])]
 pre:=λ(e,f,n,h)=>[E<|e≠0,E<|0<=f,E<|f<=1000000,E<|0<=h,E<|h<=1000000]
 out:=λ(e,f,n,h)=>.leaf (.tu []) [NC 0 e<|f+h,NG 1 adu,Bk 2 0,Bk 3 h]
def aQc:IM.dn:=by
 intro l H n i x h;simp only[IM]at h
 repeat' split at h
 all_goals first|(cases h;done)|(cases h;exact⟨rfl,rfl⟩)|(cases h;refine⟨rfl,?_⟩;simp only[dK,iF,iN,gN, *];rfl)
def Mm:Spec:=Sp (M×Int) [.s,.i] λ(s,a)=>([E<|s.size<=600],aE<|.tu [dm<|kO s a,B<|trN s a,.ag [.v<|.int .i64 (trE s a).1,.v<|.int .i64 (trE s a).2]])
def auQ:Spec:=Sp (M×Int) [.s,.i] λ(s,a)=>([E<|s.size<=600],aE<|.tu [dm<|trZ s a,B<|trN s a,.ag [.v<|.int .i64 (trE s a).1,.v<|.int .i64 (trE s a).2]])
def DC.No(a b:DC)(s:Spec):DC:=⟨λcap H=>match s.dec cap H with
 |some _=>a.ret cap H
 |none=>b.ret cap H,a.nP⟩
def rI.No{P:Program}{f:FuncId}{a b:DC}{s:Spec}(h1:rI P f a)(x:rI P f b):rI P f (DC.No a b s):=by
 refine⟨h1.1,λcap H r h=>?_,h1.2.2⟩;simp only[DC.No]at h;split at h
 .exact h1.2.1 cap H r h
 .exact x.2.1 cap H r h
def ahX(s:M)(a:Int):lW:=[(0,.v<|.string s),(1,.v<|.int .i64 a),(4,.p 500 0 0),(5,.p 501 0 0),(6,.p 502 0 0),(7,.p 503 0 0),(24,.fn (.func 207) [] [.p 502 0 0,.p 500 0 0,.p 501 0 0,.p 503 0 0])]
def My(s:M)(a:Int):Prop:=0<=a/\u s a<=127/\a+1+u s a<=s.size
def oTr(s:M)(a:Int):bO:=dX [(1007,jG (trI s a) (ahX s a) [NG 500 adu,Bk 501 0,NC 502 0 0,Bk 503 0]),(1008,jG (trI s a) ((8,B<|u s a)::ahX s a) [NG 500 adu,Bk 501 0,NC 502 0 0,Bk 503 0]),(1016,jG (My s a) (ahX s a) [NG 500<|dm<|inV<|cW s a,Bk 501<|a+1+u s a,NC 502 (inE<|cW s a).1 (inE<|cW s a).2,Bk 503<|a+1])]
def DTr:List (Nat×DC):=(207,DC.No (DC.of Gp Spec.no) (DC.of IM Spec.no) Gp):: []
def ahU(e f:Int)(l:N)(n h:Int):Prop:=Bq (e !=0) (e=e/\Wq (f+h)=Bo e f h/\ck (Bp e l)/\0=Br e n/\h=h)<|e=e/\f=Bo e f h/\l=Bp e l/\n=Br e n/\h=h
def awz(e f n h:Int):Prop:=
 Bq (e !=0) (e=e/\Wq (f+h)=f+h/\Jq (Value.slice ae 0 (0:Nat))/\(0:Int)=0/\h=h)
<|e=e/\f=f+h/\Jq (Value.slice ae 0 (0:Nat))/\n=0/\h=h
def ri(h0 h1:Int×Int)(h:Prop):Prop:=h0.1=h1.1/\h0.2=h1.2/\h
def kv(h0:M):Prop:=h0.size<=600
def Gc(h0:M)(h1:Int)(h:Prop):Prop:=ck (kO h0 h1)/\0=trN h0 h1/\h
def awA(s:M)(a:Int)(D P i:Prop)(j h x:Int)(y:N):Prop:=nS a (ck<|kO s a) (0=trN s a/\ig (trE s a)) (ak s) (Gc s a<|ig<|trE s a)<|Bq (a==ak s) (Gc s a<|zy (trE s a) a)<|F7 (0<=a/\a<ak s) (s=s/\a=a/\rX/\ca dE)<|Rq a (ak s) (aL<|(0<=a/\a<ak s)/\l6 s a.toNat=u s a/\s=s/\a=a/\rX/\ca dE)/\eO (0<=a/\a<ak s->Dq (u s a>127) (bD s/\aF (rdWE s a).2 ((rdWE s a).2<=1000000) (ft ((0:Int)<=1000000)<|Bp (rdWE s a).1 (rdWL s a)=kO s a/\Br (rdWE s a).1 (rdWN s a)=trN s a/\(rdWE s a).1=(trE s a).1/\Bo (rdWE s a).1 (rdWE s a).2 0=(trE s a).2)) (Dq (j>ak s) ((5:Int)≠0/\aF (ak s) (ak s<=1000000) (ft ((0:Int)<=1000000)<|Gc s a<|5=(trE s a).1/\ak s+0=(trE s a).2))<|Bq (u s a==0) D D)/\eO (i->Bq (h==0) (sH y/\bS (impE y) (0<=a) (a<=1000000/\ft ((0:Int)<=1000000) (Bp 21 y=kO s a/\Br 21 (a+1+u s a)=trN s a/\21=(trE s a).1/\Bo 21 a 0=(trE s a).2)) (0<=x) (x<=1000000/\P)) (aF x (x<=1000000) P)))
def ahW(s:M)(a:Int):Prop:=awA s a (cE (a+1)/\ay a<=Wq (ay a+u s a)/\Wq (ay a+u s a)<=ak s/\kv (cU s (ay a)<|Wq<|ay a+u s a)/\aL (aF a (u s a<=127) (a+1+u s a<=ak s)/\fV s a (inV (cU s (ay a)<|Wq<|ay a+u s a)=inV (cW s a)) (Wq (ay a+u s a)=a+1+u s a/\ri (inE<|cU s (ay a)<|Wq<|ay a+u s a) (inE<|cW s a) (ay a=a+1)))) (aF (a+1) (a+1<=1000000)<|Bp (inE<|cW s a).1 (inV<|cW s a)=kO s a/\Br (inE<|cW s a).1 (a+1+u s a)=trN s a/\(inE<|cW s a).1=(trE s a).1/\Bo (inE<|cW s a).1 (inE<|cW s a).2 (a+1)=(trE s a).2) (aF a (u s a<=127)<|a+1+u s a<=ak s) (Wq<|ay a+u s a) (inE<|cW s a).1 (inE<|cW s a).2<|inV<|cW s a
def FK(h0:(Int×N)×Int×Int×Int)(h1:Int×Int):Prop:=h0.2.2.1=h1.1/\h0.2.2.2=h1.2
def VI(h0:(Int×N)×Int×Int×Int)(h1:M)(h x:Int):N:=twV h0.1.1 h0.1.2<|cU h1 h x
def VJ(h0:(Int×N)×Int×Int×Int)(h1:M)(h x:Int):Int:=twE h0.1.1 h0.1.2<|cU h1 h x
def aeE(h0:(Int×N)×Int×Int×Int)(h1:M)(h x:Int)(y:Int×Int):Prop:=twE h0.1.1 h0.1.2 (cU h1 h x)=y.1
def Wu(h0:(Int×N)×Int×Int×Int)(h1:M)(h x:Int)(y:Int×Int)(z:Int):Prop:=aeE h0 h1 h x y/\h=z
def awy(T:M)(D:Int)(P:(Int×N)×Int×Int×Int):Prop:=bD T/\bS P.2.2.1 (ck<|inV T) (FK P<|inE T) (0<=D) (D<=ak T/\w_ T/\cd P.1.2/\bD (cU T D<|ak T)/\bS (VJ P T D<|ak T) (ck<|inV T) (Wu P T D (ak T) (inE T) (inE T).2) (VI P T D (ak T)=inV T) (dO<|inE T))
def atG(s:M)(a:Int)(D:N)(P:Int)(i:Int×Int×Int)(p:(Int×N)×Int×Int×Int)(j h:Int)(x:Int×Int):Prop:=nS a (ck<|kO s a) (0=trN s a/\ig x) (ak s) (Gc s a<|ig x)<|Bq (a==ak s) (Gc s a<|zy x a)<|Rq a (ak s)<|Dq (Zq (Yq s a.toNat)>=128) (bD s/\rdWL s a=kO s a/\rdWN s a=trN s a/\iU (rdWE s a) x)<|Rq a (ak s)<|Dq (j>ak s) (Gc s a<|DN x s)<|ft (cE h)<|j<=ak s/\bD (s.extract bY<|b5 h)/\bS i.2.1 (ck<|kO s a) (0=trN s a/\FK p x) (0<=P) (P<=j/\j<=ak s/\cd p.1.2/\bD (cU s P j)/\bS (VJ p s P j) (ck<|kO s a) (0=trN s a/\Wu p s P j x x.2) (sH D) (Lm D (kO s a).length (0=trN s a) (zz x a) (kO s a) (j=trN s a)<|dO x))
def agl(s:M)(a:Int):Prop:=atG s a (VI (readF 600 (s.extract bY<|b5<|ay a+l6 s a.toNat) (ay a) 6 12) s (readF 600 (s.extract bY<|b5<|ay a+l6 s a.toNat) (ay a) 6 12).2.1<|Wq<|ay a+l6 s a.toNat) (readF 600 (s.extract bY<|b5<|ay a+l6 s a.toNat) (ay a) 6 12).2.1 (readF 600 (s.extract bY<|b5<|ay a+l6 s a.toNat) (ay a) 6 12).2 (readF 600 (s.extract bY<|b5<|ay a+l6 s a.toNat) (ay a) 6 12) (Wq<|ay a+l6 s a.toNat) (ay a+l6 s a.toNat)<|trE s a
def agk(s:M)(a:Int):Prop:=
 s.size<=600/\
 Bq ((trE s a).1 !=0) (cY (trZ s a)=0/\0=trN s a/\Jq (trE s a).1/\Jq (trE s a).2)
 (cY (kO s a)<=1000/\qa (kO s a)=trZ s a/\trN s a=trN s a/\0=(trE s a).1/\0=(trE s a).2)
def ahV(s:M)(a:Int):Prop:=kv s/\bS (trE s a).1 (ck<|trZ s a) (0=trN s a/\Jq (trE s a).1/\Jq (trE s a).2) (sH<|kO s a) (qa (kO s a)=trZ s a/\aw (trN s a) (Jq (trE s a).1) (Jq (trE s a).2))
section
section
variable{s T:M}{a:Int}
def af6{b:Int}(h0:0<=b)(h1:b<=s.size):sN s b 6 12=ah:=af7 Y Y Y Y Y Y
theorem aik{b:Int}(h0:0<=b)(h:s.size<=600):ga s b 600=s.extract b.toNat s.size:=by grind [ga]
theorem C7{b e:Int}(h0:0<=b)(h1:b<=e)(h:e<=s.size):((s.extract b.toNat e.toNat).size:Int)=e-b:=by grind [ByteArray.size_extract]
theorem aBX(s:M):s.extract 0 s.size=s:=ByteArray.extract_zero_size
theorem aBY{b e:Nat}(h1:b<=e)(h:e<=s.size):(s.extract 0 e).extract b e=s.extract b e:=by grind [ax0]
structure RF (s:M) (b:Int):Prop where
 ok:(readF 600 s b 6 12).2.2.1=0->b<=(readF 600 s b 6 12).2.1/\(readF 600 s b 6 12).2.1<=s.size
 er:(readF 600 s b 6 12).2.2.1≠0->(readF 600 s b 6 12).2.2.2=b/\(readF 600 s b 6 12).2.1=0
def W_{b:Int}(u:s.size<=600)(h0:0<=b)(h1:b<=s.size):RF s b:=by
 have x:=af6 h0 h1;by_cases e:(ij (ga s b 600,0) 6 12).2.2=0
 .have f:=IG x e
  obtain⟨S,y,z⟩:=WU Y e;have r:=UC S y z;have v:((ga s b 600).size:Int)=s.size-b:=by grind [aik,C7,toNat_cast]
  have k:(mo (ij (ga s b 600,0) 6 12).1).1<=(s.size:Int)-b:=by grind [S.hi,mo]
  exact⟨λ_=>by rw[f];dsimp only;omega,λh=>by rw[f]at h;exact absurd rfl h⟩
 .have f:=Co x e
  refine⟨λh=>?_,λ_=>by rw[f];exact⟨rfl,rfl⟩⟩;grind
def aMs{b e:Int}(y:s.size<=600)(h0:0<=b)(h1:b<=e)(h:e<=s.size):
  (readF 600 (s.extract 0 e.toNat) b 6 12).1=(readF 600 (s.extract b.toNat e.toNat) 0 6 12).1/\(readF 600 (s.extract 0 e.toNat) b 6 12).2.2.1=(readF 600 (s.extract b.toNat e.toNat) 0 6 12).2.2.1/\
  ((readF 600 (s.extract b.toNat e.toNat) 0 6 12).2.2.1=0->(readF 600 (s.extract 0 e.toNat) b 6 12).2.1=(readF 600 (s.extract b.toNat e.toNat) 0 6 12).2.1+b):=by have x:=C7 (b:=0) Y Y h;have r:=C7 h0 h1 h;rw[show(0:Int).toNat=0 from rfl]at x;have z:=af6 (s:=s.extract 0 e.toNat) h0 Y;have k:=af6 (s:=s.extract b.toNat e.toNat) (b:=0) Y Y;grind [aik,aBY,aBX,readF]
def aSh(g:Int)(p:N)(s:M):(twV g p s).length<=256:=by
 unfold twV;cases h:twE g p s==0
 .simp
 .have h:twE g p s=0:=by simpa using h
  have y:=Decidable.byContradiction λx=>by rw[X2 x]at h;exact x h
  grind [ah2,QQ,QR,ah4]
theorem acK(T:M):(inV T).length<=256:=by unfold inV;split<;>first|exact aSh _ _ _|exact dx _
attribute [local irreducible] readF twE twV impE rdWE rdWL rdWN
theorem QP(h0:¬a<0)(h1:¬(s.size:Int)<a)(h:a≠s.size)(x:¬127<u s a)(y:(s.size:Int)<a+1+u s a):trE s a=(5,(s.size:Int)):=by
 unfold trE;rw[V Y,V h,V x,I y]
def ahZ(h:My s a):trE s a=if(inE<|cW s a).1=0 then(if impE (inV<|cW s a)=0 then(0,0)else(21,a))else((inE<|cW s a).1,(inE<|cW s a).2+(a+1)):=by obtain⟨x,y,z⟩:=h;have:=me s a;unfold trE;rw[V Y,V Y,V Y,V Y]
def ahY(h:My s a)(c:(inE<|cW s a).1≠0):trE s a=((inE<|cW s a).1,(inE<|cW s a).2+(a+1)):=(ahZ h).trans<|V c
def awC(h:My s a)(c:(inE<|cW s a).1=0)(e:impE (inV<|cW s a)≠0):trE s a=(21,a):=(ahZ h).trans<|(I c).trans<|V e
def awD(h:My s a)(c:(inE<|cW s a).1=0)(e:impE (inV<|cW s a)=0):trE s a=(0,0):=(ahZ h).trans<|(I c).trans<|I e
def IV{e f:Int}(h:trE s a=(e,f))(y:e≠0):(kO s a).length=0/\0=trN s a/\e=(trE s a).1/\f=(trE s a).2:=by
 have x:(trE s a).1≠0:=c9;refine⟨?_,?_,by rw[h],by rw[h]⟩
 .unfold kO;rw[V x];rfl
 .unfold trN;rw[V x]
def awE(h:trE s a=(0,0))(y:¬127<u s a):inV (cW s a)=kO s a/\a+1+u s a=trN s a/\0=(trE s a).1/\0=(trE s a).2:=by
 have x:(trE s a).1=0:=by rw[h]
 refine⟨?_,?_,by rw[h],by rw[h]⟩
 .unfold kO;rw[I x,V y]
 .unfold trN;rw[I x,V y]
theorem QO(h0:0<=a)(h1:a<s.size)(h:127<u s a):trE s a=rdWE s a/\kO s a=rdWL s a/\trN s a=rdWN s a:=by
 have e:trE s a=rdWE s a:=by unfold trE;rw[V Y,V Y,I h]
 refine⟨e,?_,?_⟩
 ·unfold kO;rw[e];split
  ·rfl
  ·rename_i c;unfold rdWL;rw[V c]
 ·unfold trN;rw[e];split
  ·rfl
  ·rename_i c;unfold rdWN;rw[V c]
set_option maxHeartbeats 1000000 in
theorem aN1(B:s.size<=600):agl s a:=by
 unfold agl atG cd DN zz Wu Gc zy sH l6 bY ft aeE VJ VI nS FK ig dO ay ck ak cE iU bS b5 cU Lm bD Rq Wq Zq Yq;have N:=me s a;refine dq (fun _=>by unfold kO trN trE;grind) fun p=>dq (fun _=>by unfold kO trN trE;grind) fun L=>de (fun _=>by unfold kO trN trE;grind) fun q=>?_;rw[show((s.data.toList.getD a.toNat 0).toNat:Int)=u s a from rfl,wr (n:=u s a) Y Y,wr (n:=a+1) Y Y,wr (n:=_+u s a) Y Y];refine⟨Y,Y,dq (fun t=>?_) fun t=>⟨Y,Y,dq (fun g=>?_) fun g=>?_⟩⟩
 ·obtain⟨m,z,k⟩:=QO (s:=s) (a:=a) Y Y Y
  rw[m,z,k];exact⟨Y,rfl,rfl,rfl,rfl⟩
 ·have e:=QP p Y q Y g
  exact IV e H
 ·have K:My s a:=⟨Y,Y,Y⟩
  have j:s.extract (a+1).toNat (a+1+u s a).toNat=cW s a:=rfl;have J:=C7 (s:=s) (b:=a+1) (e:=a+1+u s a) Y Y Y;rw[j]at J;have F:=C7 (s:=s) (b:=0) (e:=a+1+u s a) Y Y Y;rw[show(0:Int).toNat=0 from rfl]at F;obtain⟨f,r,x⟩:=aMs (s:=s) (b:=a+1) (e:=a+1+u s a) B Y Y Y;rw[j]at f r x;have R:=W_ (s:=s.extract 0 (a+1+u s a).toNat) (b:=a+1) Y Y Y;have i:=W_ (s:=cW s a) (b:=0) Y Y Y;have A:=asa 600 (cW s a) 0 6 12;have g1:(readF 600 (cW s a) 0 6 12).2.2.1=EK (cW s a):=rfl;have g4:(readF 600 (cW s a) 0 6 12).2.1=Bs (cW s a):=rfl;have y:=R.ok;have re:=R.er;have w:=i.ok;have E:=i.er;rw[r,g1]at y re;rw[g1,g4]at w E;rw[g1,g4]at x;have D:¬127<u s a:=Y;rw[show(0:Int).toNat=0 from rfl,f,r,g1];refine⟨Y,Y,Y,Y,bV (fun c=>?_) fun c=>?_⟩
  ·have h:inE (cW s a)=(EK (cW s a),0):=by unfold inE;exact V c
   have M:=ahY K (by rw[h];exact c);rw[h]at M;have T:=IV M c;refine⟨T.1,T.2.1,T.2.2.1,?_⟩;rw[<-T.2.2.2,(re c).1];dsimp only;omega
  ·have y:=y c;have w:=w c;have x:=x c
   rw[x]at y|-;have o:s.extract (Bs (cW s a)+(a+1)).toNat (a+1+u s a).toNat=EL (cW s a):=by
    have l:0<=Bs (cW s a):=Y;unfold EL;generalize Bs (cW s a)=d at l|-;unfold cW;rw[ax0];congr 1
    ·omega
    ·have:=C7 (s:=s) (b:=a+1) (e:=a+1+u s a) Y Y Y;omega
   have G:(EL (cW s a)).size<=1000000:=by unfold EL;rw[r8];omega
   rw[o];have z:twE (readF 600 (cW s a) 0 6 12).1.1 (readF 600 (cW s a) 0 6 12).1.2 (EL (cW s a))=IZ (cW s a):=rfl;have k:twV (readF 600 (cW s a) 0 6 12).1.1 (readF 600 (cW s a) 0 6 12).1.2 (EL (cW s a))=X5 (cW s a):=rfl;rw[z,k];refine⟨Y,y.2|>fun _=>by omega,Y,A,G,bV (fun d=>?_) fun d=>?_⟩
   ·have h:inE (cW s a)=(IZ (cW s a),Bs (cW s a)):=by unfold inE;exact(I c).trans (V d)
    have M:=ahY K (by rw[h];exact d);rw[h]at M;exact IV M d
   ·have h:inE (cW s a)=(0,0):=by unfold inE;exact(I c).trans (I d)
    have v:(inE (cW s a)).1=0:=by rw[h]
    have C:inV (cW s a)=X5 (cW s a):=by unfold inV;exact I v
    have P:=acK (cW s a);rw[<-C];exact⟨Y,bV (fun e=>IV (awC K v e) H) fun e=>awE (awD K v e) D⟩
def aSd(h:(trE s a).1=0):(kO s a).length<=1000:=by
 unfold kO;rw[I h];split
 .have x:=afO s a;unfold rdWL;split
  .grind [UD]
  .simp
 .grind [acK]
def atE(z:s.size<=600):agk s a/\ahV s a:=by
 have h:=@aSd s a;have x:(trE s a).1≠0->trZ s a= []/\trN s a=0:=λc=>by unfold trZ trN;rw[V c,V c];exact⟨rfl,rfl⟩
 have y:(trE s a).1=0->trZ s a=qa (kO s a)/\trE s a=(0,0):=λc=>by
  refine⟨by unfold trZ;rw[I c],?_⟩;grind [trE,rdWE]
 constructor
 .grind [agk]
 .unfold ahV aw sH kv ck bS Jq
  grind
def aLN(s:M)(a:Int)(h0:0<=a)(h1:a<=s.size)(h:s.size<=600):0<=(rdWE s a).2/\(rdWE s a).2<=1000000:=by grind [rdWE]
def aFq(T:M)(h:T.size<=600):0<=(inE T).2/\(inE T).2<=600:=by have R:=W_ (b:=0) h Y Y;have x:=R.ok;grind [EK,Bs,inE]
def aFr(h:(inE T).1=0):(inE T).2=0:=by
 by_cases c:EK T=0
 .by_cases d:IZ T=0
  .rw[show inE T=(0,0)from(I c).trans<|I d]
  .rw[show inE T=(IZ T,Bs T)from(I c).trans<|V d]at h;exact absurd h d
 .rw[show inE T=(EK T,0)from V c]
def aR6{f n h:Int}{l:N}(h0:0<=f)(h1:f<=1000000)(e:0<=h)(y:h<=1000000):ahU x f l n h:=by unfold ahU ck Wq;unfold Bo Bp Br;exact bV (λc=>by rw[V c,V c,V c];exact⟨rfl,wr Y Y,rfl,rfl,rfl⟩) λc=>by rw[I c,I c,I c];exact⟨rfl,rfl,rfl,rfl,rfl⟩
def aR'{f n h:Int}(e:x≠0)(h0:0<=f)(h1:f<=1000000)(y:0<=h)(z:h<=1000000):awz x f n h:=bV (λ_=>⟨rfl,wr Y Y,rfl,rfl,rfl⟩) λc=>absurd c e
def aSc(g:s.size<=600):ahW s a:=by
 unfold ahW awA Gc zy fV aF F7 eO sH l6 ft dE nS ig kv aL ay rX ck ak cE ri bS cU ca bD Rq Wq Zq Yq Jq;have D:=me s a;have h:(0:Int)<=0:=jj _;refine dq (λ_=>by unfold kO trN trE;grind) λA=>dq (λ_=>by unfold kO trN trE;grind) λC=>de (λ_=>by unfold kO trN trE;grind) λf=>⟨⟨(),⟨Y,Y⟩,rfl,rfl,rfl,rfl,rfl,rfl,rfl⟩,λ_ _=>⟨⟨Y,Y,(),⟨Y,Y⟩,wr (n:=u s a) Y Y,rfl,rfl,rfl,rfl,rfl,rfl,rfl⟩,λ_ _=>⟨?_,λ_ K=>?_⟩⟩⟩
 .refine dq (λc=>?_) λc=>?_
  .obtain⟨w,i,j⟩:=QO (s:=s) (a:=a) Y Y c
   have B:=aLN s a Y Y g;rw[w,i,j];refine⟨Y,B.1,B.2,h,H,?_,?_,rfl,?_⟩
   .unfold Bp rdWL;split<;>rfl
   .unfold Br rdWN;split<;>rfl
   .unfold Bo;split<;>omega
  rw[wr (n:=a+1) Y Y,wr (n:=_+u s a) Y Y];refine dq (λd=>?_) λd=>?_
  .obtain⟨p,q,t,F⟩:=IV (QP Y Y f c d) H
   exact⟨H,Y,Y,h,H,p,q,t,Y⟩
  .have l:=C7 (s:=s) (b:=a+1) (e:=a+1+u s a) Y Y Y
   exact de (λ_=>⟨Y,Y,Y,Y,(),⟨Y,Y,Y⟩,rfl,rfl,rfl,rfl,rfl,rfl,rfl⟩) λ_=>⟨Y,Y,Y,Y,(),⟨Y,Y,Y⟩,rfl,rfl,rfl,rfl,rfl,rfl,rfl⟩
 .have o:¬127<u s a:=Y
  have l:=C7 (s:=s) (b:=a+1) (e:=a+1+u s a) Y Y Y;have B:=aFq (cW s a) (by show((s.extract (a+1).toNat (a+1+u s a).toNat).size)<=600;omega);have E:=acK<|cW s a;have v:(inE<|cW s a).1=0->impE (inV<|cW s a)=0->Bp (inE<|cW s a).1 (inV<|cW s a)=kO s a/\Br (inE<|cW s a).1 (a+1+u s a)=trN s a/\(inE<|cW s a).1=(trE s a).1/\Bo (inE<|cW s a).1 (inE<|cW s a).2 (a+1)=(trE s a).2:=λx e=>by
   have M:=awD K x e;obtain⟨y,z,k,r⟩:=awE M o;have m:=aFr x;rw[<-y,<-z,<-k,<-r,x,m];exact⟨rfl,rfl,rfl,rfl⟩
  refine de (λx=>⟨Y,bV (λe=>?_) λe=>⟨Y,Y,Y,Y,v x e⟩⟩) λx=>⟨Y,Y,Y,Y,?_⟩
  .obtain⟨y,z,k,r⟩:=IV (awC K x e) H
   refine⟨Y,Y,h,H,?_,z,k,?_⟩
   .exact(r9 y).symm
   .rw[<-r];show a+0=a;omega
  .obtain⟨y,z,k,r⟩:=IV (ahY K x) x
   rw[<-z,<-k,<-r];unfold Bp Br Bo;rw[V x,V x,V x];exact⟨(r9 y).symm,rfl,rfl,rfl⟩
end
def aR7:=aQb.gd Zz Tryz.func209 λ(T:M) ⟨h,_⟩=>⟨aK,J (p:=awy T (readF 2000 T 0 6 12).2.1<|readF 2000 T 0 6 12)<|by
 unfold awy cd Wu w_ aeE VJ VI FK dO ck ak bS cU bD Zq;rw[asb T 0 6 12 h];have R:=W_ h (b:=0) Y Y;have y:=asa 600 T 0 6 12;have z:(T.extract (readF 600 T 0 6 12).2.1.toNat<|X (T.size:Int)).size<=1000000:=by rw[r8];omega
 have x:(readF 600 T 0 6 12).2.2.1=EK T:=rfl;have k:twE (readF 600 T 0 6 12).1.1 (readF 600 T 0 6 12).1.2 (T.extract (readF 600 T 0 6 12).2.1.toNat T.size)=IZ T:=rfl;have r:twV (readF 600 T 0 6 12).1.1 (readF 600 T 0 6 12).1.2 (T.extract (readF 600 T 0 6 12).2.1.toNat T.size)=X5 T:=rfl;have e4:(readF 600 T 0 6 12).2.1=Bs T:=rfl;have u:=R.ok;have e:=R.er;rw[x,e4]at e;unfold inV inE;refine⟨Y,bV (λc=>?_) λc=>⟨Y,Y,Y,y,z,bV (λd=>?_) λd=>?_⟩⟩<;>grind⟩
def aN0:=Mm.gd Zz Tryz.func184 λ⟨s,a⟩ ⟨h,_⟩=>⟨aK,J (p:=agl s a)<|aN1 h⟩
def El:=m.cons aR7<| .cons aN0<|Zz
def aR9(e f n h:Int):awz e f n h=QV ar (oC<|sa El) (λ_=>ae) Tryz.f207 (IM.args (e,f,n,h)) (IM.hp (e,f,n,h)) (IM.out (e,f,n,h)):=ax
def aR4(e f:Int)(l:N)(n h:Int):ahU e f l n h=QV ar (oC<|sa El) (λ_=>ae) Tryz.f207 (Gp.args (e,f,l,n,h)) (Gp.hp (e,f,l,n,h)) (Gp.out (e,f,l,n,h)):=ax
def aR5:rI ar 207 (DC.of Gp Spec.no):=rI.of ax aQa (λ(e,f,l,n,h) x w us=>ag9 El mixed Tryz.func207 rfl (aR4 e f l n h▸aR6 (x _<|.head _) (x _<|.tail _<|.head _) (x _<|.tail _<|.tail _<|.head _) (x _<|.tail _<|.tail _<|.tail _<|.head _)) .returning w us) Spec.adD λ_ _ w pv us=>λD β h=>by simp[Spec.no,Z]at h
def aR_:rI ar 207 (DC.of IM Spec.no):=rI.of ax aQc (λ(e,f,n,h) x w us=>ag9 El mixed Tryz.func207 rfl (aR9 e f n h▸aR' (x _<|.head _) (x _<|.tail _<|.head _) (x _<|.tail _<|.tail _<|.head _) (x _<|.tail _<|.tail _<|.tail _<|.head _) (x _<|.tail _<|.tail _<|.tail _<|.tail _<|.head _)) .returning w us) Spec.adD λ_ _ w pv us=>λD β h=>by simp[Spec.no,Z]at h
def ayl:A7 ar DTr:=.cons (rI.No aR5 aR_) .nil
def aSb:Sound ar 160 Mm.iY:=Mm.sound ax Sp.dn λ(s,a) h=>ag_ El yH.nil ayl mixed Tryz.func160 (ax:ahW s a=MC ar (oC<|sa El) (En []) (oTr s a) (JC DTr) Tryz.f160 (Mm.args (s,a)) (Mm.hp (s,a)) (Mm.out (s,a)))<|aSc<|h _<|.head _
def aNZ:=auQ.gd El Tryz.func136 λ⟨s,a⟩ ⟨h,_⟩=>⟨aK,J (p:=agk s a)<|(atE h).1⟩
def ajM:=m.cons aSb<| .cons aNZ<|El
def aR8:=auQ.gd ajM Tryz.func116 λ⟨s,a⟩ ⟨h,_⟩=>⟨aK,J (p:=ahV s a)<|(atE h).2⟩
def u_:=m.cons aR8<|ajM
end
def dD(k:Int):Int:=if k=0 then 35 else if k=1 then 31 else if k=2 then 52 else 0
def kdE(k:Int):Int:=if 0<=k/\k<=2 then 0 else 11
def aBL:N:=[0,0,0,0,0,0,0,0,0,0,0,0,0,0,0,0,1,1,1,1,2,2,3,3,4,6,7,8,9,10,11,12,13,14,15,16]
def aBM:N:=[0,0,0,0,0,0,0,0,0,0,0,0,0,0,0,0,0,0,0,0,0,0,0,0,0,0,0,0,0,0,0,0,1,1,1,1,2,2,3,3,4,4,5,7,8,9,10,11,12,13,14,15,16]
def dZ(k c:Int):Int:=if k=1 then c else if k=0 then aBL.getD c.toNat 0 else aBM.getD c.toNat 0
def oG(k:Int):Nat->Int
 |0=>if k=2 then 3 else 0
 |c+1=>oG k c+2^(dZ k c).toNat
def lQ(k c:Int):Int:=if k=1 then 2^c.toNat else oG k c.toNat
def Hv(k c:Int):Prop:=0<=k/\k<=2/\0<=c/\c<=dD k
def oe(k:Int):Int:=if k=1 then 8 else if 0<=k/\k<=2 then 9 else 0
def vr(g:Int)(p:N):Bool:=g==0&&(p.length:Int)==0
def xc(g:Int)(p:N)(h:Int)(q:N):Bool:=g==h&&vw p q
def tbE(k m s g:Int)(p:N):Int:=
 if kdE k=0 then
  if m=0 then(if s=0/\xc g p (oq k) (nR k)=ab then 0 else 2)
  else if m=1 then(if s<0\/dD k<s then 24 else if vr g p=ab then 0 else 2)
  else if m=2 then(if cb g p=0 then(if oe k<g then 31 else if dD k+1<p.length then 23 else if s=0 then 0 else 2)else cb g p)
  else if m= -1 then(if s=0/\vr g p=ab then 0 else 2)
  else 11
 else 11
def yk(k:Int)(s:M)(a:Int):(Int×N)×Int×Int×Int:=readF 600 s a (oe k)<|dD k+1
def lV(k m:Int)(s:M)(a h:Int):Int×Int:=if m=0 then(0,0)else if m=1 then(if a=s.size then(5,a)else if dD k<u s a then(24,a)else(0,0))else if m=2 then((yk k s a).2.2.1,(yk k s a).2.2.2)else if h= -1 then(26,a)else(0,0)
def qM(k m:Int)(s:M)(a h:Int):Int:=if(lV k m s a h).1=0 then(if m=3 then h else m)else 0
def qN(k m:Int)(s:M)(a h x:Int):Int:=if(lV k m s a h).1=0 then(if m=1 then u s a else if m=3 then x else 0)else 0
def tU(k m:Int)(s:M)(a x h:Int):Int:=if(lV k m s a x).1=0 then(if m=0 then oq k else if m=2 then(yk k s a).1.1 else if m=3 then h else 0)else 0
def sU(k m:Int)(s:M)(a h:Int)(x:N):N:=if(lV k m s a h).1=0 then(if m=0 then nR k else if m=2 then(yk k s a).1.2 else if m=3 then x else [])else []
def eG(k m:Int)(s:M)(a h:Int):Int:=if(lV k m s a h).1=0 then(if m=1 then a+1 else if m=2 then(yk k s a).2.1 else a)else 0
def xf(m:Int):Int:=if m= -1 then 26 else 0
def lL(m s g:Int)(p:N):q:=if m= -1 then []else if m=1 then [[s,0,0]]else cC g p
def aOS:Spec:=Sp Int [.i] λk=>([E<|0<=k,E<|k<=2],aE<|fN ab)
def aOR:Spec:=Sp Int [.i] λk=>([E<|0<=k,E<|k<=2],aE<|B<|dD k)
def at3:Spec:=Sp Int [.i] λk=>([E<|0<=k,E<|k<=2],aE<|.tu [B<|dD k,B 0])
def at1:Spec:=Sp (Int×Int) [.i,.i] λ(k,c)=>([E<|0<=k,E<|k<=2,E<|0<=c,E<|c<=dD k],aE<|B<|dZ k c)
def at6:Spec:=Sp (Int×Int) [.i,.i] λ(k,c)=>([E<|0<=k,E<|k<=2,E<|0<=c,E<|c<=dD k],aE<|B<|lQ k c)
def aOQ:Spec:=Sp (Int×Int) [.i,.i] λ(k,c)=>([E<|0<=k,E<|k<=2,E<|0<=c,E<|c<=dD k],aE<|B 0)
def at5:Spec:=Sp (Int×Int) [.i,.i] λ(k,c)=>([E<|0<=k,E<|k<=2,E<|0<=c,E<|c<=dD k],aE<|.tu [B<|lQ k c,B<|dZ k c,B 0])
def agU:Spec:=Sp Unit [] λ_=>([],aE<|qT [9,8,9])
def aP6:Spec:=Sp Int [.i] λk=>([E<|0<=k,E<|k<=2],aE<|.tu [B<|oe k,B 0])
def auP:Spec:=Sp (Int×N) [.g [.i,.l]] λ(g,p)=>([],aE<|fN<|vr g p)
def aP8:Spec:=Sp (Int×N×Int×N) [.g [.i,.l],.g [.i,.l]] λ(g,p,h,q)=>([E<|p.length<=4294967296],aE<|fN<|xc g p h q)
def aP7:Spec:=Sp (Int×Int×Int×N×Int×Int×Int×N) [.g [.i,.i,.i,.l],.g [.i,.i,.i,.l]] λ(m,s,g,p,n,t,h,q)=>([E<|p.length<=4294967296],aE<|fN<|m==n&&(s==t&&xc g p h q))
def aP5:Spec:=Sp (Int×Int) [.g [.i,.i]] λ(e,a)=>([],aE<|fN<|e !=0)
def auL:Spec:=Sp (Int×Int×Int×Int×N) [.i,.g [.i,.i,.i,.l]] λ(k,m,s,g,p)=>([E<|0<=k,E<|k<=2,E<|tbE k m s g p=0],aE<|B 0)
def auO:Spec:=Sp (Int×Int×M×Int×Int×Int×Int×N) [.i,.i,.s,.i,.g [.i,.i,.i,.l]] λ(k,m,s,a,h,ls,x,y)=>([E<|0<=k,E<|k<=2,E<|0<=m,E<|m<=3,E<|0<=a,E<|a<=s.size,E<|s.size<=600,E<|tbE k h ls x y=0],aE<|.tu [.ag [B<|qM k m s a h,B<|qN k m s a h ls,B<|tU k m s a h x,dm<|sU k m s a h y],B<|eG k m s a h,.ag [.v<|.int .i64 (lV k m s a h).1,.v<|.int .i64 (lV k m s a h).2]])
def auN:Spec:=Sp Int [.i] λs=>([E<|0<=s,E<|s<=255],aE<|.tu [.bZ<|.cH 3 [[s,0,0]],B 0])
def auM:Spec:=Sp (Int×Int×Int×Int×N) [.i,.g [.i,.i,.i,.l]] λ(k,m,s,g,p)=>([E<|0<=k,E<|k<=2,E<|tbE k m s g p=0],aE<|.tu [.bZ<|.cH 3<|lL m s g p,B<|xf m])
def aqh(k c:Int)(r:Nat):bO:=dX [(0,.one<|bi Nat λi=>(Hv k c/\i<=c.toNat/\k≠1,cond (ap r 0) [(0,B k),(5,B<|oG k i),(15,B c),(16,cP i)] [(0,B k),(1,B c),(5,B<|oG k i),(6,cP i)],[],c.toNat-i))]
def XU(n:Nat)(m s g:Int)(p:SV):Nat×bm:=(n,.cells 46 [.v<|.int .i64 m,.v<|.int .i64 s,.v<|.int .i64 g,p])
def aI5(m s g:Int)(p:N)(n t h:Int)(q:N):bO:=dX [(0,.one<|bi Nat λi=>(i<=p.length/\p.take i=q.take i/\p.length=q.length/\m=n/\s=t/\g=h,[(2,U 1001),(3,U 1002),(5,cP i)],[XU 1001 m s g<|dm p,XU 1002 n t h<|dm q],p.length-i))]
def aI4(k m:Int)(s:M)(a x z h:Int)(y:N):bO:=
 let c:=jG True [(0,B k),(1,B m),(2,aD s),(3,B a),(9,U 1003),(10,U 1001),(12,U 1002),(13,B<|oe k),(14,B 0)] [XU 1001 0 0 0<|.v<|.slice ae 0 0,(1002,yl),XU 1003 x z h<|dm y]
 dX [(1004,c),(1006,c),(1008,c)]
def SR(k c:Int):Prop:=(have y:=have y:=have y:=[(12:Int),(13:Int),(14:Int),(15:Int),(16:Int)];(8:Int)::(9:Int)::(10:Int)::(11:Int)::y;have y:=(3:Int)::(3:Int)::(4:Int)::(6:Int)::(7:Int)::y;(1:Int)::(1:Int)::(2:Int)::(2:Int)::y;have y:=have y:=(0:Int)::(0:Int)::(0:Int)::(1:Int)::(1:Int)::y;(0:Int)::(0:Int)::(0:Int)::(0:Int)::y;have y:=(0:Int)::(0:Int)::(0:Int)::(0:Int)::(0:Int)::y;(0:Int)::(0:Int)::(0:Int)::(0:Int)::y).length=(au 36 (0:Int)).length/\(have y:=have y:=have y:=[(10:Int),(11:Int),(12:Int),(13:Int),(14:Int),(15:Int),(16:Int)];(3:Int)::(4:Int)::(4:Int)::(5:Int)::(7:Int)::(8:Int)::(9:Int)::y;have y:=(1:Int)::(1:Int)::(1:Int)::(1:Int)::(2:Int)::(2:Int)::(3:Int)::y;(0:Int)::(0:Int)::(0:Int)::(0:Int)::(0:Int)::(0:Int)::y;have y:=have y:=(0:Int)::(0:Int)::(0:Int)::(0:Int)::(0:Int)::(0:Int)::(0:Int)::y;(0:Int)::(0:Int)::(0:Int)::(0:Int)::(0:Int)::(0:Int)::y;have y:=(0:Int)::(0:Int)::(0:Int)::(0:Int)::(0:Int)::(0:Int)::(0:Int)::y;(0:Int)::(0:Int)::(0:Int)::(0:Int)::(0:Int)::(0:Int)::y).length=(au 53 (0:Int)).length/\Bq (k==0) (Rq c (Zq 36)<|c.toNat<36/\(have y:=have y:=have y:=[(12:Int),(13:Int),(14:Int),(15:Int),(16:Int)];(8:Int)::(9:Int)::(10:Int)::(11:Int)::y;have y:=(3:Int)::(3:Int)::(4:Int)::(6:Int)::(7:Int)::y;(1:Int)::(1:Int)::(2:Int)::(2:Int)::y;have y:=have y:=(0:Int)::(0:Int)::(0:Int)::(1:Int)::(1:Int)::y;(0:Int)::(0:Int)::(0:Int)::(0:Int)::y;have y:=(0:Int)::(0:Int)::(0:Int)::(0:Int)::(0:Int)::y;(0:Int)::(0:Int)::(0:Int)::(0:Int)::y).getD c.toNat (0:Int)=dZ k c) (Bq (k==2) (Rq c (Zq 53)<|c.toNat<53/\(have y:=have y:=have y:=[(10:Int),(11:Int),(12:Int),(13:Int),(14:Int),(15:Int),(16:Int)];(3:Int)::(4:Int)::(4:Int)::(5:Int)::(7:Int)::(8:Int)::(9:Int)::y;have y:=(1:Int)::(1:Int)::(1:Int)::(1:Int)::(2:Int)::(2:Int)::(3:Int)::y;(0:Int)::(0:Int)::(0:Int)::(0:Int)::(0:Int)::(0:Int)::y;have y:=have y:=(0:Int)::(0:Int)::(0:Int)::(0:Int)::(0:Int)::(0:Int)::(0:Int)::y;(0:Int)::(0:Int)::(0:Int)::(0:Int)::(0:Int)::(0:Int)::y;have y:=(0:Int)::(0:Int)::(0:Int)::(0:Int)::(0:Int)::(0:Int)::(0:Int)::y;(0:Int)::(0:Int)::(0:Int)::(0:Int)::(0:Int)::(0:Int)::y).getD c.toNat (0:Int)=dZ k c)<|c=dZ k c)
def asw(k c:Int)(D:Prop):Prop:=Bq (k==1) (c=dZ k c)<|Bq (k==0) (Dq (c<16) (0=dZ k c) D) D
def W9(k c:Int):Prop:=asw k c<|Bq (k==2) (Dq (c<32) (0=dZ k c)<|Bq (k==0) (Dq (c<25) (Rq (Wq<|c-16) (Zq 9)<|b5 (c-16)<9/\mq [1,1,1,2,2,3,3,4] (c-16)=dZ k c)<|Bq (k==0) (Wq (c-19)=dZ k c)<|Dq (c<43) (Rq (Wq<|c-32) (Zq 11)<|b5 (c-32)<11/\mq [1,1,1,2,2,3,3,4,4,5] (c-32)=dZ k c)<|Wq (c-36)=dZ k c)<|Bq (k==0) (Wq (c-19)=dZ k c)<|Dq (c<43) (Rq (Wq<|c-32) (Zq 11)<|b5 (c-32)<11/\mq [1,1,1,2,2,3,3,4,4,5] (c-32)=dZ k c)<|Wq (c-36)=dZ k c)<|Bq (k==0) (Dq (c<25) (Rq (Wq<|c-16) (Zq 9)<|b5 (c-16)<9/\mq [1,1,1,2,2,3,3,4] (c-16)=dZ k c)<|Bq (k==0) (Wq (c-19)=dZ k c)<|Dq (c<43) (Rq (Wq<|c-32) (Zq 11)<|b5 (c-32)<11/\mq [1,1,1,2,2,3,3,4,4,5] (c-32)=dZ k c)<|Wq (c-36)=dZ k c)<|Bq (k==0) (Wq (c-19)=dZ k c)<|Dq (c<43) (Rq (Wq<|c-32) (Zq 11)<|b5 (c-32)<11/\mq [1,1,1,2,2,3,3,4,4,5] (c-32)=dZ k c)<|Wq (c-36)=dZ k c
def ahH:Prop:=gg [9,8,9] fP/\(3:Nat)=3/\Jq [(9:Int),8,9]
def aRD:ahH=agU.vc ar (sa u_) (λ_=>ae) Tryz.f104 ():=ax
def atz(k:Int)(D:Prop):Prop:=Bq (k==0) (Bq (k==0) (9=oe k/\a_) D)<|Bq (k==2) (9=oe k/\a_) D
def XV(g:Int)(p:N):Prop:=Bq (g==0) ((o p==0)=vr g p)<|ah=vr g p
def atD(g:Int)(p:N):Prop:=
 Bq (g==0) ((Zq (p.length)==0)=vr g p)<|ah=vr g p
def WM(h0:Nat)(h1 h:N)(x:Prop):Prop:=jc h0 h1/\aC h0 h1=aC h0 h/\gg h1 h/\x
def atC(m s g:Int)(p:N)(n t h:Int)(q:N)(D P:Prop)(i:Bool):Prop:=Bq (m !=n) P<|Bq (s !=t) P<|Bq (g !=h) P<|Bq (o p !=o q) P<|(∃(y:Nat),WM y p q (m=n/\s=t/\g=h)/\aZ y/\D)/\(∀(x1:Nat),WM x1 p q (m=n/\s=t/\g=h)->Dq (Zq x1<o p) (Rq (Zq x1) (o p)<|Rq (Zq x1) (o q)<|Bq (b_ p x1 !=b_ q x1) P<|∃(x:Nat),WM x p q (m=n/\s=t/\g=h)/\gS p x x1/\bE x1 x/\D) (ab=i))
def aRB(e a:Int):Prop:=
 Jq<|e !=0
def ahJ(s:Int):Prop:=
 Dq (s<0) ((1:Nat)=0/\(2:Int)=0)
<|Dq (s>=256) ((1:Nat)=0/\(2:Int)=0)
<|ma (λ(i:Nat)=>aC ((3:Nat))<|iI (i*3) [s,0,0]) (fM 1)= [[s,0,0]]/\(0:Int)=0
def agi(s:Int):Prop:=
 Dq (s<0) ((1:Nat)=0/\(2:Int)=0)
<|Dq (s>255) ((1:Nat)=0/\(2:Int)=0)
<|ma (λ(i:Nat)=>aC ((3:Nat))<|iI (i*3) [s,0,0]) (fM 1)= [[s,0,0]]/\(0:Int)=0
def nt(h0:Int)(h1:Prop):Prop:=0<=h0/\h0<=2/\h1
def aq5(h0 h1:Int)(y:Nat)(z e:Int):Prop:=∀(h:Nat),Hv h0 h1/\h<=y/\h0≠1->Dq (Zq h<h1) (0<=h0/\h0<=2/\0<=Zq h/\Zq h<=z/\0<=Uq (dZ h0<|Zq h)/\(∃(x:Nat),(Hv h0 h1/\x<=y/\h0≠1)/\cl y x h/\h0=h0/\Wq (oG h0 h+jd (Uq<|dZ h0<|Zq h) .i64)=oG h0 x/\h1=h1/\bE h x)) (oG h0 h=e)
def Wj(h0:Int)(h1 h x:Prop):Prop:=Bq (h0==2) (h1/\h)<|x/\h
def LZ(h0 h1:Int)(h:Nat)(x:Prop):Prop:=(Hv h0 h1/\h<=h1.toNat/\h0≠1)/\h0=h0/\x
def aaS(k c:Int):Prop:=Bq (k==1) (fU c/\fG c=lQ k c)<|Wj k (∃(h:Nat),LZ k c h<|3=oG k h/\c=c/\aZ h) (aq5 k c c.toNat (dD k)<|lQ k c)<|∃(x:Nat),LZ k c x<|0=oG k x/\c=c/\aZ x
def aq6(h0 h1:Int)(y:Nat)(z e:Int):Prop:=∀(h:Nat),Hv h0 h1/\h<=y/\h0≠1->Dq (Zq h<h1) (0<=h0/\h0<=2/\0<=Zq h/\Zq h<=z/\0<=Uq (dZ h0<|Zq h)/\(∃(x:Nat),(Hv h0 h1/\x<=y/\h0≠1)/\cl y x h/\h0=h0/\h1=h1/\Wq (oG h0 h+jd (Uq<|dZ h0<|Zq h) .i64)=oG h0 x/\bE h x)) (oG h0 h=e)
def afZ(k c:Int):Prop:=Bq (k==1) (fU c/\fG c=lQ k c)<|Wj k (∃(h:Nat),LZ k c h<|c=c/\3=oG k h/\aZ h) (aq6 k c c.toNat (dD k)<|lQ k c)<|∃(x:Nat),LZ k c x<|c=c/\0=oG k x/\aZ x
def awf(g:Int)(p:N)(h:Int)(q:N):Prop:=
 Bq (g==h) (p.length<=4294967296/\vw p q=xc g p h q)<|ah=xc g p h q
def aaR(k c:Int):Prop:=
 0<=k/\
 k<=2/\
 0<=c/\
 c<=dD k/\
 Bq ((0:Int) !=0) (0=lQ k c/\0=dZ k c/\(0:Int)=0)
 (Rq 0 (Zq 2)
<|0<=k/\
 k<=2/\
 0<=c/\
 c<=dD k/\Rq 1 (Zq 2) (0<=k/\k<=2/\0<=c/\c<=dD k/\lQ k c=lQ k c/\dZ k c=dZ k c/\(0:Int)=0))
def asx(k c:Int)(D P:Prop):Prop:=nt k<|Bq ((0:Int)==0) (Dq (c<0) (Bq ((24:Int) !=0) (0=lQ k c/\0=dZ k c/\(24:Int)=0) D)<|Lk c (dD k) ((24:Int) !=0) (0=lQ k c/\0=dZ k c/\(24:Int)=0) D ((0:Int) !=0)<|0=lQ k c/\0=dZ k c/\a_)<|sF (0=lQ k c) (0=dZ k c/\a_) (0<=k)<|k<=2/\P
def afY(k c:Int):Prop:=asx k c (nt k<|aF c (c<=dD k)<|nt k<|aF c (c<=dD k)<|aw (lQ k c) (dZ k c=dZ k c) a_)<|aF c (c<=dD k)<|nt k<|aF c (c<=dD k)<|aw (lQ k c) (dZ k c=dZ k c) a_
def DG(h0:Bool):Prop:=Bq (!h0) ((2:Int)=0)<|(0:Int)=0
def ahG(k m s g:Int)(p:N):Prop:=nt k<|Bq ((0:Int) !=0) ((11:Int)=0)<|Bq (m==0) (Bq (s==0) (cd p/\DG (xc g p (oq k)<|nR k))<|(2:Int)=0)<|Bq (m==1) (Dq (s<0) ((24:Int)=0)<|Dq (s>dD k) ((24:Int)=0)<|DG<|vr g p)<|Bq (m==2) (cd p/\Bq (cb g p !=0) (cb g p=0) (Rq k (Zq 3)<|3= [(9:Int),8,9].length/\Dq (g> [(9:Int),8,9].getD k.toNat (0:Int)) ((31:Int)=0) (Dq (o p>ay (dD k)) ((23:Int)=0)<|DG<|s==0)))<|Bq (m==fH) (Bq (s==0) (DG<|vr g p)<|(2:Int)=0)<|(11:Int)=0
def agf(k m s g:Int)(p:N):Prop:=nt k<|Bq ((0:Int) !=0) a_<|nt k<|Bq (m==fH) (Bq (s !=0) ((2:Int)=0)<|DG<|vr g p)<|Bq (m==0) (cd p/\DG (m==0&&(s==0&&xc g p (oq k) (nR k))))<|Bq (m==1) (Dq (s<0) ((24:Int)=0)<|Dq (s>dD k) ((24:Int)=0)<|DG<|vr g p)<|Bq (m==2) (cd p/\Bq (cb g p !=0) (cb g p=0) (Dq (g>oe k) ((31:Int)=0)<|Dq (o p>ay (dD k)) ((23:Int)=0)<|Bq (s !=0) ((2:Int)=0) a_))<|(11:Int)=0
def zl(h0 h1:Int)(h:M)(x y z e:Int)(k:N)(r:Prop):Prop:=0=qM h0 h1 h x y/\0=qN h0 h1 h x y z/\0=tU h0 h1 h x y e/\(sU h0 h1 h x y k).length=0/\0=eG h0 h1 h x y/\r
def VQ(h0 h1:Int)(h:M)(x y e:Int)(z:(Int×N)×Int×Int×Int)(k:Int)(r:N):Prop:=0=qN h0 h1 h x y e/\z.1.1=tU h0 h1 h x y k/\z.1.2=sU h0 h1 h x y r/\z.2.1=eG h0 h1 h x y/\dO (lV h0 h1 h x y)
def Ge(h0:Int×Int)(h1:Int):Prop:=26=h0.1/\h1=h0.2
def Qd(h0 h1 x:Int)(y:M)(h z e:Int)(k:N):Prop:=h0=qM h1 x y h h0/\z=qN h1 x y h h0 z/\e=tU h1 x y h h0 e/\k=sU h1 x y h h0 k/\h=eG h1 x y h h0/\dO (lV h1 x y h h0)
def Iy(h0 h1:Int)(h:M)(x y z:Int)(e:N)(k:Prop):Prop:=0=tU h0 h1 h x y z/\ck (sU h0 h1 h x y e)/\k
def WJ(h0 h1:Int)(x:M)(h y z e:Int)(k:N):Prop:=0=qN h0 h1 x h y z/\oq h0=tU h0 h1 x h y e/\nR h0=sU h0 h1 x h y k/\h=eG h0 h1 x h y/\dO (lV h0 h1 x h y)
def awd(k m:Int)(s:M)(a x e y:Int)(z:N)(D P:Prop)(i:(Int×N)×Int×Int×Int)(p j h:Prop)(r:Int×Int):Prop:=nt k<|Bq ((0:Int) !=0) P<|Dq (a<0) j<|Dq (a>ak s) j<|nt k<|tbE k x e y z=0/\Bq ((0:Int) !=0) p (Bq (m==0) (Bq ((0:Int) !=0) p<|h/\WJ k m s a x e y z)<|Bq (m==1) (Bq (a==ak s) (Bq ((5:Int) !=0) (zl k m s a x e y z<|zy r a) D)<|Rq a (ak s)<|Dq (l6 s a.toNat>dD k) (Bq ((24:Int) !=0) (zl k m s a x e y z<|24=r.1/\a=r.2) D)<|Rq a (ak s)<|Bq ((0:Int) !=0) p<|h/\l6 s a.toNat=qN k m s a x e/\Iy k m s a x y z (ay a=eG k m s a x/\dO r))<|Bq (m==2) (Rq k (Zq 3)<|3= [(9:Int),8,9].length/\bD s/\bS i.2.2.1 (0=qM k m s a x) (0=qN k m s a x e/\Iy k m s a x y z (0=eG k m s a x/\FK i r)) h (VQ k m s a x e i y z))<|Bq (m==3) (Bq (x==fH) (Bq ((26:Int) !=0) (zl k m s a x e y z<|Ge r a)<|Qd x k m s a e y z)<|Bq ((0:Int) !=0) p<|Qd x k m s a e y z)<|Bq ((11:Int) !=0) P D)
def ahK(k m:Int)(s:M)(a h z x:Int)(y:N):Prop:=awd k m s a h z x y (m=qM k m s a h/\0=qN k m s a h z/\Iy k m s a h x y (a=eG k m s a h/\dO (lV k m s a h))) (zl k m s a h z x y<|11=(lV k m s a h).1/\0=(lV k m s a h).2) (readF 2000 s a ([(9:Int),8,9].getD k.toNat (0:Int))<|ay<|dD k) (zl k m s a h z x y<|dO<|lV k m s a h) (zl k m s a h z x y<|ig<|lV k m s a h) (m=qM k m s a h)<|lV k m s a h
def atA(k m:Int)(s:M)(a h z x:Int)(y:N)(D P i:Prop)(j:Int×Int):Prop:=nt k<|Bq ((0:Int)==0) (Dq (a<0) P<|Dq (a>ak s) P i) i/\LP ((0:Int)==0) (nt k<|tbE k h z x y=0/\i) i (Bq ((0:Int)==0) (Dq (m<0) D<|Dq (m>3) D i) i/\mr True (Bq ((0:Int) !=0) (zl k m s a h z x y<|dO j)<|nt k<|Bq (m==0) (0=qM k m s a h/\WJ k m s a h z x y)<|Bq (m==1) (Bq (a==ak s) (zl k m s a h z x y<|zy j a)<|Rq a (ak s)<|Dq (l6 s a.toNat>dD k) (zl k m s a h z x y<|24=j.1/\a=j.2)<|Rq a (ak s)<|1=qM k m s a h/\l6 s a.toNat=qN k m s a h z/\Iy k m s a h x y (ay a=eG k m s a h/\dO j))<|Bq (m==2) (bD s/\bS (readF 600 s a (oe k)<|ay<|dD k).2.2.1 (0=qM k m s a h) (0=qN k m s a h z/\Iy k m s a h x y (0=eG k m s a h/\FK (readF 600 s a (oe k)<|ay<|dD k) j)) (2=qM k m s a h) (VQ k m s a h z (readF 600 s a (oe k)<|ay<|dD k) x y))<|Bq (h==fH) (zl k m s a h z x y<|Ge j a)<|Qd h k m s a z x y))
def agj(k m:Int)(s:M)(a z y h:Int)(x:N):Prop:=atA k m s a z y h x (ja (k=k)<|m=m/\s=s/\a=a/\aw (oe k) ((11:Int)=0) (ca<|a_/\rX/\ca (aw z (y=y)<|h=h/\x=x))) (ja (k=k)<|m=m/\s=s/\a=a/\aw (oe k) ((2:Int)=0) (ca<|a_/\rX/\ca (aw z (y=y)<|h=h/\x=x))) (ja (k=k)<|m=m/\s=s/\a=a/\aw (oe k) a_ (ca<|a_/\rX/\ca (aw z (y=y)<|h=h/\x=x)))<|lV k m s a z
def Vp(h0 h1 x:Int)(h:N):Prop:=Bq (h0== -1) ((lL h0 h1 x h).length=0/\26=xf h0)<|Bq (h0==1) (0<=h1/\h1<=255/\[[h1,0,0]]=lL h0 h1 x h/\0=xf h0)<|cd h/\xB x h=lL h0 h1 x h/\cb x h=xf h0
def ahI(k m s g:Int)(p:N):Prop:=nt k<|tbE k m s g p=0/\Bq ((0:Int) !=0) (gZ (lL m s g p)/\0=xf m) (Vp m s g p)
def agh(k m s g:Int)(p:N):Prop:=nt k<|tbE k m s g p=0/\Bq ((0:Int) !=0) (gZ (lL m s g p)/\0=xf m) (Vp m s g p)
section
variable{k c m s g:Int}{p:N}
def k3(h0:0<=k)(h1:k<=2):k=0\/k=1\/k=2:=Y
def aBO:∀k:Fin 3,∀c:Fin 53,(c.val:Int)<=dD k.val->(0<=dZ k.val c.val/\dZ k.val c.val<=31)/\(0<=oG k.val c.val/\oG k.val c.val<=8589934592)/\(0<=lQ k.val c.val/\lQ k.val c.val<=4294967296):=by decide+kernel
def aaW(h0:0<=k)(h1:k<=2)(h:0<=c)(x:c<=dD k):(0<=dZ k c/\dZ k c<=31)/\(0<=oG k c.toNat/\oG k c.toNat<=8589934592)/\(0<=lQ k c/\lQ k c<=4294967296):=by
 obtain⟨K,rfl⟩:=pP h0;obtain⟨C,rfl⟩:=pP h;have:dD (K:Int)<=52:=by grind [dD]
 exact aBO ⟨K,Y⟩ ⟨C,Y⟩ x
set_option synthInstance.maxSize 100000 in
set_option synthInstance.maxHeartbeats 1000000 in
theorem aBF:∀k:Fin 3,∀c:Fin 53,(c.val:Int)<=dD k.val->SR k.val c.val:=by
 unfold SR Bq Rq Zq;decide+kernel
set_option synthInstance.maxSize 100000 in
set_option synthInstance.maxHeartbeats 1000000 in
theorem aMj:∀k:Fin 3,∀c:Fin 53,(c.val:Int)<=dD k.val->W9 k.val c.val:=by
 unfold W9 asw mq b5 Dq Bq Rq Wq Zq;decide+kernel
def ame(h0:0<=k)(h1:k<=2)(x:0<=c)(h:c<=dD k):SR k c/\W9 k c:=by
 obtain⟨K,rfl⟩:=pP h0;obtain⟨C,rfl⟩:=pP x;have:dD (K:Int)<=52:=by grind [dD]
 exact⟨aBF ⟨K,Y⟩ ⟨C,Y⟩ h,aMj ⟨K,Y⟩ ⟨C,Y⟩ h⟩
def aRF:ahH:=by unfold ahH fP gg Jq;decide
def awg:XV g p/\atD g p:=by
 have:XV g p:=by unfold XV o Zq;unfold vr;exact de (λh=>by rw[h];rfl) λh=>by rw[oc h];rfl
 exact⟨this,this⟩
def awc(h0:0<=s)(h1:s<=255):ahJ s/\agi s:=by
 constructor
 .grind [ahJ]
 .grind [agi]
def amj(h0:0<=k)(h1:k<=2)(h:0<=c)(x:c<=dD k):aaR k c/\afY k c:=by
 constructor
 .grind [aaR]
 .unfold afY asx aw aF a_ nt sF Lk
  grind
def amk(h0:0<=k)(h1:k<=2)(x:0<=c)(y:c<=dD k){i:Nat}(hi:(i:Int)<c):(0<=Q .u64 (dZ k i)/\Q .i64 (oG k i+Q .i64 ((1:Int)*2^min (X<|Q .u64<|dZ k i) (cZ .i64)))=oG k (i+1)):=by have b:=aaW h0 h1 (c:=(i:Int)) Y Y;have h:=aaW h0 h1 (c:=((i+1:Nat):Int)) Y Y;grind [fW,sS,wr,oG]
def aml(h0:0<=k)(h1:k<=2)(e:0<=c)(r:c<=dD k):aaS k c/\afZ k c:=by
 have b:dD k<=52:=by unfold dD;repeat' split
                     all_goals omega
 have x:Hv k c:=⟨h0,h1,e,r⟩;have a:k=2->3=oG k 0:=λh=>by rw[h];rfl
 have j:k≠2->0=oG k 0:=λh=>by show 0=if k=2 then 3 else 0;rw[V h]
 have z:∀{i:Nat},i<=c.toNat->¬(i:Int)<c->k≠1->oG k i=lQ k c:=λh1 e r=>by unfold lQ;rw[V r];congr 1;omega
 have one:k=1->0<=Q .u64 c/\Q .i64 ((1:Int)*2^min (X<|Q .u64 c) (cZ .i64))=lQ k c:=λh=>by
  have:c<=31:=by rw[h]at r;exact r
  rw[fW (n:=c) e Y,sS e Y];unfold lQ;rw[I h];exact⟨e,rfl⟩
 constructor
 .unfold aaS LZ Wj fU fG aZ aq5 jd bE cl Wq Uq Zq
  refine de one λy=>de (λu=>⟨⟨0,⟨x,dx _,y⟩,rfl,a u,rfl,rfl⟩,λi ⟨_,hi,_⟩=>dq (λd=>?_) λd=>z hi d y⟩) λu=>⟨⟨0,⟨x,dx _,y⟩,rfl,j u,rfl,rfl⟩,λi ⟨_,hi,_⟩=>dq (λd=>?_) λd=>z hi d y⟩<;>
  .obtain⟨v,w⟩:=amk h0 h1 e r d
   grind [wr]
 .unfold afZ LZ Wj fU fG aZ aq6 jd bE cl Wq Uq Zq
  refine de one λy=>de (λu=>⟨⟨0,⟨x,dx _,y⟩,rfl,rfl,a u,rfl⟩,λi ⟨_,hi,_⟩=>dq (λd=>?_) λd=>z hi d y⟩) λu=>⟨⟨0,⟨x,dx _,y⟩,rfl,rfl,j u,rfl⟩,λi ⟨_,hi,_⟩=>dq (λd=>?_) λd=>z hi d y⟩<;>
  .obtain⟨v,w⟩:=amk h0 h1 e r d
   exact⟨h0,h1,Y,Y,v,i+1,⟨x,Y,y⟩,by show _- (i+1)<_-i;omega,rfl,rfl,w,wr Y Y⟩
end
section
section
variable{k c m s g n t h:Int}{p q:N}
def ag8:xc g p h q=ab↔g=h/\p=q:=by unfold xc vw;simp
def al6:vr g p=ab↔g=0/\p= []:=by unfold vr;simp
theorem UU(k:Int):(nR k).length<=53/\cb (oq k) (nR k)=(if 0<=k/\k<=2 then 0 else 31):=by
 by_cases x:0<=k/\k<=2
 ·rcases k3 x.1 x.2 with rfl|rfl|rfl<;>decide+kernel
 ·obtain⟨y,z,e⟩:=ad5 (k:=k) (oc Y) (oc Y) (oc Y)
  rw[V x,y,z];exact⟨H,H⟩
def aA2(h:cb g p=0):p.length<=256/\5<=g/\g<=12:=by grind [cb,SF]
def XW(h0:0<=k)(h1:k<=2)(x:tbE k m s g p=0):(m=0/\s=0/\g=oq k/\p=nR k)\/(m=1/\0<=s/\s<=dD k/\g=0/\p= [])\/(m=2/\s=0/\cb g p=0/\g<=oe k/\(p.length:Int)<=dD k+1)\/(m= -1/\s=0/\g=0/\p= []):=by unfold tbE kdE at x;have:=@ag8 g (oq k) p<|nR k;have:=@al6 g p;grind (splits:=20)
theorem ahL(h0:0<=k)(h1:k<=2)(x:tbE k m s g p=0):p.length<=256:=by
 rcases XW h0 h1 x with⟨_,_,_,rfl⟩|⟨_,_,_,_,rfl⟩|⟨_,_,h,_⟩|⟨_,_,_,rfl⟩
 ·grind [UU]
 ·simp
 ·exact(aA2 h).1
 ·simp
def Od(h0:0<=k)(h1:k<=2):eU [(9:Int),8,9] k.toNat 0=oe k/\dD k<=52/\31<=dD k/\oe k<=9/\8<=oe k:=by rcases k3 h0 h1 with rfl|rfl|rfl<;>decide
def awa(h0:0<=k)(h1:k<=2)(x:tbE k m s g p=0):ahG k m s g p/\agf k m s g p:=by
 have e:=XW h0 h1 x;have r:=ahL h0 h1 x;obtain⟨y,z,_⟩:=Od h0 h1;have:=@ag8 g (oq k) p<|nR k;have:=@al6 g p;constructor
 .unfold ahG o cd nt DG fH ay Rq Wq Zq;rw[y,wr (n:=dD k+1) Y Y]
  (repeat' (first|refine dq (λ_=>?_) λ_=>?_|refine de (λ_=>?_) λ_=>?_|refine bV (λ_=>?_) λ_=>?_|refine bq (λ_=>?_) λ_=>?_|refine cq (λ_=>?_) λ_=>?_|refine fY ?_ ?_))<;>grind
 .unfold agf o cd a_ nt DG fH ay Wq Zq
  try rw[wr (n:=dD k+1) Y Y]
  (repeat' (first|refine dq (λ_=>?_) λ_=>?_|refine de (λ_=>?_) fun _=>?_|refine bV (fun _=>?_) fun _=>?_|refine bq (fun _=>?_) fun _=>?_|refine cq (fun _=>?_) fun _=>?_|refine fY ?_ ?_))<;>grind
variable{w:M}{a lm ls lg:Int}{lp:N}
def aMq{b m y:Int}(h:(readF x v b m y).2.2.1=0):(readF x v b m y).2.2.2=0:=by grind [sN,IG,Co,sK]
attribute [local irreducible] readF tbE
def awe(h0:0<=k)(h1:k<=2)(o:0<=m)(l:m<=3)(A:0<=a)(B:a<=w.size)(j:w.size<=600)(v:tbE k lm ls lg lp=0):ahK k m w a lm ls lg lp/\agj k m w a lm ls lg lp:=by
 obtain⟨i,b,d,e4,f⟩:=Od h0 h1;have C:=me w a;have r:Q .i64 (dD k+1)=dD k+1:=wr Y Y;have e:Q .i64 ((w.data.toList.getD a.toNat 0).toNat:Int)=u w a:=wr (n:=u w a) Y Y;have y:Q .i64 (a+1)=a+1:=wr Y Y;have x:readF 600 w a (oe k) (dD k+1)=yk k w a:=rfl;have z:(yk k w a).2.2.1=0->(yk k w a).2.2.2=0:=aMq;constructor
 .unfold ahK awd WJ Iy Qd Ge zy nt l6 fH VQ FK ig dO ay ck ak bS zl bD Rq Wq Zq Yq
  rw[i,r,asb w a _ _ j,x,e,y];unfold qM qN tU sU eG lV;generalize yk k w a=R at z|-;refine⟨h0,h1,bV (λh=>absurd rfl h) λ_=>rK Y<|rK Y ⟨h0,h1,v,bV (λh=>absurd rfl h) λ_=>?_⟩⟩
  (repeat' (first|refine dq (fun _=>?_) fun _=>?_|refine de (fun _=>?_) fun _=>?_|refine bV (fun _=>?_) fun _=>?_|refine bq (fun _=>?_) fun _=>?_|refine cq (fun _=>?_) fun _=>?_|refine fY ?_ ?_))<;>grind (splits:=20)
 ·unfold agj atA aw WJ Iy Qd Ge zy a_ LP mr nt l6 fH VQ FK dO ay rX ck ak bS zl ca ja aL bD Rq Wq Zq Yq Jq
  rw[r,x,e,y];unfold qM qN tU sU eG lV;generalize yk k w a=R at z|-;refine⟨h0,h1,de (fun _=>rK Y (rK Y ⟨(),trivial,rfl,rfl,rfl,rfl,rfl,rfl,rfl,rfl,rfl,rfl,rfl,rfl,rfl,rfl,rfl,rfl⟩)) fun h=>absurd rfl h,fun _ _=>⟨de (fun _=>⟨h0,h1,v,(),trivial,rfl,rfl,rfl,rfl,rfl,rfl,rfl,rfl,rfl,rfl,rfl,rfl,rfl,rfl,rfl,rfl⟩) fun h=>absurd rfl h,fun _ _=>⟨de (fun _=>rK Y (rK Y ⟨(),trivial,rfl,rfl,rfl,rfl,rfl,rfl,rfl,rfl,rfl,rfl,rfl,rfl,rfl,rfl,rfl,rfl⟩)) fun h=>absurd rfl h,fun _ _=>bV (fun h=>absurd rfl h) fun _=>⟨h0,h1,?_⟩⟩⟩⟩
  (repeat' (first|refine dq (fun _=>?_) fun _=>?_|refine de (fun _=>?_) fun _=>?_|refine bV (fun _=>?_) fun _=>?_|refine bq (fun _=>?_) fun _=>?_|refine cq (fun _=>?_) fun _=>?_|refine fY ?_ ?_))<;>grind (splits:=20)
def awb(h0:0<=k)(h1:k<=2)(x:tbE k m s g p=0):ahI k m s g p/\agh k m s g p:=by
 have r:=XW h0 h1 x;have j:=ahL h0 h1 x;obtain⟨u,v,_⟩:=Od h0 h1;have i:m≠ -1->m≠1->cb g p=0:=λy z=>by
  rcases r with⟨_,_,e,f⟩|⟨e,_⟩|⟨_,_,e,_⟩|⟨e,_⟩
  .rw[e,f,(UU k).2,I ⟨h0,h1⟩]
  .exact absurd e z
  .exact e
  .exact absurd e y
 have b:=@NO g p;constructor
 .unfold ahI nt gZ Vp cd
  grind [xf,lL]
 .unfold agh nt gZ Vp cd
  grind [xf,lL]
end
attribute [local irreducible] Spec.vc
def aBN:=aOS.gd u_ Tryz.func148 λ(k:Int) ⟨h,x,_⟩=>⟨aK,J (p:=Dq (k>=0) (decide (k<=2)=ab) tJ)<|by unfold tJ;grind⟩
def aBH:=aOR.gd u_ Tryz.func149 λ(k:Int) ⟨h,x,_⟩=>⟨aK,J (p:=Rq k (Zq 3)<|[(35:Int),31,52].getD k.toNat (0:Int)=dD k)<|by unfold Rq Zq;rcases k3 h x with rfl|rfl|rfl<;>exact⟨H,H,H⟩⟩
def aBG:=at1.gd u_ Tryz.func229 λ⟨k,c⟩ ⟨h,x,y,z,_⟩=>⟨aK,J (p:=SR k c)<|(ame h x y z).1⟩
def aMl:=at3.gd u_ Tryz.func85 λ(k:Int) ⟨h,x,_⟩=>⟨aK,J (p:=Bq (k==0) (35=dD k/\a_)<|Bq (k==1) (31=dD k/\a_)<|Bq (k==2) (52=dD k/\a_)<|0=dD k/\(11:Int)=0)<|by unfold a_;rcases k3 h x with rfl|rfl|rfl<;>decide⟩
def aMk:=at1.gd u_ Tryz.func254 λ⟨k,c⟩ ⟨h,x,y,z,_⟩=>⟨aK,J (p:=W9 k c)<|(ame h x y z).2⟩
def aRE:Sound ar 104 agU.iY:=agU.te ax Sp.dn u_ mixed Tryz.func104 λ_ _=>⟨_,(aRD).mp aRF⟩
def aNT:=aP6.gd u_ Tryz.func84 λ(k:Int) ⟨h,x,_⟩=>⟨aK,J (p:=atz k<|Bq (k==1) (8=oe k/\a_)<|0=oe k/\(11:Int)=0)<|by unfold atz a_;grind [oe]⟩
def aRK:=auP.gd u_ Tryz.func102 λ⟨g,p⟩ _=>⟨aK,J (p:=XV g p)<|awg.1⟩
def aNY:=auP.gd u_ Tryz.func86 λ⟨g,p⟩ _=>⟨aK,J (p:=atD g p)<|awg.2⟩
def aNX:=aP7.gd u_ Tryz.func88 λ⟨m,s,g,p,n,t,h,q⟩ ⟨hp,_⟩=>⟨(aI5 m s g p n t h q),J (p:=atC m s g p n t h q (m=m/\s=s/\g=g/\p=p/\n=n/\t=t/\h=h/\q=q) (ah=(m==n&&(s==t&&xc g p h q)))<|m==n&&(s==t&&xc g p h q))<|by
 unfold atC o WM bE aZ jc gS cl gg b_ Rq Wq Zq;unfold xc;refine bV (λe=>by rw[oc e];rfl) λx=>bV (λe=>by rw[oc e,YO,GO]) λy=>bV (λe=>by rw[oc e,YO,GO,GO]) λz=>bV (λe=>?_) λe4=>?_
 .rw[ama<|by simpa using e,GO,GO,GO]
 .have e4:p.length=q.length:=Y
  have k:(m==n&&(s==t&&(g==h&&vw p q)))=vw p q:=c9;rw[k];refine⟨⟨0,⟨dx _,rfl,e4,x,y,z⟩,by and_intros<;>rfl⟩,λi ⟨hi,r,_⟩=>dq (λd=>⟨Y,d,Y,Y,bV (λf=>?_) λf=>⟨i+1,⟨Y,?_,e4,x,y,z⟩,by show _- (i+1)<_-i;omega,wr Y Y,rfl,rfl,rfl,rfl,rfl,rfl,rfl,rfl⟩⟩) λd=>?_⟩
  .grind [al']
  .grind [av']
  .grind [amb]⟩
def aRA:=aP5.gd u_ Tryz.func165 λ⟨e,a⟩ _=>⟨aK,J (p:=aRB e a)<|rfl⟩
def aRH:=auN.gd u_ Tryz.func225 λ(s:Int) ⟨h,x,_⟩=>⟨aK,J (p:=ahJ s)<|(awc h x).1⟩
def aNV:=auN.gd u_ Tryz.func248 λ(s:Int) ⟨h,x,_⟩=>⟨aK,J (p:=agi s)<|(awc h x).2⟩
def JH:=m.cons aBN<| .cons aBH<| .cons aBG<| .cons aMl<| .cons aMk<| .cons aRE<| .cons aNT<| .cons aRK<| .cons aNY<| .cons aNX<| .cons aRA<| .cons aRH<| .cons aNV<|u_
def aBI:=at3.gd JH Tryz.func99 λ(k:Int) ⟨h,x,_⟩=>⟨aK,J (p:=nt k<|Bq (!ab) (0=dD k/\(11:Int)=0)<|nt k<|dD k=dD k/\a_)<|by unfold a_ nt;grind⟩
def aBE:=aOQ.gd JH Tryz.func227 λ⟨k,c⟩ ⟨h,x,y,z,_⟩=>⟨aK,J (p:=nt k<|Bq (!ab) ((11:Int)=0)<|Dq (c<0) ((24:Int)=0)<|nt k<|Dq (c>dD k) ((24:Int)=0) a_)<|by unfold a_ nt;grind⟩
def aBK:=at6.gd JH Tryz.func228 λ⟨k,c⟩ ⟨h,x,y,z,_⟩=>⟨(aqh k c 0),J (p:=aaS k c)<|(aml h x y z).1⟩
def aMn:=at6.gd JH Tryz.func253 λ⟨k,c⟩ ⟨h,x,y,z,_⟩=>⟨(aqh k c 1),J (p:=afZ k c)<|(aml h x y z).2⟩
def aRJ:=aP8.gd JH Tryz.func101 λ⟨g,p,h,q⟩ ⟨hp,_⟩=>⟨aK,J (p:=awf g p h q)<|by grind [awf,xc]⟩
def Nb:=m.cons aBI<| .cons aBE<| .cons aBK<| .cons aMn<| .cons aRJ<|JH
def aBJ:=at5.gd Nb Tryz.func172 λ⟨k,c⟩ ⟨h,x,y,z,_⟩=>⟨aK,J (p:=aaR k c)<|(amj h x y z).1⟩
def aMm:=at5.gd Nb Tryz.func196 λ⟨k,c⟩ ⟨h,x,y,z,_⟩=>⟨aK,J (p:=afY k c)<|(amj h x y z).2⟩
def aRC:=auL.gd Nb Tryz.func70 λ⟨k,m,s,g,p⟩ ⟨h,x,y,_⟩=>⟨aK,J (p:=ahG k m s g p)<|(awa h x y).1⟩
def aNS:=auL.gd Nb Tryz.func59 λ⟨k,m,s,g,p⟩ ⟨h,x,y,_⟩=>⟨aK,J (p:=agf k m s g p)<|(awa h x y).2⟩
def Nc:=m.cons aBJ<| .cons aMm<| .cons aRC<| .cons aNS<|Nb
def aRI:=auO.gd Nc Tryz.func121 λ⟨k,m,s,a,i,n,w,j⟩ ⟨h,x,y,z,e,r,u,v,_⟩=>⟨aK,J (p:=ahK k m s a i n w j)<|(awe h x y z e r u v).1⟩
def aNW:=auO.gd Nc Tryz.func141 λ⟨k,m,s,a,x,z,h,y⟩ ⟨e,r,u,v,w,i,j,n,_⟩=>⟨(aI4 k m s a x z h y),J (p:=agj k m s a x z h y)<|(awe e r u v w i j n).2⟩
def aRG:=auM.gd Nc Tryz.func170 λ⟨k,m,s,g,p⟩ ⟨h,x,y,_⟩=>⟨aK,J (p:=ahI k m s g p)<|(awb h x y).1⟩
def aNU:=auM.gd Nc Tryz.func190 λ⟨k,m,s,g,p⟩ ⟨h,x,y,_⟩=>⟨aK,J (p:=agh k m s g p)<|(awb h x y).2⟩
def Nd:=m.cons aRI<| .cons aNW<| .cons aRG<| .cons aNU<|Nc
end
def jI(x:Int):Bool:=decide (0<=x)&&decide (x<=11)
def Jz:N:=[0,0,0,0,0,0,0,0,0,0,0,0]
def bump(h:N)(x:Int):N:=h.set x.toNat<|h.getD x.toNat 0+1
def kH(l:N):N:=l.foldl bump Jz
def KT(h:N):N->N×Int
 | []=>(h,0)
 |x::r=>cond (jI x) (KT (bump h x) r) (h,2)
def mQ(l:N):N×Int:=cond (decide (256<l.length)) (Jz,2)<|KT Jz l
def wa(c:N)(i:Nat):Int:=(fM i).foldl (λs k=>s+c.getD (k+1) 0*2^(10-k)) 0
def vn(c:N)(i:Nat):Int:=(fM i).foldl (λs k=>s+c.getD (k+1) 0) 0
def lv(l:N):Int:=l.foldl (λs x=>cond (decide (0<x)) (s+1) s) 0
def ny(m:Int)(l:N):Int:=l.foldl (λs x=>cond (decide (0<x)) (s+2^(m-x).toNat) s) 0
def sO(l:N):Int:=ny 11 l
def cJ(l:N):Int:=cond (decide (256<l.length)) 2<|cond (l.all jI) (cond (decide (lv l<2)|| !(sO l==2048)) 21 0) 2
def vN(l:N):Int:=l.tail.foldl max<|l.headD 0
def g(l:N):Int:=l.foldl max 0
def aF8(l:N)(s n:Int):Bool:=(decide (s<l.length)&&decide (0<l.getD s.toNat 0))||n==0
def aF7(l:N)(s n:Int):Int:=cond (decide (s<l.length)&&decide (0<l.getD s.toNat 0)) (l.getD s.toNat 0) 0
def rq(i:Int):N->List (N)
 | []=>[]
 |x::r=>cond (decide (0<x)) ([i,x]::rq (i+1) r)<|rq (i+1) r
def j_(l:N):q:=rq 0 l
def tQ(a b:N):Bool:=decide (b.getD 1 0<a.getD 1 0)||(decide (b.getD 1 0=a.getD 1 0)&&decide (a.getD 0 0<=b.getD 0 0))
def HU(a:N):List (N)->List (N)
 | []=>[a]
 |b::r=>cond (tQ a b) (a::b::r)<|b::HU a r
def yp:List (N)->List (N)
 | []=>[]
 |a::r=>HU a<|yp r
def wid(m:Int)(s:N):Nat:=2^(m-s.getD 1 0).toNat
def oa(m:Int)(h:q)(i:Nat):Int:=(h.take i).foldl (λa s=>a+(wid m s:Int)) 0
def ze(m:Int):Int->List (N)->List (List Value)
 |_,[]=>[]
 |a,s::r=>[.agg #[.int .i64 (s.getD 0 0),.int .i64<|s.getD 1 0],.int .i64 a]::ze m (a+(wid m s:Int)) r
def bU(l:N):q:=yp<|j_ l
def items(l:N):List (List Value):=ze (g l) 0<|bU l
def JY(m:Int)(s:N):q:=au (wid m s) [s.getD 0 0,s.getD 1 0,0]
def pa(m:Int):List (N)->List (N)
 | []=>[]
 |s::r=>JY m s++pa m r
def fR(l:N):q:=pa (g l)<|bU l
def ue(m:Int):Int->List (N)->List (N)->List (N)
 |_,[],out=>out
 |a,s::r,out=>ue m (a+(wid m s:Int)) r<|out.set (s.getD 0 0).toNat [s.getD 1 0,a/2^(m-s.getD 1 0).toNat]
def jV(l:N):q:=ue (g l) 0 (bU l)<|au l.length [0,0]
def zE(m:Int):Int->List (N)->List (N)->List (N)
 |_,[],out=>out
 |a,c::r,out=>(zE m (a+1) r out).set (c.getD 0 0).toNat [c.getD 1 0,a/2^(m-c.getD 1 0).toNat]
def sf(l:N)(i:Nat):q:=ue (g l) 0 ((bU l).take i)<|au l.length [0,0]
def ji(l:N)(i:Nat):N:=(bU l).getD i []
def isLen(n:Int)(r:N):Bool:=r.getD 1 0==n
def yj(l:N):Nat->List (N)
 |0=>[]
 |j+1=>yj l j++pa (g l) ((j_ l).filter<|isLen<|g l-j)
def tP(l:N)(j s:Nat):q:=yj l j++pa (g l) ((j_<|l.take s).filter<|isLen<|g l-j)
def v8(l:N)(j s k:Nat):q:=tP l j s++au k [(s:Int),g l-j,0]
def aFH(l:N)(i:Nat):bG:=[.agg #[.int .i64 ((ji l i).getD 0 0),.int .i64<|(ji l i).getD 1 0],.int .i64<|oa (g l) (bU l) i]
def uI(l:N)(c:Nat):q:=zE (g l) ((fR l).length-c) ((fR l).drop<|(fR l).length-c)<|au l.length [0,0]
def ZO(h:z<y.length):(y.take<|z+1).all b=((y.take z).all b&&b (y.getD z 0)):=by grind [take_succ]
def ZN(h:z<y.length)(x:b (y.getD z 0)=ah):y.all b=ah:=c9
def yn{P:N->Prop}(h0:P [])(h1:∀l z,P l->P (l++ [z]))(l:N):P l:=by
 have:P l.reverse.reverse:=by
  induction l.reverse with
  |nil=>exact h0
  |cons x r h=>grind
 grind
theorem H_{x:Int}:jI x=ab↔0<=x/\x<=11:=by simp[jI]
def Fy:jI x=ah↔x<0\/11<x:=by rw[<-Bool.not_eq_true,H_];omega
theorem Sc(l:N)(x:Int):kH (l++ [x])=bump (kH l) x:=by grind [kH]
theorem Sb(l:N):(kH l).length=12:=by
 induction l using yn with
 |h0=>rfl
 |h1 l z h=>grind [Sc,bump]
theorem aCX(l:N)(i j:Nat)(v:Int):(l.set i v).getD j 0=if i=j/\j<l.length then v else l.getD j 0:=c9
def akM(l:N)(j:Nat):0<=(kH l).getD j 0/\(kH l).getD j 0<=l.length:=by
 induction l using yn generalizing j with
 |h0=>
  have:(kH []).getD j 0=0:=by
   rcases j with _|_|_|_|_|_|_|_|_|_|_|_|j<;>simp[kH,Jz]
  grind
 |h1 l z h=>grind [Sc,bump,aCX]
def apP(a r:N):∀y,a.all jI=ab->KT y (a++r)=KT (a.foldl bump y) r:=by
 induction a with
 |nil=>intro y _;rfl
 |cons x a z=>
  intro y h;simp only[uR,bC]at h;simp only[yw,KT,h.1,bo,GL];exact z _ h.2
theorem adp{l:N}(h0:l.length<=256)(h:l.all jI=ab):mQ l=(kH l,0):=by
 have:=apP l [] Jz h;rw[zK]at this;unfold mQ;rw[iW Y,iw,this];rfl
theorem Ux{l:N}(h0:l.length<=256){i:Nat}(hi:i<l.length)(h:(l.take i).all jI=ab)(x:jI (l.getD i 0)=ah):mQ l=(kH (l.take i),2):=by
 have:=apP (l.take i) (l.drop i) Jz h;rw[Ra]at this;unfold mQ;rw[iW Y,iw,this,zJ hi];have e:l[i]=l.getD i 0:=c9;rw[e];simp only[KT,x,iw];rfl
theorem adq{l:N}(h0:256<l.length):mQ l=(Jz,2):=by
 grind [mQ]
theorem aa2{f:Int->Bool}:∀(l:N),l.all f=ah->∃i,i<l.length/\(l.take i).all f=ab/\f (l.getD i 0)=ah
 | [],h=>by simp at h
 |x::r,h=>by
  cases y:f x
  ·exact⟨0,aj,aj,by simpa using y⟩
  ·simp only[uR,y,Jp]at h
   obtain⟨i,z,e,k⟩:=aa2 r h;exact⟨i+1,by simpa using z,by simp[y,e],by simpa using k⟩
def aGx(l:N):(l.length<=256/\l.all jI=ab/\mQ l=(kH l,0))\/((mQ l).2=2/\cJ l=2):=by grind [aa2,Ux,cJ,adp,adq]
def Po(l:N):(mQ l).1.length=12:=by
 by_cases h:l.length<=256
 .grind [aa2,Ux,Sb,adp]
 .rw[adq Y];rfl
def asT(c:N)(i:Nat):wa c (i+1)=wa c i+c.getD (i+1) 0*2^(10-i):=by grind [wa,GY]
theorem ak4(c:N)(i:Nat):vn c (i+1)=vn c i+c.getD (i+1) 0:=by grind [vn,GY]
theorem C2(l:N)(x:Int):lv (l++ [x])=cond (decide (0<x)) (lv l+1) (lv l):=by grind [lv]
theorem DT(m:Int)(l:N)(x:Int):ny m (l++ [x])=cond (decide (0<x)) (ny m l+2^(m-x).toNat) (ny m l):=by grind [ny]
theorem af5{c:N}{n:Int}(y:0<=n)(h:∀j,0<=c.getD j 0/\c.getD j 0<=n):∀i,0<=wa c i/\wa c i<=i*(n*1024)
 |0=>by simp[wa]
 |i+1=>by
  have u:=af5 y h i;rw[asT];have x:=h (i+1);have e:=jJ (10-i);have z:=nQ (show 10-i<=10 by omega);have k:0<=c.getD (i+1) 0*2^(10-i):=Int.mul_nonneg x.1 Y;have r:c.getD (i+1) 0*2^(10-i)<=n*1024:=Int.mul_le_mul x.2 (by simpa using z) Y y;grind
theorem aaf{c:N}{n:Int}(x:0<=n)(h:∀j,0<=c.getD j 0/\c.getD j 0<=n):∀i,0<=vn c i/\vn c i<=i*n
 |0=>by simp[vn]
 |i+1=>by
  have y:=aaf x h i;grind [ak4]
theorem aMY{c:N}(e:c.length=12){x:Int}(h:jI x=ab):wa (bump c x) 11=wa c 11+cond (decide (0<x)) (2^(11-x).toNat) 0/\vn (bump c x) 11=vn c 11+cond (decide (0<x)) 1 0:=by
 rw[H_]at h;obtain⟨n,rfl⟩:=pP h.1
 match c,e with
 | [a0,a1,a2,a3,a4,a5,k,r,u,a9,y,z],_=>
   rcases n with _|_|_|_|_|_|_|_|_|_|_|_|n
   all_goals
    simp[wa,vn,bump,fM,List.range.loop,List.set]
    try omega
def aMZ(l:N):l.all jI=ab->wa (kH l) 11=sO l/\vn (kH l) 11=lv l:=by
 induction l using yn with
 |h0=>intro _;decide
 |h1 l z x=>
  intro h;simp only[YR,uR,ML,MM,bC]at h;grind [aMY,Sb,Sc,C2,sO,DT]
theorem Ob(l:N)(x:Int):g (l++ [x])=max (g l) x:=by grind [g]
def EX(l:N):0<=g l/\∀x∈l,x<=g l:=by
 induction l using yn with
 |h0=>simp[g]
 |h1 l z h=>
  rw[Ob];grind
theorem abe{l:N}{m:Int}(k:0<=m)(h:∀x∈l,x<=m):g l<=m:=by
 induction l using yn with
 |h0=>grind [g]
 |h1 l z y=>
  rw[Ob];have h1:=y fun x r=>h x c9;have e:=h z aj;omega
def aGB(l:N)(z:Int)(h:l≠[]):vN (l++ [z])=max (vN l) z:=by
 cases l with
 |nil=>grind
 |cons x r=>simp[vN,Rl]
def aGA(h0:0<y.length)(h:∀x∈y,0<=x):vN y=g y:=by
 cases y with
 |nil=>simp at h0
 |cons x r=>grind [vN,g]
def Ep(h:y.all jI=ab):∀x∈y,0<=x/\x<=11:=λx l=>H_.1<|List.all_eq_true.1 h x l
def ahv(m:Int)(h0:0<=m)(y:m<=11)(l:N):0<=ny m l/\ny m l<=l.length*2048:=by
 induction l using yn with
 |h0=>simp[ny]
 |h1 l z e=>
  rw[DT,gn];by_cases h:0<z
  .rw[jS h,bo]
   have x:=nQ (show(m-z).toNat<=11 by omega);grind
  .grind
def aak(l:N):0<=lv l/\lv l<=l.length:=by
 induction l using yn with
 |h0=>simp[lv]
 |h1 l z h=>grind [C2]
def aRp{m:Int}(h0:0<=m)(e:m<=11)(l:N):(∀x∈l,x<=m)->sO l=ny m l*2^(11-m).toNat:=by
 induction l using yn with
 |h0=>grind [sO,ny]
 |h1 l z y=>
  intro h;have k:=y λx r=>h x c9;have u:=h z aj;unfold sO at k|-;rw[DT,DT];by_cases hp:0<z
  .rw[jS hp,bo,bo,k,Int.add_mul,<-Jr]
   grind
  .grind
def af8(h:y.all jI=ab):(ny (g y) y=2^(g y).toNat)↔sO y=2048:=by
 have l:=EX y;have z:=abe Y λx k=>(Ep h x k).2;have r:=aRp l.1 z y l.2;have e:(2048:Int)=2^(g y).toNat*2^(11-g y).toNat:=by
  rw[<-Jr];grind
 grind
def ND(h:cJ y=0):y.length<=256/\y.all jI=ab/\2<=lv y/\sO y=2048:=by grind [cJ]
def ak'(h0:y.length<=256)(h1:y.all jI=ab):cJ y=cond (decide (lv y<2)|| !(sO y==2048)) 21 0:=by grind [cJ]
def aAa(h:cJ y=0):0<y.length/\(∀x∈y,0<=x/\x<=11)/\vN y=g y:=by
 obtain⟨e,l,k,r⟩:=ND h;have hp:0<y.length:=by have:=aak y;omega
 exact⟨hp,Ep l,aGA hp λx z=>(Ep l x z).1⟩
def aPg:Spec:=Sp (N) [.l] λl=>([E<|l.length<=4294967296],aE<|.tu [.av<|.ints .i64 (mQ l).1,.v<|.int .i64 (mQ l).2])
def atY:Spec:=Sp (N) [.l] λl=>([E<|l.length<=4294967296],aE<|B<|cJ l)
def aPh:Spec:=Sp (N) [.l] λl=>([E<|0<l.length,E<|l.length<=4294967296],aE<|B<|vN l)
def aOY:Spec:=Sp (N) [.l] λl=>([E<|cJ l=0],aE<|B<|g l)
def aPD:Spec:=Sp (N) [.l] λl=>([E<|l.length<=4294967296],aE<|B<|g l)
def Gn:Spec where
 ι:=N×Int×Int
 dec l H:=match l with
  | [.bZ<|.ints .i64 l,.v<|.int .i64 s,.v<|.int .i64 n]=>O ((l,s,n),[])
  |_=>ae
 args:=λ(l,s,n)=>[dm l,B s,B n]
 pre:=λ(l,s,n)=>[E<|0<=s]
 out:=λ(l,s,n)=>.leaf (.tu [B<|aF7 l s n,fN<|aF8 l s n]) []
def K5(x:dV):bO:=λk=>cond (ap k 0) (O<|.one x) ae
def aSi(x y:dV):bO:=λk=>cond (ap k 0) (O<|.one x)<|cond (ap k 1) (O<|.one y) ae
def aHQ(l:N):dV:=bi Nat λi=>(i<=l.length/\(l.take i).all jI=ab,[(2,U 1000),(10,dm l),(11,B l.length),(12,cP i)],[(1000,.iA 147<|.ints .i64<|kH<|l.take i)],l.length-i)
def aHf(l:N):dV:=bi Nat λi=>(i<=11/\(mQ l).2=0,[(3,U 1000),(5,B<|wa (mQ l).1 i),(6,B<|vn (mQ l).1 i),(7,B<|(i:Int)+1)],[(1000,.iA 147<|.ints .i64 (mQ l).1)],11-i)
def aHR(l:N):dV:=bi Nat λi=>(1<=i/\i<=l.length,[(0,dm l),(3,B<|vN<|l.take i),(4,cP i)],[],l.length-i)
def aIk(l:N):dV:=bi Nat λi=>(i<=l.length,[(0,dm l),(3,B<|g<|l.take i),(4,cP i)],[],l.length-i)
def aIa(l:N):dV:=bi Nat λi=>(i<=l.length/\(l.take i).all jI=ab,[(0,dm l),(3,cP i)],[],l.length-i)
def aIb(l:N):dV:=bi Nat λi=>(i<=l.length/\l.all jI=ab,[(0,dm l),(4,B<|g l),(5,B<|lv<|l.take i),(6,B<|ny (g l)<|l.take i),(7,cP i)],[],l.length-i)
def Ls(h0:Nat)(h1:N):Prop:=(aC h0 h1).all jI=ab
def Wo(h0:Nat)(h1:N)(h:N×Int)(x:Prop):Prop:=(kH<|aC h0 h1).length=12/\Jq (kH<|aC h0 h1).length/\12=(kH<|aC h0 h1).length/\kH (aC h0 h1)=h.1/\x
def Gf(h0:Nat)(h1:N):Prop:=jc h0 h1/\Ls h0 h1
def ak8(l D:N):Prop:=cd l/\D.length=12/\gg D (au 12 (0:Int))/\Bq ((mQ l).2 !=0) ((mQ l).2=cJ l) ((∃(x:Nat),(x<=11/\(mQ l).2=0)/\0=wa D x/\0=vn D x/\1=Zq x+1/\Jq D)/\(∀(x1:Nat),x1<=11/\(mQ l).2=0->Dq (Zq x1+1<=11) (Rq (Zq x1+1) (Zq 12)<|(Zq x1+1).toNat<D.length/\cE (11- (Zq x1+1))/\Rq (Zq x1+1) (Zq 12) ((Zq x1+1).toNat<D.length/\(∃(h:Nat),(h<=11/\(mQ l).2=0)/\fj 11 h<fj 11 x1/\Wq (wa D x1+Wq (D.getD (Zq x1+1).toNat 0*o9 (Wq<|11- (Zq x1+1)) .i64))=wa D h/\Wq (vn D x1+D.getD (Zq x1+1).toNat 0)=vn D h/\ay (Zq x1+1)=Zq h+1/\Jq D))) (Dq (vn D x1<2) (21=cJ l)<|Bq (wa D x1 !=2048) (21=cJ l)<|0=cJ l)))
def aeW(h0:N)(h1:Bool)(x:Nat)(y z e:Int):Prop:=∃(h:Nat),(jc h h0/\h1=ab)/\gS h0 h x/\h0=h0/\aw y (z=lv (aC h h0)) (e=ny y (aC h h0)/\bE x h)
def aC4(l:N):Prop:=
 0<l.length/\l.length<=4294967296/\vN l=g l
def RG:m ar []:=m.nil
def aGw:=aPg.gd RG Tryz.func98 λ(l:N) ⟨b,_⟩=>⟨(K5<|aHQ l),J (p:=Dq (o l>256) ((12:Nat)=12/\(au 12 (0:Int)).length=12/\Jq (au 12 (0:Int)).length/\(12:Nat)=12/\au 12 (0:Int)=(mQ l).1/\2=(mQ l).2)<|(∃(k:Nat),Gf k l/\lG l (o l) (aZ k) (au 12 (0:Int)=kH (aC k l)))/\(∀(x1:Nat),Gf x1 l->kX (Zq x1) (o l) (Dq (b_ l x1<0) (12=(kH<|aC x1 l).length/\Wo x1 l (mQ l) (2=(mQ l).2))<|Dq (b_ l x1>11) (12=(kH<|aC x1 l).length/\Wo x1 l (mQ l) (2=(mQ l).2))<|Rq (b_ l x1) (Zq 12)<|G l (T x1)<(kH<|aC x1 l).length/\Rq (b_ l x1) (Zq 12) (G l (T x1)<(kH<|aC x1 l).length/\(∃(e:Nat),Gf e l/\gS l e x1/\lG l (o l) (bE x1 e) ((kH<|aC x1 l).set (G l<|T x1) (ay<|(kH<|aC x1 l).getD (G l<|T x1) 0)=kH (aC e l))))) (12=(kH<|aC x1 l).length) (Wo x1 l (mQ l)<|0=(mQ l).2)))<|by
 unfold o G Gf lG aw Wo bE T aZ jc ay Ls gS cl kX b_ Dq Rq Wq Zq Jq;refine⟨λh=>?_,λh=>⟨⟨0,⟨Y,rfl⟩,rfl,rfl,rfl,rfl⟩,λi ⟨hi,y⟩=>⟨λn=>?_,λj=>?_⟩⟩⟩
 .simp only[kC,dJ]at h
  rw[adq Y];exact⟨rfl,rfl,rfl,rfl,rfl,rfl⟩
 .simp only[kC,dH,dJ]at h n
  have z:i<l.length:=Y;have v:l.length<=256:=Y;have x:=Sb<|l.take i;simp only[toNat_cast,kC,dJ,dH];refine⟨Y,Y,λr=>?_,λr=>⟨λu=>?_,λu=>?_⟩⟩
  .rw[Ux v z y<|Fy.2<|.inl r]
   exact⟨x.symm,x,by trivial,x.symm,by trivial,by trivial⟩
  .rw[Ux v z y<|Fy.2<|.inr u]
   exact⟨x.symm,x,by trivial,x.symm,by trivial,by trivial⟩
  .have a:jI (l.getD i 0)=ab:=H_.2 ⟨Y,Y⟩
   have w:=akM (l.take i) (l.getD i 0).toNat;rw[mT]at w;refine⟨Y,Y,Y,Y,Y,Y,i+1,⟨Y,by rw[ZO z,y,a];rfl⟩,by show l.length- (i+1)<l.length-i;omega,by trivial,by trivial,by rw[wr Y Y];simp,?_⟩;rw[take_succ l 0 z,Sc,bump,wr Y Y]
 .simp only[kC,dH]at h j
  have x:=Sb<|l.take i;rw[nE Y]at x y|-;rw[adp Y y];exact⟨x.symm,x,rfl,x.symm,rfl,rfl⟩⟩
def aGz:=aPh.gd RG Tryz.func308 λ(l:N) ⟨e,j,_⟩=>⟨(K5<|aHR l),J (p:=Dq (o l<1) False<|Rq 0 (o l)<|(∃(z:Nat),(1<=z/\jc z l)/\l=l/\l.getD bY 0=vN (aC z l)/\1=Zq z)/\(∀(x1:Nat),1<=x1/\jc x1 l->w9 (Zq x1) (o l) (∃(y:Nat),(1<=y/\jc y l)/\gS l y x1/\l=l/\uZ (vN<|aC x1 l) (b_ l x1)=vN (aC y l)/\bE x1 y) (vN<|aC x1 l) (vN l)))<|by
 unfold o bE bY w9 jc gS cl b_ Dq Rq Wq Zq;refine⟨λh=>by simp only[dJ]at h;omega,λh=>⟨Y,Y,⟨1,⟨Y,Y⟩,rfl,?_,rfl⟩,λi hi=>⟨λu=>?_,λk=>?_⟩⟩⟩
 .cases l with
  |nil=>simp at e
  |cons x r=>simp[vN]
 .simp only[dJ]at u
  have v:i<l.length:=Y;refine⟨Y,Y,i+1,⟨Y,Y⟩,by show l.length- (i+1)<l.length-i;omega,by trivial,?_,by rw[wr Y Y];simp⟩;rw[take_succ l 0 v,toNat_cast,aGB];intro w;have:=dR cY w;simp only[mT,D_]at this;omega
 .simp only[dH]at k
  rw[nE Y]⟩
def aMv:=aPD.gd RG Tryz.func83 λ(l:N) ⟨k,_⟩=>⟨(K5<|aIk l),J (p:=(∃(h:Nat),iT h l/\l=l/\0=g (aC h l)/\aZ h)/\(∀(x1:Nat),iT x1 l->w9 (Zq x1) (o l) (∃(x:Nat),AL x l x1 (uZ (g<|aC x1 l)<|b_ l x1)<|g<|aC x l) (g<|aC x1 l) (g l)))<|by
 unfold o AL bE rl w9 aZ gS cl iT b_ Dq Rq Wq Zq;refine⟨⟨0,by rw[gG];omega,rfl,rfl,rfl⟩,λi hi=>⟨λz=>?_,λy=>?_⟩⟩
 .simp only[dJ]at z
  have e:i<l.length:=Y;refine⟨Y,Y,i+1,by rw[gG];omega,by show l.length- (i+1)<l.length-i;omega,by trivial,?_,by rw[wr Y Y];simp⟩;rw[take_succ l 0 e,toNat_cast,Ob]
 .simp only[dH]at y
  rw[nE Y]⟩
def RE:=m.cons aGw<| .cons aGz<| .cons aMv<|RG
def az':=atY.gd RE Tryz.func69 λ(l:N) ⟨e,_⟩=>⟨(K5<|aHf l),J (p:=ak8 l (mQ l).1)<|by
 unfold ak8 cd o9 ay cE gg Dq Bq Rq Wq Zq Jq;rcases aGx l with⟨b,k,x⟩|⟨x,d⟩
 .refine⟨e,Po l,by rw[Po];rfl,λh=>by rw[x]at h;simp at h,λ_=>⟨⟨0,⟨Y,by rw[x]⟩,rfl,rfl,rfl,rfl⟩,λi ⟨hi,_⟩=>⟨λg=>?_,λf=>?_⟩⟩⟩
  .rw[Po,x]
   simp only;simp only[dJ]at g;have u:((i:Int)+1).toNat=i+1:=Y;have v:(11:Int)- ((i:Int)+1)=((10-i:Nat):Int):=Y;have y:=λj=>akM l j;have B:=af5 (c:=kH l) (n:=256) Y (λj=>by have:=y j;omega) i;have s:=af5 (c:=kH l) (n:=256) Y (λj=>by have:=y j;omega)<|i+1;have A:=aaf (c:=kH l) (n:=256) Y (λj=>by have:=y j;omega) i;have d2:=aaf (c:=kH l) (n:=256) Y (λj=>by have:=y j;omega)<|i+1;have t:=asT (kH l) i;have r:=ak4 (kH l) i;have e4:(11:Int)- (i:Int)-1=((10-i:Nat):Int):=Y;rw[u,v,wr (n:=((10-i:Nat):Int)) Y Y,toNat_cast,Et,wy Y];push_cast at s d2;have m:0<=(kH l).getD (i+1) 0*2^(10-i)/\(kH l).getD (i+1) 0*2^(10-i)<=256*1024:=by
    have w:=y<|i+1;have z:=jJ<|10-i;have a:=nQ (show 10-i<=10 by omega);exact⟨Int.mul_nonneg w.1 Y,Int.mul_le_mul Y (by simpa using a) Y Y⟩
   refine⟨Y,Y,Y,Y,Y,Y,Y,i+1,⟨Y,by trivial⟩,by show 11- (i+1)<11-i;omega,?_,?_,by rw[wr Y Y];push_cast;rfl,by trivial⟩
   .rw[wr (n:=(kH l).getD (i+1) 0*2^(10-i)) Y Y,<-t,wr Y Y]
   .rw[<-r,wr Y Y]
  .simp only[dH]at f
   have:i=11:=Y;subst this;rw[x];simp only;obtain⟨o,q⟩:=aMZ l k;rw[o,q,ak' b k];refine⟨λh=>by rw[h];rfl,λh=>⟨λz=>?_,λz=>?_⟩⟩
   .rw[h,GM]
    have:(sO l==2048)=ah:=by simpa using z
    rw[this];rfl
   .rw[h,GM]
    have:(sO l==2048)=ab:=by simpa using z
    rw[this];rfl
 .refine⟨e,Po l,by rw[Po];rfl,λh=>by rw[x,d],λh=>by rw[x]at h;simp at h⟩⟩
def aLF:=atY.gd RE Tryz.func58 λ(l:N) ⟨s,_⟩=>⟨(aSi (aIa l)<|aIb l),J (p:=Dq (o l>256) (2=cJ l)<|(∃(q:Nat),Gf q l/\l=l/\aZ q)/\(∀(x1:Nat),Gf x1 l->kX (Zq x1) (o l) (Dq (b_ l x1<0) (2=cJ l)<|Rq (Zq x1) (o l)<|Dq (b_ l x1>11) (2=cJ l)<|∃(b:Nat),Gf b l/\gS l b x1/\l=l/\bE x1 b) (cd l) ((∃(u:Nat),(jc u l/\l.all jI=ab)/\lG l (g l) (0=lv (aC u l)) (0=ny (g l) (aC u l)/\aZ u))/\(∀(x4:Nat),jc x4 l/\l.all jI=ab->Dq (Zq x4<o l) (Rq (Zq x4) (o l)<|Dq (b_ l x4>0) (o8 x4 l (fU<|Wq<|g l-b_ l x4)<|aeW l (l.all jI) x4 (g l) (ay<|lv<|aC x4 l)<|Wq<|ny (g l) (aC x4 l)+fG (Wq<|g l-b_ l x4))<|aeW l (l.all jI) x4 (g l) (lv<|aC x4 l)<|ny (g l)<|aC x4 l) (Dq (lv (aC x4 l)<2) (21=cJ l)<|fU (g l)/\Bq (ny (g l) (aC x4 l) !=fG (g l)) (21=cJ l) (0=cJ l))))))<|by
 unfold cd Gf lG o8 o aeW aw bE fU fG jd aZ jc ay Ls gS cl kX b_ Dq Bq Rq Wq Uq Zq;refine⟨λh=>?_,λh=>⟨⟨0,⟨Y,rfl⟩,rfl,rfl⟩,λi ⟨hi,y⟩=>⟨λa=>?_,λA=>?_⟩⟩⟩
 .simp only[kC,dJ]at h
  unfold cJ;rw[jS Y];rfl
 .simp only[kC,dH,dJ]at h a
  have d:i<l.length:=Y;have bad:jI (l.getD i 0)=ah->cJ l=2:=λt=>by
   unfold cJ;rw[iW Y,ZN d t];rfl
  simp only[toNat_cast,kC,dJ,dH];refine⟨Y,Y,λc=>(bad<|Fy.2<|.inl c).symm,λc=>⟨Y,Y,λz=>(bad<|Fy.2<|.inr z).symm,λz=>⟨i+1,⟨Y,?_⟩,by show l.length- (i+1)<l.length-i;omega,by trivial,by rw[wr Y Y];simp⟩⟩⟩;rw[ZO d,y,H_.2 ⟨Y,Y⟩];rfl
 .simp only[kC,dH]at h A
  rw[nE Y]at y;have v:=EX l;have e:=abe (m:=11) Y λx r=>(Ep y x r).2;refine⟨s,⟨0,⟨Y,y⟩,rfl,rfl,rfl,rfl,rfl⟩,λj ⟨C,_⟩=>⟨λa=>?_,λw=>?_⟩⟩
  .simp only[dJ]at a
   have k:j<l.length:=Y;have r:=yW k;have D:=Ep y _ r;have E:=v.2 _ r;simp only[toNat_cast,kC,dJ,dH];have B:=ahv (g l) v.1 e<|l.take j;have f:=ahv (g l) v.1 e<|l.take<|j+1;have c1:=aak<|l.take j;rw[mT]at B f c1;refine⟨Y,Y,λhp=>?_,λhp=>⟨j+1,⟨Y,y⟩,by show l.length- (j+1)<l.length-j;omega,by trivial,by trivial,?_,?_,by rw[wr Y Y];simp⟩⟩
   .rw[wr (n:=g l-l.getD j 0) Y Y,fW Y Y,sS Y Y]
    refine⟨Y,Y,Y,j+1,⟨Y,y⟩,by show l.length- (j+1)<l.length-j;omega,by trivial,by trivial,?_,?_,by rw[wr Y Y];simp⟩
    .rw[take_succ l 0 k,C2,jS hp,bo,wr Y Y]
    .rw[take_succ l 0 k,DT,jS hp,bo]at f|-
     rw[wr Y Y]
   .rw[take_succ l 0 k,C2,iW hp,iw]
   .rw[take_succ l 0 k,DT,iW hp,iw]
  .simp only[dH]at w
   rw[nE Y,ak' Y y,fW Y Y,sS Y Y];refine⟨λh=>by rw[h];rfl,λh=>⟨Y,λz=>?_,λz=>?_⟩⟩
   .rw[h,GM]
    have:(sO l==2048)=ah:=by
     rw[wo,Ne,<-af8 y];simpa using z
    rw[this];rfl
   .rw[h,GM]
    have:(sO l==2048)=ab:=by
     rw[wx,<-af8 y];simpa using z
    rw[this];rfl⟩
def aC3:=aOY.gd RE Tryz.func301 λ(l:N) ⟨h,_⟩=>⟨aK,J (p:=aC4 l)<|by obtain⟨x,z,y⟩:=aAa h;have:=(ND h).1;exact⟨x,Y,y⟩⟩
def ayo:=m.cons az'<| .cons aLF<| .cons aC3<|RE
def ayp:=ayo
def ayq:=ayp
def ayr:=ayq
def ays:=ayr
end Go.Proofs.YtegnkfbnmepmpaaGreatDoor
namespace Go.Proofs.YtegnkfbnmepmpaaGreatDoor
open Go Go.Shelf Go.RowKit Go.Lib Go.Sort
variable(b x:Int)(y:World)
def Aa:Int:=if b<x then-1 else if x<b then 1 else 0
def aGP:Calls ar 316 #[.int .i64 b] y λe w'=>e=.returned (.bool ah)/\w'=y:=by
 go_enter Tryz.func316,Tryz.ntmps316
 go_wp2
 go_ret
 simp
def aAh:Calls ar 312 #[.int .i64 b,.int .i64 x] y λe w'=>e=.returned (.int .i64<|Aa b x)/\w'=y:=by
 have h:=aGP;unfold Aa
 go_enter Tryz.func312,Tryz.ntmps312
 go_wp2_with (go_at_call 316;refine(h _ _).mono ?_;rintro e w' ⟨rfl,rfl⟩)
 all_goals(go_ret;exact⟨rfl,rfl⟩)
def aKc(g:Nat)(h0:y.cell? ⟨g,0,ae⟩=O (.int .i64 b))(h1:y.cell? ⟨g,1,ae⟩=O (.int .i64 x)):
  Calls ar 311 #[.slice (O ⟨g,0,ae⟩) 2 2] y λe w'=>e=.returned (.int .i64<|if b=0 then x else b)/\w'=y:=by
 by_cases ha:b=0
 .subst ha
  rw[I rfl];by_cases hb:x=0
  .subst hb
   go_enter ai',aja
   go_wp2
   refine GN 3 ?_;rw[yE]
   go_wp2
   rw[yE]
   go_wp2
   rw[yE]
   go_wp2
   go_ret
   exact⟨rfl,rfl⟩
  .have jn:(x !=0)=ab:=by simpa using hb
   go_enter ai',aja
   go_wp2
   refine GN 3 ?_;rw[yE]
   go_wp2
   rw[yE]
   go_wp2
   go_ret
   exact⟨rfl,rfl⟩
 .have ha2:(b !=0)=ab:=by simpa using ha
  rw[V ha]
  go_enter ai',aja
  go_wp2
  refine GN 3 ?_;rw[yE]
  go_wp2
  go_ret
  exact⟨rfl,rfl⟩
def aAg(x y:Int×Int)(w:World):Calls ar 310 #[.agg #[.int .i64 x.1,.int .i64 x.2],.agg #[.int .i64 y.1,.int .i64 y.2]] w λe w'=>
  e=.returned (.int .i64<|if Aa y.2 x.2=0 then Aa x.1 y.1 else Aa y.2 x.2)/\∃q os',w'=Jw (w.drewN q) os':=by
 have hc:=aAh;generalize e1:Aa y.2 x.2=c1;generalize e2:Aa x.1 y.1=c2;obtain⟨c3,h3⟩:∃c3,(if c1=0 then c2 else c1)=c3:=⟨_,rfl⟩;have ho:=aKc c1 c2;simp only[h3]at ho|-
 go_enter Tryz.func310,Tryz.ntmps310
 go_wp2
 obtain⟨W1,By⟩:∃W1,W1=((w.alloc (.cells #[.int .i64 x.1,.int .i64 x.2] 398)).alloc (.cells #[.int .i64 y.1,.int .i64 y.2] 398)).drew:=⟨_,rfl⟩;obtain⟨W2,hW2⟩:∃W2,W2=(((w.alloc (.cells #[.int .i64 x.1,.int .i64 x.2] 398)).alloc (.cells #[.int .i64 y.1,.int .i64 y.2] 398)).alloc (.cells #[.int .i64 c1,.int .i64 c2] 3)).drew:=⟨_,rfl⟩
 go_region_held3 (λw'=>w'.cell? ⟨w.heap.size,0,ae⟩=O (.int .i64 x.1)/\w'.cell? ⟨w.heap.size,1,ae⟩=O (.int .i64 x.2)/\w'.cell? ⟨w.heap.size+1,0,ae⟩=O (.int .i64 y.1)/\w'.cell? ⟨w.heap.size+1,1,ae⟩=O (.int .i64 y.2)/\(w'=W1\/w'=W2))
  (first|assumption|(refine⟨?_,?_,?_,?_,?_⟩<;>first|exact Or.inl rfl|exact Or.inl By.symm|(simp[go_sem];done)|(rw[By];simp[go_sem];done)|exact Or.inr hW2.symm|(rw[hW2];exact Or.inr<|by simp[go_sem, *])|skip))
  (first|(go_at_call 312;refine(hc _ _ _).mono ?_;rintro e w' ⟨rfl,rfl⟩)|(go_at_call 311;refine(ho _ _ (by simp[go_sem]) (by simp[go_sem])).mono ?_;rintro e w' ⟨rfl,rfl⟩))
 go_wp2
 go_ret
 exact⟨rfl,1,_,by rw[aiX,aiX,aiX,Sort.grow_grow,Sort.grow_grow];rfl⟩
end Go.Proofs.YtegnkfbnmepmpaaGreatDoor
namespace Go.Proofs.YtegnkfbnmepmpaaGreatDoor
open Go Go.Shelf
def aQS:Go.Shelf.Ren:=⟨λ|6=>309|15=>315|14=>314|28=>325|29=>326|20=>317|21=>318|22=>319|23=>320|24=>321|25=>322|26=>323|27=>324|46=>327|47=>328|48=>329|49=>330|50=>331|57=>332|n=>n,λ|22=>403|24=>398|25=>406|3=>3|39=>80|0=>0|53=>64|55=>63|4=>4|46=>412|45=>411|50=>331|5=>5|9=>9|66=>419|70=>422|76=>424|77=>222|n=>n,λ|n=>n⟩
def aQR:Go.Proofs.SlLaysF0.n6 ar aQS:={
 mixed:=ax
 f6:=⟨Tryz.f309.name,H,Tryz.func309.trans<|dR O ax⟩
 f14:=⟨Tryz.f314.name,H,Tryz.func314.trans<|dR O ax⟩
 f15:=Tryz.func315.trans<|dR O ax
 f20:=⟨Tryz.f317.name,H,Tryz.func317.trans<|dR O ax⟩
 f21:=⟨Tryz.f318.name,H,Tryz.func318.trans<|dR O ax⟩
 f22:=⟨Tryz.f319.name,H,Tryz.func319.trans<|dR O ax⟩
 f23:=⟨Tryz.f320.name,H,Tryz.func320.trans<|dR O ax⟩
 f24:=⟨Tryz.f321.name,H,Tryz.func321.trans<|dR O ax⟩
 f25:=⟨Tryz.f322.name,H,Tryz.func322.trans<|dR O ax⟩
 f26:=⟨Tryz.f323.name,H,Tryz.func323.trans<|dR O ax⟩
 f27:=⟨Tryz.f324.name,H,Tryz.func324.trans<|dR O ax⟩
 f28:=Tryz.func325.trans<|dR O ax
 f29:=Tryz.func326.trans<|dR O ax
 f46:=⟨Tryz.f327.name,H,Tryz.func327.trans<|dR O ax⟩
 f47:=Tryz.func328.trans<|dR O ax
 f48:=Tryz.func329.trans<|dR O ax
 f49:=⟨Tryz.f330.name,H,Tryz.func330.trans<|dR O ax⟩
 f50:=⟨Tryz.f331.name,H,Tryz.func331.trans<|dR O ax⟩
 f57:=⟨Tryz.f332.name,H,Tryz.func332.trans<|dR O ax⟩
 t0:=Tryz.underlying0
 a0:=Tryz.isAgg0
 z0:=Tryz.sizeOf0
 v0:=Tryz.zeroValue0
 t3:=Tryz.underlying3
 a3:=Tryz.isAgg3
 z3:=Tryz.sizeOf3
 v3:=Tryz.zeroValue3
 t4:=Tryz.underlying4
 a4:=Tryz.isAgg4
 z4:=Tryz.sizeOf4
 v4:=Tryz.zeroValue4
 t5:=Tryz.underlying5
 a5:=Tryz.isAgg5
 z5:=Tryz.sizeOf5
 v5:=Tryz.zeroValue5
 t9:=YL
 a9:=Tryz.isAgg9
 z9:=Tryz.sizeOf9
 v9:=Tryz.zeroValue9
 t22:=Tryz.underlying403
 a22:=Tryz.isAgg403
 z22:=Tryz.sizeOf403
 v22:=Tryz.zeroValue403
 t25:=Tryz.underlying406
 a25:=Tryz.isAgg406
 z25:=Tryz.sizeOf406
 v25:=Tryz.zeroValue406
 t39:=Tryz.underlying80
 a39:=Tryz.isAgg80
 z39:=Tryz.sizeOf80
 v39:=Tryz.zeroValue80
 t45:=Tryz.underlying411
 a45:=Tryz.isAgg411
 z45:=Tryz.sizeOf411
 v45:=Tryz.zeroValue411
 t46:=Tryz.underlying412
 a46:=Tryz.isAgg412
 z46:=Tryz.sizeOf412
 v46:=Tryz.zeroValue412
 t50:=Tryz.underlying331
 a50:=Tryz.isAgg331
 z50:=Tryz.sizeOf331
 v50:=Tryz.zeroValue331
 t53:=Tryz.underlying64
 a53:=Tryz.isAgg64
 z53:=Tryz.sizeOf64
 v53:=Tryz.zeroValue64
 t55:=Tryz.underlying63
 a55:=Tryz.isAgg63
 z55:=Tryz.sizeOf63
 v55:=Tryz.zeroValue63
 t66:=Tryz.underlying419
 a66:=Tryz.isAgg419
 z66:=Tryz.sizeOf419
 v66:=Tryz.zeroValue419
 t70:=Tryz.underlying422
 a70:=Tryz.isAgg422
 z70:=Tryz.sizeOf422
 v70:=Tryz.zeroValue422
 t76:=Tryz.underlying424
 a76:=Tryz.isAgg424
 z76:=Tryz.sizeOf424
 v76:=Tryz.zeroValue424
 t77:=Tryz.underlying222
 a77:=Tryz.isAgg222
 z77:=Tryz.sizeOf222
 v77:=Tryz.zeroValue222}
end Go.Proofs.YtegnkfbnmepmpaaGreatDoor

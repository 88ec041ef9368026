/-
  Texts joined: Ll, LibS, Cl, LmF, Lm, Lmt, Ln, Lo, Lp, Lq, Lr, SqF, SqP, SqG, Sq, Sqt, SqH, Sr, Ss, St, SuF, Su. Conditions: each theorem's own.
-/
import Derived.Test.YtegnkfbnmepmpaaGreatDoorK9
import Derived.Shelf.Strings.Builder1
import Derived.Shelf.Strings.Builder2
import Derived.Shelf.Small.Bits
import Derived.Shelf.Small.Wraps
import Derived.Shelf.Strings.BuilderF
import Derived.Shelf.Strings.BuilderK
import Derived.Shelf.Strings.Builder2Cap
import Derived.Shelf.Strconv.Itoa0
import Derived.Shelf.Strings.Prefix
import Derived.Shelf.Bits.Mul64
import Derived.Shelf.Strings.Repeat
import Derived.Shelf.Strings.BuilderCap
import Derived.Shelf.Slices.Turned
import Derived.Shelf.Slices.Equal
import Derived.Ground.Names2Prog
import Derived.Shelf.Slices.Clone
import Derived.Shelf.Slices.SearchI
import Derived.Shelf.Slices.Empties2
import Derived.Ground.SlgnProg
import Derived.Shelf.SlicesE.Clone
import Derived.Test.YtegnkfbnmepmpaaGreatDoorProg
set_option maxRecDepth 100000
set_option linter.all false
open Bool renaming false->ah,true->ab
open ByteArray renaming empty->aJ
open Go.IntKind renaming bits->cZ,wrap->Q
open Go.Lib renaming repeatL->ajc
open Go.Proofs.Tryz renaming prog->ar
open Go.Value renaming int->cg
open Int renaming tdiv->fi,tmod->kf,toNat->X
open List renaming getD->eU,map->ma,replicate->au
open Option renaming map->gN,none->ae,some->O
namespace Go.Proofs.YtegnkfbnmepmpaaGreatDoor
open Go Go.RowKit
def Js:=@Int.ediv_nonneg
def Ee:=@Int.le_trans
def Kb(k m:Int):Int:=if k<=1/\m=2 then 0 else m
theorem aCI:∀k m:Fin 4,vz k.val (Kb k.val m.val)<(qY k.val).length/\(∀i:Fin 4,i.val<vz k.val (Kb k.val m.val)->((qY k.val).getD i.val []).getD 0 0≠Kb k.val m.val)/\
 (fun r:N=>r.getD 0 0=Kb k.val m.val/\r.getD 1 0=cQ k.val (m.val*5+0)/\r.getD 2 0=cQ k.val (m.val*5+1)/\r.getD 3 0=r.getD 2 0+cQ k.val (m.val*5+2)/\r.getD 4 0=r.getD 3 0+cQ k.val (m.val*5+3)/\r.getD 5 0=cQ k.val (m.val*5+4)) ((qY k.val).getD (vz k.val (Kb k.val m.val)) [])/\(qY k.val).length<=4:=by decide+kernel
section
variable{s:M}{a:Int}
theorem aCH(s:M)(a:Int):vz (u s a%4) (qu s a)<(qY (u s a%4)).length/\(∀i:Nat,i<vz (u s a%4) (qu s a)->((qY (u s a%4)).getD i []).getD 0 0≠qu s a)/\
  (fun r:N=>r.getD 0 0=qu s a/\r.getD 1 0=aU s a 0/\r.getD 2 0=aU s a 1/\r.getD 3 0=r.getD 2 0+aU s a 2/\r.getD 4 0=r.getD 3 0+aU s a 3/\r.getD 5 0=aU s a 4) ((qY (u s a%4)).getD (vz (u s a%4) (qu s a)) [])/\(qY (u s a%4)).length<=4:=by
 have e:=me s a;have:=aCI ⟨(u s a%4).toNat,Y⟩ ⟨(u s a/4%4).toNat,Y⟩;simp only[show(((u s a%4).toNat:Nat):Int)=u s a%4 by omega,show(((u s a/4%4).toNat:Nat):Int)=u s a/4%4 by omega]at this;obtain⟨h,x,y,z⟩:=this;exact⟨h,fun i hi=>x ⟨i,by change i<vz (u s a%4) (Kb (u s a%4) (u s a/4%4))at hi;omega⟩ hi,y,z⟩
end
def aGg:=aPb.gd M_ Tryz.func114 fun⟨s,a,n⟩ ⟨y,z,e,_⟩=>⟨aK,J (p:=aGh s a n) (by
 have x:=(aau y z).1;refine⟨x,x,Y,bV (fun h=>?_) fun h=>?_⟩
 ·grind [ee]
 ·have k:0<=n/\a+n<=s.size:=by
   change cond (decide (n<0)) 2 (cond (decide ((s.size:Int)-a<n)) 5 0)=_ at h;grind
  grind [J0])⟩
def aGc:=aO'.gd m.nil Tryz.func157 fun(k:Int) ⟨h,_⟩=>⟨aK,J (p:=aGd k) (by
 refine⟨fun e=>?_,fun _=>⟨fun e=>?_,fun e=>?_⟩⟩<;>simp at* <;>(unfold cQ;first|rw[I Y]|rw[V Y])<;>decide)⟩
def aMO:=aPd.gd m.nil Tryz.func181 fun(k:Int) ⟨h,_⟩=>⟨aK,J (p:=aMP k) (by
 refine⟨fun e=>?_,fun _=>⟨fun e=>?_,fun e=>?_⟩⟩<;>simp at* <;>(unfold qY;first|rw[I Y]|rw[V Y])<;>decide)⟩
def aGa:=agF.gE aO9 m.nil Tryz.func115 fun⟨s,a,e,f,g,x⟩ _=>⟨aK,J (p:=x=x/\g=g/\fV s a (e=e) (f=f/\g=g)) (by
 unfold fV;simp)⟩
def aGb:=agG.gE aO_ ajO Tryz.func117 fun⟨l,b,n,k,s,a,e,f,g⟩ ⟨y,z,r,u,_⟩=>⟨aK,J (p:=apo l b n k a (DJ (qX a l b n k) (fV s a (e=e) (f=f/\g=g))) (fV s a (e=e) (f=f/\g=g))) (by
 unfold apo cd fV DJ bS bD Wq;have hp:=arv (l:=l) (b:=b) (n:=n);refine de (fun x=>⟨y,z,?_⟩) fun x=>⟨y,z,?_⟩
 ·simp only[qX,CY,yM,J3,I x]
  exact bV (fun h=>by rw[V h,r_0 h];simp) fun h=>by rw[I h];simp
 ·simp only[qX,CY,yM,J3,V x]
  exact bV (fun h=>by rw[V h,aK4 h,wr Y Y];simp) fun h=>by rw[I h];simp)⟩
def aGo:=aPe.gd m.nil Tryz.func182 fun⟨n,k⟩ ⟨h,a,b,c,_⟩=>⟨(aHO n k),J (p:=apC n k (0=n%2^k.toNat/\(2:Int)=0)) (by
 unfold apC Wq Uq Zq;refine rK Y (rK Y ⟨⟨0,dx _,aj,rfl,aj,rfl,rfl⟩,fun i hi=>dq (fun g=>?_) fun f=>?_⟩)
 ·have hp:=jJ i
  have s:(2:Int)^i<=2^32:=by exact_mod_cast nF (show 0<2 by omega) (show i<=32 by omega)
  have y:0<=n/2^i:=Js h Y;have u:n/2^i<=n:=GP _ h;have o:=Int.emod_nonneg n (show(2:Int)^i≠0 by omega);have q:=aiY n hp;have z:fi (n/2^i) 2=n/2^(i+1):=by
   rw[MR y,MW,Rm Y]
  have e:kf (n/2^i) 2=n/2^i%2:=Jo y;have r:n%2^(i+1)=n%2^i+n/2^i%2*2^i:=by
   rw[MW,aBt n hp H,Int.mul_comm]
  have x:n/2^i%2=0\/n/2^i%2=1:=Y;have v:0<=n/2^(i+1):=Js h (by have:=jJ (i+1);omega);have w:n/2^(i+1)<=n:=GP _ h;have j:(2:Int)^(i+1)=2^i*2:=MW ..;have d:(2:Int)^32=4294967296:=rfl;rw[z,e,fW (n:=n/2^(i+1)) v Y];refine⟨H,H,i+1,by rw[gG];omega,by show k.toNat- (i+1)<k.toNat-i;omega,rfl,rfl,?_,by rw[fW Y Y,j],by show Q _ _=((i+1:Nat):Int);rw[wr Y Y];push_cast;rfl⟩;rcases x with x|x<;>rw[r,x]
  ·rw[fW (n:=0*2^i) Y Y,fW Y Y]
  ·rw[fW (n:=1*2^i) Y Y,fW Y Y]
 ·rw[gG]at hi
  have:i=k.toNat:=Y;subst this;exact⟨rfl,rfl⟩)⟩
def aNr:=aPy.gd m.nil Tryz.func44 fun⟨s,a,z⟩ ⟨c,d,f,g,o,_⟩=>⟨(aId s a z),J (p:=ati s a z (0=Cn s a z/\2=Cm s a z/\0=IE s a z)) (by
 unfold ati fV qh dE bF Lz nS cl ak b5 Rq Wq Uq Zq Yq;have y:Q .i64 ((s.size:Int)-a)=(s.size:Int)-a:=wr Y Y;refine rK Y (rK Y (rK Y (rK Y (dq (fun h=>?_) fun h=>?_))))
 ·rw[y]at h
  unfold yi Cn Cm IE;simp only[V (show¬a+z<=(s.size:Int)by omega)];simp
 ·rw[y]at h
  have x:a+z<=(s.size:Int):=Y;refine⟨⟨0,⟨by show((0:Nat):Int)<=z;omega,x⟩,rfl,rfl,rfl,rfl,by rw[wr Y Y];simp,rfl,rfl⟩,fun i ⟨hi,_⟩=>dq (fun w=>?_) fun q=>?_⟩
  ·have w:(i:Int)<z:=Y
   rw[wr (n:=a+(z-1- (i:Int))) Y Y];refine⟨Y,Y,i+1,⟨show((i+1:Nat):Int)<=z by omega,x⟩,by show z.toNat- (i+1)<z.toNat-i;omega,rfl,rfl,rfl,?_,by show Q _ _=_;rw[wr Y Y];push_cast;omega,rfl,rfl⟩;have u:(s.data.toList.getD (a+(z-1- (i:Int))).toNat 0).toNat<256:=(s.data.toList.getD (a+(z-1- (i:Int))).toNat 0).toNat_lt;have k:a+(z- ((i+1:Nat):Int))=a+(z-1- (i:Int)):=by push_cast;omega
   have r:a+(z-1- (i:Int))+1=a+(z- (i:Int)):=Y;rw[k,S6 Y Y,r];have v:=KN (s.data.toList.drop (a+(z- (i:Int))).toNat) i;have j:bh s (a+(z- (i:Int))) i=((lT ((s.data.toList.drop (a+(z- (i:Int))).toNat).take i):Nat):Int):=rfl;have b:(2:Nat)^(8*i)<=2^56:=nF Y Y;rw[Lc]at b;rw[j];generalize lT ((s.data.toList.drop (a+(z- (i:Int))).toNat).take i)=N at v|-;generalize (s.data.toList.getD (a+(z-1- (i:Int))).toNat 0).toNat=B at u|-;rw[fW (n:=(N:Int)*256) Y Y,fW (n:=(B:Int)) Y Y,fW Y Y];omega
  ·have e:(i:Int)=z:=Y
   unfold yi Cn Cm IE;simp only[I x];rw[e,wr Y Y,show a+(z-z)=a by omega];simp)⟩
def Zo:=m.cons aGg<| .cons aGc<| .cons aMO<| .cons aGo<| .cons aNr<| .cons aGa<| .cons aGb<|(CS ajO M_)
def aGf:=aug.gd Zo Tryz.func112 fun⟨s,a⟩ ⟨h,_⟩=>⟨(aH1 s a),J (p:=apq s a [cQ (bits .and .i64 (fo (ch s (d_ s a) (dS s a) 1)) 3) 0,cQ (bits .and .i64 (fo (ch s (d_ s a) (dS s a) 1)) 3) 1,cQ (bits .and .i64 (fo (ch s (d_ s a) (dS s a) 1)) 3) 2,cQ (bits .and .i64 (fo (ch s (d_ s a) (dS s a) 1)) 3) 3,cQ (bits .and .i64 (fo (ch s (d_ s a) (dS s a) 1)) 3) 4,cQ (bits .and .i64 (fo (ch s (d_ s a) (dS s a) 1)) 3) 5,cQ (bits .and .i64 (fo (ch s (d_ s a) (dS s a) 1)) 3) 6,cQ (bits .and .i64 (fo (ch s (d_ s a) (dS s a) 1)) 3) 7,cQ (bits .and .i64 (fo (ch s (d_ s a) (dS s a) 1)) 3) 8,cQ (bits .and .i64 (fo (ch s (d_ s a) (dS s a) 1)) 3) 9,cQ (bits .and .i64 (fo (ch s (d_ s a) (dS s a) 1)) 3) 10,cQ (bits .and .i64 (fo (ch s (d_ s a) (dS s a) 1)) 3) 11,cQ (bits .and .i64 (fo (ch s (d_ s a) (dS s a) 1)) 3) 12,cQ (bits .and .i64 (fo (ch s (d_ s a) (dS s a) 1)) 3) 13,cQ (bits .and .i64 (fo (ch s (d_ s a) (dS s a) 1)) 3) 14,cQ (bits .and .i64 (fo (ch s (d_ s a) (dS s a) 1)) 3) 15,cQ (bits .and .i64 (fo (ch s (d_ s a) (dS s a) 1)) 3) 16,cQ (bits .and .i64 (fo (ch s (d_ s a) (dS s a) 1)) 3) 17,cQ (bits .and .i64 (fo (ch s (d_ s a) (dS s a) 1)) 3) 18,cQ (bits .and .i64 (fo (ch s (d_ s a) (dS s a) 1)) 3) 19] ((bits .and .i64 ((fo (ch s (d_ s a) (dS s a) 1)).fdiv (gH (X 2) IntKind.i64.bits)) 3).toNat*5) (bits .and .i64 ((fo (ch s (d_ s a) (dS s a) 1)).fdiv (gH (X 2) IntKind.i64.bits)) 3) ((fo (ch s (d_ s a) (dS s a) (aU s a 0))).fdiv (o9 (aU s a 1) .u64)) (bits .and .i64 (fo (ch s (d_ s a) (dS s a) 1)) 3) (aU s a 0) (aU s a 2)) (by
 unfold apq eO afx Ci fV fQ o9 aF F8 DH nS ig gH dO aL ak bS ca Rq Wq Uq Zq;have bad:a<0\/(s.size:Int)<a->0=fO s a/\0=iM s a/\0=dz s a/\0=py s a/\0=cx s a/\2=(ir s a).1/\0=(ir s a).2:=fun j=>by
  have e:=apm j;have:=Uk (s:=s) (a:=a) (by rw[e];decide);rw[e];simp[this]
 refine dq (fun w=>bad (.inl w)) fun w=>dq (fun i=>bad (.inr i)) fun i=>?_;obtain⟨b,o,q⟩:=aau (s:=s) (a:=a) Y Y;have j:=me s a;have v:=aze ⟨(u s a).toNat,Y⟩;simp only[show(((u s a).toNat:Nat):Int)=u s a by omega]at v;have f:=S_ s a;have l:=azY (s:=s) (a:=a) Y Y;rw[o,q,l,v.1,v.2];refine⟨b,Y,⟨Y,Y,Y,by show _<(4:Int);omega,(),⟨Y,Y⟩,rfl,rfl,rfl,rfl,rfl,rfl,rfl,rfl,rfl,N8 s a 0 H,N8 s a 1 H,N8 s a 2 H,N8 s a 3 H,N8 s a 4 H⟩,fun _ _=>⟨b,Y,f.1.1,Y,bV (fun z=>?_) fun z=>?_⟩⟩
 ·have y:(s.size:Int)<a+aU s a 0:=by
   by_cases y:a+aU s a 0<=s.size
   ·exact absurd (J0 Y y).1 z
   ·omega
  have e:=apl (s:=s) (a:=a) Y Y (.inr y);have:=Uk (s:=s) (a:=a) (by rw[e];show(20:Int)≠0;decide);rw[e];simp[this]
 ·have y:a+aU s a 0<=s.size:=by
   by_cases y:a+aU s a 0<=s.size
   ·exact y
   ·rw[(aac Y Y).1]at z;cases z
  have V:=ac' (s:=s) (a:=a) Y Y y;obtain⟨_,g,_,e4⟩:=J0 (s:=s) (a:=a) (n:=aU s a 0) Y y;have B:min (aU s a 1).toNat (cZ .u64)=(aU s a 1).toNat:=wy (by show _<=64;omega);have d:min (aU s a 2).toNat (cZ .u64)=(aU s a 2).toNat:=wy (by show _<=64;omega);have p1:=jJ (aU s a 1).toNat;have p2:=jJ (aU s a 2).toNat;have u0:=V.u0;have u1:=V.u1;have r:0<=bh s a (aU s a 0)/2^(aU s a 1).toNat:=Js u0 Y;have E:bh s a (aU s a 0)/2^(aU s a 1).toNat<=bh s a (aU s a 0):=GP _ u0;have d2:0<=bh s a (aU s a 0)/2^(aU s a 1).toNat/2^(aU s a 2).toNat:=Js r Y;have F:bh s a (aU s a 0)/2^(aU s a 1).toNat/2^(aU s a 2).toNat<=bh s a (aU s a 0)/2^(aU s a 1).toNat:=GP _ r;have C:=KX (bh s a (aU s a 0)/2^(aU s a 1).toNat) f.2.2.1.2;have D:=KX (bh s a (aU s a 0)/2^(aU s a 1).toNat/2^(aU s a 2).toNat) f.2.2.2.2;rw[g,e4,adH Y Y,B,d,yD _ (wA p1),yD _ (wA p2),V.e,V.k,V.t,V.n,V.m,V.x];have c:=msk r Y (f:=(aU s a 2).toNat) Y;have A:=msk d2 Y (f:=(aU s a 3).toNat) Y;rw[d]at c;refine⟨Y,Y,Y,Y,rfl,rfl,?_,?_,rfl,rfl,rfl⟩
  ·rw[c,wr Y Y]
  ·rw[A,wr Y Y])⟩
def aMT:=aug.gd Zo Tryz.func133 fun⟨s,a⟩ ⟨h,_⟩=>⟨(aHL s a),J (p:=asQ s a (aL ((0<=a/\a<ak s)/\fV s a (Wq ((Zq (Yq s a.toNat)).tmod 4)=u s a%4) (Wq ((Q .u8 ((Zq (Yq s a.toNat)).tdiv 4)).tmod 4)=qu s a/\ca ((20:Int)=20/\a=a)))) (Wq ((Zq (Yq s a.toNat)).tmod 4)=u s a%4) (Wq ((Q .u8 ((Zq (Yq s a.toNat)).tdiv 4)).tmod 4)) (ca ((20:Int)=20/\a=a)) (F8 s a (Ci (ir s a) a)) (qY (u s a%4)) (0=fO s a)) (by
 unfold asQ aw eO Ci Wx fV aF F8 bE aeN pI fU dk nS ig aV T aZ dO aL ak cE bS d b5 ca kX bM bD Rq Wq Uq Zq Yq Jq;have bad:a<0\/(s.size:Int)<a->0=fO s a/\0=iM s a/\0=dz s a/\0=py s a/\0=cx s a/\2=(ir s a).1/\0=(ir s a).2:=fun w=>by
  have e:=apm w;have:=Uk (s:=s) (a:=a) (by rw[e];decide);rw[e];simp[this]
 have cut:0<=a->a<=s.size->(a=s.size\/(s.size:Int)<a+aU s a 0)->0=fO s a/\0=iM s a/\0=dz s a/\0=py s a/\0=cx s a/\20=(ir s a).1/\a=(ir s a).2:=fun j b w=>by
  have e:=apl j b w;have:=Uk (s:=s) (a:=a) (by rw[e];show(20:Int)≠0;decide);rw[e];simp[this]
 have w:=me s a;have P:((s.data.toList.getD a.toNat 0).toNat:Int)=u s a:=rfl;have E:Q .i64 (kf (u s a) 4)=u s a%4:=by rw[Jo w.1,wr Y Y]
 have F:Q .i64 (kf (Q .u8 (fi (u s a) 4)) 4)=u s a/4%4:=by
  rw[MR w.1,ail,Jo Y,wr Y Y];omega
 rw[P,E,F];obtain⟨U,W,⟨B,C,c,g,q,D⟩,t4⟩:=aCH s a;have f:=S_ s a;refine dq (fun j=>bad (.inl j)) fun j=>dq (fun b=>bad (.inr b)) fun b=>de (fun A=>cut Y Y (.inl A)) fun A=>⟨Y,Y,H,Y,Y,H,H,?_,fun _ _=>⟨Y,⟨0,⟨dx _,Y,Y⟩,rfl,rfl,rfl,rfl,rfl,rfl,rfl,rfl,rfl,rfl⟩,fun i ⟨hi,_⟩=>dq (fun ai=>?_) fun bA=>?_⟩⟩
 ·refine dq (fun M=>de (fun N=>⟨(),⟨Y,Y⟩,rfl,rfl,rfl,?_,rfl,rfl,rfl,rfl⟩) fun N=>⟨(),⟨Y,Y⟩,rfl,rfl,rfl,?_,rfl,rfl,rfl,rfl⟩) fun M=>⟨(),⟨Y,Y⟩,rfl,rfl,rfl,?_,rfl,rfl,rfl,rfl⟩<;>unfold qu
  ·rw[I Y]
  ·rw[V Y]
  ·rw[V Y]
 ·refine⟨Y,Y,bV (fun o=>?_) fun o=>?_⟩
  ·have L:i<vz (u s a%4) (qu s a):=by
    by_cases e:i=vz (u s a%4) (qu s a)
    ·subst e;exact absurd B o
    ·omega
   exact⟨i+1,⟨L,Y,Y⟩,by show 8- (i+1)<8-i;omega,rfl,rfl,rfl,rfl,rfl,by show Q _ _=((i+1:Nat):Int);rw[wr Y Y];push_cast;rfl,rfl,rfl,rfl,rfl⟩
  ·have e:i=vz (u s a%4) (qu s a):=by
    by_cases e:i=vz (u s a%4) (qu s a)
    ·exact e
    ·exact absurd o (W i Y)
   have G:X (i:Int)=vz (u s a%4) (qu s a):=by rw[<-e];rfl
   rw[G];generalize eU (qY (u s a%4)) (vz (u s a%4) (qu s a)) []=r at B C c g q D|-;rw[g,c]at q;rw[c]at g;rw[C,c,g,q,D];refine⟨f.1.1,Y,Y,Y,Y,bV (fun v=>cut Y Y (.inr ?_)) fun v=>?_⟩
   ·unfold Cm at v
    by_cases z:a+aU s a 0<=s.size
    ·rw[I z]at v;exact absurd rfl v
    ·omega
   ·have z:a+aU s a 0<=s.size:=by
     unfold Cm at v;by_cases z:a+aU s a 0<=s.size
     ·exact z
     ·rw[V z]at v;cases v
    have y:=ac' (s:=s) (a:=a) Y Y z;have u0:=y.u0;have u1:=y.u1;have ev:yi s a (aU s a 0)=bh s a (aU s a 0):=I z;have en:Cn s a (aU s a 0)=a+aU s a 0:=I z;have Z:Q .u64 (aU s a 1)=aU s a 1:=fW Y Y;have w2:Q .u64 (aU s a 1+aU s a 2)=aU s a 1+aU s a 2:=fW Y Y;have w3:Q .i64 (aU s a 1+aU s a 2-aU s a 1)=aU s a 2:=by rw[wr Y Y];omega
    have w4:Q .i64 (aU s a 1+aU s a 2+aU s a 3- (aU s a 1+aU s a 2))=aU s a 3:=by rw[wr Y Y];omega
    have R:min (aU s a 1).toNat (cZ .u64)=(aU s a 1).toNat:=wy (by show _<=64;omega);have S:min (aU s a 1+aU s a 2).toNat (cZ .u64)=(aU s a 1).toNat+(aU s a 2).toNat:=by
     rw[Int.toNat_add Y Y];exact wy (by show _<=64;omega)
    have p1:=jJ (aU s a 1).toNat;have p2:=jJ (aU s a 2).toNat;have p3:=jJ ((aU s a 1).toNat+(aU s a 2).toNat);rw[ev,en,Z,w2,w3,w4,R,S,yD _ (wA p1),yD _ (wA p3),Jr,<-Rm (wA p1),y.e,y.k,y.t,y.n,y.m,y.x];have l:0<=bh s a (aU s a 0)/2^(aU s a 1).toNat:=Js u0 Y;have d1:bh s a (aU s a 0)/2^(aU s a 1).toNat<=bh s a (aU s a 0):=GP _ u0;have d2:0<=bh s a (aU s a 0)/2^(aU s a 1).toNat/2^(aU s a 2).toNat:=Js l Y;have d3:bh s a (aU s a 0)/2^(aU s a 1).toNat/2^(aU s a 2).toNat<=bh s a (aU s a 0)/2^(aU s a 1).toNat:=GP _ l;have b1:=KX (bh s a (aU s a 0)/2^(aU s a 1).toNat) f.2.2.1.2;have b2:=KX (bh s a (aU s a 0)/2^(aU s a 1).toNat/2^(aU s a 2).toNat) f.2.2.2.2;refine⟨Y,Y,Y,Y,Y,dq (fun K=>⟨Y,Y,Y,Y,Y,rfl,rfl,wr Y Y,wr Y Y,rfl,rfl,rfl⟩) fun K=>⟨rfl,rfl,wr Y Y,?_,rfl,rfl,rfl⟩⟩;rw[show aU s a 3=0 by omega,show(2:Int)^X 0=1 from rfl,Int.emod_one];rfl
 ·exact absurd U Y)⟩
def ajG:=m.cons aGf<| .cons aMT<|Zo
namespace Go.Proofs
open Go.Shelf
def Tryz.ao':Go.Shelf.Ren:=⟨fun|105=>53|212=>74|99=>63|165=>75|166=>76|170=>77|169=>78|263=>108|264=>109|206=>94|240=>110|241=>111|276=>155|277=>156|n=>n,fun|9=>9|3=>3|4=>4|20=>20|0=>0|46=>80|109=>119|5=>5|72=>123|76=>127|51=>64|146=>153|53=>63|148=>155|70=>121|37=>106|75=>126|127=>157|164=>214|80=>129|n=>n,fun|n=>n⟩
theorem Tryz.aFW:Go.Proofs.Lays.n105 ar Tryz.ao':={
 mixed:=ax
 f99:=Tryz.func63.trans (dR O ax)
 f105:=Tryz.func53.trans (dR O ax)
 f165:=Tryz.func75.trans (dR O ax)
 f166:=Tryz.func76.trans (dR O ax)
 f169:=Tryz.func78.trans (dR O ax)
 f170:=Tryz.func77.trans (dR O ax)
 f206:=Tryz.func94.trans (dR O ax)
 f212:=Tryz.func74.trans (dR O ax)
 f240:=Tryz.func110.trans (dR O ax)
 f241:=Tryz.func111.trans (dR O ax)
 f263:=Tryz.func108.trans (dR O ax)
 f264:=Tryz.func109.trans (dR O ax)
 f276:=Tryz.func155.trans (dR O ax)
 f277:=Tryz.func156.trans (dR O ax)
 t0:=Tryz.underlying0
 a0:=Tryz.isAgg0
 z0:=Tryz.sizeOf0
 v0:=Tryz.zeroValue0
 t3:=Tryz.underlying3
 a3:=Tryz.isAgg3
 z3:=Tryz.sizeOf3
 v3:=Tryz.zeroValue3
 t4:=Tryz.underlying4
 a4:=Tryz.isAgg4
 z4:=Tryz.sizeOf4
 v4:=Tryz.zeroValue4
 t5:=Tryz.underlying5
 a5:=Tryz.isAgg5
 z5:=Tryz.sizeOf5
 v5:=Tryz.zeroValue5
 t9:=YL
 a9:=Tryz.isAgg9
 z9:=Tryz.sizeOf9
 v9:=Tryz.zeroValue9
 t20:=Tryz.underlying20
 a20:=Tryz.isAgg20
 z20:=Tryz.sizeOf20
 v20:=Tryz.zeroValue20
 t37:=aiL
 a37:=Tryz.isAgg106
 z37:=Tryz.sizeOf106
 v37:=Tryz.zeroValue106
 t46:=Tryz.underlying80
 a46:=Tryz.isAgg80
 z46:=Tryz.sizeOf80
 v46:=Tryz.zeroValue80
 t51:=Tryz.underlying64
 a51:=Tryz.isAgg64
 z51:=Tryz.sizeOf64
 v51:=Tryz.zeroValue64
 t53:=Tryz.underlying63
 a53:=Tryz.isAgg63
 z53:=Tryz.sizeOf63
 v53:=Tryz.zeroValue63
 t70:=YM
 a70:=Tryz.isAgg121
 z70:=Tryz.sizeOf121
 v70:=Tryz.zeroValue121
 t72:=Tryz.underlying123
 a72:=Tryz.isAgg123
 z72:=Tryz.sizeOf123
 v72:=Tryz.zeroValue123
 t75:=YQ
 a75:=Tryz.isAgg126
 z75:=Tryz.sizeOf126
 v75:=Tryz.zeroValue126
 t76:=Tryz.underlying127
 a76:=Tryz.isAgg127
 z76:=Tryz.sizeOf127
 v76:=Tryz.zeroValue127
 t109:=Tryz.underlying119
 a109:=Tryz.isAgg119
 z109:=Tryz.sizeOf119
 v109:=Tryz.zeroValue119
 t127:=aiP
 a127:=Tryz.isAgg157
 z127:=Tryz.sizeOf157
 v127:=Tryz.zeroValue157
 t146:=Tryz.underlying153
 a146:=Tryz.isAgg153
 z146:=Tryz.sizeOf153
 v146:=Tryz.zeroValue153
 t148:=Tryz.underlying155
 a148:=Tryz.isAgg155
 z148:=Tryz.sizeOf155
 v148:=Tryz.zeroValue155
 t164:=aiN
 a164:=Tryz.isAgg214
 z164:=Tryz.sizeOf214
 v164:=Tryz.zeroValue214}
theorem Tryz.ayf:Builder.Extra ar Tryz.ao':={
 sizeBuilder:=ax
 liesBuilder:=ax
 t5:=Tryz.underlying5
 a5:=Tryz.isAgg5
 z5:=Tryz.sizeOf5
 v5:=Tryz.zeroValue5
 infoByte:=ax
 cellsByte:=ax
 sizeByte:=ax
 neB5:=by decide}
open Go.RowKit Go.Lib in
theorem Tryz.strings_Repeat(s:M)(c:Nat)(w:World)(x:c<=9223372036854775807)(h:s.size*c<=140737488355328):
 Calls ar 53 #[.string s,.int .i64 c] w fun e w'=>e=.returned (.string ⟨(ajc s.data.toList c).toArray⟩)/\Below w.heap.size w w':=Any.strings_Repeat Tryz.aFW Tryz.ayf s c w x h
def Tryz.aFX:Go.Shelf.Ren:=⟨fun|15=>73|n=>n,fun|22=>42|3=>3|4=>4|n=>n,fun|n=>n⟩
theorem Tryz.ac4:Go.Proofs.Lays2.n15 ar Tryz.aFX:={
 mixed:=ax
 f15:=Tryz.func73.trans (dR O ax)
 t3:=Tryz.underlying3
 a3:=Tryz.isAgg3
 z3:=Tryz.sizeOf3
 v3:=Tryz.zeroValue3
 t4:=Tryz.underlying4
 a4:=Tryz.isAgg4
 z4:=Tryz.sizeOf4
 v4:=Tryz.zeroValue4
 t22:=YP
 a22:=Tryz.isAgg42
 z22:=Tryz.sizeOf42
 v22:=Tryz.zeroValue42
 i3:=by kernel_rfl}
open Go.RowKit Go.Lib in
theorem Tryz.slices_Clone_int(b h n c:Nat)(x:N)(w:World)(r:n<=x.length)(z:n*8<=140737488355328)(k:∀j,j<x.length->w.cell? ⟨b,h+j,ae⟩=O (.int .i64 (x.getD j 0))):
 Calls ar 73 #[.slice (O ⟨b,h,ae⟩) n c] w fun e w'=>∃y,e=.returned y/\w'.ownsRow w.heap.size 3 1 y n ((x.take n).map (cg .i64))/\y≠.slice ae 0 0/\Below w.heap.size w w':=Any.slices_Clone_int Tryz.ac4 b h n c x w r z k
open Go.RowKit Go.Lib in
theorem Tryz.slices_Clone_int_nil(n c:Nat)(w:World):
 Calls ar 73 #[.slice ae n c] w fun e w'=>e=.returned (.slice ae 0 0)/\w'=w:=Any.slices_Clone_int_nil Tryz.ac4 n c w
open Go.RowKit Go.Lib in
theorem Tryz.slices_Clone_int_zero(a:Addr)(c:Nat)(w:World):
 Calls ar 73 #[.slice (O a) 0 c] w fun e w'=>∃h,e=.returned h/\w'.ownsRow w.heap.size 3 1 h 0 []/\h≠.slice ae 0 0/\Below w.heap.size w w':=Any.slices_Clone_int_zero Tryz.ac4 a c w
end Go.Proofs
def auf:Spec:=Sp (N) [.l] fun l=>([E (l.length<=4294967296)],aE (dm l))
theorem aqy{D:aW}{β:bp}{w w':World}{v:Value}{e:TypeId}{l:N}(u:∀g,D g->g<w.heap.size)(n:w'.ownsRow w.heap.size e 1 v l.length (l.map (cg .i64)))(y:Below w.heap.size w w'):
  ∃D',tZ D β w [] (.bZ (.ints .i64 l)) [] v D' β w':=by
 obtain⟨_,n⟩:=n;have f:∀D':Nat->Prop,(∀g,D g->D' g)->(∀g,D' g->(D g\/w.heap.size<=g)/\g<w'.heap.size)->F D' w' β (.bZ (.ints .i64 l)) v->tZ D β w [] (.bZ (.ints .i64 l)) [] v D' β w':=fun D' p a q=>
  {vB:=⟨p,fun g z=>y.block g (u g z),fun _ _ h=>h⟩
   ret:=q
   vI:=⟨fun l b k=>(by cases k),fun l H b b' L L' k=>(by cases k)⟩
   d:=fun g z=>⟨(a g z).1.elim .inl fun h=>.inr (.inl h),(a g z).2⟩
   ib:=fun l L s=>.inl s
   own:=fun l b L k=>(by cases k)
   os:=y.os,tape:=y.tape,output:=y.output,size:=y.size
   block:=fun g z _=>y.block g z}
 rcases n with⟨rfl,o⟩|⟨g,cap,m,rfl,z,c,t,_,G,E⟩
 ·exact⟨D,f D (fun _ h=>h) (fun g h=>⟨.inl h,ng (u g h) y.size⟩) ⟨ae,0,by show _=Value.slice ae l.length 0;rw[o],by show l.length<=0;omega,fun h=>absurd h (by show¬0<l.length;omega)⟩⟩
 ·have C:g<w'.heap.size:=(Array.getElem?_eq_some_iff.1 c).1
  refine⟨fun x=>D x\/x=g,f _ (fun _ h=>.inl h) (fun x r=>?_) ⟨O ⟨g,0,ae⟩,cap,rfl,t,fun _=>⟨g,0,rfl,.inr rfl,fun i j hi A=>?_⟩⟩⟩
  ·rcases r with r|rfl
   ·exact⟨.inl r,ng (u x r) y.size⟩
   ·exact⟨.inr z,C⟩
  ·change i<l.length at hi
   change j<1 at A;refine⟨_,?_,rfl⟩;have:j=0:=Y;subst this;have B:m[i]? =O (.int .i64 (l.getD i 0)):=by
    have:=dR (·[i]?) E;simp only[xj,GH,pS,hi,if_true]at this;rw[<-xl,this,jR,kB hi];rfl
   show w'.cell? ⟨g,0+(i*1+0),ae⟩=O (.int .i64 (l.getD i 0));rw[show 0+(i*1+0)=i by omega,<-B];simp[World.cell?,c]
theorem aAc{l:N}(h:l.length<=4294967296):Sat ar 73 [.bZ (.ints .i64 l)] [] (.bZ (.ints .i64 l)) []:=by
 intro D β w us t J m K;simp only[Z]at t;obtain⟨u,P,rfl,⟨A,c,rfl,I,q⟩,rfl⟩:=t;cases A with
 |none=>
  have i:l= []:=by
   cases l with
   |nil=>rfl
   |cons x r=>
    obtain⟨g,y,f,_⟩:=q (Nat.succ_pos _);cases f
  subst i;refine(Go.Proofs.Tryz.slices_Clone_int_nil 0 c w).mono ?_;rintro e w' ⟨z,rfl⟩;exact⟨_,D,β,z,
   {vB:=⟨fun _ h=>h,fun _ _=>rfl,fun _ _ h=>h⟩
    ret:=⟨ae,0,rfl,gL _,fun h=>absurd h (Nat.lt_irrefl _)⟩
    vI:=⟨fun l b k=>(by cases k),fun l M b b' L L' k=>(by cases k)⟩
    d:=fun g s=>⟨.inl s,m g s⟩
    ib:=fun l L E=>.inl E
    own:=fun l b L k=>(by cases k)
    os:=rfl,tape:=rfl,output:=rfl,size:=gL _
    block:=fun _ _ _=>rfl}⟩
 |some a=>
  by_cases i:l.length=0
  ·have n:l= []:=r9 i
   subst n;refine(Go.Proofs.Tryz.slices_Clone_int_zero a c w).mono ?_;rintro e w' ⟨H,z,v,_,p⟩;obtain⟨D',o⟩:=aqy (l:=[]) m.lt v p;exact⟨_,D',β,z,o⟩
  ·obtain⟨g,y,f,C,G⟩:=q (by show 0<l.length;omega)
   cases f;refine(Go.Proofs.Tryz.slices_Clone_int g y l.length c l w (gL _) Y fun j F=>?_).mono ?_
   ·obtain⟨x,n,B⟩:=G j 0 F Nat.zero_lt_one
    rw[show y+j=y+(j*1+0)by omega];exact n.trans (dR O B)
   ·rintro e w' ⟨H,z,v,_,p⟩
    rw[nE (gL _)]at v;obtain⟨D',o⟩:=aqy m.lt v p;exact⟨_,D',β,z,o⟩
theorem aAd:Sound ar 73 auf.iY:=auf.sound ax Sp.dn fun l h=>aAc (h _ (.head _))
def aui:Spec:=Sp (M×Int) [.s,.i] fun(s,c)=>([E (0<=c),E (c<=4294967296),E (s.size=1)],aE (aD (IH s c)))
theorem aso(x:UInt8):∀n,ajc [x] n=au n x
 |0=>rfl
 |n+1=>by rw[ajc,aso x n,D9];rfl
theorem aMb(s:M)(c:Int)(h0:0<=c)(h1:c<=4294967296)(y:s.size=1):Sat ar 53 [.v (.string s),.v (.int .i64 c)] [] (.v (.string (IH s c))) []:=by
 refine ag' (fun w=>?_) rfl rfl;have h:=Go.Proofs.Tryz.strings_Repeat s c.toNat w Y (by rw[y];omega);rw[Rb h0]at h;refine h.mono ?_;rintro e w' ⟨rfl,k⟩;refine⟨?_,k⟩;obtain⟨x,z⟩:=List.length_eq_one_iff.1 (show s.data.toList.length=1 from y);have e:u s 0=(x.toNat:Int):=by unfold u;rw[z];rfl
 unfold IH;rw[e,z,aso];simp[strOfNums,pv]
theorem aMc:Sound ar 53 aui.iY:=aui.sound ax Sp.dn fun(s,c) h=>aMb s c (h _ (.head _)) (h _ (.tail _ (.head _))) (h _ (.tail _ (.tail _ (.head _))))
def nO(l:N):Int:=if 0<l.length then jz l else 0
def Ax(s:M)(a m:Int):Prop:=(ir s a).1=0/\0<=m/\m<=131072
def Fs(s:M)(a:Int)(l:N)(m:Int):Prop:=Ax s a m/\nO l=0
def Ay(s:M)(a:Int)(l:N)(m:Int):Prop:=Fs s a l m/\dz s a<=m/\dL s a<=s.size
def Az(s:M)(a:Int)(l:N)(m:Int):Prop:=Ay s a l m/\2<=fO s a
def BV(s:M)(a:Int)(l:N)(m:Int):Prop:=Az s a l m/\¬(fO s a=3/\l.length=0)/\¬(iM s a=4/\dz s a<6)
def HZ(s:M)(a:Int)(l:N)(m:Int):Prop:=BV s a l m/\(pB s a).1=0
def aGr(s:M)(a:Int)(l:N)(m:Int)(i:Nat):Prop:=Ay s a l m/\fO s a=1/\(i:Int)<=dz s a
def vM(s:M)(a:Int)(i:Nat):N:=au i (u s (cx s a))++au ((dz s a).toNat-i) 0
def H0(s:M)(a:Int):Int:=if fO s a=0 then dz s a else py s a
def apE(s:M)(a:Int)(l:N)(m:Int):Prop:=Az s a l m/\¬(fO s a=3/\l.length=0)
def aPc:Spec:=Sp (N) [.l] fun l=>([E (l.length<=4294967296)],aE (B (nO l)))
def aPa:Spec:=Sp (Int×Int) [.i,.i] fun(e,a)=>([],aE (.tu [aD aJ,.v (.slice ae 0 0),B 0,.ag [B e,B a]]))
def auh:Spec:=Sp (M×Int×N×Int) [.s,.i,.l,.i] fun(s,a,l,m)=>([E (s.size<=600),E (l.length<=4294967296)],aE (.tu [aD (lY s a l m),dm (oT s a l m),B (ku s a l m),.ag [.v (.int .i64 (gr s a l m).1),.v (.int .i64 (gr s a l m).2)]]))
def yq(s:M)(a:Int)(l:N)(m:Int):lW:=[(0,.v (.string s)),(1,.v (.int .i64 a)),(2,.bZ (.ints .i64 l)),(3,.v (.int .i64 m)),(11,.p 1000 0 0),(12,.v (.int .i64 (fO s a))),(13,.v (.int .i64 (iM s a))),(14,.v (.int .i64 (dz s a))),(15,.v (.int .i64 (py s a))),(16,.v (.int .i64 (cx s a)))]
def ux:Nat×bm:=(1000,.cells 25 [.v (.int .i64 0),.v (.int .i64 0)])
def TQ(s:M)(x a:Int):Nat×bm:=(1001,.cells 162 [.v (.string s),.v (.int .i64 x),.v (.int .i64 0),.v (.int .i64 0),.v (.int .i64 a)])
def OU(k:Nat)(s:M)(x:Int):Nat×bm:=(k,.cells 70 [.v (.string s),.v (.int .i64 x),.v (.int .i64 0),.v (.int .i64 0)])
def aHM(s:M)(a:Int)(l:N)(m:Int):bO:=dX [(1010,.one (bi Unit fun _=>(Fs s a l m,yq s a l m,[ux],0))),
 (1017,.one (bi Unit fun _=>(Fs s a l m,yq s a l m++ [(18,U 1001),(19,B (gX s a))],[ux,TQ s (cx s a) a],0))),
 (1020,.one (bi Unit fun _=>(Ay s a l m,yq s a l m++ [(18,U 1001),(20,U 1002),(21,U 1003)],[ux,TQ s (cx s a) a,OU 1002 (oU s a) (cx s a),OU 1003 s (dL s a)],0))),
 (1028,.one (bi Unit fun _=>(BV s a l m,yq s a l m++ [(18,U 1001),(20,U 1002),(21,U 1003)],[ux,TQ s (cx s a) a,OU 1002 (oU s a) (cx s a),OU 1003 s (dL s a)],0))),
 (1035,.one (bi Unit fun _=>(HZ s a l m,yq s a l m++ [(18,U 1001),(21,U 1003),(22,dm (kr s a l))],[ux,TQ s (jZ s a) a,OU 1003 s (dL s a)],0)))]
def aIn(s:M)(a:Int)(l:N)(m:Int):bO:=dX [(1006,.one (bi Unit fun _=>(Ax s a m,yq s a l m,[ux],0))),
 (1012,.one (bi Unit fun _=>(Fs s a l m,yq s a l m++ [(19,B (H0 s a))],[ux],0))),
 (1014,.one (bi Unit fun _=>(Fs s a l m,yq s a l m++ [(19,B (gX s a))],[ux],0))),
 (1016,.one (bi Unit fun _=>(Ay s a l m,yq s a l m,[ux],0))),
 (0,.one {ι:=Nat,p:=aGr s a l m,tm:=fun i=>[(0,aD s),(11,U 1000),(14,B (dz s a)),(16,B (cx s a)),(20,.o 5000),(21,.o 5001),(22,cP i)],hp:=fun i=>[ux,(5000,.row 3 (.ints .i64 l)),(5001,.row 5 (.ints .u8 (vM s a i)))],μ:=fun i=>(dz s a).toNat-i}),
 (1027,.one (bi Unit fun _=>(Az s a l m,yq s a l m++ [(20,.o 5000)],[ux,(5000,.row 3 (.ints .i64 l))],0))),
 (1029,.one (bi Unit fun _=>(apE s a l m,yq s a l m++ [(20,.o 5000)],[ux,(5000,.row 3 (.ints .i64 l))],0))),
 (1031,.one (bi Unit fun _=>(BV s a l m,yq s a l m++ [(20,.o 5000)],[ux,(5000,.row 3 (.ints .i64 l))],0))),
 (1033,.one (bi Unit fun _=>(BV s a l m,yq s a l m++ [(20,.o 5000),(23,B (dL s a)),(24,B (cx s a))],[ux,(5000,.row 3 (.ints .i64 l))],0))),
 (1037,.one (bi Unit fun _=>(BV s a l m/\fO s a=2,[(0,aD s),(11,U 1000),(13,B (iM s a)),(14,B (dz s a)),(23,B (dL s a)),(25,dm (kr s a l)),(26,B (jZ s a)),(27,U 5002)],[ux,(5002,.cells 25 [.v (.int .i64 (pB s a).1),.v (.int .i64 (pB s a).2)])],0))),
 (1039,.one (bi Unit fun _=>(HZ s a l m/\fO s a=2,[(0,aD s),(11,U 1000),(13,B (iM s a)),(14,B (dz s a)),(23,B (dL s a)),(25,dm (kr s a l)),(26,B (jZ s a))],[ux],0)))]
def af3(e a:Int):Prop:=aJ=aJ/\rX/\a_/\e=e/\a=a
def uF(h0:M)(h1:Int)(h:N)(x:Int)(y:Prop):Prop:=h0=h0/\h1=h1/\h=h/\x=x/\fO h0 h1=fO h0 h1/\iM h0 h1=iM h0 h1/\dz h0 h1=dz h0 h1/\py h0 h1=py h0 h1/\cx h0 h1=cx h0 h1/\y
def sE(h0:M)(h1:Int)(h:N)(x:Int)(y:Prop):Prop:=aJ=lY h0 h1 h x/\ck (oT h0 h1 h x)/\0=ku h0 h1 h x/\y
def Vz(h0:M)(h1 h x:Int)(y:N)(e z k:Prop):Prop:=Bq (fO h0 h1==1) (aL ((Ax h0 h1 h/\x=0)/\uF h0 h1 y h (e/\z))) (aL ((Ax h0 h1 h/\x=0)/\uF h0 h1 y h (k/\z)))
def Lw(h0:M)(h1 h x:Int)(y:N)(z e:Prop):Prop:=aL ((Ax h0 h1 h/\x=0)/\uF h0 h1 y h (z/\e))
def P4(h0:M)(h1:Int)(h:N)(x:Prop):Prop:=0<=jZ h0 h1/\jZ h0 h1<=dL h0 h1/\dL h0 h1<=ak h0/\cd (kr h0 h1 h)/\bD (cU h0 (jZ h0 h1) (dL h0 h1))/\x
def gI(h0:M)(h1:Int):M:=h0.extract 0 h1.toNat
def DK(h0:M)(h1:Int)(h:N)(x:Int)(y:Prop):Prop:=ck (oT h0 h1 h x)/\0=ku h0 h1 h x/\y
def Wm(h0:M)(h1:Int)(h:N)(x:Int)(y:Int×Int)(z e k:Prop):Prop:=Dq (dz h0 h1<6) (sE h0 h1 h x (20=y.1/\h1=y.2)) (aL ((Az h0 h1 h x/\z/\e)/\uF h0 h1 h x (ca k)))
def L3(h0:Int×Int)(h1:Prop):Prop:=h0.1=0/\h0.2=0/\h1
def apr(s:M)(a:Int)(l:N)(m:Int)(D i p j h:Prop)(k:Int×Int)(r:Prop)(e:M)(z:Prop)(f u:Int)(W:Int×Int)(x y:Int):Prop:=kv s/\Bq ((ir s a).1 !=0) (sE s a l m (iU (ir s a) W)) (Dq (m<0) (sE s a l m (ig W)) (Dq (m>131072) (sE s a l m (ig W)) (Dq (o l>0) (cd l/\Bq (jz l !=0) (sE s a l m (jz l=W.1/\0=W.2)) r) r/\eO (Ax s a m/\nO l=0->iy (fO s a==0) (Lw s a m (nO l) l (y=gX s a) h) (Vz s a m (nO l) l (1=gX s a) h (py s a=gX s a)) (Ax s a m/\nO l=0->aF x (x<=ak s) (kv s/\Dq (y>m) (sE s a l m (Ci W a)) (Bq (u !=0) (sE s a l m (Ci W a)) (Bq (fO s a==0) (aF x (x<=f) (f<=ak s/\cd l/\e=lY s a l m/\p)) (Bq (fO s a==1) (aF x (x<=f) (f<=ak s/\aF y (y<=4294967296) (e.size=1/\cd l/\IH e y=lY s a l m/\p))) (Bq (fO s a==3) (Bq (o l==0) (sE s a l m (Ge W a)) D) D))))/\eO (j->iy (fO s a==2) (kv (oU s a)/\Bq ((trE (oU s a) x).1==5) (Bq ((21:Int) !=0) (sE s a l m (zz W a)) (aL (z/\uF s a l m (trZ (oU s a) x=kr s a l/\(21:Int)=0/\a=0/\i)))) (Bq ((trE (oU s a) x).1 !=0) (sE s a l m (iU (trE (oU s a) x) W)) (aL (z/\uF s a l m (trZ (oU s a) x=kr s a l/\L3 (trE (oU s a) x) i))))) (aL (z/\uF s a l m (l=kr s a l/\ca (s=s/\x=jZ s a/\ca (a=a/\s=s/\dL s a=dL s a/\dE))))) (z->P4 s a l (aF (jZ s a) (jZ s a<=1000000) (bS k.1 (aJ=lY s a l m) (DK s a l m (iU k W)) (cd (kr s a l)) (yM (kr s a l) (cU s (jZ s a) (dL s a)) y (iM s a)=lY s a l m/\kr s a l=oT s a l m/\dL s a=ku s a l m/\dO W)))))))))))
def ada(s:M)(a:Int)(l:N)(m:Int):Prop:=apr s a l m (Bq (iM s a==4) (Wm s a l m (gr s a l m) (¬(fO s a=3/\ck l)) (¬(iM s a=4/\dz s a<6)) (s=s/\aw (cx s a) a_ (a_/\a=a/\(bif dI s (cx s a) 0 (gX s a)==0 then gI s (cx s a+gX s a)else s)=oU s a/\aw (cx s a) (dI s (cx s a) 0 (gX s a)=0) (gf s (cx s a) 0 0 (gX s a)=0/\s=s/\ee s (cx s a) 0 (gX s a)=dL s a/\dI s (cx s a) 0 (gX s a)=0/\gf s (cx s a) 0 0 (gX s a)=0)))) (aL ((Az s a l m/\¬(fO s a=3/\ck l)/\¬(iM s a=4/\dz s a<6))/\uF s a l m (ca (s=s/\aw (cx s a) a_ (a_/\a=a/\(bif dI s (cx s a) 0 (gX s a)==0 then gI s (cx s a+gX s a)else s)=oU s a/\aw (cx s a) (dI s (cx s a) 0 (gX s a)=0) (gf s (cx s a) 0 0 (gX s a)=0/\s=s/\ee s (cx s a) 0 (gX s a)=dL s a/\dI s (cx s a) 0 (gX s a)=0/\gf s (cx s a) 0 0 (gX s a)=0))))))) (s=s/\trN (oU s a) (cx s a)=jZ s a/\ca (a=a/\s=s/\dL s a=dL s a/\dE)) (l=oT s a l m/\ee s (cx s a) 0 (gX s a)=ku s a l m/\dO (gr s a l m)) (Az s a l m/\¬(fO s a=3/\ck l)/\¬(iM s a=4/\dz s a<6)) (ca (s=s/\d_ s (cx s a)=cx s a/\dS s (cx s a)=0/\a_/\a=a)) (qX (jZ s a) (kr s a l) (cU s (jZ s a) (dL s a)) (dz s a) (iM s a)) (Lw s a m (nO l) l ((ir s a).1=0) ((ir s a).2=0)) (cU s (cx s a) (ee s (cx s a) 0 (gX s a))) (BV s a l m/\(pB s a).1=0) (ee s (cx s a) 0 (gX s a)) (dI s (cx s a) 0 (gX s a)) (gr s a l m) (cx s a) (dz s a)
def asR(s:M)(a:Int)(l:N)(m:Int)(D P i p j h:Prop)(E F:Int)(G:Prop)(H f:Int)(q W:Prop)(w t:M)(d:Int)(u:Prop)(A:M)(n b:Int)(B:Prop)(k:Int×Int)(v:M)(c:N)(x y r z:Int):Prop:=kv s/\bS (ir s a).1 u (DK s a l m (iU (ir s a) k)) (Dq (m<0) (sE s a l m (ig k)) (Dq (m>131072) (sE s a l m (ig k)) (aL (((ir s a).1=0/\0<=m/\m<=131072)/\uF s a l m dE)))) (eO ((ir s a).1=0/\0<=m/\m<=131072->cd l/\bS (nO l) u (DK s a l m (nO l=n/\0=b)) (Bq (z==0) (Lw s a m (nO l) l (x=H0 s a) dE) (Lw s a m (nO l) l (py s a=H0 s a) dE)) (eO (Ax s a m/\nO l=0->Vz s a m (nO l) l (1=gX s a) dE (H0 s a=gX s a)/\eO (Ax s a m/\nO l=0->Dq (x>m) (sE s a l m (Ci k a)) (Dq (gX s a>Wq (ak s-y)) (sE s a l m (Ci k a)) (aL (j/\uF s a l m dE)))/\eO (j->(0+l.length)*8<=140737488355328/\iy (z==0) (aF y (y<=d) (d<=ak s/\cU s y d=v/\([]:N)++l=oT s a l m/\d=ku s a l m/\dO k)) (Bq (z==1) (aF x (x<=x) (yb (Zq 1) x (∃(C:Nat),(Ay s a l m/\z=1/\Zq C<=x)/\s=s/\aw x (y=y) (aZ C/\ca (([]:N)++l=l/\AM x=vM s a C))) (∀(e:Nat),Ay s a l m/\z=1/\Zq e<=x->Dq (Zq e<x) (Rq y (ak s) (o8 e (vM s a e) (T e<(vM s a e).length) (∃(g:Nat),(Ay s a l m/\z=1/\Zq g<=x)/\qh x g e/\s=s/\aw x (y=y) (bE e g/\ca (l=l/\(vM s a e).set (T e) (Zq (Yq s y.toNat))=vM s a g))))) (strOfNums (vM s a e)=v/\l=oT s a l m/\ay y=ku s a l m/\dO k)))) (aL ((Ay s a l m/\2<=z)/\uF s a l m (ca (([]:N)++l=l))))) (Ay s a l m/\2<=z->iy (z==3) (Bq (o l==0) (sE s a l m (Ge k a)) i) i (Az s a l m/\W->iy (iM s a==4) (Wm s a l m k W (¬(iM s a=4/\x<6)) (l=l)) (aL (D/\uF s a l m (ca (l=l)))) (D->F7 D (uF s a l m (Wq (y+py s a)=r/\aw y a_ (a_/\l=l))) (Bq (z==2) (ft (0<=r) (B/\kv A/\iy ((trE A y).1==5) (aL (q/\s=s/\aw (iM s a) (x=x) (aw r h (G/\ca (zz (pB s a) a))))) (aL (q/\s=s/\aw (iM s a) (x=x) (aw r h (G/\ca (iU (trE A y) (pB s a)))))) (q->iy ((pB s a).1 !=0) (sE s a l m (iU (pB s a) k)) (aL ((HZ s a l m/\z=2)/\s=s/\aw (iM s a) (x=x) (aw r (c=c) (jZ s a=jZ s a/\dE)))) (HZ s a l m/\z=2->Bq (iM s a==1) (P4 s a l (bS E u (DK s a l m (E=n/\Wq (jZ s a+0)=b)) (rO c t x=v) P)) (P4 s a l (bS F u (DK s a l m (F=n/\Wq (jZ s a+qF c t x)=b)) (rm c t x=v) P)))))) (Bq (iM s a==1) (aF y (y<=r) (B/\cd l/\bD w/\bS H u (DK s a l m (H=n/\Wq (y+0)=b)) (rO l w x=v) p)) (aF y (y<=r) (B/\cd l/\bD w/\bS f u (DK s a l m (f=n/\Wq (y+qF l w x)=b)) (rm l w x=v) p)))))))))))))
def af4(s:M)(a:Int)(l:N)(m:Int):Prop:=asR s a l m (Az s a l m/\¬(fO s a=3/\ck l)/\¬(iM s a=4/\dz s a<6)) (kr s a l=oT s a l m/\dL s a=ku s a l m/\dO (gr s a l m)) (aL ((Az s a l m/\¬(fO s a=3/\ck l))/\uF s a l m (ca (l=l)))) (l=oT s a l m/\dL s a=ku s a l m/\dO (gr s a l m)) (Fs s a l m/\dz s a<=m/\dL s a<=ak s) (trZ (s.extract bY (dL s a).toNat) (cx s a)=kr s a l) (rE (kr s a l) (cU s (jZ s a) (dL s a)) (dz s a)) (mu (kr s a l) (cU s (jZ s a) (dL s a)) (dz s a)) (trN (s.extract bY (dL s a).toNat) (cx s a)=jZ s a) (rE l (cU s (cx s a) (dL s a)) (dz s a)) (mu l (cU s (cx s a) (dL s a)) (dz s a)) (BV s a l m/\fO s a=2) (¬(fO s a=3/\ck l)) (cU s (cx s a) (dL s a)) (cU s (jZ s a) (dL s a)) (Wq (cx s a+dz s a)) (aJ=lY s a l m) (s.extract bY (dL s a).toNat) (gr s a l m).1 (gr s a l m).2 (dL s a<=ak s) (gr s a l m) (lY s a l m) (kr s a l) (dz s a) (cx s a) (dL s a) (fO s a)
section
section
variable{l:N}{M:Int}
theorem aqZ(x:Int):0<=nC x:=by unfold nC;split<;>first|exact wA (jJ _)|exact jj _
theorem Q7(x:Int)(l:N):cF (x::l)=nC x+cF l:=by rfl
theorem aSO(a b:N):cF (a++b)=cF a+cF b:=by grind [cF]
theorem ain:∀l:N,0<=cF l
 | []=>jj 0
 |x::l=>by rw[Q7];have:=aqZ x;have:=ain l;omega
theorem aim{x:Int}:∀{l:N},x∈l->nC x<=cF l
 |y::l,h=>by
  rw[Q7];have:=aqZ y;have:=ain l;rcases List.mem_cons.1 h with rfl|h
  ·omega
  ·have:=aim h;omega
theorem awG(m:Int):qO m 0=0:=I rfl
theorem ah0{m x:Int}(h:x≠0):qO m x=m+1-x:=V h
theorem ahw(e:M<=11):∀(l:N) (s:Int),(∀x∈l,0<=x/\x<=M)->(l.map (qO M)).foldl (fun s x=>cond (decide (0<x)) (s+2^(11-x).toNat) s) s=s+2^(11-M).toNat*cF l
 | [],s,_=>by show s=s+_*0;omega
 |x::l,s,h=>by
  have u:=h x aj;have k:=fun y r=>h y (Ri _ r);rw[kd,GL,Q7];by_cases z:x=0
  ·subst z
   rw[awG,show nC 0=0 from rfl,A5];exact ahw e l s k
  ·rw[ah0 z,jS (show 0<M+1-x by omega),bo,ahw e l _ k]
   unfold nC;rw[I Y,Int.mul_add,<-Jr,show(11- (M+1-x)).toNat=(11-M).toNat+(x-1).toNat by omega];omega
theorem aal:∀(l:N) (s:Int),(∀x∈l,0<=x/\x<=M)->s<=(l.map (qO M)).foldl (fun s x=>cond (decide (0<x)) (s+1) s) s/\(0<cF l->s+1<=(l.map (qO M)).foldl (fun s x=>cond (decide (0<x)) (s+1) s) s)
 | [],s,_=>⟨jj _,fun h=>absurd h H⟩
 |x::l,s,h=>by
  have r:=h x aj;have e:=fun y k=>h y (Ri _ k);rw[kd,GL,Q7];by_cases z:x=0
  ·subst z
   rw[awG,show nC 0=0 from rfl,A5];exact aal l s e
  ·rw[ah0 z,jS (show 0<M+1-x by omega),bo]
   have:=aal l (s+1) e;omega
theorem awF(h:impE l=0):jz (qa l)=0/\(qa l).length<=256/\2<=(qa l).length:=by
 have z:=TY h;obtain⟨L,P,w,J,B,T,U⟩:=z;have W:=ME w Y;obtain⟨R,S,A,C,K,lt,l0,l1,Q,F,G,H⟩:=W;have n:iS l=wM l:=by unfold iS;rw[I h]
 have c:jY l=aS (jQ l)+1:=by unfold jY;rw[I h]
 have r:AV l=ah:=by
  have u:=h;unfold impE at u;rw[V Y,I w]at u;by_cases r:AV l=ab
  ·rw[I r]at u;cases u
  ·simpa using r
 unfold AV at r;simp only[qS,wo,dH,bne_eq_false_iff_eq]at r;have p:0<cF l:=by have:=ain l;omega
 have i:jQ l=2^(wM l).toNat-cF l:=rfl;have v:nC (jY l)=jQ l:=by
  unfold nC;rw[I Y,c,show aS (jQ l)+1-1=aS (jQ l)by omega];exact r.2.symm
 have s:cF (l++ [jY l])=2^(wM l).toNat:=by rw[aSO,Q7,v,i];show _+(_+0)=_;omega
 have k:∀x∈l++ [jY l],0<=x/\x<=iS l:=fun x e=>by
  have o:=aim e;have j:0<=x:=by
   rcases List.mem_append.1 e with e|e
   ·have:=List.all_eq_true.1 w x e
    unfold ov at this;simp only[bC,dJ]at this;exact this.1
   ·rw[List.mem_singleton.1 e];omega
  refine⟨j,?_⟩;rw[n];by_cases g:x<=wM l
  ·exact g
  ·rcases List.mem_append.1 e with e|e
   ·have b:=aim e
    unfold nC at b;rw[I Y]at b;have:(2:Int)^(wM l).toNat<=2^(x-1).toNat:=nQ Y;have D:0<jQ l:=by rw[r.2];exact jJ _
    omega
   ·have e:=List.mem_singleton.1 e
    subst e;rw[v]at o;unfold nC at v;rw[I Y]at v;have:(2:Int)^(wM l).toNat<=2^(jY l-1).toNat:=nQ Y;omega
 have a:(qa l).length=l.length+1:=by rw[KO h];simp
 have q:sO (qa l)=2048:=by
  have:=ahw B (l++ [jY l]) 0 k;rw[KO h];show(ma (qO (iS l)) (l++ [jY l])).foldl _ 0=_;rw[this,s,<-n,A5,<-Jr,show(11-iS l).toNat+(iS l).toNat=11 by omega];rfl
 have m:2<=lv (qa l):=by
  have c1:=(aal (M:=iS l) l 0 fun x e=>k x (List.mem_append_left _ e)).2 p;rw[KO h];show 2<=(ma (qO (iS l)) (l++ [jY l])).foldl _ 0;rw[yA,Rl,kd,uU,GL,List.foldl_nil];have E:=k (jY l) aj;rw[ah0 Y,jS (show 0<iS l+1-jY l by omega),bo];omega
 have f:(qa l).all jI=ab:=by
  rw[KO h,List.all_eq_true];intro y t;obtain⟨x,e,rfl⟩:=List.mem_map.1 t;have:=k x e;unfold jI qO;split<;>simp<;>omega
 refine⟨?_,Y,Y⟩;have d:lh (qa l)=0:=by unfold lh;rw[iW Y,f];rfl
 unfold jz;rw[d,q,iW Y];rfl
end
attribute [local irreducible] readF twE twV impE inE inV
section
variable{s:M}{a:Int}
theorem awB(h:(trE s a).1=0):∃l,impE l=0/\trZ s a=qa l:=by
 refine⟨kO s a,?_,I h⟩;have y:¬(a<0\/(s.size:Int)<a):=fun c=>by unfold trE at h;rw[I c]at h;cases h
 have r:a≠s.size:=fun c=>by unfold trE at h;rw[V y,I c]at h;cases h
 by_cases x:127<u s a
 ·obtain⟨z,k,w⟩:=QO Y Y x
  rw[k];rw[z]at h;unfold rdWL;rw[I h];grind [rdWE]
 ·by_cases v:(s.size:Int)<a+1+u s a
  ·grind [QP]
  ·have e:trE s a=if(inE (cW s a)).1=0 then(if impE (inV (cW s a))=0 then(0,0)else(21,a))else((inE (cW s a)).1,(inE (cW s a)).2+(a+1)):=by
    unfold trE;rw[V y,V r,V x,V v]
   have i:kO s a=inV (cW s a):=by unfold kO;rw[I h,V x]
   grind
theorem aSe(h:(trE s a).1=0):(trE s a).2=0:=by
 have x:¬(a<0\/(s.size:Int)<a):=fun c=>by unfold trE at h;rw[I c]at h;cases h
 have y:a≠s.size:=fun c=>by unfold trE at h;rw[V x,I c]at h;cases h
 by_cases z:127<u s a
 ·grind [QO,rdWE]
 ·by_cases k:(s.size:Int)<a+1+u s a
  ·grind [QP]
  ·have e:trE s a=if(inE (cW s a)).1=0 then(if impE (inV (cW s a))=0 then(0,0)else(21,a))else((inE (cW s a)).1,(inE (cW s a)).2+(a+1)):=by
    unfold trE;rw[V x,V y,V z,V k]
   grind
theorem aSa(h:(trE s a).1=0):a<=trN s a/\trN s a<=s.size:=by
 have w:=me s a;have e:¬(a<0\/(s.size:Int)<a):=fun c=>by unfold trE at h;rw[I c]at h;cases h
 have r:a≠s.size:=fun c=>by unfold trE at h;rw[V e,I c]at h;cases h
 by_cases x:127<u s a
 ·obtain⟨y,k,z⟩:=QO Y Y x
  rw[z];rw[y]at h;unfold rdWN;rw[I h];grind [rdWE]
 ·have v:trN s a=a+1+u s a:=by unfold trN;rw[I h,V x]
  grind [QP]
end
end
section
variable{s:M}{a m:Int}{l:N}
theorem apF(h:(ir s a).1≠0):gr s a l m=ir s a:=by unfold gr;rw[I h]
theorem Uv(h:(ir s a).1=0)(x:m<0\/131072<m):gr s a l m=(2,0):=by unfold gr;rw[V (by simpa using h),I x]
theorem apG(h:Ax s a m)(x:nO l≠0):gr s a l m=(nO l,0):=by
 obtain⟨h,z,e⟩:=h;unfold nO at x|-;by_cases y:0<l.length
 ·rw[I y]at x|-
  unfold gr;rw[V (by simpa using h),V Y,I ⟨y,x⟩]
 ·rw[V y]at x;exact absurd rfl x
theorem K0(h:nO l=0):¬(0<l.length/\jz l≠0):=fun⟨x,y⟩=>by unfold nO at h;rw[I x]at h;exact y h
theorem apH(h:Fs s a l m)(c:m<dz s a\/(s.size:Int)<dL s a):gr s a l m=(20,a):=by
 obtain⟨⟨h,y,z⟩,x⟩:=h;unfold gr;rw[V (by simpa using h),V Y,V (K0 x),I c]
theorem Uw(h:Ay s a l m)(c:fO s a<=1):gr s a l m=(0,0):=by
 obtain⟨⟨⟨h,y,z⟩,x⟩,e,k⟩:=h;unfold gr;rw[V (by simpa using h),V Y,V (K0 x),V Y,I c]
theorem apI(h:Az s a l m)(c:fO s a=3/\l.length=0):gr s a l m=(26,a):=by
 obtain⟨⟨⟨⟨h,y,z⟩,x⟩,e,k⟩,r⟩:=h;unfold gr;rw[V (by simpa using h),V Y,V (K0 x),V Y,V Y,I c]
theorem adj(h:apE s a l m)(c:iM s a=4/\dz s a<6):gr s a l m=(20,a):=by
 obtain⟨⟨⟨⟨⟨h,z,e⟩,y⟩,k,r⟩,u⟩,x⟩:=h;unfold gr;rw[V (by simpa using h),V Y,V (K0 y),V Y,V Y,V x,I c]
theorem adk(h:BV s a l m)(c:(pB s a).1≠0):gr s a l m=pB s a:=by
 obtain⟨⟨⟨⟨⟨h,e,k⟩,z⟩,r,u⟩,v⟩,x,y⟩:=h;unfold gr;rw[V (by simpa using h),V Y,V (K0 z),V Y,V Y,V x,V y,I c]
theorem apJ(h:HZ s a l m):gr s a l m=qX (jZ s a) (kr s a l) (zh s a) (dz s a) (iM s a):=by
 obtain⟨⟨⟨⟨⟨⟨h,r,u⟩,k⟩,v,w⟩,i⟩,y,z⟩,e⟩:=h;unfold gr;rw[V (by simpa using h),V Y,V (K0 k),V Y,V Y,V y,V z,V (by simpa using e)];unfold qX;by_cases x:CY (kr s a l) (zh s a) (dz s a) (iM s a)=0
 ·rw[I x,V (by simpa using x)]
 ·rw[V x,I x]
theorem qC{e f:Int}(h:gr s a l m=(e,f))(y:e≠0):aJ=lY s a l m/\(oT s a l m).length=0/\0=ku s a l m/\e=(gr s a l m).1/\f=(gr s a l m).2:=by
 have x:¬(gr s a l m).1=0:=by rw[h];exact y
 unfold lY oT ku;rw[V x,V x,V x,h];exact⟨rfl,rfl,rfl,rfl,rfl⟩
theorem H2(h:gr s a l m=(0,0)):lY s a l m=(if fO s a=0 then s.extract (cx s a).toNat (dL s a).toNat else if fO s a=1 then strOfNums (au (dz s a).toNat (u s (cx s a)))else yM (kr s a l) (zh s a) (dz s a) (iM s a))/\oT s a l m=(if fO s a<=1 then l else kr s a l)/\ku s a l m=dL s a/\0=(gr s a l m).1/\0=(gr s a l m).2:=by
 have x:(gr s a l m).1=0:=by rw[h]
 unfold lY oT ku;rw[I x,I x,I x,h];exact⟨rfl,rfl,rfl,rfl,rfl⟩
theorem aMS{e a:Int}:af3 e a:=by unfold af3 a_ rX Jq;simp
end
section
attribute [local irreducible] readF twE twV impE inE inV trE trZ trN
section
variable{s:M}{a m:Int}{l:N}
structure JI (s:M) (a:Int):Prop where
 e:ir s a=(0,0)
 a0:0<=a
 x0:a<cx s a
 x1:cx s a<=s.size
 k0:0<=fO s a
 k1:fO s a<=3
 n0:0<=dz s a
 n1:dz s a<=1048576
 m0:0<=py s a
 m1:py s a<=1048576
theorem apn(h:(ir s a).1=0):JI s a:=by
 have v:=me s a;have f:=S_ s a;have z:=h;unfold ir at z;by_cases c:a<0\/(s.size:Int)<a
 ·rw[I c]at z;cases z
 ·rw[V c]at z
  by_cases d:a=s.size\/(s.size:Int)<a+aU s a 0
  ·rw[I d]at z;cases z
  ·have y:=ac' (s:=s) (a:=a) Y Y Y
   have r:=KX (bh s a (aU s a 0)/2^(aU s a 1).toNat) f.2.2.1.2;have u:=KX (bh s a (aU s a 0)/2^(aU s a 1).toNat/2^(aU s a 2).toNat) f.2.2.2.2;have i:=y.x;have w:=y.k;refine⟨y.e,Y,Y,Y,Y,Y,?_,?_,?_,?_⟩
   ·rw[y.n];exact r.1
   ·rw[y.n];exact r.2
   ·rw[y.m];exact u.1
   ·rw[y.m];exact u.2
theorem Uu(R:JI s a):0<=gX s a/\gX s a<=1048576:=by
 obtain⟨_,_,_,_,_,_,y,z,h,x⟩:=R;unfold gX;split
 ·omega
 ·split<;>omega
theorem adi(R:JI s a)(h:dL s a<=s.size):((oU s a).size:Int)=dL s a:=by
 have:=Uu R;have hB:dL s a=cx s a+gX s a:=rfl;have:=R.x0;have:=R.a0;unfold oU;rw[r8];omega
theorem apD(R:JI s a)(h:dL s a<=s.size)(x:(pB s a).1=0)(k:l.length<=4294967296)(y:nO l=0)(h0:¬(fO s a=3/\l.length=0))(i:2<=fO s a):cx s a<=jZ s a/\jZ s a<=dL s a/\(kr s a l).length<=4294967296/\jz (kr s a l)=0:=by
 have n:=Uu R;have hB:dL s a=cx s a+gX s a:=rfl;have v:=adi R h;have j:=R.k1;unfold jZ kr;by_cases c:fO s a=2
 ·rw[I c,I c]
  have z:(trE (oU s a) (cx s a)).1=0:=by
   unfold pB at x;rw[I c]at x;by_cases e:(trE (oU s a) (cx s a)).1=5
   ·rw[I e]at x;cases x
   ·rw[V e]at x;exact x
  have r:=aSa z;obtain⟨w,u,e⟩:=awB z;have t:=awF u;rw[e];exact⟨r.1,Y,Y,t.1⟩
 ·rw[V c,V c]
  refine⟨Y,Y,k,?_⟩;unfold nO at y;rwa[I Y]at y
end
end
section
attribute [local irreducible] readF twE twV impE inE inV trE trZ trN
section
variable{s:M}{a m:Int}{l:N}
theorem adN(h:0<l.length):nO l=jz l:=I h
theorem aJ4(h:¬0<l.length):nO l=0:=V h
theorem asn{x n:Int}(h0:0<=x)(h1:x<s.size):IH (s.extract x.toNat (x+1).toNat) n=strOfNums (au n.toNat (u s x)):=by
 unfold IH;congr 2;have e:=aa0 (s:=s) (i:=x.toNat) (n:=(x+1).toNat) (a:=0) (z:=1) (jj _) H (by rw[show X 0=0 from rfl,show X 1=1 from rfl];omega);rw[N2 (jj _) (by rw[r8];omega),show(x.toNat:Int)+0=x by omega,N2 h0 h1]at e;exact e
theorem aGk(B:s.size<=600)(j:l.length<=4294967296):ada s a l m:=by
 unfold ada apr aw o Ci L3 zz Ge Wm aF a_ DK gI iy eO P4 cd dE ig Lw kv Vz uF sE dO aL ck ak iU bS cU ca bD Zq;refine⟨B,bV (fun h=>qC (apF h) h) fun h=>dq (fun c=>qC (Uv h (.inl c)) H) fun c=>dq (fun d=>qC (Uv h (.inr Y)) H) fun d=>?_⟩;have p1:Ax s a m:=⟨h,Y,Y⟩;have R:=apn h;have g:=Uu R;have hB:dL s a=cx s a+gX s a:=rfl;have x0:=R.x0;have x1:=R.x1;have a0:=R.a0;have k0:=R.k0;obtain⟨hv,K,L⟩:=aau (s:=s) (a:=cx s a) Y Y;have E:=R.e;rw[E,K,L];refine⟨dq (fun P=>⟨j,bV (fun k=>qC ((apG p1 (by rw[adN Y];exact k)).trans (by rw[adN Y])) k) fun k=>⟨(),⟨p1,by rw[adN Y];exact k⟩,aj⟩⟩) fun P=>⟨(),⟨p1,aJ4 Y⟩,aj⟩,fun _ p2=>⟨?_,fun _ _=>⟨Y,x1,B,?_,fun _ p5=>⟨?_,fun _ p6=>?_⟩⟩⟩⟩
 ·refine de (fun x=>⟨(),p2,?_⟩) fun x=>de (fun v=>⟨(),p2,?_⟩) fun v=>⟨(),p2,?_⟩<;>simp[gX,x, *]
 ·have bad:m<dz s a\/(s.size:Int)<dL s a->_:=fun c=>qC (l:=l) (apH p2 c) H
  refine dq (fun S=>bad (.inl Y)) fun S=>bV (fun z=>bad (.inr ?_)) fun z=>?_
  ·by_cases f:cx s a+gX s a<=s.size
   ·exact absurd (J0 g.1 f).1 z
   ·omega
  have t:cx s a+gX s a<=s.size:=by
   by_cases f:cx s a+gX s a<=s.size
   ·exact f
   ·rw[(aac g.1 Y).1]at z;cases z
  obtain⟨F,G,e4,_⟩:=J0 (s:=s) (a:=cx s a) g.1 t;have p3:Ay s a l m:=⟨p2,Y,Y⟩;rw[F,G,e4];refine de (fun x=>?_) fun x=>de (fun v=>?_) fun v=>?_
  ·obtain⟨g1,g2,g3,g4,g5⟩:=H2 (Uw p3 Y)
   rw[I x]at g1;rw[I Y]at g2;exact⟨Y,Y,Y,j,g1.symm,g2.symm,g3.symm,g4,g5⟩
  ·obtain⟨g1,g2,g3,g4,g5⟩:=H2 (Uw p3 Y)
   rw[V x,I v]at g1;rw[I Y]at g2;have D:gX s a=1:=by unfold gX;rw[V x,I v]
   rw[D]at t|-;have n0:=R.n0;have n1:=R.n1;refine⟨Y,Y,Y,n0,Y,by rw[r8];omega,j,by rw[asn Y Y,g1],g2.symm,by rw[g3,hB,D],g4,g5⟩
  ·have p4:Az s a l m:=⟨p3,Y⟩
   have put:∀p5:BV s a l m,BV s a l m:=fun h=>h;have n:oU s a=s.extract 0 (cx s a+gX s a).toNat:=rfl;refine de (fun A=>de (fun Q=>qC (apI p4 ⟨A,Y⟩) H) fun Q=>de (fun r=>dq (fun y=>qC (adj ⟨p4,Y⟩ ⟨r,y⟩) H) fun y=>⟨(),⟨p4,Y,Y⟩,?_⟩) fun r=>⟨(),⟨p4,Y,Y⟩,?_⟩) fun A=>de (fun r=>dq (fun y=>qC (adj ⟨p4,Y⟩ ⟨r,y⟩) H) fun y=>⟨(),⟨p4,Y,Y⟩,?_⟩) fun r=>⟨(),⟨p4,Y,Y⟩,?_⟩<;>simp[n,hB]
 ·have i:=p5
  obtain⟨⟨p3,p4⟩,p,w⟩:=p5;have Z:=adi R p3.2.2;have Om:dL s a<=s.size:=p3.2.2;refine de (fun x=>⟨Y,de (fun u=>?_) fun u=>bV (fun y=>?_) fun y=>⟨(),⟨i,?_⟩,?_⟩⟩) fun x=>⟨(),⟨i,?_⟩,?_⟩
  ·exact bV (fun _=>qC ((adk i (by unfold pB;rw[I x,I u];show(21:Int)≠0;decide)).trans (by unfold pB;rw[I x,I u])) H) fun h=>absurd h H
  ·have:pB s a=trE (oU s a) (cx s a):=by unfold pB;rw[I x,V u]
   exact qC ((adk i (by rw[this];exact y)).trans this) y
  ·unfold pB;rw[I x,V u];exact y
  ·have:=aSe y
   simp[kr,jZ,x,y,this]
  ·unfold pB;rw[V x]
  ·simp[kr,jZ,x]
 ·obtain⟨⟨p4,p,w⟩,C⟩:=p6
  obtain⟨U,J,q,W⟩:=apD R p4.1.2.2 C j p2.2 p p4.2;have T:zh s a=s.extract (jZ s a).toNat (dL s a).toNat:=rfl;have b:=apJ (⟨⟨p4,p,w⟩,C⟩:HZ s a l m);rw[T]at b;have p3:=p4.1.2.2;refine⟨Y,J,p3,q,by rw[r8];omega,Y,Y,bV (fun z=>qC b z) fun z=>?_⟩;have k:qX (jZ s a) (kr s a l) (s.extract (jZ s a).toNat (dL s a).toNat) (dz s a) (iM s a)=(0,0):=by
   unfold qX at z|-;split at z
   ·rename_i c;rw[I c]
   ·cases z
  obtain⟨g1,g2,g3,g4,g5⟩:=H2 (b.trans k);have X:=p4.2;rw[V Y,V Y]at g1;rw[V Y]at g2;exact⟨q,g1.symm,g2.symm,g3.symm,g4,g5⟩
end
end
section
attribute [local irreducible] readF twE twV impE inE inV trE trZ trN
section
variable{s b:M}{a m n k x:Int}{l:N}
theorem aqb(h:jz l=0)(h0:0<=n)(h1:n<=131072):jH l n=0:=by grind [jH]
theorem aLc(h:jz l=0)(h0:0<=n)(h1:n<=131072)(y:rE l b n≠0):rE l b n=22:=by
 unfold rE at y|-;rw[aqb h h0 h1]at y|-;rw[qi,WW y];rfl
theorem aK5(h:jz l=0)(h0:6<=n)(h1:n<=131072)(y:mu l b n≠0):mu l b n=22:=by grind [mu,e4,aqb]
theorem aF_(R:JI s a)(v:2<=fO s a):iM s a=1\/iM s a=4:=by
 have h:(ir s a).1=0:=by rw[R.e]
 have y:iM s a=aU s a 4:=I h;have r:fO s a=u s a%4:=I h;have z:∀k i:Fin 4,2<=k.val->cQ k.val (i.val*5+4)=1\/cQ k.val (i.val*5+4)=4:=by decide+kernel
 have:=z ⟨(u s a%4).toNat,Y⟩ ⟨(u s a/4%4).toNat,Y⟩ c9;rw[y];exact this
theorem apK(R:JI s a)(p6:HZ s a l m)(D:s.size<=600)(o:l.length<=4294967296){F:Int}{G:N}(f:jZ s a=F)(g:kr s a l=G):
  Bq (iM s a==1) (0<=F/\F<=dL s a/\dL s a<=(s.size:Int)/\G.length<=4294967296/\(s.extract F.toNat (dL s a).toNat).size<=1000000/\Bq (rE G (s.extract F.toNat (dL s a).toNat) (dz s a) !=0) (aJ=lY s a l m/\(oT s a l m).length=0/\0=ku s a l m/\rE G (s.extract F.toNat (dL s a).toNat) (dz s a)=(gr s a l m).1/\Q .i64 (F+0)=(gr s a l m).2) (rO G (s.extract F.toNat (dL s a).toNat) (dz s a)=lY s a l m/\G=oT s a l m/\dL s a=ku s a l m/\0=(gr s a l m).1/\0=(gr s a l m).2))
   (0<=F/\F<=dL s a/\dL s a<=(s.size:Int)/\G.length<=4294967296/\(s.extract F.toNat (dL s a).toNat).size<=1000000/\Bq (mu G (s.extract F.toNat (dL s a).toNat) (dz s a) !=0) (aJ=lY s a l m/\(oT s a l m).length=0/\0=ku s a l m/\mu G (s.extract F.toNat (dL s a).toNat) (dz s a)=(gr s a l m).1/\Q .i64 (F+qF G (s.extract F.toNat (dL s a).toNat) (dz s a))=(gr s a l m).2) (rm G (s.extract F.toNat (dL s a).toNat) (dz s a)=lY s a l m/\G=oT s a l m/\dL s a=ku s a l m/\0=(gr s a l m).1/\0=(gr s a l m).2)):=by
 subst f g;have r:=apJ p6;obtain⟨⟨p4,q,t⟩,A⟩:=p6;have p2:=p4.1.1;have p3:=p4.1.2;have c:=p4.2;obtain⟨B,v,w,i⟩:=apD R p3.2 A o p2.2 q c;have x0:=R.x0;have a0:=R.a0;have n0:=R.n0;have E:=p2.1.2.2;have j:zh s a=s.extract (jZ s a).toNat (dL s a).toNat:=rfl;have C:=aF_ R c;have e:=p3.2;have p:=p3.1;have d:(zh s a).size<=1000000:=by rw[j,r8];omega
 rw[<-j];refine de (fun h=>⟨Y,v,e,w,d,bV (fun y=>?_) fun y=>?_⟩) fun h=>⟨Y,v,e,w,d,bV (fun y=>?_) fun y=>?_⟩
 ·have z:=aLc i n0 Y y
  rw[z,MU,wr Y Y];refine qC (r.trans ?_) H;unfold qX CY J3;rw[I h,I h,V y,MU]
 ·have u:qX (jZ s a) (kr s a l) (zh s a) (dz s a) (iM s a)=(0,0):=by unfold qX CY;rw[I h,I y]
  obtain⟨g1,g2,g3,g4,g5⟩:=H2 (r.trans u);rw[V Y,V Y]at g1;rw[V Y]at g2;unfold yM at g1;rw[I h]at g1;exact⟨g1.symm,g2.symm,g3.symm,g4,g5⟩
 ·have hp:=arv (l:=kr s a l) (b:=zh s a) (n:=dz s a)
  have z:=aK5 i Y Y y;rw[z,wr Y Y];refine qC (r.trans ?_) H;unfold qX CY J3;rw[V h,V h,V y]
 ·have u:qX (jZ s a) (kr s a l) (zh s a) (dz s a) (iM s a)=(0,0):=by unfold qX CY;rw[V h,I y]
  obtain⟨g1,g2,g3,g4,g5⟩:=H2 (r.trans u);rw[V Y,V Y]at g1;rw[V Y]at g2;unfold yM at g1;rw[V h]at g1;exact⟨g1.symm,g2.symm,g3.symm,g4,g5⟩
theorem aMW(A:s.size<=600)(t:l.length<=4294967296):af4 s a l m:=by
 unfold af4 asR aw Ci zz Ge Wm aF a_ DK AM F7 iy eO bE bY P4 cd o8 o qh ft dE yb ig Lw kv Vz uF T sE cl aZ dO aL ay ck ak iU bS cU ca bD Rq Wq Zq Yq;refine⟨A,bV (fun h=>qC (apF h) h) fun h=>⟨dq (fun c=>qC (Uv h (.inl c)) H) fun c=>dq (fun d=>qC (Uv h (.inr Y)) H) fun d=>⟨(),⟨h,Y,Y⟩,aj⟩,fun _ p1=>⟨t,bV (fun w=>qC (apG p1 w) w) fun w=>?_⟩⟩⟩;have p2:Fs s a l m:=⟨p1,w⟩;have R:=apn h;have hz:=Uu R;have hB:dL s a=cx s a+gX s a:=rfl;have x0:=R.x0;have x1:=R.x1;have a0:=R.a0;have k0:=R.k0;have k1:=R.k1;have n0:=R.n0;have n1:=R.n1;have m0:=R.m0;have m1:=R.m1;have bad:m<dz s a\/(s.size:Int)<dL s a->_:=fun c=>qC (l:=l) (apH p2 c) H;refine⟨de (fun y=>⟨(),p2,by simp[H0,y]⟩) fun y=>⟨(),p2,by simp[H0,y]⟩,fun _ _=>⟨de (fun y=>⟨(),p2,by simp[gX,y]⟩) fun y=>⟨(),p2,by simp[gX,H0,y]⟩,fun _ _=>⟨dq (fun K=>bad (.inl Y)) fun K=>dq (fun p=>bad (.inr ?_)) fun p=>⟨(),⟨p2,Y,?_⟩,aj⟩,fun _ p3=>?_⟩⟩⟩
 ·rw[wr Y Y]at p;omega
 ·rw[wr Y Y]at p;omega
 have F:dL s a<=s.size:=p3.2.2;have j:Q .i64 (cx s a+dz s a)=cx s a+dz s a:=wr Y Y;rw[j];refine⟨Y,de (fun y=>?_) fun y=>de (fun z=>⟨n0,jj _,by show((1:Nat):Int)*_<=_;omega,Y,⟨0,⟨p3,z,n0⟩,rfl,rfl,rfl,rfl,rfl,rfl,rfl,by unfold vM;simp⟩,fun i ⟨_,_,hi⟩=>dq (fun Z=>?_) fun W=>?_⟩) fun z=>⟨(),⟨p3,Y⟩,aj⟩,fun _ p4=>⟨de (fun C=>de (fun J=>qC (apI p4 ⟨C,Y⟩) H) fun J=>⟨(),⟨p4,Y⟩,aj⟩) fun C=>⟨(),⟨p4,Y⟩,aj⟩,fun _ r=>⟨de (fun D=>dq (fun E=>qC (adj r ⟨D,E⟩) H) fun E=>⟨(),⟨r.1,r.2,Y⟩,aj⟩) fun D=>⟨(),⟨r.1,r.2,Y⟩,aj⟩,fun _ p5=>⟨⟨(),p5,?_⟩,fun _ _=>?_⟩⟩⟩⟩
 ·obtain⟨g1,g2,g3,g4,g5⟩:=H2 (Uw p3 Y)
  rw[I y]at g1;rw[I Y]at g2;have P:gX s a=dz s a:=by unfold gX;rw[I y]
  rw[hB,P]at g1 g3;exact⟨Y,Y,Y,g1.symm,g2.symm,g3.symm,g4,g5⟩
 ·have B:(vM s a i).length=(dz s a).toNat:=by unfold vM;simp;omega
  have G:gX s a=1:=by unfold gX;rw[V y,I z]
  rw[B];refine⟨Y,Y,Y,Y,Y,i+1,⟨p3,z,Y⟩,by show(dz s a).toNat- (i+1)<(dz s a).toNat-i;omega,rfl,rfl,rfl,by show Q _ _=((i+1:Nat):Int);rw[wr Y Y];push_cast;rfl,rfl,rfl,rfl,?_⟩;obtain⟨q,L⟩:∃q,(dz s a).toNat-i=q+1:=⟨(dz s a).toNat-i-1,Y⟩;show List.set (vM s a i) i (u s (cx s a))=vM s a (i+1);unfold vM;rw[L,show(dz s a).toNat- (i+1)=q by omega,aiW _ _ aj,qR,Rp,D9,Rg,Rc (n:=i),qQ];rfl
 ·have e:i=(dz s a).toNat:=Y
  obtain⟨g1,g2,g3,g4,g5⟩:=H2 (Uw p3 Y);rw[V y,I z]at g1;rw[I Y]at g2;have G:gX s a=1:=by unfold gX;rw[V y,I z]
  have B:vM s a i=au (dz s a).toNat (u s (cx s a)):=by unfold vM;rw[e,Rp];simp
  rw[B,wr Y Y,g1,g3,hB,G];exact⟨rfl,g2.symm,rfl,g4,g5⟩
 ·have y:=p5.1.2
  have S:gX s a=py s a:=by unfold gX;rw[V Y,V Y]
  rw[wr Y Y,hB,S];simp
 ·have g:s.extract (X 0) (dL s a).toNat=oU s a:=rfl
  have U:=adi R F;rw[g];refine de (fun y=>⟨Y,Y,F,Y,de (fun f=>⟨(),⟨p5,y⟩,?_⟩) fun f=>⟨(),⟨p5,y⟩,?_⟩,fun _ _=>⟨bV (fun v=>qC (adk p5 v) v) fun v=>⟨(),⟨⟨p5,v⟩,y⟩,aj⟩,fun _ p6=>apK R p6.1 A t rfl rfl⟩⟩) fun y=>?_
  ·simp[kr,jZ,pB,y,f]
  ·simp[kr,jZ,pB,y,f]
  ·exact apK R ⟨p5,by unfold pB;rw[V y]⟩ A t (V y) (V y)
end
def aMU:=aPc.gd ajG Tryz.func135 fun(l:N) ⟨h,_⟩=>⟨aK,J (p:=Bq (o l==0) (0=nO l) (cd l/\jz l=nO l)) (by
 unfold o cd Zq;unfold nO;grind)⟩
def aMR:=aPa.gd m.nil Tryz.func134 fun⟨e,a⟩ _=>⟨aK,J (p:=af3 e a) (aMS)⟩
def Zp:=m.cons aAd<| .cons aMc<| .cons aMU<| .cons aMR<|ajG
def aGj:=auh.gd Zp Tryz.func79 fun⟨s,a,l,m⟩ ⟨h,x,_⟩=>⟨(aHM s a l m),J (p:=ada s a l m) (aGk h x)⟩
def aMV:=auh.gd Zp Tryz.func90 fun⟨s,a,l,m⟩ ⟨h,x,_⟩=>⟨(aIn s a l m),J (p:=af4 s a l m) (aMW h x)⟩
def ayB:=m.cons aGj<| .cons aMV<|Zp
end
structure TB where
 m:Int
 s:Int
 g:Int
 p:N
structure T3 where
 a:TB
 b:TB
 c:TB
def TB.v(t:TB):bL:=[.v (.int .i64 t.m),.v (.int .i64 t.s),.v (.int .i64 t.g),.bZ (.ints .i64 t.p)]
def T3.v(T:T3):bL:=T.a.v++(T.b.v++T.c.v)
def IT:List SV->Option T3
 | [.v (.int .i64 m0),.v (.int .i64 s0),.v (.int .i64 g0),.bZ (.ints .i64 p0),.v (.int .i64 m1),.v (.int .i64 s1),.v (.int .i64 g1),.bZ (.ints .i64 p1),.v (.int .i64 m2),.v (.int .i64 s2),.v (.int .i64 g2),.bZ (.ints .i64 p2)]=>O ⟨⟨m0,s0,g0,p0⟩,⟨m1,s1,g1,p1⟩,⟨m2,s2,g2,p2⟩⟩
 |_=>ae
def TB.R(k:Int)(t:TB):Prop:=tbE k t.m t.s t.g t.p=0
def T3.R(T:T3):Prop:=T.a.R 0/\T.b.R 1/\T.c.R 2
def T3.N(T:T3):Bool:=T.a.m== -1||(T.b.m== -1||T.c.m== -1)
def TB.C(t:TB):q:=lL t.m t.s t.g t.p
def TB.L(t:TB):Int:=aS t.C.length
def bw(L n:Int):Int:=if n<=L then L-n else L
def cw(s:M)(L n:Int):Int:=if n<=L then iD s L n.toNat else 0
structure X3 where
 a:Int
 b:Int
 c:Int
def bX(k:Int)(t:TB)(x:Int):Int:=dZ k (cS t.C x)
def aX(k:Int)(t:TB)(x:Int):Int:=lQ k (cS t.C x)
def uX(t:TB)(x:Int):Int:=cB t.C x
def qJ(T:T3)(X:X3):Int:=bX 1 T.b X.b+bX 2 T.c X.c+bX 0 T.a X.a
def wj(T:T3)(X:X3):Int:=uX T.a X.a+uX T.c X.c+uX T.b X.b
def Gr(s:M)(T:T3)(L:Int)(X:X3):N:=[aX 0 T.a X.a+iD s (L-bX 1 T.b X.b-bX 2 T.c X.c) (bX 0 T.a X.a).toNat,aX 2 T.c X.c+iD s (L-bX 1 T.b X.b) (bX 2 T.c X.c).toNat,aX 1 T.b X.b+iD s L (bX 1 T.b X.b).toNat]
def Ms(s:M)(T:T3)(L:Int)(X:X3):X3:=⟨cA T.a.C X.a+iD s L (uX T.a X.a).toNat,cA T.b.C X.b+iD s (L-uX T.a X.a-uX T.c X.c) (uX T.b X.b).toNat,cA T.c.C X.c+iD s (L-uX T.a X.a) (uX T.c X.c).toNat⟩
def uJ(s:M)(T:T3):Nat->Int->X3->List (N)->Int×List (N)
 |0,L,_,l=>if 0<L then(22,[])else(0,l)
 |r+1,L,X,l=>if L<qJ T X then(22,[])else if r=0 then uJ s T 0 (L-qJ T X) X (l++ [Gr s T L X])
  else if L-qJ T X<wj T X then(22,[])else uJ s T r (L-qJ T X-wj T X) (Ms s T (L-qJ T X) X) (l++ [Gr s T L X])
def ahl(s:M)(T:T3)(L:Int):X3:=⟨iD s L T.a.L.toNat,iD s (L-T.a.L) T.b.L.toNat,iD s (L-T.a.L-T.b.L) T.c.L.toNat⟩
def DR(T:T3):Int:=T.a.L+T.b.L+T.c.L
def QC(s:M)(n:Int)(T:T3):Int×List (N):=if aR s<DR T then(22,[])else uJ s T n.toNat (aR s-DR T) (ahl s T (aR s)) []
def gJ(s:M)(n:Int)(T:T3):Int×List (N):=if T.N=ab then(7,[])else if n<1\/98047<n then(2,[])else if i_ s=ab then(22,[])else QC s n T
def QN(k m:Int)(s:M)(a:Int)(t:TB):TB:=⟨qM k m s a t.m,qN k m s a t.m t.s,tU k m s a t.m t.g,sU k m s a t.m t.p⟩
def z3:T3:=⟨⟨0,0,0,[]⟩,⟨0,0,0,[]⟩,⟨0,0,0,[]⟩⟩
def rp(s:M)(a k:Int):Int:=u s a/2^(6-2*k).toNat%4
def dM(s:M)(a:Int):Int:=a+bH s a
def IP(s:M)(q:Int)(T:T3):Int:=eG 0 (rp s q 0) s (q+1) T.a.m
def IQ(s:M)(q:Int)(T:T3):Int:=eG 1 (rp s q 1) s (IP s q T) T.b.m
def Gs(s:M)(q:Int)(T:T3):Int:=eG 2 (rp s q 2) s (IQ s q T) T.c.m
def AS(s:M)(q:Int)(T:T3):T3:=⟨QN 0 (rp s q 0) s (q+1) T.a,QN 1 (rp s q 1) s (IP s q T) T.b,QN 2 (rp s q 2) s (IQ s q T) T.c⟩
def wg(s:M)(q:Int)(T:T3):Int×Int:=lV 0 (rp s q 0) s (q+1) T.a.m
def zH(s:M)(q:Int)(T:T3):Int×Int:=lV 1 (rp s q 1) s (IP s q T) T.b.m
def Cu(s:M)(q:Int)(T:T3):Int×Int:=lV 2 (rp s q 2) s (IQ s q T) T.c.m
def yo(s:M)(a:Int)(T:T3):Int×List (N):=gJ (s.extract (Gs s (dM s a) T).toNat s.size) (jh s a) (AS s (dM s a) T)
def xd(s:M)(a:Int)(T:T3):Int×Int:=
 if li s a=ah then kZ s a else if jh s a=0 then(if dM s a<s.size then(22,dM s a)else(0,0))else if dM s a=s.size then(5,dM s a)
 else if u s (dM s a)%4≠0 then(15,dM s a)else if(wg s (dM s a) T).1≠0 then wg s (dM s a) T else if(zH s (dM s a) T).1≠0 then zH s (dM s a) T else if(Cu s (dM s a) T).1≠0 then Cu s (dM s a) T
 else if(yo s a T).1≠0 then((yo s a T).1,Gs s (dM s a) T)else(0,0)
def c(s:M)(e:Int):M:=s.extract 0 e.toNat
def uK(s:M)(a e:Int):Prop:=a<0\/e<a\/(s.size:Int)<e
instance(s:M)(a e:Int):Decidable (uK s a e):=by unfold uK;infer_instance
def iH(s:M)(a e:Int)(T:T3):Int×Int:=if uK s a e then(2,0)else xd (c s e) a T
def jC(s:M)(a e:Int)(T:T3):q:=if(iH s a e T).1=0 then(if jh (c s e) a=0 then []else(yo (c s e) a T).2)else []
def eC(s:M)(a e:Int)(T:T3):T3:=if(iH s a e T).1=0 then(if jh (c s e) a=0 then T else AS (c s e) (dM (c s e) a) T)else z3
section
section
variable{y:Int}
theorem amL:∀(f:Nat) (r:R2) (x:N),(kg y f r x).2.2=0->∃k,(kg y f r x).2.1=x++au k 0
 |0,r,x,h=>by simp[kg]at h
 |f+1,r,x,h=>by
  by_cases e:(R r 2).2.2=0
  ·by_cases u:y<x.length+(R r 2).2.1
   ·grind [N6]
   ·rw[N7 e u]at h|-
    cases z:(R r 2).2.1==3
    ·grind
    ·rw[z]at h
     obtain⟨k,v⟩:=amL f _ _ h;exact⟨(R r 2).2.1.toNat+k,by rw[bo,v,qQ,axF]⟩
  ·grind [N5]
structure ZG (left:Int) (out:N):Prop where
 ge:∀x∈out, -1<=x
 lst:left=0->out.getD (out.length-1) 0≠0
theorem aFT(l:N)(x:Int):(l++ [x]).getD ((l++ [x]).length-1) 0=x:=c9
theorem aKU(k:Nat):ie (au k 0)=0:=by
 induction k with
 |zero=>rfl
 |succ k h=>rw[Rc,FD,h];rfl
theorem afR:∀(f:Nat) (r:R2) (left:Int) (z:N),0<=left->left<=4096->ZG left z->(gh y f r left z).2.2=0->ZG 0 (gh y f r left z).2.1/\ie (gh y f r left z).2.1=ie z+left
 |0,r,left,z,l0,l1,I,h=>by simp[gh]at h
 |f+1,r,left,z,l0,l1,I,h=>by
  by_cases j:0<left
  ·by_cases e:(dW r left).2.2=0
   ·obtain⟨i,v,n⟩:∃i v,dW r left=(i,v,0):=⟨_,_,by rw[<-e]⟩
    have c:=Q0 l0 l1 n;have v0:=c.v0;have v1:=c.v1;cases b:((z.length:Int)==y)
    ·by_cases oO:v=1
     ·subst oO
      rw[Qv j n b]at h|-;by_cases a:(kg y (y.toNat+1) i (z++ [1-1])).2.2=0
      ·rw[aap a]at h|-
       obtain⟨k,d⟩:=amL _ _ _ a;have g:ZG left (kg y (y.toNat+1) i (z++ [1-1])).2.1:=⟨fun x u=>by
        rw[d,qQ]at u;rcases List.mem_append.1 u with u|u
        ·exact I.ge x u
        ·rcases List.mem_append.1 u with u|u
         ·have:=List.mem_singleton.1 u;omega
         ·have:=List.eq_of_mem_replicate u;omega,fun h=>by omega⟩
       have w:=afR f _ _ _ l0 l1 g h;refine⟨w.1,?_⟩;rw[w.2,d,PH,PH,aKU];show ie z+0+0+left=_;omega
      ·rw[Hi a]at h;exact absurd h a
     ·rw[Qu j n b oO]at h|-
      have hp:=aqT (v-1) Y;have w:=afR f i (left-max (v-1) 1) (z++ [v-1]) Y Y ⟨fun x u=>by
       rcases List.mem_append.1 u with u|u
       ·exact I.ge x u
       ·have:=List.mem_singleton.1 u;omega,fun _=>by rw[aFT];omega⟩ h
      refine⟨w.1,?_⟩;rw[w.2,FD,hp.2.1 Y];omega
    ·rw[Qt j n b]at h;exact absurd h (by show¬(23:Int)=0;decide)
   ·rw[Mg j e]at h;exact absurd h e
  ·have:left=0:=Y
   grind [Qs]
theorem aLL{r:R2}{m:Int}(w:m<=12)(j:1<=y)(d:y<=256)(h:(ij r m y).2.2=0):cb (ix r) (ij r m y).2.1=0/\ix r<=m:=by
 have k:=afN w j h;by_cases e:(R r 4).2.2=0
 ·by_cases u:m<ix r
  ·grind [Qp]
  ·rw[Qr e u]at h k|-
   have c:=Um e;have n:=Ie (g:=ix r) Y;have f:=jJ (ix r).toNat;obtain⟨I,hp⟩:=afR _ _ _ _ Y n ⟨fun x z=>(by cases z),fun h=>by omega⟩ h;refine⟨?_,Y⟩;generalize (gh y (y.toNat+1) (R r 4).1 (2^(ix r).toNat) []).2.1=l at I hp k;have i:=I.lst rfl;have a:1<=l.length:=c9;have b:Bn (ix r) l=ah:=by
    cases v:Bn (ix r) l
    ·rfl
    ·rcases(SF _ _).1 v with h|h|h|⟨x,z,h⟩|h
     ·omega
     ·omega
     ·exact absurd h i
     ·have:=I.ge x z;omega
     ·exact absurd (hp.trans (A5 _)) h
   grind [cb]
 ·rw[Qq e]at h;exact absurd h e
theorem aLS{x:Int}{s:M}{a m:Int}(h:(readF x s a m y).2.2.1=0):cb (readF x s a m y).1.1 (readF x s a m y).1.2=0/\(readF x s a m y).1.1<=m/\((readF x s a m y).1.2.length:Int)<=y:=by
 cases z:sN s a m y
 ·have k:=z
  unfold sN at k;simp only[qS,dH]at k;by_cases e:(ij (ga s a x,0) m y).2.2=0
  ·rw[IG z e]
   have:=aLL Y Y Y e;exact⟨this.1,this.2,afN Y Y e⟩
  ·grind [Co]
 ·grind [sK]
end
theorem aMr{s:M}{b m y:Int}(r:s.size<=600)(h0:0<=b)(h1:b<=s.size)(h:(readF 600 s b m y).2.2.1=0):b<=(readF 600 s b m y).2.1/\(readF 600 s b m y).2.1<=s.size:=by
 cases x:sN s b m y
 ·have z:=x
  unfold sN at z;simp only[qS,dH]at z;by_cases e:(ij (ga s b 600,0) m y).2.2=0
  ·have f:=IG x e
   obtain⟨S,k,u⟩:=WU Y e;have w:=UC S k u;have i:((ga s b 600).size:Int)=s.size-b:=by
    rw[aik h0 r];have:=C7 (s:=s) (b:=b) (e:=s.size) h0 h1 Y;rw[toNat_cast]at this;exact this
   have v:(mo (ij (ga s b 600,0) m y).1).1<=(s.size:Int)-b:=by
    have st:=S.st;have lo:=S.lo;have hi:=S.hi;unfold mo;grind
   rw[f];dsimp only;omega
  ·grind [Co]
 ·rw[sK x]at h;cases h
attribute [local irreducible] readF
theorem ahT{k m a:Int}{s:M}{t:TB}(h0:0<=k)(h1:k<=2)(n:0<=m/\m<=3)(b:t.R k)(x:(lV k m s a t.m).1=0):(QN k m s a t).R k:=by
 have j:=me s a;have h:=@aLS (dD k+1) 600 s a (oe k);obtain⟨r,v,w,e4,i⟩:=Od h0 h1;have hp:=(UU k).2;rw[I ⟨h0,h1⟩]at hp;have y:kdE k=0:=I ⟨h0,h1⟩;have e:xc (oq k) (nR k) (oq k) (nR k)=ab:=ag8.2 ⟨rfl,rfl⟩;have z:vr 0 []=ab:=rfl;unfold TB.R QN at*;dsimp only;unfold qM qN tU sU;simp only[I x];have:m=0\/m=1\/m=2\/m=3:=Y;unfold lV at x;rcases this with rfl|rfl|rfl|rfl
 ·unfold tbE;rw[I y];simp[e]
 ·have:¬dD k<u s a:=fun c=>by
   grind
  unfold tbE;rw[I y];simp[z];omega
 ·have h:=h (by simpa [yk]using x)
  unfold yk;unfold tbE;rw[I y];simp[h];omega
 ·grind
theorem ahS{k m a:Int}{s:M}{t:TB}(h0:0<=k)(h1:k<=2)(u:0<=m/\m<=3)(y:0<=a)(z:a<=s.size)(e:s.size<=600)(h:(lV k m s a t.m).1=0):0<=eG k m s a t.m/\eG k m s a t.m<=s.size:=by
 have r:=@aMr s a (oe k) (dD k+1) e y z;have x:=h;have:m=0\/m=1\/m=2\/m=3:=Y;unfold eG;rw[I h];grind [lV,yk]
end
structure JB (k:Int) (t:TB):Prop where
 n0:1<=t.C.length
 n1:t.C.length<=512
 l0:0<=t.L
 l1:t.L<=9
 pw:(2:Int)^t.L.toNat=t.C.length
 sy:∀x:Int,0<=x->x<t.C.length->0<=cS t.C x/\cS t.C x<=dD k
 bt:∀x:Int,0<=x->x<t.C.length->0<=cB t.C x/\cB t.C x<=9
 ba:∀x:Int,0<=x->x<t.C.length->0<=cA t.C x/\cA t.C x+2^(cB t.C x).toNat<=t.C.length
theorem aEj(n:Nat):aS ((2^n:Nat):Int)=n:=by
 have:=Nat.two_pow_pos n;unfold aS;rw[iW Y,iw,toNat_cast,Nat.log2_two_pow]
theorem aA9{g:Int}{p:N}(h:cb g p=0){x:Int}(h0:0<=x)(h1:x<(cC g p).length):0<=cS (cC g p) x/\cS (cC g p) x<p.length:=by
 have y:=C3 h;have k:(cC g p).length=aG g:=by grind [cC,Sh,IN]
 have z:x.toNat<(aH g p).length:=by rw[IN];omega
 obtain⟨s,r,_,e⟩:=avt y (c:=x.toNat) Y;have:cS (cC g p) x=(aH g p).getD x.toNat 0:=by unfold cS cC;rw[ak6 z];rfl
 grind
theorem aKC{k:Int}(h0:0<=k)(h1:k<=2):((nR k).length:Int)<=dD k+1/\oq k<=oe k:=by rcases k3 h0 h1 with rfl|rfl|rfl<;>decide
theorem aai{k:Int}{t:TB}(h0:0<=k)(h1:k<=2)(h:t.R k)(j:t.m≠ -1):JB k t:=by
 obtain⟨q,l,A,e4,B⟩:=Od h0 h1;have d:=XW h0 h1 h;by_cases i:t.m=1
 ·obtain⟨f,o⟩:0<=t.s/\t.s<=dD k:=by rcases d with⟨c,_⟩|⟨_,a,b,_⟩|⟨c,_⟩|⟨c,_⟩<;>first|exact⟨a,b⟩|omega
  have e:t.C= [[t.s,0,0]]:=by unfold TB.C lL;rw[V j,I i]
  have r:t.L=0:=by unfold TB.L;rw[e];rfl
  have z:∀x:Int,0<=x->x<1->x=0:=fun x a b=>by omega
  refine⟨by rw[e];exact gL 1,by rw[e];exact(H:1<=512),by rw[r];decide,by rw[r];decide,by rw[r,e];rfl,fun x a b=>?_,fun x a b=>?_,fun x a b=>?_⟩<;>rw[e]at b|- <;>rw[z x a b]
  ·exact⟨f,o⟩
  ·exact⟨jj 0,(H:(0:Int)<=9)⟩
  ·exact⟨jj 0,jj 1⟩
 ·obtain⟨u,hp,D⟩:cb t.g t.p=0/\(t.p.length:Int)<=dD k+1/\t.g<=oe k:=by
   have hp:=(UU k).2;rw[I ⟨h0,h1⟩]at hp;grind [aKC]
  have e:t.C=cC t.g t.p:=by unfold TB.C lL;rw[V j,V i]
  have y:=aaz u;have v:=y.len;have E:=xe (C3 u).g5 (C3 u).g12;have n:aG t.g=2^t.g.toNat:=rfl;have w:2^t.g.toNat<=2^9:=nF H Y;have r:t.L=t.g:=by grind [TB.L,aEj,y.g0]
  refine⟨by rw[e,v];exact Mw _,by rw[e,v,n];exact w,by rw[r];exact y.g0,by rw[r];omega,by rw[r,e,v,Gt],fun x a b=>?_,fun x a b=>?_,fun x a b=>?_⟩<;>rw[e]at b|-
  ·have:=aA9 u a b;omega
  ·have:=y.b0 x a b;omega
  ·exact y.a0 x a b
structure CkA (T:T3):Prop where
 a:JB 0 T.a
 b:JB 1 T.b
 c:JB 2 T.c
theorem NE{T:T3}(h:T.R)(x:T.N=ah):CkA T:=by
 unfold T3.N at x;simp only[qS,wo]at x;exact⟨aai H H h.1 x.1,aai H H h.2.1 x.2.1,aai H H h.2.2 x.2.2⟩
def xOk(T:T3)(X:X3):Prop:=(0<=X.a/\X.a<T.a.C.length)/\(0<=X.b/\X.b<T.b.C.length)/\(0<=X.c/\X.c<T.c.C.length)
structure ay0 (k:Int) (t:TB) (x:Int):Prop where
 s0:0<=cS t.C x
 s1:cS t.C x<=dD k
 b0:0<=bX k t x
 b1:bX k t x<=31
 a0:0<=aX k t x
 a1:aX k t x<=4294967296
 u0:0<=uX t x
 u1:uX t x<=9
theorem sJ{k:Int}{t:TB}{x:Int}(h0:0<=k)(h1:k<=2)(h:JB k t)(a:0<=x)(b:x<t.C.length):ay0 k t x:=by
 have s:=h.sy x a b;have e:=aaW h0 h1 s.1 s.2;have u:=h.bt x a b;exact⟨s.1,s.2,e.1.1,e.1.2,e.2.2.1,e.2.2.2,u.1,u.2⟩
theorem adI{k:Int}{t:TB}{x v:Int}(h:JB k t)(a:0<=x)(b:x<t.C.length)(y:0<=v)(z:v<2^(uX t x).toNat):0<=cA t.C x+v/\cA t.C x+v<t.C.length:=by
 have:=h.ba x a b;grind [uX]
theorem MD(s:M)(L:Int){n:Int}(h0:0<=n)(h1:n<=32):0<=cw s L n/\cw s L n<2^n.toNat/\cw s L n<=4294967296:=by
 have:=Le s L n.toNat;have hp:=jJ n.toNat;have:(2:Int)^n.toNat<=2^32:=nQ Y;grind [cw]
theorem PF(s:M)(L:Int){n:Int}(h0:0<=n)(h1:n<=32):0<=iD s L n.toNat/\iD s L n.toNat<2^n.toNat/\iD s L n.toNat<=4294967296:=by
 have:=Le s L n.toNat;have hp:=jJ n.toNat;have:(2:Int)^n.toNat<=2^32:=nQ Y;omega
theorem ahj(s:M)(T:T3):∀(r:Nat) (L:Int) (X:X3) (l:q),(uJ s T r L X l).2.length<=l.length+r
 |0,L,X,l=>by grind [uJ]
 |r+1,L,X,l=>by
  unfold uJ;split
  ·simp
  ·split
   ·have:=ahj s T 0 (L-qJ T X) X (l++ [Gr s T L X])
    grind
   ·split
    ·simp
    ·have:=ahj s T r (L-qJ T X-wj T X) (Ms s T (L-qJ T X) X) (l++ [Gr s T L X])
     grind
theorem avz(s:M)(n:Int)(T:T3):(gJ s n T).2.length<=98047:=by grind [gJ,QC,ahj]
theorem QH{cs:bL}{T:T3}(h:IT cs=O T):cs=T.v:=by
 unfold IT at h;split at h
 ·cases h;rfl
 ·cases h
def XA:Spec where
 ι:=T3
 dec l H:=match l with
  | [.ag cs]=>match IT cs with
    |some T=>O (T,[])
    |none=>ae
  |_=>ae
 args:=fun T=>[.ag T.v]
 pre:=fun T=>[E (tbE 0 T.a.m T.a.s T.a.g T.a.p=0),E (tbE 1 T.b.m T.b.s T.b.g T.b.p=0),E (tbE 2 T.c.m T.c.s T.c.g T.c.p=0)]
 out:=fun T=>.leaf (B 0) []
theorem auI:XA.dn:=by
 intro l H n i x h;simp only[XA]at h;split at h
 ·split at h
  ·rename_i e;cases h;rw[QH e];exact⟨rfl,rfl⟩
  ·cases h
 ·cases h
def agQ:Spec where
 ι:=T3
 dec l H:=match l with
  | [.ag cs]=>match IT cs with
    |some T=>O (T,[])
    |none=>ae
  |_=>ae
 args:=fun T=>[.ag T.v]
 out:=fun T=>.leaf (fN T.N) []
theorem aPX:agQ.dn:=by
 intro l H n i x h;simp only[agQ]at h;split at h
 ·split at h
  ·rename_i e;cases h;rw[QH e];exact⟨rfl,rfl⟩
  ·cases h
 ·cases h
def aPT:Spec:=Sp Unit [] fun _=>([],aE (qT [1,2,0]))
def aPU:Spec:=Sp Unit [] fun _=>([],aE (qT [0,2,1]))
def aPV:Spec:=Sp Unit [] fun _=>([],aE (qT [0,1,2]))
def agR:Spec where
 ι:=M×Int×Int×Bool
 own:=ab
 dec l H:=match l with
  | [.v (.int .i64 n),.p l0 0 0,.p l1 0 0]=>match H l0 with
    |some (.cells 231 [.v (.string s),.v (.int .i64 L)])=>match H l1 with
     |some (.cells 4 [.v (.bool b)])=>O ((s,L,n,b),[l0,l1])
     |_=>ae
    |_=>ae
  |_=>ae
 args:=fun(s,L,n,b)=>[B n,U 0,U 1]
 hp:=fun(s,L,n,b)=>[(0,.cells 231 [aD s,B L]),(1,.cells 4 [fN b])]
 pre:=fun(s,L,n,b)=>[E (s.size<=1000000),E (i_ s=ah),E (0<=L),E (L<=aR s),E (0<=n),E (n<=32)]
 out:=fun(s,L,n,b)=>.leaf (B (cw s L n)) [(0,.cells 231 [aD s,B (bw L n)]),(1,.cells 4 [fN (b||decide (L<n))])]
theorem aPY:agR.dn:=by
 intro l H n i x h;simp only[agR]at h
 repeat' split at h
 all_goals first|(cases h;done)|(cases h;exact⟨rfl,rfl⟩)|(cases h;refine⟨rfl,?_⟩;simp only[dK,iF,iN,gN, *];rfl)
def XB:Spec where
 ι:=M×Int×T3
 dec l H:=match l with
  | [.v (.string s),.v (.int .i64 n),.ag cs]=>match IT cs with
    |some T=>O ((s,n,T),[])
    |none=>ae
  |_=>ae
 args:=fun(s,n,T)=>[aD s,B n,.ag T.v]
 pre:=fun(s,n,T)=>[E (s.size<=1000000),E (tbE 0 T.a.m T.a.s T.a.g T.a.p=0),E (tbE 1 T.b.m T.b.s T.b.g T.b.p=0),E (tbE 2 T.c.m T.c.s T.c.g T.c.p=0)]
 out:=fun(s,n,T)=>.leaf (.tu [.bZ (.cH 3 (gJ s n T).2),.v (.int .i64 (gJ s n T).1)]) []
theorem auJ:XB.dn:=by
 intro l H n i x h;simp only[XB]at h;split at h
 ·split at h
  ·rename_i e;cases h;rw[QH e];exact⟨rfl,rfl⟩
  ·cases h
 ·cases h
structure cO where
 i:Nat
 L:Int
 X:X3
 b:Bool
 l:List (N)
 v0:Int
 v1:Int
 v2:Int
structure SqH (s:M) (n:Int) (T:T3) (g:cO):Prop where
 n1:1<=n
 n2:n<=98047
 im:T.N=ah
 nb:i_ s=ah
 i1:(g.i:Int)<=n
 L0:0<=g.L
 L1:g.L<=aR s
 x:xOk T g.X
 len:g.l.length=g.i
structure qo (s:M) (n:Int) (T:T3) (g:cO):Prop extends SqH s n T g where
 bt:g.b=ab->g.i=0/\gJ s n T=(22,[])
 bf:g.b=ah->uJ s T (n.toNat-g.i) g.L g.X g.l=gJ s n T
structure yJ (s:M) (n:Int) (T:T3) (g:cO):Prop extends SqH s n T g where
 i2:(g.i:Int)<n
 bt:g.b=ab->gJ s n T=(22,[])
 bf:g.b=ah->(if n.toNat-g.i-1=0 then uJ s T 0 g.L g.X (g.l++ [[g.v0,g.v2,g.v1]])else if g.L<wj T g.X then(22,[])else uJ s T (n.toNat-g.i-1) (g.L-wj T g.X) (Ms s T g.L g.X) (g.l++ [[g.v0,g.v2,g.v1]]))=gJ s n T
structure CR (s:M) (n:Int) (T:T3) (g:cO):Prop extends SqH s n T g where
 i2:(g.i:Int)<n
 bt:g.b=ab->gJ s n T=(22,[])
 bf:g.b=ah->uJ s T (n.toNat-g.i-1) g.L g.X (g.l++ [[g.v0,g.v2,g.v1]])=gJ s n T
def Sv:SV:=.fn (.func 168) [] [.p 1001 0 0,.p 1002 0 0]
def OW(k:Nat)(s:M)(L:Int):Nat×bm:=(k,.cells 231 [.v (.string s),.v (.int .i64 L)])
def hqB(b:Bool):Nat×bm:=(1002,.cells 4 [.v (.bool b)])
def OV(k:Nat)(T:T3):Nat×bm:=(k,.cells 237 [.bZ (.cH 3 T.a.C),.bZ (.cH 3 T.b.C),.bZ (.cH 3 T.c.C)])
def Fh(k:Nat)(a b c:Int):Nat×bm:=(k,.iA 40 (.ints .i64 [a,b,c]))
def hqL(l:q):Nat×bm:=(5000,.row 185 (.cH 3 l))
def tmS(n:Int)(g:cO):lW:=[(1,.v (.int .i64 n)),(9,.p 1001 0 0),(11,.p 1002 0 0),(12,Sv),(13,.p 1003 0 0),(14,.p 1004 0 0),(17,.o 5000),(74,.v (.int .i64 n)),(75,.v (.int .i64 (g.i:Nat)))]
def hqS(s:M)(T:T3)(g:cO):bN:=[OW 1001 s g.L,hqB g.b,OV 1003 T,Fh 1004 g.X.a g.X.b g.X.c,hqL g.l]
def aws(n:Int)(g:cO):lW:=[(1,.v (.int .i64 n)),(9,.p 1001 0 0),(11,.p 1002 0 0),(12,Sv),(13,.p 1003 0 0),(14,.p 1004 0 0),(17,.o 5000),(18,.v (.int .i64 (g.i:Nat))),(19,.p 1005 0 0),(74,.v (.int .i64 n)),(75,.v (.int .i64 (g.i:Nat)))]
def aI2(s:M)(n:Int)(T:T3):bO:=dX [
 (1013,jG (1<=n/\n<=98047/\T.N=ah/\i_ s=ah) [(1,B n),(5,U 1000),(9,U 1001),(11,U 1002),(12,Sv)] [(1000,.cells 47 T.v),OW 1001 s (aR s),hqB ah]),
 (0,.AU 4 [1800016]),
 (1021,.one (bi cO fun g=>(qo s n T g/\g.i=0/\g.l= [],[(1,B n),(9,U 1001),(11,U 1002),(12,Sv),(13,U 1003),(14,U 1004)],[OW 1001 s g.L,hqB g.b,OV 1003 T,Fh 1004 g.X.a g.X.b g.X.c],0))),
 (1,.one {ι:=cO,p:=qo s n T,tm:=fun g=>tmS n g,hp:=fun g=>hqS s T g,μ:=fun g=>n.toNat-g.i}),
 (2,.rr 4),
 (1034,.nk Nat fun i=>(bi cO fun g=>(yJ s n T g/\g.i=i,aws n g,hqS s T g++ [Fh 1005 g.v0 g.v1 g.v2],0))),
 (3,.AU 4 [3900064]),
 (1041,.nk Nat fun i=>(bi cO fun g=>(CR s n T g/\g.i=i,aws n g,hqS s T g++ [Fh 1005 g.v0 g.v1 g.v2],0)))]
def tmQ(n:Int)(g:cO):lW:=[(1,.v (.int .i64 n)),(9,.p 1003 0 0),(13,.p 1001 0 0),(15,.p 1004 0 0),(19,.o 5000),(20,.v (.int .i64 (g.i:Nat)))]
def hqQ(s:M)(T:T3)(g:cO):bN:=[OW 1001 s g.L,OV 1003 T,Fh 1004 g.X.a g.X.b g.X.c,hqL g.l]
def aI0(s:M)(n:Int)(T:T3):bO:=dX [
 (0,.rr 4),
 (1012,jG (T.N=ah) [(0,aD s),(1,B n),(9,U 1003)] [OV 1003 T]),
 (1,.rr 4),
 (1027,.one (bi cO fun g=>((qo s n T g/\g.b=ah)/\1<=n/\n<=98047/\i_ s=ah/\g.i=0/\g.l= [],[(1,B n),(9,U 1003),(13,U 1001),(15,U 1004)],[OW 1001 s g.L,OV 1003 T,Fh 1004 g.X.a g.X.b g.X.c],0))),
 (1045,.nk Nat fun i=>(bi cO fun g=>((yJ s n T g/\g.b=ah)/\g.i=i,tmQ n g++ [(21,U 1005),(22,U 1006)],hqQ s T g++ [Fh 1005 g.v0 g.v1 g.v2,Fh 1006 1 2 0],0))),
 (2,.one (bi cO fun g=>(qo s n T g/\g.b=ah,tmQ n g,hqQ s T g,n.toNat-g.i))),
 (3,.AU 4 [4200056]),
 (4,.AU 4 [5300064,5400064])]
def ao_:bO:=dX [(0,.AU 4 [400016,400008])]
def FF(h0 h1:Int)(h:Prop):Prop:=Bq ((0:Int) !=0) ((0:Int)=0) (Dq (h0<3) (Rq h0 h1 h) ((0:Int)=0))
def wW(h0:T3):Prop:=tbE 0 h0.a.m h0.a.s h0.a.g h0.a.p=0
def xX(h0 h1:Prop):Prop:=Rq 0 (Zq 3) ((0:Int)<=0/\(0:Int)<=2/\h0/\h1)
def FM(h0:T3):Prop:=tbE (oY (0+1)) h0.c.m h0.c.s h0.c.g h0.c.p=0
def FN(h0:T3):Prop:=tbE (Wq (0+1)) h0.b.m h0.b.s h0.b.g h0.b.p=0
def Iv(h0:Prop):Prop:=Rq jK (Zq 3) (jL h0)
def avx(T:T3)(D:Prop):Prop:=Dq ((0:Int)<3) (Rq 0 (Zq 3) (Bq (T.a.m==fH) (ab=T.N) (Dq (b8<3) (Rq b8 (Zq 3) (Bq (T.b.m==fH) (ab=T.N) (Dq (ej<3) (Rq ej (Zq 3) (Bq (T.c.m==fH) (ab=T.N) (Dq (jK<3) (Iv (Bq (0==fH) (ab=T.N) False)) D))) D))) D))) D
def U0(h0:N)(h1 x:Int)(h:N)(y z:Nat)(e k:Prop):Prop:=Rq (((0:Int)::(2:Int)::h0).getD (Wq h1).toNat (0:Int)) (Zq 3) (x.toNat<h.length/\Rq (h.getD y 0) (Zq z) (e/\k))
def Vb(h0:Int)(h1:N)(x y:Int)(h:N)(z e:Nat)(k r:Prop):Prop:=Rq ([(0:Int),2,1].getD (Wq (h0+1)).toNat (0:Int)) (Zq 3) (Rq (((0:Int)::(2:Int)::h1).getD (Wq x).toNat (0:Int)) (Zq 3) (y.toNat<h.length/\Rq (h.getD z 0) (Zq e) (k/\r)))
def aec(h0 h1:Int)(d:N)(o:Int)(z:N)(p s:Nat)(t A:Prop)(B:M)(e:Int)(k:T3)(r:Nat)(x:Prop)(y:Int)(u:Prop)(v:Int)(w:Bool)(j n f:Prop)(g:q)(m:N):Prop:=Dq (Wq h0<3) (Rq (Wq h0) (Zq 3) (Vb h1 d h0 o z p s t A)) (∃(h:cO),(CR B e k h/\h.i=r)/\x/\y=Zq h.i/\x/\y=Zq h.i/\u/\v=h.L/\w=h.b/\j/\n/\f/\z= [h.X.a,h.X.b,h.X.c]/\g=h.l/\m= [h.v0,h.v1,h.v2])
def WL(h0:Int)(h1:N)(h:Int)(x:q)(y z:Prop):Prop:=Rq ((h0::h1).getD h.toNat (0:Int)) (Zq x.length) (0<=h/\y/\z)
def K(h0:cO):N:=[h0.X.a,h0.X.b,h0.X.c]
def Gg(h0 h1:cO):Prop:=[h0.X.a,h0.X.b,h0.X.c]= [h1.X.a,h1.X.b,h1.X.c]
def afy(h0:Int)(h1:N)(x y:Nat)(z:Int)(e:N)(h:Int)(k:q)(r u:Prop):Prop:=Rq ([(1:Int),2,0].getD (Wq (h0+1)).toNat (0:Int)) (Zq 3) ((h1.getD x 0).toNat<(y.add 0).succ/\Rq ((z::e).getD h.toNat (0:Int)) (Zq k.length) (0<=h/\r/\u))
def qg(h0:N)(h1:Nat)(h x:Prop):Prop:=Rq (h0.getD h1 0) (Zq 3) (h/\x)
def Ln(h0:N)(h1 z:Int)(e:N)(k:cO)(r:Int)(u v:N)(w:Nat)(i:T3)(h:Int)(x y:Prop):Prop:=Rq (((1:Int)::h0).getD h1.toNat (0:Int)) (Zq 3) (afy (Wq z) ((1:Int)::h0) h1.toNat e.length k.X.a (r::u) (v.getD w 0) i.a.C (h<=2) (x/\y))
def Lo(h0:N)(h1:Nat)(h x:Prop):Prop:=Rq (h0.getD h1 0) (Zq 3) (qg h0 h1 h x)
def qE(h0:q)(h1:Nat)(h:M)(x y:Int):Int:=Wq ((h0.getD h1 []).getD 2 (0:Int)+cw h (bw x y) (d h0 h1))
def B6(h0:T3)(h1:Prop):Prop:=tbE 0 h0.a.m h0.a.s h0.a.g h0.a.p=0/\tbE 1 h0.b.m h0.b.s h0.b.g h0.b.p=0/\tbE 2 h0.c.m h0.c.s h0.c.g h0.c.p=0/\h1
def Vc(h0 h1:Int)(n:Prop)(a:M)(c:Int)(d:T3)(f:Nat)(x:Prop)(y:Int)(g:Prop)(z:Int)(e:Bool)(k r u:Prop)(v:cO)(w:q)(j:N):Prop:=Dq (h0<3) (Rq h0 h1 n) (∃(h:cO),(yJ a c d h/\h.i=f)/\x/\y=Zq h.i/\x/\y=Zq h.i/\g/\z=h.L/\e=h.b/\k/\r/\u/\Gg v h/\w=h.l/\j= [h.v0,h.v1,h.v2])
def rj(h0:Int)(h1 h:Prop):Prop:=Rq (Wq h0) (Zq 3) (h1/\h)
def PN(h0:Int×List (N))(h1:M)(h:Int)(x y:Prop):Prop:=Bq ((0:Int) !=0) (h0.2.length=0/\24=h0.1) (bD h1/\i_ h1=ah/\0<=h/\x/\y)
def Vh(h0:cO):Prop:=(h0.l.length+Ik [[h0.v0,h0.v1,h0.v2].getD (X 0) (0:Int),[h0.v0,h0.v1,h0.v2].getD (X 2) (0:Int),[h0.v0,h0.v1,h0.v2].getD (X 1) (0:Int)])*24<=140737488355328
def nr(h0:cO):N:=[h0.v0,h0.v1,h0.v2]
def DB(h0:q):Prop:=Zq h0.length<=9223372036854775807
def PS(h0 h1:cO):Prop:=h0.l++zm [(nr h0).getD (X 0) (0:Int),(nr h0).getD (X 2) (0:Int),(nr h0).getD (X 1) (0:Int)]=h1.l
def Lu(h0:T3)(h1:cO)(h:N)(x:Int)(y:N)(z:Int):Prop:=bM h0.a.C (G (K h1) (G ((1:Int)::h) (b5 x)))<=dD (((1:Int)::(2:Int)::y).getD (b5 (z+1)) (0:Int))
def uE(h0:T3)(h1:Prop):Prop:=h0.a.C=h0.a.C/\h0.b.C=h0.b.C/\h0.c.C=h0.c.C/\h1
def Vw(h0:N)(h1:Int)(h:cO)(x:Int)(y:N)(z:T3)(e:Int)(k r:Prop):Prop:=Lo [1,2,0] (b5 (0+1)) (G ((1:Int)::h0) (b5 h1)<gY h.X.b [x]) (WL h.X.a [h.X.b,x] (mq ((2:Int)::y) (0+1)) z.c.C (mq h0 h1<=2) (0<=e/\k/\r))
def FI(h0:N)(h1:Int)(h:N)(x:Nat)(y:Int):Prop:=G ((0:Int)::h0) (b5 h1)<(h.set x y).length
def VB(h0:N)(h1:cO)(h:Int)(x:T3)(y:N)(z:Nat)(e:Int)(k r:Prop):Prop:=Lo [1,2,0] (X 0) (G ((1:Int)::h0) (X 0)<gY h1.X.b [h]) (WL h1.X.a [h1.X.b,h] (((1:Int)::h0).getD (X 0) (0:Int)) x.b.C (y.getD z 0<=2) (0<=e/\k/\r))
def PW(h0:N)(h1:Int)(h:N)(x:Nat)(y:Int):Prop:=Rq (((0:Int)::h0).getD (b5 h1) (0:Int)) (Zq 3) (FI h0 h1 h x y/\False)
def VM(h0:cO)(h1:Int×List (N)):Prop:=Dq (h0.L>0) (gZ h1.2/\22=h1.1) (h0.l=h1.2/\0=h1.1)
def zo(h0 h1:Prop):Prop:=Rq 0 (Zq 3) (h0/\h1)
def oZ(h0:T3)(h1:cO)(h:N)(x:Int):Int:=bM h0.a.C (G (K h1) (G ((1:Int)::(2:Int)::h) (b5 (x+1))))
def e_(h0:T3)(h1:cO):Int:=dZ ([(1:Int),2,0].getD (X 0) (0:Int)) (bM h0.b.C (G (K h1) (G [1,2,0] (X 0))))
def wZ(h0:T3)(h1:cO):Int:=lQ ([(1:Int),2,0].getD (X 0) (0:Int)) (bM h0.b.C (G (K h1) (G [1,2,0] (X 0))))
def nU(h0:cO)(h1:N)(h:Int):Nat:=G (K h0) (G ((1:Int)::h1) (b5 h))
def VS(h0:T3)(h1:cO):Prop:=bM h0.b.C (G (K h1) (G [1,2,0] (X 0)))<=dD ([(1:Int),2,0].getD (X 0) (0:Int))
def LI(h0:T3)(h1:Prop):Prop:=lL h0.a.m h0.a.s h0.a.g h0.a.p=h0.a.C/\lL h0.b.m h0.b.s h0.b.g h0.b.p=h0.b.C/\h1
def vW(h0:N)(h1:Int):Nat:=G ((0:Int)::h0) (b5 h1)
def LN(h0 h1:Bool)(h x:Int):Bool:=h0||h1||decide (h<x)
def nV(h0:T3)(h1:cO):Int:=dZ (mq [2,0] (0+1)) (bM h0.c.C (nU h1 [2,0] (0+1)))
def Wc(h0:T3)(h1:cO):Prop:=bM h0.c.C (nU h1 [2,0] (0+1))<=dD (mq [2,0] (0+1))
def Wk(h0:N)(h1 h:Int):Prop:=G [1,2,0] (b5 (0+1))<(fP.set (G ((1:Int)::h0) bY) (Wq (h1+h))).length
def Gb(h0:M)(h1:Int)(h x:Prop):Prop:=vZ (i_ h0) (0<=h1) (h/\x)
def LV(h0:cO):Prop:=G [0,2,1] bY<gY h0.X.b [h0.X.c]
def Qb(h0:M)(h1:Int)(x:T3)(h:cO)(y:Prop):Prop:=(qo h0 h1 x h/\h.i=0/\h.l= [])/\h1=h1/\h0=h0/\y
def DO(h0 h1:cO)(h:Prop):Prop:=Gg h0 h1/\h0.l=h1.l/\h
def Qi(h0:Int)(h1 h:cO)(x:M)(y:Prop):Prop:=h0=h0/\fC h1.i h.i/\h0=h0/\fC h1.i h.i/\x=x/\y
def avB(s:M)(n:Int)(T:T3)(D:N)(P:Bool)(i:Int)(p:N)(j:Bool)(h:Int)(aQ:Prop)(bK cM Z:Int)(f aP:q)(W x e F:Nat)(o jP:Int)(w ky:N)(U V Y Q:Prop)(z t:N)(A H:Nat)(y B k r:Int):Prop:=B6 T (Bq ((0:Int) !=0) (Q/\0=(gJ s n T).1) (Bq T.N (Q/\7=(gJ s n T).1) (Dq (n<1) (Q/\2=(gJ s n T).1) (Dq (n>98047) (Q/\2=(gJ s n T).1) (bD s/\bS (gD s) Q (22=(gJ s n T).1) (aL (aQ/\n=n/\aw T.a.m (T.a.s=T.a.s) (aw T.a.g (T.a.p=T.a.p) (aw T.b.m (T.b.s=T.b.s) (aw T.b.g (T.b.p=T.b.p) (aw T.c.m (T.c.s=T.c.s) (aw T.c.g (T.c.p=T.c.p) (kG s=s/\ia s=r/\o5)))))))) (eO (aQ->Dq ((0:Int)<3) (xX (wW T) (Rq 0 k (zo (DB f) (bD s/\Gb s r (r<=r) (aF bK (bK<=32) (zo (bY<3) (Dq (b8<3) (rj y vX (b8<=2/\FN T/\Rq b8 k (rj y (DB (lL T.b.m T.b.s T.b.g T.b.p)) (bD s/\Gb s h (h<=r) (aF cM (cM<=32) (rj y (H<p.length) (Dq (ej<3) (rj B ya (ej<=2/\FM T/\Rq ej k (rj B (DB aP) (bD s/\Gb s i (i<=r) (aF Z (Z<=32) (rj B (A<D.length) (Dq (jK<3) (Iv (jL (False/\Rq jK k (False/\Iv (jL (Rq jK k nu)))))) (∃(x2:cO),Qb s n T x2 (bw i Z=x2.L/\LN j P i Z=x2.b/\LI T (aP=T.c.C/\D.set A (cw s i Z)=K x2)))))))))) (∃(x3:cO),Qb s n T x3 (i=x3.L/\(j||P)=x3.b/\LI T (gZ T.c.C/\D=K x3)))))))))) (∃(x4:cO),Qb s n T x4 (h=x4.L/\j=x4.b/\f=T.a.C/\gZ T.b.C/\gZ T.c.C/\p=K x4))))))))) (∃(x5:cO),Qb s n T x5 (r=x5.L/\xa x5.b (gZ T.a.C) (gZ T.b.C/\gZ T.c.C/\fP=K x5)))/\(∀(R:cO),qo s n T R/\R.i=0/\R.l= []->(∃(S:cO),qo s n T S/\n=n/\n=n/\aZ S.i/\s=s/\R.L=S.L/\R.b=S.b/\uE T (Gg R S/\gZ S.l))/\(∀(x8:cO),qo s n T x8->Dq (Zq x8.i<n) (∃(g9:Nat),Dq ((0:Int)<3) (Rq 0 k (VB z x8 x8.X.c T w bY (bM T.b.C (G (K x8) F)) (VS T x8) (PN (gJ s n T) s x8.L (x8.L<=r) (aF (e_ T x8) (e_ T x8<=32) (qg w bY (F<3) (Vc b8 k (Vw z y x8 x8.X.c [0] T (bM T.c.C (nU x8 z y)) (Wc T x8) (PN (gJ s n T) s (bw x8.L (e_ T x8)) (bw x8.L (e_ T x8)<=r) (aF (nV T x8) (nV T x8<=32) (qg w H (Wk z (wZ T x8) (cw s x8.L (e_ T x8))) (Vc ej k (Ln z ej y [x8.X.b,x8.X.c] x8 x8.X.b [x8.X.c] w A T o (0<=oZ T x8 [0] b8) (Lu T x8 z B [0] b8/\PN (gJ s n T) s (bw (bw x8.L (e_ T x8)) (nV T x8)) (bw (bw x8.L (e_ T x8)) (nV T x8)<=r) (aF (dZ o (oZ T x8 [0] b8)) (dZ o (oZ T x8 [0] b8)<=32) (qg w A (G w A<((fP.set F (Wq (wZ T x8+cw s x8.L (e_ T x8)))).set (G w H) (Wq (lQ (mq z y) (bM T.c.C (nU x8 z y))+cw s (bw x8.L (e_ T x8)) (nV T x8)))).length) (Vc jK k (Ln z jK B [x8.X.b,x8.X.c] x8 x8.X.b [x8.X.c] w (b5 (ej+1)) T jP (0<=oZ T x8 [0] ej) (Lu T x8 z (ej+1) [0] ej/\PN (gJ s n T) s (bw (bw (bw x8.L (e_ T x8)) (nV T x8)) (dZ o (oZ T x8 [0] b8))) (bw (bw (bw x8.L (e_ T x8)) (nV T x8)) (dZ o (oZ T x8 [0] b8))<=r) (aF (dZ jP (oZ T x8 [0] ej)) (dZ jP (oZ T x8 [0] ej)<=32) (Rq jP k (G w (b5 (ej+1))<(((fP.set F (Wq (wZ T x8+cw s x8.L (e_ T x8)))).set (G w H) (Wq (lQ (mq z y) (bM T.c.C (nU x8 z y))+cw s (bw x8.L (e_ T x8)) (nV T x8)))).set (G w A) (Wq (lQ o (oZ T x8 [0] b8)+cw s (bw (bw x8.L (e_ T x8)) (nV T x8)) (dZ o (oZ T x8 [0] b8))))).length/\False))))) s n T g9 (n=n) (Zq x8.i) (s=s) (bw (bw (bw x8.L (e_ T x8)) (nV T x8)) (dZ o (oZ T x8 [0] b8))) (LN (x8.b||decide (x8.L<e_ T x8)) (decide (bw x8.L (e_ T x8)<nV T x8)) (bw (bw x8.L (e_ T x8)) (nV T x8)) (dZ o (oZ T x8 [0] b8))) U V Y x8 x8.l (((fP.set F (Wq (wZ T x8+cw s x8.L (e_ T x8)))).set (G w H) (Wq (lQ (mq z y) (bM T.c.C (nU x8 z y))+cw s (bw x8.L (e_ T x8)) (nV T x8)))).set (G w A) (Wq (lQ o (oZ T x8 [0] b8)+cw s (bw (bw x8.L (e_ T x8)) (nV T x8)) (dZ o (oZ T x8 [0] b8)))))))))) s n T g9 (n=n) (Zq x8.i) (s=s) (bw (bw x8.L (e_ T x8)) (nV T x8)) (LN x8.b (decide (x8.L<e_ T x8)) (bw x8.L (e_ T x8)) (nV T x8)) U V Y x8 x8.l ((fP.set F (Wq (wZ T x8+cw s x8.L (e_ T x8)))).set (G w H) (Wq (lQ (mq z y) (bM T.c.C (nU x8 z y))+cw s (bw x8.L (e_ T x8)) (nV T x8))))))))) s n T g9 (n=n) (Zq x8.i) (s=s) (bw x8.L (e_ T x8)) (x8.b||decide (x8.L<e_ T x8)) U V Y x8 x8.l (fP.set F (Wq (wZ T x8+cw s x8.L (e_ T x8)))))))))) (∃(I:cO),(yJ s n T I/\I.i=g9)/\Qi n x8 I s (x8.L=I.L/\x8.b=I.b/\uE T (DO x8 I (fP=nr I))))/\(∀(L:cO),yJ s n T L/\L.i=g9->(∃(g15:Nat),Dq (Zq L.i<bF n) (Dq ((0:Int)<3) (Rq 0 k (Lo ky bY (LV L) (Rq ((K L).getD W (0:Int)) (dk T.a.C) (bD s/\Gb s L.L (L.L<=r) (aF (d T.a.C (G (K L) W)) (d T.a.C (G (K L) W)<=32) (qg ky bY (LV L) (Dq (b8<3) (Rq b8 k (Rq (zp t y) k (U0 [1] y (zp t y) ((K L).set W (Wq (aV T.a.C (G (K L) W)+cw s L.L (d T.a.C (G (K L) W))))) x T.c.C.length (bD s) (Gb s (bw L.L (d T.a.C (G (K L) W))) (bw L.L (d T.a.C (G (K L) W))<=r) (aF (d T.c.C (G ((K L).set W (Wq (aV T.a.C (G (K L) W)+cw s L.L (d T.a.C (G (K L) W))))) x)) (d T.c.C (G ((K L).set W (Wq (aV T.a.C (G (K L) W)+cw s L.L (d T.a.C (G (K L) W))))) x)<=32) (qg ky H (FI t y (K L) W (Wq (aV T.a.C (G (K L) W)+cw s L.L (d T.a.C (G (K L) W))))) (aec B b8 [1] (zp t B) (((K L).set W (Wq (aV T.a.C (G (K L) W)+cw s L.L (d T.a.C (G (K L) W))))).set x (qE T.c.C (G ((K L).set W (Wq (aV T.a.C (G (K L) W)+cw s L.L (d T.a.C (G (K L) W))))) x) s L.L (d T.a.C (G (K L) W)))) e T.b.C.length (bD s) (Gb s (bw (bw L.L (d T.a.C (G (K L) W))) (d T.c.C (G ((K L).set W (Wq (aV T.a.C (G (K L) W)+cw s L.L (d T.a.C (G (K L) W))))) x))) (bw (bw L.L (d T.a.C (G (K L) W))) (d T.c.C (G ((K L).set W (Wq (aV T.a.C (G (K L) W)+cw s L.L (d T.a.C (G (K L) W))))) x))<=r) (aF (d T.b.C (G (((K L).set W (Wq (aV T.a.C (G (K L) W)+cw s L.L (d T.a.C (G (K L) W))))).set x (qE T.c.C (G ((K L).set W (Wq (aV T.a.C (G (K L) W)+cw s L.L (d T.a.C (G (K L) W))))) x) s L.L (d T.a.C (G (K L) W)))) e)) (d T.b.C (G (((K L).set W (Wq (aV T.a.C (G (K L) W)+cw s L.L (d T.a.C (G (K L) W))))).set x (qE T.c.C (G ((K L).set W (Wq (aV T.a.C (G (K L) W)+cw s L.L (d T.a.C (G (K L) W))))) x) s L.L (d T.a.C (G (K L) W)))) e)<=32) (qg ky A (FI t B ((K L).set W (Wq (aV T.a.C (G (K L) W)+cw s L.L (d T.a.C (G (K L) W))))) x (qE T.c.C (G ((K L).set W (Wq (aV T.a.C (G (K L) W)+cw s L.L (d T.a.C (G (K L) W))))) x) s L.L (d T.a.C (G (K L) W)))) (aec (ej+1) ej [1] (zp t (ej+1)) ((((K L).set W (Wq (aV T.a.C (G (K L) W)+cw s L.L (d T.a.C (G (K L) W))))).set x (qE T.c.C (G ((K L).set W (Wq (aV T.a.C (G (K L) W)+cw s L.L (d T.a.C (G (K L) W))))) x) s L.L (d T.a.C (G (K L) W)))).set e (qE T.b.C (G (((K L).set W (Wq (aV T.a.C (G (K L) W)+cw s L.L (d T.a.C (G (K L) W))))).set x (qE T.c.C (G ((K L).set W (Wq (aV T.a.C (G (K L) W)+cw s L.L (d T.a.C (G (K L) W))))) x) s L.L (d T.a.C (G (K L) W)))) e) s (bw L.L (d T.a.C (G (K L) W))) (d T.c.C (G ((K L).set W (Wq (aV T.a.C (G (K L) W)+cw s L.L (d T.a.C (G (K L) W))))) x)))) (vW t (ej+1)) T.a.C.length (bD s) (Gb s (bw (bw (bw L.L (d T.a.C (G (K L) W))) (d T.c.C (G ((K L).set W (Wq (aV T.a.C (G (K L) W)+cw s L.L (d T.a.C (G (K L) W))))) x))) (d T.b.C (G (((K L).set W (Wq (aV T.a.C (G (K L) W)+cw s L.L (d T.a.C (G (K L) W))))).set x (qE T.c.C (G ((K L).set W (Wq (aV T.a.C (G (K L) W)+cw s L.L (d T.a.C (G (K L) W))))) x) s L.L (d T.a.C (G (K L) W)))) e))) (bw (bw (bw L.L (d T.a.C (G (K L) W))) (d T.c.C (G ((K L).set W (Wq (aV T.a.C (G (K L) W)+cw s L.L (d T.a.C (G (K L) W))))) x))) (d T.b.C (G (((K L).set W (Wq (aV T.a.C (G (K L) W)+cw s L.L (d T.a.C (G (K L) W))))).set x (qE T.c.C (G ((K L).set W (Wq (aV T.a.C (G (K L) W)+cw s L.L (d T.a.C (G (K L) W))))) x) s L.L (d T.a.C (G (K L) W)))) e))<=r) (aF (d T.a.C (G ((((K L).set W (Wq (aV T.a.C (G (K L) W)+cw s L.L (d T.a.C (G (K L) W))))).set x (qE T.c.C (G ((K L).set W (Wq (aV T.a.C (G (K L) W)+cw s L.L (d T.a.C (G (K L) W))))) x) s L.L (d T.a.C (G (K L) W)))).set e (qE T.b.C (G (((K L).set W (Wq (aV T.a.C (G (K L) W)+cw s L.L (d T.a.C (G (K L) W))))).set x (qE T.c.C (G ((K L).set W (Wq (aV T.a.C (G (K L) W)+cw s L.L (d T.a.C (G (K L) W))))) x) s L.L (d T.a.C (G (K L) W)))) e) s (bw L.L (d T.a.C (G (K L) W))) (d T.c.C (G ((K L).set W (Wq (aV T.a.C (G (K L) W)+cw s L.L (d T.a.C (G (K L) W))))) x)))) (vW t (ej+1)))) (d T.a.C (G ((((K L).set W (Wq (aV T.a.C (G (K L) W)+cw s L.L (d T.a.C (G (K L) W))))).set x (qE T.c.C (G ((K L).set W (Wq (aV T.a.C (G (K L) W)+cw s L.L (d T.a.C (G (K L) W))))) x) s L.L (d T.a.C (G (K L) W)))).set e (qE T.b.C (G (((K L).set W (Wq (aV T.a.C (G (K L) W)+cw s L.L (d T.a.C (G (K L) W))))).set x (qE T.c.C (G ((K L).set W (Wq (aV T.a.C (G (K L) W)+cw s L.L (d T.a.C (G (K L) W))))) x) s L.L (d T.a.C (G (K L) W)))) e) s (bw L.L (d T.a.C (G (K L) W))) (d T.c.C (G ((K L).set W (Wq (aV T.a.C (G (K L) W)+cw s L.L (d T.a.C (G (K L) W))))) x)))) (vW t (ej+1)))<=32) (PW t (ej+1) (((K L).set W (Wq (aV T.a.C (G (K L) W)+cw s L.L (d T.a.C (G (K L) W))))).set x (qE T.c.C (G ((K L).set W (Wq (aV T.a.C (G (K L) W)+cw s L.L (d T.a.C (G (K L) W))))) x) s L.L (d T.a.C (G (K L) W)))) e (qE T.b.C (G (((K L).set W (Wq (aV T.a.C (G (K L) W)+cw s L.L (d T.a.C (G (K L) W))))).set x (qE T.c.C (G ((K L).set W (Wq (aV T.a.C (G (K L) W)+cw s L.L (d T.a.C (G (K L) W))))) x) s L.L (d T.a.C (G (K L) W)))) e) s (bw L.L (d T.a.C (G (K L) W))) (d T.c.C (G ((K L).set W (Wq (aV T.a.C (G (K L) W)+cw s L.L (d T.a.C (G (K L) W))))) x)))))) s n T g15 (n=n) (Zq L.i) (s=s) (bw (bw (bw L.L (d T.a.C (G (K L) W))) (d T.c.C (G ((K L).set W (Wq (aV T.a.C (G (K L) W)+cw s L.L (d T.a.C (G (K L) W))))) x))) (d T.b.C (G (((K L).set W (Wq (aV T.a.C (G (K L) W)+cw s L.L (d T.a.C (G (K L) W))))).set x (qE T.c.C (G ((K L).set W (Wq (aV T.a.C (G (K L) W)+cw s L.L (d T.a.C (G (K L) W))))) x) s L.L (d T.a.C (G (K L) W)))) e))) (LN (L.b||decide (L.L<d T.a.C (G (K L) W))) (decide (bw L.L (d T.a.C (G (K L) W))<d T.c.C (G ((K L).set W (Wq (aV T.a.C (G (K L) W)+cw s L.L (d T.a.C (G (K L) W))))) x))) (bw (bw L.L (d T.a.C (G (K L) W))) (d T.c.C (G ((K L).set W (Wq (aV T.a.C (G (K L) W)+cw s L.L (d T.a.C (G (K L) W))))) x))) (d T.b.C (G (((K L).set W (Wq (aV T.a.C (G (K L) W)+cw s L.L (d T.a.C (G (K L) W))))).set x (qE T.c.C (G ((K L).set W (Wq (aV T.a.C (G (K L) W)+cw s L.L (d T.a.C (G (K L) W))))) x) s L.L (d T.a.C (G (K L) W)))) e))) U V Y L.l (nr L))))) s n T g15 (n=n) (Zq L.i) (s=s) (bw (bw L.L (d T.a.C (G (K L) W))) (d T.c.C (G ((K L).set W (Wq (aV T.a.C (G (K L) W)+cw s L.L (d T.a.C (G (K L) W))))) x))) (LN L.b (decide (L.L<d T.a.C (G (K L) W))) (bw L.L (d T.a.C (G (K L) W))) (d T.c.C (G ((K L).set W (Wq (aV T.a.C (G (K L) W)+cw s L.L (d T.a.C (G (K L) W))))) x))) U V Y L.l (nr L)))))))) (∃(E:cO),(CR s n T E/\E.i=g15)/\Qi n L E s (bw L.L (d T.a.C (G (K L) W))=E.L/\(L.b||decide (L.L<d T.a.C (G (K L) W)))=E.b/\uE T ((K L).set W (Wq (aV T.a.C (G (K L) W)+cw s L.L (d T.a.C (G (K L) W))))=K E/\L.l=E.l/\nr L=nr E)))))))))) (∃(u:cO),(CR s n T u/\u.i=g15)/\Qi n L u s (L.L=u.L/\L.b=u.b/\uE T (DO L u (nr L=nr u))))) (∃(u:cO),(CR s n T u/\u.i=g15)/\Qi n L u s (L.L=u.L/\L.b=u.b/\uE T (DO L u (nr L=nr u))))/\(∀(v:cO),CR s n T v/\v.i=g15->Bq v.b (Q/\22=(gJ s n T).1) (zo (bY<gY v.v1 [v.v2]) (Rq 2 k (X 2<gY v.v1 [v.v2]/\Rq 1 k (X 1<gY v.v1 [v.v2]/\Vh v/\(∃(J:cO),qo s n T J/\cl n.toNat J.i x8.i/\n=n/\n=n/\ay (Zq v.i)=Zq J.i/\s=s/\v.L=J.L/\v.b=J.b/\uE T (Gg v J/\PS v J)))))))))) (VM x8 (gJ s n T)))))))))))
def avA(s:M)(n:Int)(T:T3):Prop:=avB s n T ((fP.set bY (cw s (aR s) (aS (dk (lL T.a.m T.a.s T.a.g T.a.p))))).set (b5 (0+1)) (cw s (bw (aR s) (aS (dk (lL T.a.m T.a.s T.a.g T.a.p)))) (aS (dk (lL T.b.m T.b.s T.b.g T.b.p))))) (decide (bw (aR s) (aS (dk (lL T.a.m T.a.s T.a.g T.a.p)))<aS (dk (lL T.b.m T.b.s T.b.g T.b.p)))) (bw (bw (aR s) (aS (dk (lL T.a.m T.a.s T.a.g T.a.p)))) (aS (dk (lL T.b.m T.b.s T.b.g T.b.p)))) (fP.set bY (cw s (aR s) (aS (dk (lL T.a.m T.a.s T.a.g T.a.p))))) (ah||decide (aR s<aS (dk (lL T.a.m T.a.s T.a.g T.a.p)))) (bw (aR s) (aS (dk (lL T.a.m T.a.s T.a.g T.a.p)))) (1<=n/\n<=98047/\T.N=ah/\i_ s=ah) (aS (dk (lL T.a.m T.a.s T.a.g T.a.p))) (aS (dk (lL T.b.m T.b.s T.b.g T.b.p))) (aS (dk (lL T.c.m T.c.s T.c.g T.c.p))) (lL T.a.m T.a.s T.a.g T.a.p) (lL T.c.m T.c.s T.c.g T.c.p) (G [0,2,1] bY) (vW [2,1] (0+1)) (vW [2,1] (b8+1)) (G [1,2,0] bY) (mq [2,0] (b8+1)) (mq [2,0] (ej+1)) [1,2,0] [0,2,1] (T.a.C=T.a.C) (T.b.C=T.b.C) (T.c.C=T.c.C) (gZ (gJ s n T).2) [2,0] [2,1] (b5 (b8+1)) (b5 (0+1)) (0+1) (b8+1) (Zq 3) (aR s)
def qZ7(h0:M)(h1 h:Int)(x:N)(y:q)(z:Nat):Bool:=gx (dw (dw h0 h1 h) (dQ h0 h1 h) (x.getD 1 0)) (dQ (dw h0 h1 h) (dQ h0 h1 h) (x.getD 1 0)) ((y.getD z []).getD 1 (0:Int)) !=0
def qZ9(h0:M)(h1 h:Int)(x:N):Bool:=gx (dw h0 h1 h) (dQ h0 h1 h) (x.getD 1 0) !=0
def ad_(h0:Int)(h1:Nat)(d:N)(o p:Int)(x:N)(s t:Nat)(A B:Prop)(y:M)(z:Int)(e:T3)(k r:Nat)(u:Prop)(v:Int)(w:Prop)(j:Int)(n f g:Prop)(m:q):Prop:=Dq (Wq (h0+1)<3) (Rq (Wq (h0+1)) (Zq 3) (h1<3/\Vb h0 d o p x s t A B)) (∃(h:cO),(qo y z e h/\h.b=ah)/\k.sub h.i<r/\u/\v=Zq h.i/\w/\j=h.L/\n/\f/\g/\x= [h.X.a,h.X.b,h.X.c]/\m=h.l)
def aed(h0:M)(h1 h x y:Int)(z:N)(e:Nat)(k:N):Bool:=gx (dw (dw h0 h1 h) (dQ h0 h1 h) (dZ x y)) (dQ (dw h0 h1 h) (dQ h0 h1 h) (dZ x y)) (dZ (z.getD e 0) (k.getD 0 0)) !=0
def ae1(h0:M)(h1 h:Int)(x:N):Prop:=(dw (dw h0 h1 h) (dQ h0 h1 h) (x.getD 1 0)).size<=1000000
def arn(h0:M)(h1 h:Int)(x:N):Int:=Wq (cm (dw h0 h1 h) (dQ h0 h1 h) (x.getD 1 0))
def ae5(h0:M)(h1 h:Int)(x:N):Int:=dQ (dw h0 h1 h) (dQ h0 h1 h) (x.getD 1 0)
def ae8(h0:M)(h1 h:Int)(x:N):M:=dw (dw h0 h1 h) (dQ h0 h1 h) (x.getD 1 0)
def Iw(h0:N)(h1:Int)(z:q)(e:Nat)(h:M)(x y k r:Int):Int:=Wq (lQ (((1:Int)::h0).getD h1.toNat (0:Int)) ((z.getD e []).getD 0 (0:Int))+Wq (cm (dw h x y) (dQ h x y) (dZ k r)))
def afk(h0:M)(h1 h x y:Int):Prop:=(dw (dw h0 h1 h) (dQ h0 h1 h) (dZ x y)).size<=1000000
def afo(h0:M)(h1 h x y:Int):M:=dw (dw h0 h1 h) (dQ h0 h1 h) (dZ x y)
def afq(h0:M)(h1 h x y:Int)(z:cO):Prop:=dQ (dw h0 h1 h) (dQ h0 h1 h) (dZ x y)=z.L
def tK(h0:N)(h1:M)(h x:Int):Int:=Wq (h0.getD 2 0+arn h1 h x h0)
def afB(h0:M)(h1 h x:Int)(y:Nat):Bool:=gx (dw (dw h0 h1 h) (dQ h0 h1 h) (aS x)) (dQ (dw h0 h1 h) (dQ h0 h1 h) (aS x)) (aS (Zq y)) !=0
def Vg(h0:M)(h1:Int)(e:T3)(k:Bool)(r:M)(u:Int)(x y z:q)(v:N):Prop:=∃(h:cO),((qo h0 h1 e h/\h.b=ah)/\1<=h1/\h1<=98047/\k=ah/\h.i=0/\h.l= [])/\h1=h1/\r=h0/\u=h.L/\x=x/\y=y/\z=z/\v=K h
def Vq(h0:M)(h1 h x:Int):Int:=Wq (cm (dw h0 h1 h) (dQ h0 h1 h) (aS x))
def aes(h0:M)(h1 h x:Int):Prop:=bD (dw (dw h0 h1 h) (dQ h0 h1 h) (aS x))
def aew(h0:M)(h1 h x:Int):Int:=dQ (dw h0 h1 h) (dQ h0 h1 h) (aS x)
def aex(h0:M)(h1 h x:Int):M:=dw (dw h0 h1 h) (dQ h0 h1 h) (aS x)
def arj(h0:cO)(h1:q)(h:Int)(x:q):Prop:=Dq (h0.L>0) (gZ h1/\22=h) (x=h1/\0=h)
def FX(h0:cO):Prop:=h0.b=ah
def Qc(h0:M)(h1:Int)(x:T3)(h:cO)(y:Nat)(z:cO)(e:Prop):Prop:=((yJ h0 h1 x h/\FX h)/\h.i=y)/\h1=h1/\fC z.i h.i/\e
def aft(h0:M)(h1:Int)(x:T3)(h:cO):Prop:=(qo h0 h1 x h/\FX h)/\1<=h1/\h1<=98047/\vZ (i_ h0) (h.i=0) (h.l= [])
def atx(s:M)(n:Int)(T:T3)(D:N)(P:Int)(i:N)(p j:Prop)(h:Int)(J:M)(Y Q F:Int)(f z W bj H:Nat)(gi:Prop)(u t V:N)(ky I my:Prop)(k:N)(mD:Int)(A:N)(iv kz:Int)(jt:N)(w B E:Nat)(jA r v o:Int)(x y:q):Prop:=B6 T (sF I (0=kz) (Dq ((0:Int)<3) (xX (wW T) (Bq (xf T.a.m !=0) j (Rq 0 (Zq 3) (Dq (b8<3) (rj r vX (b8<=2/\FN T/\Bq (xf T.b.m !=0) j (Rq b8 (Zq 3) (Dq (ej<3) (rj v ya (ej<=2/\FM T/\Bq (xf T.c.m !=0) j (Rq ej (Zq 3) (Dq (jK<3) (Iv (jL nu)) (aL (vZ T.N (s=s) (n=n/\LI T (lL T.c.m T.c.s T.c.g T.c.p=y)))))))) (aL (vZ T.N (s=s) (n=n/\LI T (gZ y)))))))) (aL (vZ T.N (s=s) (n=n/\lL T.a.m T.a.s T.a.g T.a.p=x/\gZ T.b.C/\gZ y))))))) (aL (vZ T.N (s=s) (n=n/\gZ x/\gZ T.b.C/\gZ y)))) (eO (T.N=ah->Dq (n<1) (I/\2=kz) (Dq (n>98047) (I/\2=kz) (bD s/\Bq (gD s !=0) p (tC t fP (Dq ((0:Int)<3) (zo (bY<3) (qg t bY (DB x) (bD (kG s)/\Bq (gx (kG s) (ia s) mD !=0) p (zo (bY<3) (qg t bY (G t bY<3) (Dq (b8<3) (rj r my (qg t B (DB T.b.C) (bD J/\Bq (gx J Y iv !=0) p (rj r my (qg t B (bj<i.length) (Dq (ej<3) (rj v (w<3) (qg t w (DB y) (aes (kG s) (ia s) mD jA/\Bq (afB (kG s) (ia s) mD jA y.length) p (rj v (w<3) (qg t w (FI jt v i bj h) (Dq (jK<3) (rj o (E<3) (qg t E (DB x) (aes J Y iv (dk y)/\Bq (afB J Y iv (dk y) x.length) p (rj o (E<3) (PW jt o D (vW jt v) P))))) (∃(x5:cO),aft s n T x5/\n=n/\aex J Y iv (dk y)=s/\aew J Y iv (dk y)=x5.L/\uE T (D.set (vW jt v) P=K x5)))))))) (Vg s n T (i_ s) (aex (kG s) (ia s) mD jA) (aew (kG s) (ia s) mD jA) x T.b.C y D))))))) (Vg s n T (i_ s) J Y x T.b.C y i))))))) (Vg s n T (i_ s) (kG s) (ia s) x T.b.C y fP)) (∀(x9:cO),aft s n T x9->(∃(Z:cO),(qo s n T Z/\FX Z)/\n=n/\aZ Z.i/\s=s/\x9.L=Z.L/\uE T (Gg x9 Z/\gZ Z.l))/\(∀(e:cO),qo s n T e/\FX e->Dq (Zq e.i<n) (u.length=3/\gg u fP/\(∃(g12:Nat),Dq ((0:Int)<3) (zo (bY<3) (VB k e e.X.c T u bY (bM T.b.C (G (K e) H)) (VS T e) (sF I ky (bD s) (Bq (gx s e.L (e_ T e) !=0) p (qg u bY (H<3) (Dq (b8<3) (rj r my (Vw k r e e.X.c [0] T (bM y (nU e k r)) (Wc T e) (sF I ky (bD (dw s e.L (e_ T e))) (Bq (gx (dw s e.L (e_ T e)) (dQ s e.L (e_ T e)) (nV T e) !=0) p (qg u B (Wk k (wZ T e) (Wq (cm s e.L (e_ T e)))) (Dq (ej<3) (rj v (w<3) (Ln k ej r [e.X.b,e.X.c] e e.X.b [e.X.c] u w T Q (0<=oZ T e [0] b8) (Lu T e k v [0] b8/\sF I ky (afk s e.L (e_ T e) F (bM y (nU e k r))) (Bq (aed s e.L (e_ T e) F (bM y (nU e k r)) u w (x.getD (nU e k v) [])) p (qg u w (G u w<((fP.set H (Wq (wZ T e+Wq (cm s e.L (e_ T e))))).set (G u B) (Iw k b8 y (nU e k r) s e.L (e_ T e) F (bM y (nU e k r)))).length) (Dq (jK<3) (rj o (E<3) (Ln k jK v [e.X.b,e.X.c] e e.X.b [e.X.c] u E T (mq k o) (0<=oZ T e [0] ej) (Lu T e k o [0] ej/\sF I ky (afk (dw s e.L (e_ T e)) (dQ s e.L (e_ T e)) (nV T e) Q (oZ T e [0] b8)) (Bq (aed (dw s e.L (e_ T e)) (dQ s e.L (e_ T e)) (nV T e) Q (oZ T e [0] b8) u E (x.getD (nU e k o) [])) p (Rq (mq k o) (Zq 3) (G u E<(((fP.set H (Wq (wZ T e+Wq (cm s e.L (e_ T e))))).set (G u B) (Iw k b8 y (nU e k r) s e.L (e_ T e) F (bM y (nU e k r)))).set (G u w) (Iw k ej x (nU e k v) (dw s e.L (e_ T e)) (dQ s e.L (e_ T e)) (nV T e) Q (oZ T e [0] b8))).length/\False)))))) (∃(mS:cO),Qc s n T mS g12 e (afo (dw s e.L (e_ T e)) (dQ s e.L (e_ T e)) (nV T e) Q (oZ T e [0] b8)=s/\afq (dw s e.L (e_ T e)) (dQ s e.L (e_ T e)) (nV T e) Q (oZ T e [0] b8) mS/\uE T (DO e mS (((fP.set H (Wq (wZ T e+Wq (cm s e.L (e_ T e))))).set (G u B) (Iw k b8 y (nU e k r) s e.L (e_ T e) F (bM y (nU e k r)))).set (G u w) (Iw k ej x (nU e k v) (dw s e.L (e_ T e)) (dQ s e.L (e_ T e)) (nV T e) Q (oZ T e [0] b8))=nr mS/\gi)))))))))) (∃(L:cO),Qc s n T L g12 e (afo s e.L (e_ T e) F (bM y (nU e k r))=s/\afq s e.L (e_ T e) F (bM y (nU e k r)) L/\uE T (DO e L ((fP.set H (Wq (wZ T e+Wq (cm s e.L (e_ T e))))).set (G u B) (Iw k b8 y (nU e k r) s e.L (e_ T e) F (bM y (nU e k r)))=nr L/\gi)))))))))) (∃(iq:cO),Qc s n T iq g12 e (dw s e.L (e_ T e)=s/\dQ s e.L (e_ T e)=iq.L/\uE T (DO e iq (fP.set H (Wq (wZ T e+Wq (cm s e.L (e_ T e))))=nr iq/\gi)))))))))) (∃(pd:cO),Qc s n T pd g12 e (s=s/\e.L=pd.L/\uE T (DO e pd (fP=nr pd/\gi))))/\(∀(S:cO),(yJ s n T S/\FX S)/\S.i=g12->zo (bY<gY S.v1 [S.v2]) (Rq 2 (Zq 3) (X 2<gY S.v1 [S.v2]/\Rq 1 (Zq 3) (X 1<gY S.v1 [S.v2]/\Vh S/\Bq (Zq S.i==bF n) (arj S (gJ s n T).2 kz (S.l++zm [(nr S).getD bY (0:Int),(nr S).getD (X 2) (0:Int),(nr S).getD (X 1) (0:Int)])) (V.length=3/\gg V u/\Dq ((0:Int)<3) (zo (bY<3) (Lo V bY (LV S) (Rq ((K S).getD f (0:Int)) (dk x) (bD s/\Bq (gx s S.L (d x (G (K S) f)) !=0) p (qg V bY (LV S) (Dq (b8<3) (rj r my (Rq (zp A r) (Zq 3) (U0 [1] r (zp A r) ((K S).set f (Wq (aV x (G (K S) f)+Wq (cm s S.L (d x (G (K S) f)))))) z y.length (bD (dw s S.L (d x (G (K S) f)))) (Bq (qZ9 s S.L (d x (G (K S) f)) (y.getD (G ((K S).set f (Wq (aV x (G (K S) f)+Wq (cm s S.L (d x (G (K S) f)))))) z) [])) p (qg V B (FI A r (K S) f (Wq (aV x (G (K S) f)+Wq (cm s S.L (d x (G (K S) f)))))) (ad_ b8 w [1] v (zp A v) (((K S).set f (Wq (aV x (G (K S) f)+Wq (cm s S.L (d x (G (K S) f)))))).set z (tK (y.getD (G ((K S).set f (Wq (aV x (G (K S) f)+Wq (cm s S.L (d x (G (K S) f)))))) z) []) s S.L (d x (G (K S) f)))) W T.b.C.length (ae1 s S.L (d x (G (K S) f)) (y.getD (G ((K S).set f (Wq (aV x (G (K S) f)+Wq (cm s S.L (d x (G (K S) f)))))) z) [])) (Bq (qZ7 s S.L (d x (G (K S) f)) (y.getD (G ((K S).set f (Wq (aV x (G (K S) f)+Wq (cm s S.L (d x (G (K S) f)))))) z) []) T.b.C (G (((K S).set f (Wq (aV x (G (K S) f)+Wq (cm s S.L (d x (G (K S) f)))))).set z (tK (y.getD (G ((K S).set f (Wq (aV x (G (K S) f)+Wq (cm s S.L (d x (G (K S) f)))))) z) []) s S.L (d x (G (K S) f)))) W)) p (qg V w (FI A v ((K S).set f (Wq (aV x (G (K S) f)+Wq (cm s S.L (d x (G (K S) f)))))) z (tK (y.getD (G ((K S).set f (Wq (aV x (G (K S) f)+Wq (cm s S.L (d x (G (K S) f)))))) z) []) s S.L (d x (G (K S) f)))) (ad_ ej E [1] o (zp A o) ((((K S).set f (Wq (aV x (G (K S) f)+Wq (cm s S.L (d x (G (K S) f)))))).set z (tK (y.getD (G ((K S).set f (Wq (aV x (G (K S) f)+Wq (cm s S.L (d x (G (K S) f)))))) z) []) s S.L (d x (G (K S) f)))).set W (tK (T.b.C.getD (G (((K S).set f (Wq (aV x (G (K S) f)+Wq (cm s S.L (d x (G (K S) f)))))).set z (tK (y.getD (G ((K S).set f (Wq (aV x (G (K S) f)+Wq (cm s S.L (d x (G (K S) f)))))) z) []) s S.L (d x (G (K S) f)))) W) []) (dw s S.L (d x (G (K S) f))) (dQ s S.L (d x (G (K S) f))) (d y (G ((K S).set f (Wq (aV x (G (K S) f)+Wq (cm s S.L (d x (G (K S) f)))))) z)))) (vW A o) x.length (ae1 (dw s S.L (d x (G (K S) f))) (dQ s S.L (d x (G (K S) f))) (d y (G ((K S).set f (Wq (aV x (G (K S) f)+Wq (cm s S.L (d x (G (K S) f)))))) z)) (T.b.C.getD (G (((K S).set f (Wq (aV x (G (K S) f)+Wq (cm s S.L (d x (G (K S) f)))))).set z (tK (y.getD (G ((K S).set f (Wq (aV x (G (K S) f)+Wq (cm s S.L (d x (G (K S) f)))))) z) []) s S.L (d x (G (K S) f)))) W) [])) (Bq (qZ7 (dw s S.L (d x (G (K S) f))) (dQ s S.L (d x (G (K S) f))) (d y (G ((K S).set f (Wq (aV x (G (K S) f)+Wq (cm s S.L (d x (G (K S) f)))))) z)) (T.b.C.getD (G (((K S).set f (Wq (aV x (G (K S) f)+Wq (cm s S.L (d x (G (K S) f)))))).set z (tK (y.getD (G ((K S).set f (Wq (aV x (G (K S) f)+Wq (cm s S.L (d x (G (K S) f)))))) z) []) s S.L (d x (G (K S) f)))) W) []) x (G ((((K S).set f (Wq (aV x (G (K S) f)+Wq (cm s S.L (d x (G (K S) f)))))).set z (tK (y.getD (G ((K S).set f (Wq (aV x (G (K S) f)+Wq (cm s S.L (d x (G (K S) f)))))) z) []) s S.L (d x (G (K S) f)))).set W (tK (T.b.C.getD (G (((K S).set f (Wq (aV x (G (K S) f)+Wq (cm s S.L (d x (G (K S) f)))))).set z (tK (y.getD (G ((K S).set f (Wq (aV x (G (K S) f)+Wq (cm s S.L (d x (G (K S) f)))))) z) []) s S.L (d x (G (K S) f)))) W) []) (dw s S.L (d x (G (K S) f))) (dQ s S.L (d x (G (K S) f))) (d y (G ((K S).set f (Wq (aV x (G (K S) f)+Wq (cm s S.L (d x (G (K S) f)))))) z)))) (vW A o))) p (PW A o (((K S).set f (Wq (aV x (G (K S) f)+Wq (cm s S.L (d x (G (K S) f)))))).set z (tK (y.getD (G ((K S).set f (Wq (aV x (G (K S) f)+Wq (cm s S.L (d x (G (K S) f)))))) z) []) s S.L (d x (G (K S) f)))) W (tK (T.b.C.getD (G (((K S).set f (Wq (aV x (G (K S) f)+Wq (cm s S.L (d x (G (K S) f)))))).set z (tK (y.getD (G ((K S).set f (Wq (aV x (G (K S) f)+Wq (cm s S.L (d x (G (K S) f)))))) z) []) s S.L (d x (G (K S) f)))) W) []) (dw s S.L (d x (G (K S) f))) (dQ s S.L (d x (G (K S) f))) (d y (G ((K S).set f (Wq (aV x (G (K S) f)+Wq (cm s S.L (d x (G (K S) f)))))) z))))) s n T n.toNat (n.toNat.sub e.i) (n=n) (ay (Zq S.i)) (ae8 (dw s S.L (d x (G (K S) f))) (dQ s S.L (d x (G (K S) f))) (d y (G ((K S).set f (Wq (aV x (G (K S) f)+Wq (cm s S.L (d x (G (K S) f)))))) z)) (T.b.C.getD (G (((K S).set f (Wq (aV x (G (K S) f)+Wq (cm s S.L (d x (G (K S) f)))))).set z (tK (y.getD (G ((K S).set f (Wq (aV x (G (K S) f)+Wq (cm s S.L (d x (G (K S) f)))))) z) []) s S.L (d x (G (K S) f)))) W) [])=s) (ae5 (dw s S.L (d x (G (K S) f))) (dQ s S.L (d x (G (K S) f))) (d y (G ((K S).set f (Wq (aV x (G (K S) f)+Wq (cm s S.L (d x (G (K S) f)))))) z)) (T.b.C.getD (G (((K S).set f (Wq (aV x (G (K S) f)+Wq (cm s S.L (d x (G (K S) f)))))).set z (tK (y.getD (G ((K S).set f (Wq (aV x (G (K S) f)+Wq (cm s S.L (d x (G (K S) f)))))) z) []) s S.L (d x (G (K S) f)))) W) [])) (x=x) (T.b.C=T.b.C) (y=y) (S.l++zm [(nr S).getD bY (0:Int),(nr S).getD (X 2) (0:Int),(nr S).getD (X 1) (0:Int)])))) s n T n.toNat (n.toNat.sub e.i) (n=n) (ay (Zq S.i)) (ae8 s S.L (d x (G (K S) f)) (y.getD (G ((K S).set f (Wq (aV x (G (K S) f)+Wq (cm s S.L (d x (G (K S) f)))))) z) [])=s) (ae5 s S.L (d x (G (K S) f)) (y.getD (G ((K S).set f (Wq (aV x (G (K S) f)+Wq (cm s S.L (d x (G (K S) f)))))) z) [])) (x=x) (T.b.C=T.b.C) (y=y) (S.l++zm [(nr S).getD bY (0:Int),(nr S).getD (X 2) (0:Int),(nr S).getD (X 1) (0:Int)]))))))) (∃(R:cO),(qo s n T R/\FX R)/\cl n.toNat R.i e.i/\n=n/\ay (Zq S.i)=Zq R.i/\dw s S.L (d x (G (K S) f))=s/\dQ s S.L (d x (G (K S) f))=R.L/\uE T ((K S).set f (Wq (aV x (G (K S) f)+Wq (cm s S.L (d x (G (K S) f)))))=K R/\PS S R)))))))) (∃(U:cO),(qo s n T U/\FX U)/\cl n.toNat U.i e.i/\n=n/\ay (Zq S.i)=Zq U.i/\s=s/\S.L=U.L/\uE T (Gg S U/\PS S U))))))))) (VM e (gJ s n T))))))))))
def atw(s:M)(n:Int)(T:T3):Prop:=atx s n T ((fP.set (G [0,1,2] bY) (Wq (cm (kG s) (ia s) (aS (dk T.a.C))))).set (vW [1,2] (0+1)) (Vq (kG s) (ia s) (aS (dk T.a.C)) (dk T.b.C))) (Vq (dw (kG s) (ia s) (aS (dk T.a.C))) (dQ (kG s) (ia s) (aS (dk T.a.C))) (aS (dk T.b.C)) (dk T.c.C)) (fP.set (G [0,1,2] bY) (Wq (cm (kG s) (ia s) (aS (dk T.a.C))))) (gZ (gJ s n T).2/\22=(gJ s n T).1) (gZ (gJ s n T).2/\7=(gJ s n T).1) (Vq (kG s) (ia s) (aS (dk T.a.C)) (dk T.b.C)) (dw (kG s) (ia s) (aS (dk T.a.C))) (dQ (kG s) (ia s) (aS (dk T.a.C))) (mq [2,0] (b8+1)) (mq [2,0] (0+1)) (G [0,2,1] bY) (vW [2,1] (0+1)) (vW [2,1] (b8+1)) (vW [1,2] (0+1)) (G [1,2,0] bY) (Jq [(1:Int),2,0]) [1,2,0] [0,1,2] [0,2,1] (24=(gJ s n T).1) (gZ (gJ s n T).2) (b5 (0+1)<3) [2,0] (aS (dk T.a.C)) [2,1] (aS (dk T.b.C)) (gJ s n T).1 [1,2] (b5 (b8+1)) (b5 (0+1)) (b5 (ej+1)) (dk T.b.C) (0+1) (b8+1) (ej+1) T.a.C T.c.C
section
variable{α:Type}
theorem H3:Q .i64 ((0:Int)+1)=1:=H
theorem H4:Q .i64 ((1:Int)+1)=2:=H
theorem H5:Q .i64 ((2:Int)+1)=3:=H
theorem KQ:X 0=0:=rfl
theorem KR:X 1=1:=rfl
theorem KS:X 2=2:=rfl
theorem Uh{a d:α}{l:List α}:eU (a::l) 0 d=a:=rfl
theorem Ui{a b d:α}{l:List α}:eU (a::b::l) 1 d=b:=rfl
theorem Uj{a b c d:α}{l:List α}:eU (a::b::c::l) 2 d=c:=rfl
theorem Up{a x:α}{l:List α}:(a::l).set 0 x=x::l:=rfl
theorem Ur{a b x:α}{l:List α}:(a::b::l).set 1 x=a::x::l:=rfl
theorem Us{a b c x:α}{l:List α}:(a::b::c::l).set 2 x=a::b::x::l:=rfl
theorem Uo:au 3 (0:Int)= [0,0,0]:=rfl
theorem yQ{A B:Prop}:Dq ((0:Int)<3) A B=A:=propext ⟨fun h=>h.1 rfl,fun h=>SL H h⟩
theorem d13{A B:Prop}:Dq ((1:Int)<3) A B=A:=propext ⟨fun h=>h.1 rfl,fun h=>SL H h⟩
theorem d23{A B:Prop}:Dq ((2:Int)<3) A B=A:=propext ⟨fun h=>h.1 rfl,fun h=>SL H h⟩
theorem d33{A B:Prop}:Dq ((3:Int)<3) A B=B:=propext ⟨fun h=>h.2 rfl,fun h=>rK H h⟩
theorem zA{A:Prop}:Rq 0 (Zq 3) A=A:=propext ⟨fun h=>h.2.2,fun h=>⟨H,H,h⟩⟩
theorem zC{A:Prop}:Rq 1 (Zq 3) A=A:=propext ⟨fun h=>h.2.2,fun h=>⟨H,H,h⟩⟩
theorem zD{A:Prop}:Rq 2 (Zq 3) A=A:=propext ⟨fun h=>h.2.2,fun h=>⟨H,H,h⟩⟩
theorem sd{A B:Prop}:Bq ((0:Int) !=0) A B=B:=propext ⟨fun h=>h.2 rfl,fun h=>⟨fun k=>(by cases k),fun _=>h⟩⟩
end
section
variable{s:M}{n L k:Int}{T:T3}{g:cO}
theorem vP(h0:0<=L)(h1:L<=aR s)(h:0<=k):0<=bw L k/\bw L k<=aR s:=by grind [bw]
theorem BX(h:k<=L):bw L k=L-k:=I h
theorem Gy(h:k<=L):cw s L k=iD s L k.toNat:=I h
def Dr(s:M)(T:T3):cO:=⟨0,bw (bw (bw (aR s) T.a.L) T.b.L) T.c.L,⟨cw s (aR s) T.a.L,cw s (bw (aR s) T.a.L) T.b.L,cw s (bw (bw (aR s) T.a.L) T.b.L) T.c.L⟩,ah||decide (aR s<T.a.L)||decide (bw (aR s) T.a.L<T.b.L)||decide (bw (bw (aR s) T.a.L) T.b.L<T.c.L),[],0,0,0⟩
theorem adS{b:Bool}{p q r:Prop}[Decidable p][Decidable q][Decidable r]:(b||decide p||decide q||decide r)=ab↔b=ab\/p\/q\/r:=c9
theorem K7{b:Bool}{p q r:Prop}[Decidable p][Decidable q][Decidable r]:(b||decide p||decide q||decide r)=ah↔b=ah/\¬p/\¬q/\¬r:=c9
theorem avy(x:1<=n)(y:n<=98047)(h:T.N=ah)(z:i_ s=ah):gJ s n T=QC s n T:=by
 grind [gJ]
theorem avH(D:T.R)(o:1<=n)(p:n<=98047)(z:T.N=ah)(q:i_ s=ah)(B:0<=aR s):qo s n T (Dr s T):=by
 have C:=NE D z;have j:=C.a.l0;have H:=C.a.l1;have d:=C.b.l0;have J:=C.b.l1;have f:=C.c.l0;have c1:=C.c.l1;have v:=vP B (jj _) j;have w:=vP v.1 v.2 d;have i:=vP w.1 w.2 f;have e:=MD s (aR s) j Y;have r:=MD s (bw (aR s) T.a.L) d Y;have u:=MD s (bw (bw (aR s) T.a.L) T.b.L) f Y;rw[C.a.pw]at e;rw[C.b.pw]at r;rw[C.c.pw]at u;have G:=avy o p z q;refine⟨⟨o,p,z,q,by show((0:Nat):Int)<=n;omega,i.1,i.2,⟨⟨e.1,e.2.1⟩,⟨r.1,r.2.1⟩,⟨u.1,u.2.1⟩⟩,rfl⟩,fun h=>⟨rfl,?_⟩,fun h=>?_⟩
 ·rw[G]
  unfold QC;refine I ?_;have h:=adS.1 h;grind [DR,bw]
 ·obtain⟨_,K,l,m⟩:=K7.1 h
  rw[G];unfold QC;have x:=BX (L:=aR s) (k:=T.a.L) Y;rw[x]at l m;have y:=BX (L:=aR s-T.a.L) (k:=T.b.L) Y;rw[y]at m;have t:=BX (L:=aR s-T.a.L-T.b.L) (k:=T.c.L) Y;have E:¬aR s<DR T:=by unfold DR;omega
  rw[V E];have F:(Dr s T).X=ahl s T (aR s):=by
   unfold Dr ahl;rw[x,y,Gy Y,Gy Y,Gy Y]
  have A:(Dr s T).L=aR s-DR T:=by
   show bw (bw (bw (aR s) T.a.L) T.b.L) T.c.L=_;rw[x,y,t];unfold DR;omega
  rw[F,A];rfl
def AP(s:M)(T:T3)(g:cO):cO:=⟨g.i,bw (bw (bw g.L (bX 1 T.b g.X.b)) (bX 2 T.c g.X.c)) (bX 0 T.a g.X.a),g.X,g.b||decide (g.L<bX 1 T.b g.X.b)||decide (bw g.L (bX 1 T.b g.X.b)<bX 2 T.c g.X.c)||decide (bw (bw g.L (bX 1 T.b g.X.b)) (bX 2 T.c g.X.c)<bX 0 T.a g.X.a),g.l,
 Q .i64 (aX 0 T.a g.X.a+cw s (bw (bw g.L (bX 1 T.b g.X.b)) (bX 2 T.c g.X.c)) (bX 0 T.a g.X.a)),Q .i64 (aX 1 T.b g.X.b+cw s g.L (bX 1 T.b g.X.b)),Q .i64 (aX 2 T.c g.X.c+cw s (bw g.L (bX 1 T.b g.X.b)) (bX 2 T.c g.X.c))⟩
theorem ahk{r:Nat}{X:X3}{l:q}(h:0<r):uJ s T r L X l=if L<qJ T X then(22,[])else if r-1=0 then uJ s T 0 (L-qJ T X) X (l++ [Gr s T L X])
  else if L-qJ T X<wj T X then(22,[])else uJ s T (r-1) (L-qJ T X-wj T X) (Ms s T (L-qJ T X) X) (l++ [Gr s T L X]):=by
 cases r with
 |zero=>omega
 |succ r=>grind [uJ]
theorem avL(q:T.R)(P:qo s n T g)(hi:(g.i:Int)<n):yJ s n T (AP s T g):=by
 have C:=NE q P.im;have A:=sJ H H C.a P.x.1.1 P.x.1.2;have B:=sJ H H C.b P.x.2.1.1 P.x.2.1.2;have D:=sJ H H C.c P.x.2.2.1 P.x.2.2.2;have a0:=A.b0;have a1:=A.b1;have b0:=B.b0;have b1:=B.b1;have w:=D.b0;have c1:=D.b1;have r:=vP P.L0 P.L1 b0;have u:=vP r.1 r.2 w;have v:=vP u.1 u.2 a0;have E:=P.n1;refine⟨⟨P.n1,P.n2,P.im,P.nb,P.i1,v.1,v.2,P.x,P.len⟩,hi,fun h=>?_,fun h=>?_⟩
 ·have h:=adS.1 h
  by_cases y:g.b=ab
  ·exact(P.bt y).2
  ·have y:g.b=ah:=by simpa using y
   rw[y]at h;have z:g.L<qJ T g.X:=by
    unfold qJ bw at*;rcases h with h|h|h|h
    ·cases h
    ·omega
    ·split at h<;>omega
    ·split at h<;>split at h<;>omega
   rw[<-P.bf y,ahk Y,I z]
 ·obtain⟨y,l,o,f⟩:=K7.1 h
  have j:=BX (L:=g.L) (k:=bX 1 T.b g.X.b) Y;rw[j]at o f;have d:=BX (L:=g.L-bX 1 T.b g.X.b) (k:=bX 2 T.c g.X.c) Y;rw[d]at f;have m:=BX (L:=g.L-bX 1 T.b g.X.b-bX 2 T.c g.X.c) (k:=bX 0 T.a g.X.a) Y;have z:¬g.L<qJ T g.X:=by unfold qJ;omega
  have t: [(AP s T g).v0,(AP s T g).v2,(AP s T g).v1]=Gr s T g.L g.X:=by
   have p1:=PF s g.L b0 Y;have p2:=PF s (g.L-bX 1 T.b g.X.b) w Y;have p3:=PF s (g.L-bX 1 T.b g.X.b-bX 2 T.c g.X.c) a0 Y;grind [A.a0,A.a1,B.a0,B.a1,D.a0,u6,D.a1,AP,Gr,Gy,wr]
  have p:(AP s T g).L=g.L-qJ T g.X:=by
   show bw (bw (bw g.L (bX 1 T.b g.X.b)) (bX 2 T.c g.X.c)) (bX 0 T.a g.X.a)=_;rw[j,d,m];unfold qJ;omega
  have e:=P.bf y;rw[ahk Y,V z]at e;rw[t,p];exact e
def wk(s:M)(T:T3)(g:cO):cO:=⟨g.i,bw (bw (bw g.L (uX T.a g.X.a)) (uX T.c g.X.c)) (uX T.b g.X.b),⟨Q .i64 (cA T.a.C g.X.a+cw s g.L (uX T.a g.X.a)),Q .i64 (cA T.b.C g.X.b+cw s (bw (bw g.L (uX T.a g.X.a)) (uX T.c g.X.c)) (uX T.b g.X.b)),Q .i64 (cA T.c.C g.X.c+cw s (bw g.L (uX T.a g.X.a)) (uX T.c g.X.c))⟩,
 g.b||decide (g.L<uX T.a g.X.a)||decide (bw g.L (uX T.a g.X.a)<uX T.c g.X.c)||decide (bw (bw g.L (uX T.a g.X.a)) (uX T.c g.X.c)<uX T.b g.X.b),g.l,g.v0,g.v1,g.v2⟩
theorem avM(N:T.R)(P:yJ s n T g)(hi:(g.i:Int)<n-1):CR s n T (wk s T g):=by
 have C:=NE N P.im;have A:=sJ H H C.a P.x.1.1 P.x.1.2;have B:=sJ H H C.b P.x.2.1.1 P.x.2.1.2;have D:=sJ H H C.c P.x.2.2.1 P.x.2.2.2;have f:=A.u0;have W:=A.u1;have m:=B.u0;have Z:=B.u1;have o:=D.u0;have c1:=D.u1;have w:=vP P.L0 P.L1 f;have j:=vP w.1 w.2 o;have d:=vP j.1 j.2 m;have q:=MD s g.L f Y;have t:=MD s (bw g.L (uX T.a g.X.a)) o Y;have l:=MD s (bw (bw g.L (uX T.a g.X.a)) (uX T.c g.X.c)) m Y;have x1:=adI C.a P.x.1.1 P.x.1.2 q.1 q.2.1;have S:=adI C.c P.x.2.2.1 P.x.2.2.2 t.1 t.2.1;have U:=adI C.b P.x.2.1.1 P.x.2.1.2 l.1 l.2.1;have n1:=C.a.n1;have n2:=C.b.n1;have n3:=C.c.n1;have E:=wr (n:=cA T.a.C g.X.a+cw s g.L (uX T.a g.X.a)) Y Y;have F:=wr (n:=cA T.b.C g.X.b+cw s (bw (bw g.L (uX T.a g.X.a)) (uX T.c g.X.c)) (uX T.b g.X.b)) Y Y;have G:=wr (n:=cA T.c.C g.X.c+cw s (bw g.L (uX T.a g.X.a)) (uX T.c g.X.c)) Y Y;have hn:=P.n1;refine⟨⟨P.n1,P.n2,P.im,P.nb,P.i1,d.1,d.2,?_,P.len⟩,P.i2,fun h=>?_,fun h=>?_⟩
 ·unfold xOk wk
  dsimp only;rw[E,F,G];exact⟨x1,U,S⟩
 ·have h:=adS.1 h
  by_cases y:g.b=ab
  ·exact P.bt y
  ·have y:g.b=ah:=by simpa using y
   rw[y]at h;have v:g.L<wj T g.X:=by
    unfold wj bw at*;rcases h with h|h|h|h
    ·cases h
    ·omega
    ·split at h<;>omega
    ·split at h<;>split at h<;>omega
   rw[<-P.bf y,V Y,I v]
 ·obtain⟨y,h1,p,u⟩:=K7.1 h
  have z:=BX (L:=g.L) (k:=uX T.a g.X.a) Y;have v:¬g.L<wj T g.X:=by unfold wj bw at*;split at p<;>split at u<;>omega
  rw[z]at p u;have r:=BX (L:=g.L-uX T.a g.X.a) (k:=uX T.c g.X.c) Y;rw[r]at u;have J:=BX (L:=g.L-uX T.a g.X.a-uX T.c g.X.c) (k:=uX T.b g.X.b) Y;have Q:(wk s T g).X=Ms s T g.L g.X:=by
   unfold wk Ms;dsimp only;rw[E,F,G,z,r,Gy Y,Gy Y,Gy Y]
  have K:(wk s T g).L=g.L-wj T g.X:=by
   show bw (bw (bw g.L (uX T.a g.X.a)) (uX T.c g.X.c)) (uX T.b g.X.b)=_;rw[z,r,J];unfold wj;omega
  have e:=P.bf y;rw[V Y,V v]at e;rw[Q,K];exact e
theorem aQ_(P:yJ s n T g)(hi:¬(g.i:Int)<n-1):CR s n T g:=by
 have e:n.toNat-g.i-1=0:=Y;exact⟨P.toSqH,P.i2,P.bt,fun h=>by rw[<-P.bf h,I e,e]⟩
def SK(g:cO):cO:=⟨g.i+1,g.L,g.X,g.b,g.l++ [[g.v0,g.v2,g.v1]],0,0,0⟩
theorem avD(P:CR s n T g)(y:g.b=ah):qo s n T (SK g):=by
 have z:=P.i2;refine⟨⟨P.n1,P.n2,P.im,P.nb,by show((g.i+1:Nat):Int)<=n;omega,P.L0,P.L1,P.x,by show(g.l++ [_]).length=g.i+1;rw[gn,P.len];rfl⟩,fun h=>(by rw[show(SK g).b=g.b from rfl,y]at h;cases h),fun _=>?_⟩;have:=P.bf y;exact this
theorem avF(P:qo s n T g)(hi:¬(g.i:Int)<n):gJ s n T=if 0<g.L then(22,[])else(0,g.l):=by
 have x:=P.n1;cases h:g.b
 ·rw[<-P.bf h,show n.toNat-g.i=0 by omega];unfold uJ;rfl
 ·grind [P.bt]
end
section
variable{s:M}{n L:Int}{T:T3}{b:Bool}
theorem awl(e:i_ s=ah)(h:0<=L)(x:L<=aR s)(y:0<=n)(z:n<=32):kW s L n=0:=by grind [kW,mv]
end
section
variable{s:M}{n L:Int}{T:T3}{g:cO}
theorem DW(u:i_ s=ah)(k:0<=L)(r:L<=aR s)(y:0<=n)(z:n<=32):(L<n/\gx s L n=5)\/(¬L<n/\gx s L n=0/\dw s L n=s/\dQ s L n=L-n/\cm s L n=iD s L n.toNat/\cw s L n=iD s L n.toNat/\bw L n=L-n/\Q .i64 (iD s L n.toNat)=iD s L n.toNat):=by
 have e:=awl u k r y z;have hp:=PF s L y z;by_cases h:L<n
 ·exact .inl ⟨h,by unfold gx;rw[I e,I h]⟩
 ·have x:gx s L n=0:=by unfold gx;rw[I e,V h]
  exact .inr ⟨h,x,I x,I x,I x,Gy Y,BX Y,wr Y Y⟩
theorem aQ7(y:1<=n)(z:n<=98047)(x:T.N=ah)(e:i_ s=ah)(h:aR s<DR T):gJ s n T=(22,[]):=by
 rw[avy y z x e];exact I h
theorem aQ9(P:qo s n T g)(x:g.b=ah)(hi:(g.i:Int)<n)(h:g.L<qJ T g.X):gJ s n T=(22,[]):=by
 rw[<-P.bf x,ahk Y,I h]
theorem aQ'(P:yJ s n T g)(x:g.b=ah)(hi:¬(g.i:Int)=n-1)(h:g.L<wj T g.X):gJ s n T=(22,[]):=by
 have:=P.i2;rw[<-P.bf x,V Y,I h]
theorem aQ8(P:yJ s n T g)(h:g.b=ah)(hi:(g.i:Int)=n-1):gJ s n T=if 0<g.L then(22,[])else(0,g.l++ [[g.v0,g.v2,g.v1]]):=by
 rw[<-P.bf h,I Y];unfold uJ;rfl
end
def aQ3:=XA.gE auI Nd Tryz.func119 fun T ⟨h,x,y,_⟩=>⟨(ao_),J (p:=Dq ((0:Int)<3) (xX (wW T) (FF b8 (Zq 3) (vX/\b8<=2/\FN T/\FF ej (Zq 3) (ya/\ej<=2/\FM T/\FF jK (Zq 3) (jL (jL False)))))) a_) (by
 unfold a_ vX ej b8 FN FM ya jL jK oY xX cE wW FF Rq Wq Zq;simp only[H3,H4,H5,yQ,d13,d23,d33,zA,zC,zD,sd];grind)⟩
def aNN:=XA.gE auI Nd Tryz.func139 fun T ⟨h,x,y,_⟩=>⟨(aFV),J (p:=Dq ((0:Int)<3) (xX (wW T) (FF b8 (Zq 3) (vX/\b8<=2/\FN T/\FF ej (Zq 3) (ya/\ej<=2/\FM T/\FF jK (Zq 3) (jL nu))))) a_) (by
 unfold nu a_ vX ej b8 FN FM ya jL jK oY xX cE wW FF Rq Wq Zq;simp only[H3,H4,H5,yQ,d13,d23,d33,zA,zC,zD,sd];grind)⟩
def aQ4:=agQ.gE aPX Nd Tryz.func166 fun T _=>⟨(ao_),J (p:=avx T (ah=T.N)) (by
 unfold avx Iv ej b8 fH jL jK oY Rq Wq Zq;simp only[H3,H4,H5,yQ,d13,d23,d33,zA,zC,zD,T3.N];grind)⟩
def aNH:=aPT.gd m.nil Tryz.func195 fun _ _=>⟨aK,J (p:=gg [1,2,0] fP/\(3:Nat)=3/\Jq [(1:Int),2,0]) (by
 unfold fP gg Jq;exact⟨rfl,rfl,rfl⟩)⟩
def aNI:=aPU.gd m.nil Tryz.func197 fun _ _=>⟨aK,J (p:=gg [0,2,1] fP/\(3:Nat)=3/\Jq [(0:Int),2,1]) (by
 unfold fP gg Jq;exact⟨rfl,rfl,rfl⟩)⟩
def aNJ:=aPV.gd m.nil Tryz.func192 fun _ _=>⟨aK,J (p:=gg [0,1,2] fP/\(3:Nat)=3/\Jq [(0:Int),1,2]) (by
 unfold fP gg Jq;exact⟨rfl,rfl,rfl⟩)⟩
def ajL:=m.cons asH<| .cons aQ3<| .cons aQ4<| .cons aNN<| .cons aNH<| .cons aNI<| .cons aNJ<| .cons atm<|Nd
def aQ6:=agR.gE aPY ajL Tryz.func168 fun⟨s,L,n,b⟩ ⟨u,v,z,r,x,y,_⟩=>⟨aK,J (p:=bD s/\bS (gx s L n) (0=cw s L n) (s=s/\L=bw L n/\ab=(b||decide (L<n))) (Wq (cm s L n)=cw s L n) (dw s L n=s/\dQ s L n=bw L n/\b=(b||decide (L<n)))) (by
 unfold bS bD Wq;have e:=awl v z r x y;have hp:=PF s L x y;unfold cm dw dQ gx bw cw;rw[I e];refine⟨u,?_⟩;by_cases h:L<n
 ·grind
 ·have k:n<=L:=Y
  rw[V h,I k,I k];grind [wr])⟩
def Zu:=m.cons aQ6<|ajL
def aQ5:=XB.gE auJ Zu Tryz.func122 fun⟨s,n,T⟩ ⟨r,f,o,q,_⟩=>⟨(aI2 s n T),J (p:=avA s n T) (by
 have j:T.R:=⟨f,o,q⟩;have e:True:=trivial;unfold avA avB aw eO Qi DO xa nu Qb LV Gb Wk Iv aF vZ vX ej Wc nV LN vW bY LI b8 zp VS nU wZ e_ o5 oZ bF zo dk VM FN FM PW ya VB aV FI Vw WL gZ mq uE jL Lu G K cl aZ PS DB nr aL zm fC Vh ay fP jK oY PN Ik rj Vc Gg xX cE wW B6 qE bS Lo d b5 Ln afy bM aec Vb qg bD gY U0 Rq Wq Zq;simp only[H3,H4,H5,KQ,KR,KS,Uh,Ui,Uj,Up,Ur,Us,Uo,yQ,d13,d23,d33,zA,zC,zD,sd];refine⟨f,o,q,bq (fun h=>by unfold gJ;rw[h,I rfl];exact⟨rfl,rfl⟩) fun w=>?_⟩;have L:n<1\/98047<n->gJ s n T=(2,[]):=fun h=>by unfold gJ;rw[w,V H,I h]
 refine dq (fun h=>by rw[L (.inl h)];exact⟨rfl,rfl⟩) fun n1=>dq (fun h=>by rw[L (.inr h)];exact⟨rfl,rfl⟩) fun n2=>⟨r,?_⟩;cases v:i_ s
 rotate_left
 ·exact⟨fun _=>by unfold gJ;rw[w,v,V H,V Y,I rfl];exact⟨rfl,rfl⟩,fun h=>by unfold gD at h;rw[v]at h;cases h⟩
 have X:gD s=0:=by unfold gD;rw[v];rfl
 have Z:kG s=s:=by unfold kG;rw[v];rfl
 have e3:ia s=aR s:=by unfold ia;rw[v];rfl
 have C:=NE j w;have F:=C.a.l0;have U:=C.a.l1;have b0:=C.b.l0;have b1:=C.b.l1;have W:=C.c.l0;have c1:=C.c.l1;have B:=(BW v).2.2.2.1;have k:=vP B (jj _) F;have u:=vP k.1 k.2 b0;have N:1<=n:=Y;have S:n<=98047:=Y;have len:∀t:TB,t.C.length<=512->((lL t.m t.s t.g t.p).length:Int)<=9223372036854775807:=fun t h=>(by have:((lL t.m t.s t.g t.p).length:Int)<=512:=Int.ofNat_le.2 h;omega);rw[X,sd];refine⟨⟨(),⟨N,S,w,rfl⟩,e,e,e,e,e,e,e,e,e,e,e,e,e,Z,e3,e⟩,fun _ _=>⟨⟨H,H,f,len T.a C.a.n1,r,rfl,B,jj _,F,Ee U H,H,H,H,o,len T.b C.b.n1,r,rfl,k.1,k.2,b0,Ee b1 H,by show 1<3;decide,H,H,q,len T.c C.c.n1,r,rfl,u.1,u.2,W,Ee c1 H,by show 2<3;decide,
  Dr s T,⟨avH j N S w v B,rfl,rfl⟩,e,e,rfl,rfl,rfl,rfl,rfl,rfl⟩,fun x P=>⟨⟨x,P.1,e,e,by rw[P.2.1];rfl,e,rfl,rfl,e,e,e,rfl,by rw[P.2.2];rfl⟩,fun x P=>dq (fun hi=>?_) fun hi=>?_⟩⟩⟩
 rotate_left
 ·have E:=avF P hi
  rw[E];refine dq (fun h=>?_) fun h=>?_
  ·rw[I h];exact⟨rfl,rfl⟩
  ·rw[V h];exact⟨rfl,rfl⟩
 have A:=sJ H H C.a P.x.1.1 P.x.1.2;have B:=sJ H H C.b P.x.2.1.1 P.x.2.1.2;have D:=sJ H H C.c P.x.2.2.1 P.x.2.2.2;have k:=vP P.L0 P.L1 B.b0;have u:=vP k.1 k.2 D.b0;refine⟨x.i,⟨by show 1<3;decide,P.x.2.1.1,P.x.2.1.2,H,H,B.s0,B.s1,r,rfl,P.L0,P.L1,B.b0,Ee B.b1 H,by show 1<3;decide,
  by show 2<3;decide,P.x.2.2.1,P.x.2.2.2,H,H,D.s0,D.s1,r,rfl,k.1,k.2,D.b0,Ee D.b1 H,by show 2<3;decide,
  by show 0<3;decide,P.x.1.1,P.x.1.2,H,H,A.s0,A.s1,r,rfl,u.1,u.2,A.b0,Ee A.b1 H,by show 0<3;decide,
  AP s T x,⟨avL j P hi,rfl⟩,e,rfl,e,rfl,e,rfl,rfl,e,e,e,rfl,rfl,rfl⟩,fun y Q=>⟨x.i,⟨?_,fun z R=>?_⟩⟩⟩
 ·obtain⟨Q,M⟩:=Q
  have n1:=P.n1;have i1:=P.i1;have A:=sJ H H C.a Q.x.1.1 Q.x.1.2;have B:=sJ H H C.b Q.x.2.1.1 Q.x.2.1.2;have D:=sJ H H C.c Q.x.2.2.1 Q.x.2.2.2;have k:=vP Q.L0 Q.L1 A.u0;have u:=vP k.1 k.2 D.u0;rw[wr (n:=n-1) Y Y];refine dq (fun hi=>?_) fun hi=>?_
  ·exact⟨by show 0<3;decide,Q.x.1.1,Q.x.1.2,r,rfl,Q.L0,Q.L1,A.u0,Ee A.u1 H,by show 0<3;decide,
    by show 2<3;decide,Q.x.2.2.1,Q.x.2.2.2,r,rfl,k.1,k.2,D.u0,Ee D.u1 H,by show 2<3;decide,
    by show 1<3;decide,Q.x.2.1.1,Q.x.2.1.2,r,rfl,u.1,u.2,B.u0,Ee B.u1 H,by show 1<3;decide,
    wk s T y,⟨avM j Q hi,M⟩,e,rfl,e,rfl,e,rfl,rfl,e,e,e,rfl,rfl,rfl⟩
  ·exact⟨y,⟨aQ_ Q hi,M⟩,e,rfl,e,rfl,e,rfl,rfl,e,e,e,rfl,rfl,rfl⟩
 ·obtain⟨R,hz⟩:=R
  have n1:=P.n1;have i2:=R.i2;have ln:=R.len;refine bq (fun h=>by rw[R.bt h];exact⟨rfl,rfl⟩) fun h=>⟨by show 0<3;decide,by show 2<3;decide,by show 1<3;decide,?_,SK z,avD R h,?_,e,e,?_,e,rfl,rfl,e,e,e,rfl,rfl⟩
  ·show(z.l.length+1)*24<=_
   omega
  ·show n.toNat- (z.i+1)<n.toNat-x.i
   omega
  ·exact wr Y Y)⟩
def aNO:=XB.gE auJ Zu Tryz.func142 fun⟨s,n,T⟩ ⟨f,h0,h1,h2,_⟩=>⟨(aI0 s n T),J (p:=atw s n T) (by
 have hR:T.R:=⟨h0,h1,h2⟩;have z:True:=trivial;unfold atw atx afB tK qZ9 eO aft afq qZ7 afo DO Gg nu afk Qc LV Iw Wk Iv vZ ae8 ae5 arn vX ej Wc nV ae1 vW bY LI b8 zp sF VS nU wZ e_ oZ FX bF zo dk VM arj FN FM PW ya VB aV FI Vw WL gZ mq aex aew uE jL aes Vq Lu G cl aZ PS DB nr aL zm fC Vh ay fP jK oY Vg K Ik rj xX cE wW B6 Lo d b5 Ln afy aed tC bM gg qg bD gY ad_ Vb U0 Rq Wq Zq Jq;simp only[H3,H4,H5,KQ,KR,KS,Uh,Ui,Uj,Up,Ur,Us,Uo,yQ,d13,d23,d33,zA,zC,zD,sd];have mi:T.a.m= -1\/T.b.m= -1\/T.c.m= -1->(gJ s n T).2.length=0/\7=(gJ s n T).1:=fun h=>by
  have:T.N=ab:=by unfold T3.N;simp only[GK,wx];exact h
  unfold gJ;rw[I this];exact⟨rfl,rfl⟩
 have mj:∀m:Int,xf m≠0->m= -1:=fun m h=>by unfold xf at h;simp at h;exact h
 have mk:∀m:Int,xf m=0->m≠ -1:=fun m h k=>by rw[k]at h;cases h
 refine⟨h0,h1,h2,⟨H,H,h0,bV (fun h=>mi (.inl (mj _ h))) fun ha=>⟨H,H,h1,bV (fun h=>mi (.inr (.inl (mj _ h)))) fun g=>⟨H,H,h2,bV (fun h=>mi (.inr (.inr (mj _ h)))) fun hc=>⟨(),?_,z,z,rfl,rfl,rfl⟩⟩⟩⟩,fun _ Z=>?_⟩
 ·unfold T3.N
  simp only[qS,wo];exact⟨mk _ ha,mk _ g,mk _ hc⟩
 have dd:n<1\/98047<n->gJ s n T=(2,[]):=fun h=>by unfold gJ;rw[Z,V H,I h]
 refine dq (fun h=>by rw[dd (.inl h)];exact⟨rfl,rfl⟩) fun n1=>dq (fun h=>by rw[dd (.inr h)];exact⟨rfl,rfl⟩) fun n2=>⟨f,?_⟩;cases w:i_ s
 rotate_left
 ·exact⟨fun _=>by unfold gJ;rw[Z,w,V H,V Y,I rfl];exact⟨rfl,rfl⟩,fun h=>by unfold gD at h;rw[w]at h;cases h⟩
 have e1:gD s=0:=by unfold gD;rw[w];rfl
 have e2:kG s=s:=by unfold kG;rw[w];rfl
 have e3:ia s=aR s:=by unfold ia;rw[w];rfl
 have C:=NE hR Z;have a0:=C.a.l0;have a1:=C.a.l1;have b0:=C.b.l0;have b1:=C.b.l1;have c0:=C.c.l0;have c1:=C.c.l1;have B:=(BW w).2.2.2.1;have n3:1<=n:=Y;have n4:n<=98047:=Y;have len:∀t:TB,t.C.length<=512->(t.C.length:Int)<=9223372036854775807:=fun t h=>by omega
 have ea:aS (T.a.C.length:Nat)=T.a.L:=rfl;have eb:aS (T.b.C.length:Nat)=T.b.L:=rfl;have ec:aS (T.c.C.length:Nat)=T.c.L:=rfl;have no:gJ s n T=(22,[])->(gJ s n T).2.length=0/\22=(gJ s n T).1:=fun h=>by rw[h];exact⟨rfl,rfl⟩
 rw[e1,e2,e3,sd,ea,eb,ec];refine⟨rfl,rfl,⟨H,len T.a C.a.n1,f,?_⟩,fun x P=>⟨⟨x,P.1,z,by rw[P.2.2.2.2.1];rfl,z,rfl,z,z,z,rfl,by rw[P.2.2.2.2.2];rfl⟩,fun x P=>dq (fun hi=>⟨rfl,rfl,x.i,⟨H,by show 1<3;decide,P.1.x.2.1.1,P.1.x.2.1.2,H,H,?_⟩,fun y Q=>?_⟩) fun hi=>?_⟩⟩
 ·have no:=fun h=>no (aQ7 n3 n4 Z w h)
  unfold DR at no;rcases DW w B (jj _) a0 Y with⟨o,e⟩|⟨q1,e,u,r,v,ev,en,S⟩
  ·exact⟨fun _=>no Y,fun k=>by rw[e]at k;cases k⟩
  rw[u,r,v,e,sd];refine⟨H,H,H,len T.b C.b.n1,f,?_⟩;rcases DW w (L:=aR s-T.a.L) Y Y b0 Y with⟨o,e⟩|⟨q2,e,u,r,v,F,j,U⟩
  ·exact⟨fun _=>no Y,fun k=>by rw[e]at k;cases k⟩
  rw[u,r,v,e,sd];refine⟨H,by show 1<3;decide,H,len T.c C.c.n1,f,?_⟩;rcases DW w (L:=aR s-T.a.L-T.b.L) Y Y c0 Y with⟨o,e⟩|⟨q3,e,u,r,v,M,q,W⟩
  ·exact⟨fun _=>no Y,fun k=>by rw[e]at k;cases k⟩
  rw[u,r,v,e,sd,S,U,W];refine⟨H,by show 2<3;decide,Dr s T,⟨⟨avH hR n3 n4 Z w B,?_⟩,n3,n4,rfl,rfl,rfl⟩,z,rfl,?_,z,z,z,?_⟩
  ·unfold Dr
   dsimp only;rw[en,j];exact K7.2 ⟨rfl,q1,q2,q3⟩
  ·unfold Dr
   dsimp only;rw[en,j,q]
  ·unfold Dr
   dsimp only;rw[en,j,ev,F,M]
 ·obtain⟨P,g⟩:=P
  have no:=fun h=>no (aQ9 P g hi h);unfold qJ at no;have A:=sJ H H C.a P.x.1.1 P.x.1.2;have B:=sJ H H C.b P.x.2.1.1 P.x.2.1.2;have D:=sJ H H C.c P.x.2.2.1 P.x.2.2.2;have L0:=P.L0;have L1:=P.L1;have u1:=A.b0;have u2:=A.b1;have u3:=B.b0;have u4:=B.b1;have u5:=D.b0;have u6:=D.b1;have E1:dZ 1 ((T.b.C.getD x.X.b.toNat []).getD 0 0)=bX 1 T.b x.X.b:=rfl;have E2:dZ 2 ((T.c.C.getD x.X.c.toNat []).getD 0 0)=bX 2 T.c x.X.c:=rfl;have E3:dZ 0 ((T.a.C.getD x.X.a.toNat []).getD 0 0)=bX 0 T.a x.X.a:=rfl;rw[E1,E2,E3];refine⟨B.s0,B.s1,f,?_⟩;rcases DW w L0 L1 u3 Y with⟨o,e⟩|⟨q1,e,u,r,v,ev,en,S⟩
  ·exact⟨fun _=>no Y,fun k=>by rw[e]at k;cases k⟩
  rw[u,r,v,e,sd];refine⟨H,H,by show 2<3;decide,P.x.2.2.1,P.x.2.2.2,H,H,D.s0,D.s1,f,?_⟩;rcases DW w (L:=x.L-bX 1 T.b x.X.b) Y Y u5 Y with⟨o,e⟩|⟨q2,e,u,r,v,F,j,U⟩
  ·exact⟨fun _=>no Y,fun k=>by rw[e]at k;cases k⟩
  rw[u,r,v,e,sd];refine⟨by show 2<3;decide,H,by show 0<3;decide,P.x.1.1,P.x.1.2,H,H,A.s0,A.s1,f,?_⟩;rcases DW w (L:=x.L-bX 1 T.b x.X.b-bX 2 T.c x.X.c) Y Y u1 Y with⟨o,e⟩|⟨q3,e,u,r,v,M,q,W⟩
  ·exact⟨fun _=>no Y,fun k=>by rw[e]at k;cases k⟩
  rw[u,r,v,e,sd,S,U,W];refine⟨by show 0<3;decide,AP s T x,⟨⟨avL hR P hi,?_⟩,rfl⟩,z,rfl,rfl,?_,z,z,z,rfl,rfl,?_,z⟩
  ·unfold AP
   dsimp only;rw[en,j];exact K7.2 ⟨g,q1,q2,q3⟩
  ·unfold AP
   dsimp only;rw[en,j,q]
  ·unfold AP
   dsimp only;rw[en,j,ev,F,M];rfl
 ·obtain⟨⟨Q,g⟩,hq⟩:=Q
  have n1:=P.1.n1;have i1:=P.1.i1;have i2:=Q.i2;have ln:=Q.len;rw[wr (n:=n-1) Y Y];refine⟨by show 0<3;decide,by show 2<3;decide,by show 1<3;decide,by show(y.l.length+1)*24<=_;omega,de (fun hi=>?_) fun hi=>⟨rfl,rfl,H,by show 0<3;decide,Q.x.1.1,Q.x.1.2,f,?_⟩⟩
  ·rw[aQ8 Q g hi]
   refine dq (fun h=>?_) fun h=>?_
   ·rw[I h];exact⟨rfl,rfl⟩
   ·rw[V h];exact⟨rfl,rfl⟩
  have no:=fun h=>no (aQ' Q g hi h);unfold wj at no;have A:=sJ H H C.a Q.x.1.1 Q.x.1.2;have B:=sJ H H C.b Q.x.2.1.1 Q.x.2.1.2;have D:=sJ H H C.c Q.x.2.2.1 Q.x.2.2.2;have L0:=Q.L0;have L1:=Q.L1;have u1:=A.u0;have u2:=A.u1;have u3:=B.u0;have u4:=B.u1;have u5:=D.u0;have u6:=D.u1;have E1:(T.b.C.getD y.X.b.toNat []).getD 1 0=uX T.b y.X.b:=rfl;have E2:(T.c.C.getD y.X.c.toNat []).getD 1 0=uX T.c y.X.c:=rfl;have E3:(T.a.C.getD y.X.a.toNat []).getD 1 0=uX T.a y.X.a:=rfl;rw[E1,E2,E3];rcases DW w L0 L1 u1 Y with⟨o,e⟩|⟨q1,e,u,r,v,ev,en,S⟩
  ·exact⟨fun _=>no Y,fun k=>by rw[e]at k;cases k⟩
  rw[u,r,v,e,sd];refine⟨by show 0<3;decide,H,by show 2<3;decide,Q.x.2.2.1,Q.x.2.2.2,f,?_⟩;rcases DW w (L:=y.L-uX T.a y.X.a) Y Y u5 Y with⟨o,e⟩|⟨q2,e,u,r,v,F,j,U⟩
  ·exact⟨fun _=>no Y,fun k=>by rw[e]at k;cases k⟩
  rw[u,r,v,e,sd];refine⟨by show 2<3;decide,H,by show 1<3;decide,Q.x.2.1.1,Q.x.2.1.2,f,?_⟩;rcases DW w (L:=y.L-uX T.a y.X.a-uX T.c y.X.c) Y Y u3 Y with⟨o,e⟩|⟨q3,e,u,r,v,M,q,W⟩
  ·exact⟨fun _=>no Y,fun k=>by rw[e]at k;cases k⟩
  have hu:(wk s T y).b=ah:=by
   unfold wk;dsimp only;rw[en,j];exact K7.2 ⟨g,q1,q2,q3⟩
  rw[u,r,v,e,sd,S,U,W];refine⟨by show 1<3;decide,SK (wk s T y),⟨avD (avM hR Q Y) hu,hu⟩,?_,z,wr Y Y,rfl,?_,z,z,z,?_,rfl⟩
  ·show n.toNat- (y.i+1)<n.toNat-x.i
   omega
  ·show _=(wk s T y).L
   unfold wk;dsimp only;rw[en,j,q]
  ·show _= [(wk s T y).X.a,(wk s T y).X.b,(wk s T y).X.c]
   unfold wk;dsimp only;rw[en,j,ev,F,M];rfl
 ·have E:=avF P.1 hi
  rw[E];refine dq (fun h=>?_) fun h=>?_
  ·rw[I h];exact⟨rfl,rfl⟩
  ·rw[V h];exact⟨rfl,rfl⟩)⟩
def ayH:=m.cons aQ5<| .cons aNO<|(CS ayF Zu)
structure zZ (s:M) (a e:Int) (T:T3):Prop where
 b:¬uK s a e
 g:li (c s e) a=ab
 n:¬jh (c s e) a=0
 q:¬dM (c s e) a=(c s e).size
 m:u (c s e) (dM (c s e) a)%4=0
 e0:(wg (c s e) (dM (c s e) a) T).1=0
 e1:(zH (c s e) (dM (c s e) a) T).1=0
 e2:(Cu (c s e) (dM (c s e) a) T).1=0
def nf(s:M)(a e:Int)(T:T3):Int:=Gs (c s e) (dM (c s e) a) T
def qK(s:M)(a e:Int)(T:T3):T3:=AS (c s e) (dM (c s e) a) T
def sxF(s:M)(a e:Int)(T:T3):Int:=(Cu (c s e) (dM (c s e) a) T).2
def aPW:Spec:=Sp (Int×Int) [.i,.i] fun(e,a)=>([],aE (.tu [.bZ (.cH 3 []),.ag z3.v,.ag [B e,B a]]))
def Xz:Spec where
 ι:=M×Int×Int×T3
 dec l H:=match l with
  | [.v (.string s),.v (.int .i64 a),.v (.int .i64 e),.ag cs]=>match IT cs with
    |some T=>O ((s,a,e,T),[])
    |none=>ae
  |_=>ae
 args:=fun(s,a,e,T)=>[aD s,B a,B e,.ag T.v]
 pre:=fun(s,a,e,T)=>[E (s.size<=600),E (tbE 0 T.a.m T.a.s T.a.g T.a.p=0),E (tbE 1 T.b.m T.b.s T.b.g T.b.p=0),E (tbE 2 T.c.m T.c.s T.c.g T.c.p=0)]
 out:=fun(s,a,e,T)=>.leaf (.tu [.bZ (.cH 3 (jC s a e T)),.ag (eC s a e T).v,.ag [.v (.int .i64 (iH s a e T).1),.v (.int .i64 (iH s a e T).2)]]) []
theorem auH:Xz.dn:=by
 intro l H n i x h;simp only[Xz]at h;split at h
 ·split at h
  ·rename_i e;cases h;rw[QH e];exact⟨rfl,rfl⟩
  ·cases h
 ·cases h
def TT(k:Nat)(T:T3):Nat×bm:=(k,.cells 47 T.v)
def aIY(s:M)(a e:Int)(T:T3):bO:=dX [(0,.rr 4),(1028,jG (zZ s a e T) [(0,aD (c s e)),(1,B (nf s a e T)),(9,U 1001),(10,U 1002),(11,.fn (.func 118) [] []),(13,B (jh (c s e) a))] [TT 1001 (qK s a e T),(1002,.cells 25 [B 0,B (sxF s a e T)])])]
def aIZ(s:M)(a e:Int)(T:T3):bO:=dX [(0,.rr 4),(1028,jG (zZ s a e T) [(0,aD (c s e)),(9,U 1001),(10,U 1002),(11,U 1003),(13,B (jh (c s e) a)),(14,B (nf s a e T)),(17,U 1004)] [TT 1001 z3,(1002,.cells 25 [B 0,B 0]),TT 1003 z3,TT 1004 (qK s a e T)])]
end Go.Proofs.YtegnkfbnmepmpaaGreatDoor

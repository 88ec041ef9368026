/-
  Texts joined: QQ, QR, QS, QSt, QT, QE, QU, QV, RkF, Rk, Rkt, Rl, Rm, Rn, Ee, ExF, Ex, Ext, SpF, SpG, SpA, SpAt, SpB, DeF, De, Det. Conditions: each theorem's own.
-/
import Derived.Test.YtegnkfbnmepmpaaGreatDoorK6
import Derived.WalkKit
import Derived.LaidEql
import Derived.Stop.Asserts
import Derived.RowKitTokens
import Derived.Lib.IfaceEq
import Derived.Test.YtegnkfbnmepmpaaGreatDoorK3
import Derived.Test.YtegnkfbnmepmpaaGreatDoorK4
set_option maxRecDepth 100000
set_option linter.all false
open And renaming intro->fY
open BitVec renaming ofInt->lk
open Bool renaming false->ah,false->nH,true->ab,true->nG
open ByteArray renaming empty->aJ
open Go renaming method->GX
open Go.BinOp renaming and->CL
open Go.Extern.ReflectliteType renaming typeOf->axU
open Go.Instr renaming typeAssert->zV
open Go.IntKind renaming bits->cZ,i64->bW,u64->fh,wrap->Q
open Go.Proofs.Tryz renaming func219->ai8,ntmps219->ai9,prog->ar,underlying383->axV
open Go.Value renaming int->cg
open Int renaming fdiv->kQ,tdiv->fi,tmod->kf,toNat->X
open List renaming drop->iI,filter->M2,getD->eU,length->cY,map->ma,range->fM,range_succ->GY,replicate->au,take->aC,take_append_drop->Jy
open Max renaming max->uZ
open Min renaming min->aB
open Nat renaming add->qm,add_eq->ai_,beq->ap,sub->fj,succ->oy
open Option renaming map->gN,none->ae,some->O
open True renaming intro->gA
open UInt8 renaming ofNat->zW,toNat->M4
namespace Go.Proofs.YtegnkfbnmepmpaaGreatDoor
open Go Go.RowKit
def MX:=@ge_iff_le
def YQ:=@Go.Proofs.Tryz.underlying126
def aiu:=@GY
def aiU:=@List.filter_append
def aiv:=@List.nodup_range
def I8:=@List.getD_cons_zero
def Ed:=@List.take_length
theorem Qq{r:R2}{m y:Int}(h:(R r 4).2.2≠0):ij r m y=(r,[],(R r 4).2.2):=by grind [ij]
theorem Qp{r:R2}{m y:Int}(h:(R r 4).2.2=0)(x:m<ix r):ij r m y=(r,[],31):=by grind [ij]
theorem Qr{r:R2}{m y:Int}(h:(R r 4).2.2=0)(x:¬m<ix r):ij r m y=gh y (y.toNat+1) (R r 4).1 (2^(ix r).toNat) []:=by grind [ij]
theorem Um{r:R2}(h:(R r 4).2.2=0):5<=ix r/\ix r<=20:=by
 have T:=uL h;grind [T.v0,T.v1,ix]
theorem aKu(s:M)(b n m:Nat):lF s b (n+m)=lF s b n+lF s (b+n) m*2^n:=by grind [lF,Nat.mod_mul,Nat.div_div_eq_div_mul]
theorem arZ{s:M}{b:Int}(h1:s.size<=1048576)(h:0<=b)(x:b<=8*(s.size:Int)):lU s b=0:=by
 grind [lU]
theorem awm{r:R2}{n:Int}(h1:r.1.size<=1048576)(h:0<=r.2)(y:0<=n)(z:n<=32)(e:r.2+n<=8*(r.1.size:Int)):R r n=((r.1,r.2+n),((lF r.1 r.2.toNat n.toNat:Nat):Int),0):=by
 have x:kF r.1 r.2 n=0:=by unfold kF;rw[I (arZ h1 h Y),V Y]
 unfold R;rw[I (by unfold DV;rw[V Y];exact x)]
theorem aRS{r:R2}{n:Int}(h1:r.1.size<=1048576)(h:0<=r.2)(e:0<=n)(k:n<=32)(y:r.2<=8*(r.1.size:Int))(x:8*(r.1.size:Int)<r.2+n):R r n=((aJ,0),0,5):=by
 have z:kF r.1 r.2 n=0:=by unfold kF;rw[I (arZ h1 h y),V Y]
 have u:DV r.1 r.2 n=5:=by unfold DV;rw[I ⟨z,x⟩]
 grind [R]
theorem ahO{r:R2}{B:Int}(k:1<=B)(u:B<=13)(x:(R r (B-1)).2.2=0):
  ((R (R r (B-1)).1 1).2.2=0/\R r B=((R (R r (B-1)).1 1).1,(R r (B-1)).2.1+(R (R r (B-1)).1 1).2.1*2^(B-1).toNat,0))\/
  ((R (R r (B-1)).1 1).2.2≠0/\(R r B).2.2≠0):=by
 have T:=uL x;have b0:=T.b0;have b1:=T.b1;have sz:=T.sz;rw[T.rd];by_cases h:r.2+B<=8*(r.1.size:Int)
 ·left
  have z:R (r.1,r.2+(B-1)) 1=_:=awm (r:=(r.1,r.2+(B-1))) sz (by dsimp only;omega) Y Y (by dsimp only;omega);have y:R r B=_:=awm sz b0 Y Y h;rw[y,z,T.vl];refine⟨rfl,?_⟩;have e:B.toNat=(B-1).toNat+1:=Y;grind [aKu]
 ·grind [aRS]
def aBi:=agx.gE aOK Zc Tryz.func267 fun⟨n,s,b⟩ ⟨h,_⟩=>⟨aK,J (p:=al0 s b (R (s,b) n).2.2 (R (s,b) n).2.1 (R (s,b) n).1.2 (R (s,b) n).1.1) (by
 unfold al0 fQ a_ F1 Bq Cq Jq;grind)⟩
def aNR:=agK.gE aPv Zc Tryz.func245 fun⟨n,s,b⟩ ⟨h,_⟩=>⟨aK,J (p:=fQ s/\Bq ((R (s,b) n).2.2 !=0) (Vj (R (s,b) n) s b) (Cq ((R (s,b) n).2.2=0) (Jq (R (s,b) n).2.1/\Jq (R (s,b) n).1.1/\Jq (R (s,b) n).1.2/\a_) ((R (s,b) n).2.1=0/\(R (s,b) n).1.1=s/\(R (s,b) n).1.2=b/\(0:Int)=23))) (by
 unfold fQ a_ Vj Bq Cq Jq;grind)⟩
def Zd:=m.cons aBi<| .cons aNR<|Zc
def aBb:=agw.gE aOJ Zd Tryz.func218 fun⟨m,y,s,b⟩ ⟨hm,xR,Fk,hs,_⟩=>⟨(aHl m y (s,b)),J (p:=alS m y s b (Wq ((R (s,b) 4).2.1+5)) (ij (s,b) m y).1.2 (ij (s,b) m y).1.1 (ij (s,b) m y).2.1 (ij (s,b) m y) (Jq (ix (s,b))) (ix (s,b))) (by
 unfold alS aw jd o9 aF a_ AM F1 V0 P2 bF FQ vT aev lZ aeo aem o aq_ ael fQ ck cE PL lf Dq Bq Cq Wq Zq Jq;refine⟨fun g=>⟨hs,?_⟩,fun g=>⟨hs,by rw[Qq g];exact⟨fun h=>absurd h g,fun _=>by((repeat' (refine fY ?_ ?_))<;>first|rfl|exact gA|omega|(rw[wr Y Y];done)|(rw[wr Y Y];first|rfl|omega|(simp;done)))⟩⟩⟩;have t:=Um g;have X:Q bW ((R (s,b) 4).2.1+5)=ix (s,b):=wr (n:=ix (s,b)) Y Y;have T:=uL g;simp only[X,kC,dJ,dH];refine⟨fun q=>by rw[Qp g q];exact⟨fun h=>absurd h (by show¬(31:Int)=0;decide),fun _=>by((repeat' (refine fY ?_ ?_))<;>first|rfl|exact gA|omega|(rw[wr Y Y];done)|(rw[wr Y Y];first|rfl|omega|(simp;done)))⟩,fun q=>?_⟩;have hA:=Qr (y:=y) g q;have W:ix (s,b)<=12:=Y;simp only[sS (show 0<=ix (s,b)by omega) (show ix (s,b)<=62 by omega)];have B2:=Ie W;have p0:=jJ (ix (s,b)).toNat;generalize anU:ij (s,b) m y=fin at hA;refine⟨Y,⟨(y.toNat+1,(R (s,b) 4).1,2^(ix (s,b)).toNat,[]),⟨hA.symm,by simp;omega,by simp;omega,by dsimp only;omega,B2,by dsimp only;rw[T.rd];exact hs⟩,by((repeat' (refine fY ?_ ?_))<;>first|rfl|exact gA|omega|(rw[wr Y Y];done)|(rw[wr Y Y];first|rfl|omega|(simp;done)))⟩,?_⟩;rintro⟨f,⟨x,b1⟩,left,r⟩ ⟨k,hf,ho,K,l,A⟩;dsimp only at k hf ho K l A|-;refine⟨fun a=>?_,fun bA=>?_⟩
 ·obtain⟨f,rfl⟩:∃D,f=D+1:=⟨f-1,Y⟩
  have S:=ahb K l;have q1:=S.b1;have q2:=S.b2;have wB:Q bW (aM left-1)=aM left-1:=wr Y Y;simp only[wB,sS (show 0<=aM left-1 by omega) (show aM left-1<=62 by omega),UA];refine⟨Y,Y,fun u=>⟨A,(f+1,(x,b1),left,r),⟨fun c1=>⟨fun H=>?_,fun H=>?_⟩,fun c1=>?_⟩,?_⟩,fun u=>⟨A,?_⟩⟩
  ·have i:=uL u
   have N:aj2 (R (x,b1) (aM left-1)).1 1:=uL H;have a0:=i.v0;have a1:=i.v1;have c0:=N.v0;have c2:=N.v1;have db:=S.dbl;have lo:=S.lo;have hi:=S.hi;have et:=ahc left;have m12:=nQ (show(aM left-1).toNat<=12 by omega);have pp:=jJ (aM left-1).toNat;have L:(R (R (x,b1) (aM left-1)).1 1).2.1=0\/(R (R (x,b1) (aM left-1)).1 1).2.1=1:=by
    have:(2:Int)^(1:Int).toNat=2:=rfl;omega
   have aU9:0<=(R (R (x,b1) (aM left-1)).1 1).2.1*2^(aM left-1).toNat/\(R (R (x,b1) (aM left-1)).1 1).2.1*2^(aM left-1).toNat<=4096:=by
    rcases L with L|L<;>rw[L]<;>omega
   have Z:min (aM left-1).toNat (cZ bW)=(aM left-1).toNat:=by rw[Et];omega
   have V:¬(R (x,b1) (aM left-1)).2.1<rn left:=Y;have z:=Yc u V H;have w1:Q bW ((R (R (x,b1) (aM left-1)).1 1).2.1*2^(aM left-1).toNat)=(R (R (x,b1) (aM left-1)).1 1).2.1*2^(aM left-1).toNat:=wr Y Y;have w2:Q bW ((R (x,b1) (aM left-1)).2.1+(R (R (x,b1) (aM left-1)).1 1).2.1*2^(aM left-1).toNat)=(R (x,b1) (aM left-1)).2.1+(R (R (x,b1) (aM left-1)).1 1).2.1*2^(aM left-1).toNat:=wr Y Y;have w3:Q bW ((R (x,b1) (aM left-1)).2.1+(R (R (x,b1) (aM left-1)).1 1).2.1*2^(aM left-1).toNat-rn left)=(R (x,b1) (aM left-1)).2.1+(R (R (x,b1) (aM left-1)).1 1).2.1*2^(aM left-1).toNat-rn left:=wr Y Y;have G:(R (R (x,b1) (aM left-1)).1 1).1.1.size<=9223372036854775807:=by rw[N.rd,i.rd];exact A
   simp only[UA,Z,w1,w2,w3];refine⟨by rw[i.rd];exact A,Y,Y,fun c2=>?_,fun c2=>?_⟩
   ·have P:Ag left ((R (x,b1) (aM left-1)).2.1+(R (R (x,b1) (aM left-1)).1 1).2.1*2^(aM left-1).toNat)=(R (x,b1) (aM left-1)).2.1+(R (R (x,b1) (aM left-1)).1 1).2.1*2^(aM left-1).toNat-rn left:=by unfold Ag;rw[jS Y];rfl
    rw[P]at z;exact⟨(_,_),⟨z,k,a,l,G⟩,by((repeat' (refine fY ?_ ?_))<;>first|rfl|exact gA|omega|(rw[wr Y Y];done)|(rw[wr Y Y];first|rfl|omega|(simp;done)))⟩
   ·have P:Ag left ((R (x,b1) (aM left-1)).2.1+(R (R (x,b1) (aM left-1)).1 1).2.1*2^(aM left-1).toNat)=(R (x,b1) (aM left-1)).2.1+(R (R (x,b1) (aM left-1)).1 1).2.1*2^(aM left-1).toNat:=by unfold Ag;rw[iW Y];rfl
    rw[P]at z;exact⟨(_,_),⟨z,k,a,l,G⟩,by((repeat' (refine fY ?_ ?_))<;>first|rfl|exact gA|omega|(rw[wr Y Y];done)|(rw[wr Y Y];first|rfl|omega|(simp;done)))⟩
  ·have i:=uL u
   have c:(R (R (x,b1) (aM left-1)).1 1).2.2≠0:=H;have z:=aif u Y c;refine⟨by rw[i.rd];exact A,?_⟩;rw[<-k,Mg a (by rw[z];exact c),z];exact⟨fun h=>absurd h c,fun _=>by((repeat' (refine fY ?_ ?_))<;>first|rfl|exact gA|omega|(rw[wr Y Y];done)|(rw[wr Y Y];first|rfl|omega|(simp;done)))⟩
  ·have V:(R (x,b1) (aM left-1)).2.1<rn left:=Y
   have z:=aie u V;have i:=uL u;exact⟨((R (x,b1) (aM left-1)).1,(R (x,b1) (aM left-1)).2.1),⟨z,k,a,l,by dsimp only;rw[i.rd];exact A⟩,by((repeat' (refine fY ?_ ?_))<;>first|rfl|exact gA|omega|(rw[wr Y Y];done)|(rw[wr Y Y];first|rfl|omega|(simp;done)))⟩
  ·rintro⟨r',v⟩ ⟨z,_,_,_,fB⟩
   dsimp only at z fB|-;have VV:=Q0 K l z;have v0:=VV.v0;have v1:=VV.v1;have wv:Q bW (v-1)=v-1:=wr Y Y;have wm:Q bW (left-max (v-1) 1)=left-max (v-1) 1:=wr Y Y;simp only[wv,wm];refine⟨fun t=>?_,fun t=>⟨Y,fun oO=>?_,fun oO=>?_⟩⟩
   ·rw[<-k,Qt a z t]
    exact⟨fun h=>absurd h (by show¬(23:Int)=0;decide),fun _=>by((repeat' (refine fY ?_ ?_))<;>first|rfl|exact gA|omega|(rw[wr Y Y];done)|(rw[wr Y Y];first|rfl|omega|(simp;done)))⟩
   ·have B:v≠1:=by simpa using oO
    have cn:(r.length:Int)≠y:=by simpa using t
    rw[Qu a z t B]at k;refine⟨(f,r',left-max (v-1) 1,r++ [v-1]),⟨k,?_,?_,by(try dsimp only);omega,by(try dsimp only);omega,fB⟩,by show f<f+1;omega,by((repeat' (refine fY ?_ ?_))<;>first|rfl|exact gA|omega|(rw[wr Y Y];done)|(rw[wr Y Y];first|rfl|omega|(simp;done)))⟩
    ·simp only[gn,rG];omega
    ·simp only[gn,rG];omega
   ·have B:v=1:=by simpa using oO
    have cn:(r.length:Int)≠y:=by simpa using t
    subst B;rw[Qv a z t]at k;refine⟨(f,left),⟨(3,y.toNat+1,r',r++ [1-1]),⟨k,?_,?_,?_,fB⟩,by((repeat' (refine fY ?_ ?_))<;>first|rfl|exact gA|omega|(rw[wr Y Y];done)|(rw[wr Y Y];first|rfl|omega|(simp;done)))⟩,?_⟩
    ·intro _
     simp only[gn,rG];omega
    ·simp only[gn,rG];omega
    ·simp only[gn,rG];omega
    rintro⟨more,d,w,C⟩ ⟨I,M,k2,k3,F⟩;dsimp only at I M k2 k3 F|-;refine⟨fun E=>?_,fun E=>?_⟩
    ·have U:more=3:=by simpa using E
     subst U;obtain⟨d,rfl⟩:∃D,d=D+1:=⟨d-1,by have:=M rfl;omega⟩;have j:yP y f left (kg y (d+1) w C)=fin:=I
     try simp only[UA]
     have M:=M rfl;refine⟨fun e=>⟨F,?_⟩,fun e=>⟨F,?_⟩⟩
     ·have T3:=uL e
      have u0:=T3.v0;have u1:=T3.v1;have e4:(2:Int)^(2:Int).toNat=4:=rfl;have wl:Q bW ((C.length:Int)+(R w 2).2.1)=(C.length:Int)+(R w 2).2.1:=wr Y Y;simp only[wl,qR];refine⟨fun q=>?_,fun q=>⟨Y,Y,Y,?_⟩⟩
      ·rw[N6 e q,Hi (by show¬(23:Int)=0;decide)]at j
       rw[<-j];exact⟨fun h=>absurd h (by show¬(23:Int)=0;decide),fun _=>by((repeat' (refine fY ?_ ?_))<;>first|rfl|exact gA|omega|(rw[wr Y Y];done)|(rw[wr Y Y];first|rfl|omega|(simp;done)))⟩
      ·rw[N7 e q]at j
       refine⟨((R w 2).2.1,d,(R w 2).1,C++au (R w 2).2.1.toNat 0),⟨j,?_,?_,?_,by dsimp only;rw[T3.rd];exact F⟩,?_,by((repeat' (refine fY ?_ ?_))<;>first|rfl|exact gA|omega|(rw[wr Y Y];done)|(rw[wr Y Y];first|rfl|omega|(simp;done)))⟩
       ·dsimp only
        intro E;rw[E];simp only[gn,qR];omega
       ·simp only[gn,qR];omega
       ·simp only[gn,qR];omega
       ·show(cond ((R w 2).2.1==3) (d+1) 0)<d+1+1
        cases(R w 2).2.1==3
        ·simp only[iw];omega
        ·simp only[bo];omega
     ·rw[N5 e,Hi e]at j
      rw[<-j];exact⟨fun h=>absurd h e,fun _=>by((repeat' (refine fY ?_ ?_))<;>first|rfl|exact gA|omega|(rw[wr Y Y];done)|(rw[wr Y Y];first|rfl|omega|(simp;done)))⟩
    ·have U:(more==3)=ah:=E
     rw[U]at I;have j:gh y f w left C=fin:=I;exact⟨(f,w,left,C),⟨j,k2,k3,K,l,F⟩,by show f<f+1;omega,by((repeat' (refine fY ?_ ?_))<;>first|rfl|exact gA|omega|(rw[wr Y Y];done)|(rw[wr Y Y];first|rfl|omega|(simp;done)))⟩
  ·have z:=aid u
   rw[<-k,Mg a (by rw[z];exact u),z];exact⟨fun h=>absurd h u,fun _=>by((repeat' (refine fY ?_ ?_))<;>first|rfl|exact gA|omega|(rw[wr Y Y];done)|(rw[wr Y Y];first|rfl|omega|(simp;done)))⟩
 ·obtain⟨f,rfl⟩:∃D,f=D+1:=⟨f-1,Y⟩
  rw[Qs bA]at k;rw[<-k];exact⟨fun _=>by((repeat' (refine fY ?_ ?_))<;>first|rfl|exact gA|omega|(rw[wr Y Y];done)|(rw[wr Y Y];first|rfl|omega|(simp;done))),fun h=>absurd rfl h⟩)⟩
def aOa:=agL.gE aPw Zd Tryz.func286 fun⟨g,s,b⟩ ⟨v,g0,g1,_⟩=>⟨aK,J (p:=atK g s b) (by
 have S:=ahb g0 g1;have e:=S.b1;have k:=S.b2;have lo:=S.lo;have hi:=S.hi;have A:=S.dbl;have et:=ahc g;have j:=nQ (show(aM g).toNat<=13 by omega);have B:=jJ (aM g-1).toNat;have a:Q bW (g+1)=g+1:=wr Y Y;have f:Q bW (aM g-1)=aM g-1:=wr Y Y;have m:aS (g+1)+1=aM g:=rfl;have o:Q fh (aM g)=aM g:=fW Y Y;have q:Q fh (aM g-1)=aM g-1:=fW Y Y;have t:Q bW (2^(aM g).toNat-1)=2^(aM g).toNat-1:=wr Y Y;have l:Q bW (2^(aM g).toNat-1- (g+1))=rn g:=wr (n:=rn g) Y Y;unfold atK atL nu fQ a_ fU bF aeD fG jd lZ Vj ay ad' Dq Bq Cq Wq Uq;simp only[a,m,f,o,q,sS (show 0<=aM g by omega) (show aM g<=62 by omega),t,l,sS (show 0<=aM g-1 by omega) (show aM g-1<=62 by omega),dJ,dH,MX];have no:((0:Int) !=0)=ah:=rfl;have i:((23:Int) !=0)=ab:=rfl;refine⟨Y,Y,fun y=>⟨v,fun h=>absurd (no▸h) H,fun _=>⟨fun c=>?_,fun c=>⟨fun u=>⟨v,Y,fun d=>?_,fun d=>?_⟩,fun u=>⟨v,Y,fun d=>?_,fun d=>?_⟩⟩⟩⟩,fun y=>⟨v,fun _=>?_,fun h=>absurd (i▸h) H⟩⟩
 ·rw[aie y c]
  exact⟨fun _=>by((repeat' (refine fY ?_ ?_))<;>first|rfl|exact gA|omega|(rw[wr Y Y];done)|(rw[wr Y Y];first|rfl|omega|(simp;done))),fun h=>absurd rfl h⟩
 ·rcases ahO e k y with⟨z,x⟩|⟨z,x⟩
  ·rw[x]at d|-
   rw[Yc y c z];have w:Ag g ((R (s,b) (aM g-1)).2.1+(R (R (s,b) (aM g-1)).1 1).2.1*2^(aM g-1).toNat)=(R (s,b) (aM g-1)).2.1+(R (R (s,b) (aM g-1)).1 1).2.1*2^(aM g-1).toNat-rn g:=by unfold Ag;rw[jS d];rfl
   rw[w];have T:=uL (r:=(s,b)) (n:=aM g) u;have v1:=T.v1;rw[x]at v1;dsimp only at d v1|-;rw[wr Y Y];exact⟨fun _=>by((repeat' (refine fY ?_ ?_))<;>first|rfl|exact gA|omega|(rw[wr Y Y];done)|(rw[wr Y Y];first|rfl|omega|(simp;done))),fun h=>absurd rfl h⟩
  ·exact absurd u x
 ·rcases ahO e k y with⟨z,x⟩|⟨z,x⟩
  ·rw[x]at d|-
   rw[Yc y c z];have w:Ag g ((R (s,b) (aM g-1)).2.1+(R (R (s,b) (aM g-1)).1 1).2.1*2^(aM g-1).toNat)=(R (s,b) (aM g-1)).2.1+(R (R (s,b) (aM g-1)).1 1).2.1*2^(aM g-1).toNat:=by unfold Ag;rw[iW d];rfl
   rw[w];exact⟨fun _=>by((repeat' (refine fY ?_ ?_))<;>first|rfl|exact gA|omega|(rw[wr Y Y];done)|(rw[wr Y Y];first|rfl|omega|(simp;done))),fun h=>absurd rfl h⟩
  ·exact absurd u x
 ·omega
 ·rcases ahO e k y with⟨z,x⟩|⟨z,x⟩
  ·exact absurd (by rw[x]) u
  ·rw[aif y c z]
   exact⟨fun h=>absurd h z,fun _=>by((repeat' (refine fY ?_ ?_))<;>first|rfl|exact gA|omega|(rw[wr Y Y];done)|(rw[wr Y Y];first|rfl|omega|(simp;done)))⟩
 ·rw[aid y]
  exact⟨fun h=>absurd h y,fun _=>by((repeat' (refine fY ?_ ?_))<;>first|rfl|exact gA|omega|(rw[wr Y Y];done)|(rw[wr Y Y];first|rfl|omega|(simp;done)))⟩)⟩
def ajs:=m.cons aBb<| .cons aOa<|Zd
def Xq:Spec where
 ι:=Int
 dec l H:=match l with
  | [.v .nilIface,.fm 23 (.v (.int .i64 k))]=>O (k,[])
  |_=>ae
 args:=fun k=>[.v .nilIface,.fm 23 (B k)]
 out:=fun k=>.leaf (fN ah) []
theorem aO4:Xq.dn:=fun l H n i x h=>by simp only[Xq]at h;split at h<;>cases h;exact⟨rfl,rfl⟩
def Xr:Spec where
 ι:=Int×Int
 dec l H:=match l with
  | [.fm 343 (.ag [.fm 23 (.v (.int .i64 e))]),.fm 23 (.v (.int .i64 k))]=>O ((e,k),[])
  |_=>ae
 args:=fun(e,k)=>[.fm 343 (.ag [.fm 23 (B e)]),.fm 23 (B k)]
 out:=fun(e,k)=>.leaf (fN (e==k)) []
theorem aO5:Xr.dn:=fun l H n i x h=>by simp only[Xr]at h;split at h<;>cases h;exact⟨rfl,rfl⟩
def agJ:Spec where
 ι:=Int×Int×M×Int
 dec l H:=match l with
  | [.p l0 0 0,.v (.int .i64 g),.v (.int .i64 y)]=>match H l0 with
    |some (.cells 320 [.v (.string s),.v (.int .i64 b),.v (.int .i64 0)])=>O ((g,y,s,b),[l0])
    |_=>ae
  |_=>ae
 args:=fun(g,y,s,b)=>[U 0,B g,B y]
 hp:=fun(g,y,s,b)=>[(0,.cells 320 [aD s,B b,B 0])]
 pre:=fun(g,y,s,b)=>[E (s.size<=9223372036854775807),E (0<=g),E (g<=4096),E (1<=y),E (y<=256),E (0<=b),E (b<=8388608)]
 out:=fun(g,y,s,b)=>.ite (E ((gh y (y.toNat+1) (s,b) g []).2.2=0)) (.leaf (.bZ (.ints .i64 (gh y (y.toNat+1) (s,b) g []).2.1)) [(0,xC (gh y (y.toNat+1) (s,b) g []).1 0)]) (.leaf (dm []) [(0,.cells 320 [.any,.any,B 23])])
theorem aPu:agJ.dn:=by
 intro l H n i x h;simp only[agJ]at h
 repeat' split at h
 all_goals first|(cases h;done)|(cases h;exact⟨rfl,rfl⟩)|(cases h;refine⟨rfl,?_⟩;simp only[dK,iF,iN,gN, *];rfl)
def aPz:Spec:=Sp (M×Int×Int×Int) [.s,.i,.i,.i] fun(s,a,m,y)=>([E (s.size<=1000000)],aE (.tu [.ag [.v (.int .i64 (readF 2000 s a m y).1.1),.bZ (.ints .i64 (readF 2000 s a m y).1.2)],.v (.int .i64 (readF 2000 s a m y).2.1),.ag [.v (.int .i64 (readF 2000 s a m y).2.2.1),.v (.int .i64 (readF 2000 s a m y).2.2.2)]]))
def aPA:Spec:=Sp (M×Int×Int×Int) [.s,.i,.i,.i] fun(s,a,m,y)=>([E (s.size<=1000000)],aE (.tu [.ag [.v (.int .i64 (readF 600 s a m y).1.1),.bZ (.ints .i64 (readF 600 s a m y).1.2)],.v (.int .i64 (readF 600 s a m y).2.1),.ag [.v (.int .i64 (readF 600 s a m y).2.2.1),.v (.int .i64 (readF 600 s a m y).2.2.2)]]))
def oP1(y:Int)(h:R2×N×Int):dV:=bi (Nat×R2×Int×N) fun x=>(gh y x.1 x.2.1 x.2.2.1 x.2.2.2=h/\y+1<=x.1+x.2.2.2.length/\x.2.2.2.length<=y/\0<=x.2.2.1/\x.2.2.1<=4096/\x.2.1.1.size<=9223372036854775807/\0<=x.2.1.2/\x.2.1.2<=8388608,[(0,U 0),(1,B x.2.2.1),(2,B y),(7,.o 1003)],[(0,xC x.2.1 0),(1003,.row 3 (.ints .i64 x.2.2.2))],x.1)
def oP2(y:Int)(h:R2×N×Int)(g:Nat×Int):dV:=bi (Bool×Nat×R2×N) fun x=>(yP y g.1 g.2 (cond x.1 (kg y x.2.1 x.2.2.1 x.2.2.2) (x.2.2.1,x.2.2.2,0))=h/\(x.1=ab->y+1<=x.2.1+x.2.2.2.length)/\y+1<=g.1+x.2.2.2.length/\x.2.2.2.length<=y/\x.2.2.1.1.size<=9223372036854775807/\0<=x.2.2.1.2/\x.2.2.1.2<=8388608,[(0,U 0),(1,B g.2),(2,B y),(7,.o 1003),(9,fN x.1)],[(0,xC x.2.2.1 0),(1003,.row 3 (.ints .i64 x.2.2.2))],cond x.1 (x.2.1+1) 0)
def aH6(y:Int)(h:R2×N×Int):bO:=omg [(0,.one (oP1 y h)),(1,.nk (Nat×Int) (oP2 y h))]
def tD(h0:Int)(h1:Nat×Int)(h:Bool×Nat×R2×N)(x:M)(y z:Int):Prop:=yP h0 h1.1 h1.2 (bif h.1 then kg h0 h.2.1 h.2.2.1 h.2.2.2 else(h.2.2.1,(h.2.2.2,0)))=gh h0 (h0.toNat+1) (x,y) z []/\(h.1=ab->h0+1<=Zq h.2.1+Zq h.2.2.2.length)/\h0+1<=Zq h1.1+Zq h.2.2.2.length/\Zq h.2.2.2.length<=h0/\h.2.2.1.1.size<=9223372036854775807/\0<=h.2.2.1.2/\h.2.2.1.2<=8388608
def aeA(h0:R2×Int×Int)(h1:Bool×Nat×R2×N)(o a:Int)(h s u x t l b c:Prop)(v:Int)(w d i f:Prop)(j:Nat)(g m:Prop)(p:Int)(n q y z e k r:Prop):Prop:=lZ h0.2.2 (h1.2.2.1.1.size<=9223372036854775807) (Bq ((0:Int)==0) (Dq (Wq o>a) (Bq ((23:Int) !=0) (Cq h s u) (x/\t)) (Bq ((0:Int) !=0) (Cq h l b) (x/\c))) (Bq ((0:Int) !=0) (Cq (v=0) (w/\d) (i/\f)) (j<=65536/\g/\m))) (Bq ((23:Int)==0) (Dq (Wq p>a) (Bq ((23:Int) !=0) (Cq h n u) (x/\q)) (Bq ((23:Int) !=0) (Cq h n u) (x/\y))) (Bq ((23:Int) !=0) (Cq (v=0) (w/\z) (i/\e)) (j<=65536/\k/\r)))
def Ig(h0:Nat×Int)(h1:Int)(h x:Bool×Nat×R2×N):Prop:=aw h0.2 (h1=h1) (((0:Int)==3)=h.1/\x.2.2.1.1=h.2.2.1.1/\x.2.2.1.2=h.2.2.1.2/\(23:Int)=0/\x.2.2.2++au (X 0) (0:Int)=h.2.2.2)
def aea(h0:Nat×Int)(h1:Int)(h:R2×Int×Int)(x:Bool×Nat×R2×N)(y z:Int)(e k:Prop):Prop:=aw h0.2 (h1=h1) ((h.2.1==3)=x.1/\h.1.1=x.2.2.1.1/\y=z/\e/\k)
def aq4(h0:Nat×Int)(h1:Int)(h x:Bool×Nat×R2×N)(y:R2×Int×Int):Prop:=aea h0 h1 (R (h.2.2.1.1,h.2.2.1.2) 2) x y.1.2 x.2.2.1.2 ((0:Int)=0) (h.2.2.2++au y.2.1.toNat (0:Int)=x.2.2.2)
def Lp(h0:R2×N×Int)(h1:R2×Int×Int)(h:Prop):Prop:=h0.2.1.length=0/\h1.1.1=h0.1.1/\h1.1.2=h0.1.2/\h
def aeh(h0:Int)(h1:R2×N×Int)(x:Int)(y:Nat)(z:Int)(e:M)(k:Int)(r:N):Prop:=∃(h:Nat×R2×Int×N),(gh h0 h.1 h.2.1 h.2.2.1 h.2.2.2=h1/\x<=Zq h.1+o h.2.2.2/\o h.2.2.2<=h0/\0<=h.2.2.1/\h.2.2.1<=4096/\fQ h.2.1.1/\0<=h.2.1.2/\h.2.1.2<=8388608)/\h.1<y/\z=h.2.2.1/\h0=h0/\e=h.2.1.1/\k=h.2.1.2/\(0:Int)=0/\r=h.2.2.2
def aep(h0:Nat×Int)(h1:Int)(h x:Bool×Nat×R2×N)(y:R2×Int×Int):Prop:=aea h0 h1 (R (h.2.2.1.1,h.2.2.1.2) 2) x y.1.2 x.2.2.1.2 ((23:Int)=0) (h.2.2.2++au y.2.1.toNat (0:Int)=x.2.2.2)
def PX(h0:Nat×Int)(h1:Int)(h x:Bool×Nat×R2×N):Prop:=aq4 h0 h1 h x (R (h.2.2.1.1,h.2.2.1.2) 2)
def aeT(h0:R2×N×Int)(h1:Bool×Nat×R2×N):Prop:=ck h0.2.1/\h1.2.2.1.1=h0.1.1/\h1.2.2.1.2=h0.1.2/\(23:Int)=0
def aeY(h0:R2×Int×Int)(h1:R2×N×Int):Prop:=h0.1.1=h1.1.1/\h0.1.2=h1.1.2/\(0:Int)=0
def ae9(h0:Bool×Nat×R2×N)(h1:R2×N×Int):Prop:=h0.2.2.1.1=h1.1.1/\h0.2.2.1.2=h1.1.2/\(23:Int)=0
def ae'(h0:Int)(h1:M)(x y:Int)(h:Bool×Nat×R2×N):Prop:=Lp (gh h0 (h0.toNat+1) (h1,x) y []) (R (h.2.2.1.1,h.2.2.1.2) 2) ((23:Int)=0)
def afa(h0:Int)(h1:Nat×R2×Int×N):Prop:=P2 h0 h1 (fQ h1.2.1.1/\0<=h1.2.1.2/\h1.2.1.2<=8388608)
def afc(h0:Int):Prop:=[h0].all (fun(h:Int)=>decide (h<=65536))=ab
def Qa(h0:Nat×R2×Int×N)(h1:R2×N×Int)(h:Prop):Prop:=h0.2.1.1=h1.1.1/\h0.2.1.2=h1.1.2/\h
def as7(g y:Int)(s:M)(b:Int)(D P:Prop)(i:Int)(p:N)(j:R2×N×Int)(h x:Prop):Prop:=(∃(z:Nat×R2×Int×N),(FQ y z=j/\afa y z)/\g=z.2.2.1/\y=y/\s=z.2.1.1/\b=z.2.1.2/\a_/\ck z.2.2.2)/\(∀(x1:Nat×R2×Int×N),FQ y x1=j/\afa y x1->Dq (x1.2.2.1>0) (Bq ((0:Int)==0) (lZ (dW (x1.2.1.1,x1.2.1.2) x1.2.2.1).2.2 (fQ x1.2.1.1) (aF x1.2.2.1 (x1.2.2.1<=4096) (aF x1.2.1.2 (x1.2.1.2<=9000000) (Bq ((0:Int) !=0) (Cq D (Lp j (dW (x1.2.1.1,x1.2.1.2) x1.2.2.1) a_) ((0:Nat)=0/\(0:Int)=23)) (Bq (o x1.2.2.2==y) (Cq D (Lp j (dW (x1.2.1.1,x1.2.1.2) x1.2.2.1) ((23:Int)=0)) h) (lf x1.2.2.2/\tH [bF (dW (x1.2.1.1,x1.2.1.2) x1.2.2.1).2.1]/\afc (bF (dW (x1.2.1.1,x1.2.1.2) x1.2.2.1).2.1)/\(∃(g2:Nat×Int),(∃(k:Bool×Nat×R2×N),tD y g2 k s b g/\Wq (x1.2.2.1-ie [bF (dW (x1.2.1.1,x1.2.1.2) x1.2.2.1).2.1])=g2.2/\y=y/\(bF (dW (x1.2.1.1,x1.2.1.2) x1.2.2.1).2.1==0)=k.1/\(dW (x1.2.1.1,x1.2.1.2) x1.2.2.1).1.1=k.2.2.1.1/\(dW (x1.2.1.1,x1.2.1.2) x1.2.2.1).1.2=k.2.2.1.2/\a_/\x1.2.2.2++ [bF (dW (x1.2.1.1,x1.2.1.2) x1.2.2.1).2.1]=k.2.2.2)/\(∀(x4:Bool×Nat×R2×N),tD y g2 x4 s b g->Bq x4.1 (aeA (R (x4.2.2.1.1,x4.2.2.1.2) 2) x4 (o x4.2.2.2+(R (x4.2.2.1.1,x4.2.2.1.2) 2).2.1) y D (ae' y s b g x4) h (tH x4.2.2.2) ((R (x4.2.2.1.1,x4.2.2.1.2) 2).2.1<=65536/\(∃(d:Bool×Nat×R2×N),tD y g2 d s b g/\(match d.fst with|nG=>d.snd.fst+(1:Nat)|nH=>(0:Nat))<(match x4.fst with|nG=>x4.snd.fst+(1:Nat)|nH=>(0:Nat))/\aep g2 y x4 d (R (x4.2.2.1.1,x4.2.2.1.2) 2))) (Lp j (R (x4.2.2.1.1,x4.2.2.1.2) 2) a_) ((0:Nat)=0/\(0:Int)=23) ((R (x4.2.2.1.1,x4.2.2.1.2) 2).2.1<=65536/\(∃(f:Bool×Nat×R2×N),tD y g2 f s b g/\(match f.fst with|nG=>f.snd.fst+(1:Nat)|nH=>(0:Nat))<(match x4.fst with|nG=>x4.snd.fst+(1:Nat)|nH=>(0:Nat))/\PX g2 y x4 f)) i P (aeY (R (x4.2.2.1.1,x4.2.2.1.2) 2) j) ((0:Nat)=0) ((0:Int)=23) x4.2.2.2.length ((R (x4.2.2.1.1,x4.2.2.1.2) 2).2.1<=65536) (∃(m:Bool×Nat×R2×N),tD y g2 m s b g/\(match m.fst with|nG=>m.snd.fst+(1:Nat)|nH=>(0:Nat))<(match x4.fst with|nG=>x4.snd.fst+(1:Nat)|nH=>(0:Nat))/\PX g2 y x4 m) (o x4.2.2.2+0) (aeT j x4) (x/\(∃(q:Bool×Nat×R2×N),tD y g2 q s b g/\(match q.fst with|nG=>q.snd.fst+(1:Nat)|nH=>(0:Nat))<(match x4.fst with|nG=>x4.snd.fst+(1:Nat)|nH=>(0:Nat))/\Ig g2 y q x4)) (x/\(∃(t:Bool×Nat×R2×N),tD y g2 t s b g/\(match t.fst with|nG=>t.snd.fst+(1:Nat)|nH=>(0:Nat))<(match x4.fst with|nG=>x4.snd.fst+(1:Nat)|nH=>(0:Nat))/\Ig g2 y t x4)) (ae9 x4 j) ((23:Int)=23) x (∃(r:Bool×Nat×R2×N),tD y g2 r s b g/\(match r.fst with|nG=>r.snd.fst+(1:Nat)|nH=>(0:Nat))<(match x4.fst with|nG=>x4.snd.fst+(1:Nat)|nH=>(0:Nat))/\Ig g2 y r x4)) (aeh y j (y+1) x1.1 g2.2 x4.2.2.1.1 x4.2.2.1.2 x4.2.2.2)))))))) (aF x1.2.2.1 (x1.2.2.1<=4096) (aF x1.2.1.2 (x1.2.1.2<=9000000) (Bq ((23:Int) !=0) (Cq D (P/\Qa x1 j ((23:Int)=0)) h) (Bq (o x1.2.2.2==y) (Cq D (P/\Qa x1 j ((23:Int)=0)) h) (lf x1.2.2.2/\tH [Wq (0-1)]/\afc (Wq (0-1))/\(∃(g12:Nat×Int),(∃(e:Bool×Nat×R2×N),tD y g12 e s b g/\Wq (x1.2.2.1-ie [Wq (0-1)])=g12.2/\y=y/\(Wq (0-1)==0)=e.1/\x1.2.1.1=e.2.2.1.1/\x1.2.1.2=e.2.2.1.2/\(23:Int)=0/\x1.2.2.2++ [Wq (0-1)]=e.2.2.2)/\(∀(L:Bool×Nat×R2×N),tD y g12 L s b g->Bq L.1 (aeA (R (L.2.2.1.1,L.2.2.1.2) 2) L (o L.2.2.2+(R (L.2.2.1.1,L.2.2.1.2) 2).2.1) y D (ae' y s b g L) h (tH L.2.2.2) ((R (L.2.2.1.1,L.2.2.1.2) 2).2.1<=65536/\(∃(u:Bool×Nat×R2×N),tD y g12 u s b g/\(match u.fst with|nG=>u.snd.fst+(1:Nat)|nH=>(0:Nat))<(match L.fst with|nG=>L.snd.fst+(1:Nat)|nH=>(0:Nat))/\aep g12 y L u (R (L.2.2.1.1,L.2.2.1.2) 2))) (Lp j (R (L.2.2.1.1,L.2.2.1.2) 2) a_) ((0:Nat)=0/\(0:Int)=23) ((R (L.2.2.1.1,L.2.2.1.2) 2).2.1<=65536/\(∃(v:Bool×Nat×R2×N),tD y g12 v s b g/\(match v.fst with|nG=>v.snd.fst+(1:Nat)|nH=>(0:Nat))<(match L.fst with|nG=>L.snd.fst+(1:Nat)|nH=>(0:Nat))/\PX g12 y L v)) i P (aeY (R (L.2.2.1.1,L.2.2.1.2) 2) j) ((0:Nat)=0) ((0:Int)=23) L.2.2.2.length ((R (L.2.2.1.1,L.2.2.1.2) 2).2.1<=65536) (∃(w:Bool×Nat×R2×N),tD y g12 w s b g/\(match w.fst with|nG=>w.snd.fst+(1:Nat)|nH=>(0:Nat))<(match L.fst with|nG=>L.snd.fst+(1:Nat)|nH=>(0:Nat))/\PX g12 y L w) (o L.2.2.2+0) (aeT j L) (x/\(∃(n:Bool×Nat×R2×N),tD y g12 n s b g/\(match n.fst with|nG=>n.snd.fst+(1:Nat)|nH=>(0:Nat))<(match L.fst with|nG=>L.snd.fst+(1:Nat)|nH=>(0:Nat))/\Ig g12 y n L)) (x/\(∃(a:Bool×Nat×R2×N),tD y g12 a s b g/\(match a.fst with|nG=>a.snd.fst+(1:Nat)|nH=>(0:Nat))<(match L.fst with|nG=>L.snd.fst+(1:Nat)|nH=>(0:Nat))/\Ig g12 y a L)) (ae9 L j) ((23:Int)=23) x (∃(c:Bool×Nat×R2×N),tD y g12 c s b g/\(match c.fst with|nG=>c.snd.fst+(1:Nat)|nH=>(0:Nat))<(match L.fst with|nG=>L.snd.fst+(1:Nat)|nH=>(0:Nat))/\Ig g12 y c L)) (aeh y j (y+1) x1.1 g12.2 L.2.2.1.1 L.2.2.1.2 L.2.2.2))))))))) (Cq D (x1.2.2.2=p/\Qa x1 j a_) (x1.2.2.2= []/\(0:Int)=23))) (Cq D (x1.2.2.2=p/\Qa x1 j a_) (x1.2.2.2= []/\(0:Int)=23)))
def U1(h0:R2×N×Int):Int×Int:=mo (h0.1.1,h0.1.2)
def x_(h0:(Int×N)×Int×Int×Int)(h1:Prop):Prop:=0=h0.1.1/\ck h0.1.2/\0=h0.2.1/\h1
def DF(h0:Int)(h1:Int×Int)(h:(Int×N)×Int×Int×Int):Prop:=Wq (h0+h1.1)=h.2.1/\0=h.2.2.1/\0=h.2.2.2
def WA(h0:(Int×N)×Int×Int×Int):Prop:=2=h0.2.2.1/\0=h0.2.2.2
def L7(h0:(Int×N)×Int×Int×Int)(h1:Int):Prop:=23=h0.2.2.1/\h1=h0.2.2.2
def Qg(h0:(Int×N)×Int×Int×Int)(h1:Int):Prop:=31=h0.2.2.1/\h1=h0.2.2.2
def asc(s:M)(a m y D:Int)(P:N×Int)(i:R2×N×Int)(p j:Prop)(h:M×Int)(z:Prop)(e:Int)(x:(Int×N)×Int×Int×Int):Prop:=Dq (a<0) j (Dq (a>ak s) j (Dq (m<5) j (Dq (m>12) j (Dq (y<1) j (Dq (y>256) j (aF a (a<=e) (e<=ak s/\lZ D (m<=12) (1<=y/\y<=256/\z/\Bq ah p (fQ i.1.1/\ix h=x.1.1/\P.1=x.1.2/\DF a (U1 i) x)) (1<=y/\y<=256/\z/\Bq (D==31) p (x_ x (L7 x a))))))))))
def aeq(h0:R2×Int×Int)(h1:Int)(h:Prop):Prop:=0<=jd (Uq (Wq (5+h0.2.1))) .i64/\jd (Uq (Wq (5+h0.2.1))) .i64<=4096/\1<=h1/\h1<=256/\0<=h0.1.2/\h0.1.2<=8388608/\h
def asd(s:M)(a m y:Int)(D P i j z:Prop)(W:Int)(e:Int×Int)(h k:Prop)(x:Int):Prop:=Dq (a<0) h (Dq (a>ak s) h (Dq (m<5) h (Dq (m>12) h (Dq (y<1) h (Dq (y>256) h (aF a (a<=x) (x<=ak s/\lZ e.2 k (Bq ((0:Int)==0) (Dq (W>m) (Bq ((31:Int)==0) (z/\jL i) i) D) D) (Bq ((23:Int)==0) (Dq (Wq (5+0)>m) (Bq ((31:Int)==0) (fU (Wq (5+0))/\jL j) j) P) P))))))))
theorem aKR(p:Int):ie [p]=pt p:=by simp[ie]
theorem aqT(p:Int)(h: -1<=p):p<=pt p/\(p≠0->pt p=max p 1)/\(p=0->pt p=0):=by
 grind [pt]
end Go.Proofs.YtegnkfbnmepmpaaGreatDoor
namespace Go.Proofs.YtegnkfbnmepmpaaGreatDoor
open Go.RowKit Go.Extern.Stop Go.Stop Go.Extern
theorem aFC(v:Value)(w:World):(axU #[.iface 23 v]).run ar w=.ok (.iface 360 (.agg #[.pointer (O ⟨2,23,ae⟩)])) w:=ax
def alu:Array Value->Sem Value:=Extern.ReflectliteType.method fun t=>do Go.Extern.Rtype.noPackHeld "Comparable" t;pure (.bool (<-typeInfo t).comparable)
theorem aFx(w:World):(alu #[.agg #[.pointer (O ⟨2,23,ae⟩)]]).run ar w=.ok (.bool ab) w:=ax
theorem aFz(v:Value)(w:World):(GX 304 360 v "Comparable").run ar w=.ok (361,v) w:=ax
theorem aGW(v:Value)(w:World):(zV (.iface 343 v) 126 383 ab).run ar w=.ok (.tuple #[.nilIface,.bool ah]) w:=MT axV ax ax v _ w
theorem aGX(v:Value)(w:World):(zV (.iface 23 v) 126 383 ab).run ar w=.ok (.tuple #[.nilIface,.bool ah]) w:=MT axV ax ax v _ w
theorem aGY(v:Value)(w:World):(zV (.iface 23 v) 126 367 ab).run ar w=.ok (.tuple #[.nilIface,.bool ah]) w:=MT aiQ ax ax v _ w
theorem aG0(v:Value)(w:World):(zV (.iface 23 v) 126 369 ab).run ar w=.ok (.tuple #[.nilIface,.bool ah]) w:=MT Tryz.underlying369 ax ax v _ w
theorem aDx(v:Value)(w:World):(zV (.iface 343 v) 126 367 ab).run ar w=.ok (.tuple #[.iface 343 v,.bool ab]) w:=run_typeAssert_hasB aiQ ax v _ w
theorem aGC(v:Value)(w:World):(GX 367 343 v "Unwrap").run ar w=.ok (358,v) w:=ax
theorem eqE(a b:Int)(w:World):(binOp .eql 126 (.iface 23 (.int .i64 a)) (.iface 23 (.int .i64 b))).run ar w=.ok (.bool (a==b)) w:=Lib.run_eql_iface_int w a b YQ ax Tryz.underlying23
theorem aFE(k:Int)(w:World):Calls ar 219 #[.nilIface,.iface 23 (.int .i64 k)] w fun e w'=>e=.returned (.bool ah)/\w'=w:=by
 have hn:=run_eql_iface_nil_left (P:=ar) w 23 (.int .i64 k) YQ
 go_enter ai8,ai9
 go_wp2
 go_ret
 exact⟨rfl,rfl⟩
theorem aFD(e k:Int)(w:World):Calls ar 219 #[.iface 343 (.agg #[.iface 23 (.int .i64 e)]),.iface 23 (.int .i64 k)] w fun x w'=>x=.returned (.bool (e==k))/\Below w.heap.size w w':=by
 have h8:=@uW ar 269 _ axU Tryz.func269 ax ax ax ax;have Ti:=@uW ar 361 _ alu Tryz.func361 ax ax ax ax;have tT:=aFC;have cT:=aFx;have mR:=aFz;have n1:=aGW;have n2:=aGX;have n3:=aGY;have n4:=aG0;have n5:=aDx;have n6:=aGC;have hq:=eqE e k;have hty:=run_eql_iface_types (P:=ar) 343 23 (.agg #[.iface 23 (.int .i64 e)]) (.int .i64 k) YQ H;cases hb:(e==k)
 ·rw[hb]at hq
  go_enter ai8,ai9
  go_wp2
  refine GN 2 ?_;rw[yE]
  go_wp2
  rw[yE]
  go_wp2
  go_ret
  exact⟨rfl,by go_grown⟩
 ·rw[hb]at hq
  go_enter ai8,ai9
  go_wp2
  refine GN 2 ?_;rw[yE]
  go_wp2
  rw[yE]
  go_wp2
  go_ret
  exact⟨rfl,by go_grown⟩
end Go.Proofs.YtegnkfbnmepmpaaGreatDoor
namespace Go.Proofs.YtegnkfbnmepmpaaGreatDoor
open Go Go.RowKit
structure RR (r r':R2):Prop where
 st:r'.1=r.1
 lo:r.2<=r'.2
 hi:r'.2<=8*(r.1.size:Int)
theorem amK{y:Int}:∀(f:Nat) (r:R2) (x:N),(kg y f r x).2.2=0->RR r (kg y f r x).1
 |0,r,x,h=>by simp[kg]at h
 |f+1,r,x,h=>by
  by_cases e:(R r 2).2.2=0
  ·have T:=uL e
   have b0:=T.b0;have b1:=T.b1;by_cases w:y<x.length+(R r 2).2.1
   ·grind [N6]
   ·rw[N7 e w]at h|-
    cases u:(R r 2).2.1==3
    ·rw[u]at h
     simp only[iw];rw[T.rd];exact⟨rfl,by dsimp only;omega,b1⟩
    ·rw[u]at h
     simp only[bo]at h|-;obtain⟨z,v,k⟩:=amK f _ _ h;rw[T.rd]at z v k;dsimp only at z v k;rw[T.rd];exact⟨z,Y,k⟩
  ·grind [N5]
theorem afS{y:Int}:∀(f:Nat) (r:R2) (left:Int) (x:N),0<=left->left<=4096->r.2<=8*(r.1.size:Int)->(gh y f r left x).2.2=0->RR r (gh y f r left x).1
 |0,r,left,x,h0,h1,a,h=>by simp[gh]at h
 |f+1,r,left,x,h0,h1,a,h=>by
  by_cases k:0<left
  ·by_cases e:(dW r left).2.2=0
   ·obtain⟨j,v,w⟩:∃j v,dW r left=(j,v,0):=⟨_,_,by rw[<-e]⟩
    have z:=Q0 h0 h1 w;have v0:=z.v0;have v1:=z.v1;have n:=z.st;have d:=z.b1;have vl:=z.bl;cases b:((x.length:Int)==y)
    ·by_cases oO:v=1
     ·subst oO
      rw[Qv k w b]at h|-;by_cases u:(kg y (y.toNat+1) j (x++ [1-1])).2.2=0
      ·rw[aap u]at h|-
       obtain⟨i,g,c⟩:=amK _ _ _ u;rw[n]at i c;obtain⟨p1,p2,p3⟩:=afS f _ _ _ h0 h1 (by rw[i];exact c) h;rw[i]at p1 p3;exact⟨p1,Y,p3⟩
      ·rw[Hi u]at h;exact absurd h u
     ·rw[Qu k w b oO]at h|-
      obtain⟨p1,p2,p3⟩:=afS f _ _ _ Y Y (by rw[n];exact d) h;rw[n]at p1 p3;exact⟨p1,Y,p3⟩
    ·grind [Qt]
   ·rw[Mg k e]at h;exact absurd h e
  ·rw[Qs k]
   exact⟨rfl,jj _,a⟩
theorem WU{r:R2}{m y:Int}(w:m<=12)(h:(ij r m y).2.2=0):RR r (ij r m y).1/\0<=r.2/\r.1.size<=1048576:=by
 by_cases e:(R r 4).2.2=0
 ·have T:=uL e
  have b0:=T.b0;have b1:=T.b1;by_cases k:m<ix r
  ·grind [Qp]
  ·rw[Qr e k]at h|-
   have u:=Ie (g:=ix r) Y;have i:=jJ (ix r).toNat;obtain⟨x,v,z⟩:=afS _ _ _ _ Y u (by rw[T.rd];exact b1) h;rw[T.rd]at x v z;rw[T.rd];exact⟨⟨x,Y,z⟩,b0,T.sz⟩
 ·grind [Qq]
theorem UC{r x:R2}(h:RR r x)(h0:0<=r.2)(h1:r.1.size<=1048576):0<=(mo x).1/\(mo x).1<=1048577:=by
 have l:=h.lo;have i:=h.hi;grind [mo]
theorem sK{w:Int}{s:M}{a m y:Int}(h:sN s a m y=ab):readF w s a m y=((0,[]),0,2,0):=by grind [readF]
theorem IG{w:Int}{s:M}{a m y:Int}(h:sN s a m y=ah)(x:(ij (ga s a w,0) m y).2.2=0):readF w s a m y=((ix (ga s a w,0),(ij (ga s a w,0) m y).2.1),a+(mo (ij (ga s a w,0) m y).1).1,0,0):=by grind [readF]
theorem Co{w:Int}{s:M}{a m y:Int}(h:sN s a m y=ah)(x:(ij (ga s a w,0) m y).2.2≠0):readF w s a m y=((0,[]),0,cond ((ij (ga s a w,0) m y).2.2==31) 31 23,a):=by grind [readF]
theorem af7{s:M}{a m y:Int}(h1:¬a<0)(h:¬(s.size:Int)<a)(x:¬m<5)(z:¬12<m)(e:¬y<1)(k:¬256<y):sN s a m y=ah:=by grind [sN]
theorem zF{s:M}{a m y:Int}(h:a<0\/(s.size:Int)<a\/m<5\/12<m\/y<1\/256<y):sN s a m y=ab:=by grind [sN]
theorem aw2(s:M)(a w:Int)(h:0<=a):(ga s a w).size<=s.size:=by grind [ga,ByteArray.size_extract]
theorem ahP(r:R2)(n:Int):(R r n).2.2≠31:=by grind [DV,kF,lU,R]
theorem aSo(r:R2)(left:Int):(dW r left).2.2≠31:=by grind [dW,ahP]
theorem amJ{y:Int}:∀(f:Nat) (r:R2) (h:N),(kg y f r h).2.2≠31
 |0,r,h=>by simp[kg]
 |f+1,r,h=>by
  unfold kg;cases((R r 2).2.2==0)
  ·exact ahP _ _
  ·cases decide (y<h.length+(R r 2).2.1)
   ·cases((R r 2).2.1==3)
    ·simp
    ·exact amJ f _ _
   ·simp
theorem afQ{y:Int}:∀(f:Nat) (r:R2) (left:Int) (x:N),(gh y f r left x).2.2≠31
 |0,r,left,x=>by simp[gh]
 |f+1,r,left,x=>by
  unfold gh;cases decide (0<left)
  ·simp
  ·cases((dW r left).2.2==0)
   ·exact aSo _ _
   ·cases((x.length:Int)==y)
    ·cases((dW r left).2.1==1)
     ·exact afQ f _ _ _
     ·cases h:((kg y (y.toNat+1) (dW r left).1 (x++ [(dW r left).2.1-1])).2.2==0)
      ·grind [amJ]
      ·exact afQ f _ _ _
    ·simp
theorem aFu:Sound ar 219 Xq.iY:=Xq.sound ax aO4 fun k _=>ag' (fun w=>(aFE k w).mono fun e w' h=>by
 obtain⟨h,rfl⟩:=h;exact⟨h,Below.refl _ _⟩) rfl rfl
theorem aFv:Sound ar 219 Xr.iY:=Xr.sound ax aO5 fun⟨e,k⟩ _=>ag' (fun w=>aFD e k w) rfl rfl
def aNc:=agJ.gE aPu ajs Tryz.func246 fun⟨g,y,s,b⟩ ⟨hs,g0,g1,xR,Fk,Aj,po,_⟩=>⟨(aH6 y (gh y (y.toNat+1) (s,b) g [])),J (p:=as7 g y s b ((gh y (y.toNat+1) (s,b) g []).2.2=0) (ck (gh y (y.toNat+1) (s,b) g []).2.1) (gh y (y.toNat+1) (s,b) g []).2.2 (gh y (y.toNat+1) (s,b) g []).2.1 (gh y (y.toNat+1) (s,b) g []) ((0:Nat)=0/\(23:Int)=23) ((0:Int)<=65536)) (by
 unfold as7 Qa afc afa aF ae' a_ ae9 aeY aeT P2 bF FQ PX aeA lZ tH aep ck aeh o fQ tD Lp aq4 aea Ig aw lf Dq Bq Cq Wq Zq;generalize K:gh y (y.toNat+1) (s,b) g []=fin;simp only[e00,n00,e23,n23,Hp,n31,Jl,rz,zQ,Jn,eq_self,xo,sZ,ql,kC,MX,dJ,dH,toNat_cast];refine⟨⟨(y.toNat+1,(s,b),g,[]),⟨K,by simp;omega,by simp;omega,g0,g1,hs,Aj,po⟩,by((repeat' (refine fY ?_ ?_))<;>first|rfl|exact gA|omega|(rw[wr Y Y];done)|(rw[wr Y Y];first|rfl|omega|(simp;done)))⟩,?_⟩;rintro⟨f,⟨w,b1⟩,left,q⟩ ⟨k,hf,ho,B,C,E,H,Om⟩;dsimp only at k hf ho B C E H Om|-;obtain⟨f,rfl⟩:∃a,f=a+1:=⟨f-1,Y⟩;refine⟨fun D=>⟨fun j=>⟨E,B,C,H,Y,fun c=>?_,fun c=>?_⟩,fun j=>?_⟩,fun bA=>?_⟩
 ·have n:dW (w,b1) left=((dW (w,b1) left).1,(dW (w,b1) left).2.1,0):=by rw[<-j]
  rw[<-k,Qt D n c];exact⟨fun h=>absurd h (by show¬(23:Int)=0;decide),fun _=>by trivial⟩
 ·have Dl:dW (w,b1) left=((dW (w,b1) left).1,(dW (w,b1) left).2.1,0):=by rw[<-j]
  obtain⟨F,v,n⟩:∃F v,dW (w,b1) left=(F,v,0):=⟨_,_,Dl⟩;clear Dl j;have i:=Q0 B C n;have v0:=i.v0;have v1:=i.v1;have N:=i.b0;have P:=i.b1;have S:=i.sz;have t:=i.st;dsimp only at P S t;have cn:(q.length:Int)≠y:=by simpa using c
  have wv:Q bW (v-1)=v-1:=wr Y Y;have L:=aqT (v-1) Y;have aU_:=UW (v-1);have wm:Q bW (left-pt (v-1))=left-pt (v-1):=wr Y Y;have M:F.1.size<=9223372036854775807:=by rw[t];exact E
  simp only[n,wv,aKR,wm];refine⟨Y,aj,by simp only[List.all_cons,List.all_nil,Bool.and_true,decide_eq_true_eq];omega,(f,left-pt (v-1)),⟨(v-1==0,y.toNat+1,F,q++ [v-1]),⟨?_,?_,?_,?_,M,N,by(try dsimp only);omega⟩,by((repeat' (refine fY ?_ ?_))<;>first|rfl|exact gA|omega|(rw[wr Y Y];done)|(rw[wr Y Y];first|rfl|omega|(simp;done)))⟩,?_⟩
  ·dsimp only
   cases T:(v-1==0)
   ·have oO:v≠1:=by have:v-1≠0:=by simpa using T
                    omega
    rw[Qu D n c oO]at k;rw[<-L.2.1 Y]at k;exact k
   ·have oO:v-1=0:=by simpa using T
    have Dm:v=1:=Y;subst Dm;rw[Qv D n c]at k;have:pt (1-1)=0:=rfl;rw[this,Int.sub_zero];exact k
  ·intro _
   simp only[gn,rG];omega
  ·simp only[gn,rG];omega
  ·simp only[gn,rG];omega
  ·rintro⟨G,z,x,u⟩ ⟨l,d,U,k3,m,V,W⟩
   dsimp only at l d U k3 m V W|-;refine⟨fun A=>⟨fun e=>?_,fun e=>?_⟩,fun A=>?_⟩
   ·subst A
    have d:=d rfl;obtain⟨z,rfl⟩:∃a,z=a+1:=⟨z-1,Y⟩;have r:yP y f (left-pt (v-1)) (kg y (z+1) x u)=fin:=l;have e:(R x 2).2.2=0:=e;have T3:=uL e;have u0:=T3.v0;have u1:=T3.v1;have ub0:=T3.b0;have ub1:=T3.b1;have usz:=T3.sz;have e4:(2:Int)^(2:Int).toNat=4:=rfl;have wl:Q bW ((u.length:Int)+(R x 2).2.1)=(u.length:Int)+(R x 2).2.1:=wr Y Y;simp only[wl];refine⟨m,fun I=>?_,fun I=>⟨Y,by show(R x 2).2.1<=65536;omega,?_⟩⟩
    ·rw[N6 e I,Hi (by show¬(23:Int)=0;decide)]at r
     rw[<-r];exact⟨fun h=>absurd h (by show¬(23:Int)=0;decide),fun _=>by trivial⟩
    ·rw[N7 e I]at r
     refine⟨((R x 2).2.1==3,z,(R x 2).1,u++au (R x 2).2.1.toNat 0),⟨r,?_,?_,?_,by dsimp only;rw[T3.rd];exact m,by dsimp only;rw[T3.rd];dsimp only;omega,by dsimp only;rw[T3.rd];dsimp only;omega⟩,?_,by((repeat' (refine fY ?_ ?_))<;>first|rfl|exact gA|omega|(rw[wr Y Y];done)|(rw[wr Y Y];first|rfl|omega|(simp;done)))⟩
     ·dsimp only
      intro X;have Z:(R x 2).2.1=3:=by simpa using X
      rw[Z];simp only[gn,qR];omega
     ·simp only[gn,qR];omega
     ·simp only[gn,qR];omega
     ·show(cond ((R x 2).2.1==3) (z+1) 0)<z+1+1
      cases(R x 2).2.1==3
      ·simp only[iw];omega
      ·simp only[bo];omega
   ·subst A
    have d:=d rfl;obtain⟨z,rfl⟩:∃a,z=a+1:=⟨z-1,Y⟩;have r:yP y f (left-pt (v-1)) (kg y (z+1) x u)=fin:=l;have e:(R x 2).2.2≠0:=e;rw[N5 e,Hi e]at r;rw[<-r];exact⟨m,fun h=>absurd h e,fun _=>by trivial⟩
   ·subst A
    have r:gh y f x (left-pt (v-1)) u=fin:=l;exact⟨(f,x,left-pt (v-1),u),⟨r,U,k3,by(try dsimp only);omega,by(try dsimp only);omega,m,V,W⟩,by show f<f+1;omega,by((repeat' (refine fY ?_ ?_))<;>first|rfl|exact gA|omega|(rw[wr Y Y];done)|(rw[wr Y Y];first|rfl|omega|(simp;done)))⟩
 ·rw[<-k,Mg D j]
  exact⟨E,B,C,H,Y,fun h=>absurd h j,fun _=>by trivial⟩
 ·rw[Qs bA]at k
  rw[<-k];exact⟨fun _=>by((repeat' (refine fY ?_ ?_))<;>first|rfl|exact gA|omega|(rw[wr Y Y];done)|(rw[wr Y Y];first|rfl|omega|(simp;done))),fun h=>absurd rfl h⟩)⟩
def Ze:=m.cons (adT aFu aFv)<| .cons aNc<|ajs
def aLT:=aPz.gd Ze Tryz.func164 fun⟨s,a,m,y⟩ ⟨f,_⟩=>⟨aK,J (p:=asc s a m y (ij (cU s a (aB (ak s) (Wq (a+2000))),0) m y).2.2 (ij (cU s a (aB (ak s) (Wq (a+2000))),0) m y).2 (ij (cU s a (aB (ak s) (Wq (a+2000))),0) m y) (x_ (readF 2000 s a m y) (Qg (readF 2000 s a m y) a)) (x_ (readF 2000 s a m y) (WA (readF 2000 s a m y))) (cU s a (aB (ak s) (Wq (a+2000))),0) (fQ (cU s a (aB (ak s) (Wq (a+2000))))) (aB (ak s) (Wq (a+2000))) (readF 2000 s a m y)) (by
 unfold asc Qg L7 WA fQ aF DF x_ lZ ck ak cU U1 Dq Bq Cq Wq Zq;simp only[e00,n00,e23,n23,Hp,n31,Jl,rz,zQ,Jn,eq_self,xo,sZ,ql,kC,MX,dJ,dH,toNat_cast];refine⟨fun h=>by rw[sK (zF (.inl h))];((repeat' (refine fY ?_ ?_))<;>first|rfl|exact gA|omega|(rw[wr Y Y];done)|(rw[wr Y Y];first|rfl|omega|(simp;done))),fun u=>⟨fun h=>by rw[sK (zF (.inr (.inl h)))];((repeat' (refine fY ?_ ?_))<;>first|rfl|exact gA|omega|(rw[wr Y Y];done)|(rw[wr Y Y];first|rfl|omega|(simp;done))),fun v=>⟨fun h=>by rw[sK (zF (.inr (.inr (.inl h))))];((repeat' (refine fY ?_ ?_))<;>first|rfl|exact gA|omega|(rw[wr Y Y];done)|(rw[wr Y Y];first|rfl|omega|(simp;done))),fun w=>⟨fun h=>by rw[sK (zF (.inr (.inr (.inr (.inl h)))))];((repeat' (refine fY ?_ ?_))<;>first|rfl|exact gA|omega|(rw[wr Y Y];done)|(rw[wr Y Y];first|rfl|omega|(simp;done))),fun i=>⟨fun h=>by rw[sK (zF (.inr (.inr (.inr (.inr (.inl h))))))];((repeat' (refine fY ?_ ?_))<;>first|rfl|exact gA|omega|(rw[wr Y Y];done)|(rw[wr Y Y];first|rfl|omega|(simp;done))),fun j=>⟨fun h=>by rw[sK (zF (.inr (.inr (.inr (.inr (.inr h))))))];((repeat' (refine fY ?_ ?_))<;>first|rfl|exact gA|omega|(rw[wr Y Y];done)|(rw[wr Y Y];first|rfl|omega|(simp;done))),fun n=>?_⟩⟩⟩⟩⟩⟩;have z:=af7 u v w i j n;have b:Q bW (a+2000)=a+2000:=wr Y Y;have g:=aw2 s a 2000 Y;have x:s.extract a.toNat (min (s.size:Int) (a+2000)).toNat=ga s a 2000:=rfl;simp only[b,x];refine⟨Y,Y,Y,fun e=>⟨Y,Y,Y,Y,?_⟩,fun e=>⟨Y,Y,Y,Y,fun Hp=>?_,fun Hp=>?_⟩⟩
 ·rw[IG z e]
  obtain⟨S,r,c⟩:=WU Y e;have d:=UC S r c;refine⟨by rw[S.st];dsimp only;omega,?_⟩;have k:Q bW (a+(mo (ij (ga s a 2000,0) m y).1).1)=a+(mo (ij (ga s a 2000,0) m y).1).1:=wr Y Y;exact⟨rfl,rfl,k,rfl,rfl⟩
 ·rw[Co z e,Hp]
  exact⟨rfl,rfl,rfl,rfl,rfl⟩
 ·rw[Co z e,Hp]
  exact⟨rfl,rfl,rfl,rfl,rfl⟩)⟩
def aLU:=aPA.gd Ze Tryz.func189 fun⟨s,a,m,y⟩ ⟨E,_⟩=>⟨aK,J (p:=asd s a m y (Bq ((0:Int)==0) (fU (Wq (5+(R (cU s a (aB (ak s) (Wq (a+600))),0) 4).2.1))/\lZ (gh y (y.toNat+1) (vT (R (cU s a (aB (ak s) (Wq (a+600))),0) 4)) (fG (Wq (5+(R (cU s a (aB (ak s) (Wq (a+600))),0) 4).2.1))) []).2.2 (fQ (R (cU s a (aB (ak s) (Wq (a+600))),0) 4).1.1) (aeq (R (cU s a (aB (ak s) (Wq (a+600))),0) 4) y (Bq ((0:Int) !=0) (x_ (readF 600 s a m y) (0=(readF 600 s a m y).2.2.1/\a=(readF 600 s a m y).2.2.2)) (fQ (gh y (y.toNat+1) (vT (R (cU s a (aB (ak s) (Wq (a+600))),0) 4)) (fG (Wq (5+(R (cU s a (aB (ak s) (Wq (a+600))),0) 4).2.1))) []).1.1/\Wq (5+(R (cU s a (aB (ak s) (Wq (a+600))),0) 4).2.1)=(readF 600 s a m y).1.1/\(gh y (y.toNat+1) (vT (R (cU s a (aB (ak s) (Wq (a+600))),0) 4)) (fG (Wq (5+(R (cU s a (aB (ak s) (Wq (a+600))),0) 4).2.1))) []).2.1=(readF 600 s a m y).1.2/\DF a (U1 (gh y (y.toNat+1) (vT (R (cU s a (aB (ak s) (Wq (a+600))),0) 4)) (fG (Wq (5+(R (cU s a (aB (ak s) (Wq (a+600))),0) 4).2.1))) [])) (readF 600 s a m y)))) (aeq (R (cU s a (aB (ak s) (Wq (a+600))),0) 4) y (Bq ((23:Int) !=0) (x_ (readF 600 s a m y) (L7 (readF 600 s a m y) a)) (jL (jL (Wq (5+(R (cU s a (aB (ak s) (Wq (a+600))),0) 4).2.1)=(readF 600 s a m y).1.1/\([]:N)=(readF 600 s a m y).1.2/\False/\0=(readF 600 s a m y).2.2.1/\0=(readF 600 s a m y).2.2.2)))))) (Bq ((0:Int) !=0) (x_ (readF 600 s a m y) (0=(readF 600 s a m y).2.2.1/\a=(readF 600 s a m y).2.2.2)) (fQ (R (cU s a (aB (ak s) (Wq (a+600))),0) 4).1.1/\Wq (5+(R (cU s a (aB (ak s) (Wq (a+600))),0) 4).2.1)=(readF 600 s a m y).1.1/\ck (readF 600 s a m y).1.2/\DF a (mo (vT (R (cU s a (aB (ak s) (Wq (a+600))),0) 4))) (readF 600 s a m y)))) (Bq ((23:Int)==0) (fU (Wq (5+0))/\jL (Bq ((23:Int) !=0) (x_ (readF 600 s a m y) (L7 (readF 600 s a m y) a)) (fQ (cU s a (aB (ak s) (Wq (a+600))))/\Wq (5+0)=(readF 600 s a m y).1.1/\ck (readF 600 s a m y).1.2/\DF a (mo (cU s a (aB (ak s) (Wq (a+600))),0)) (readF 600 s a m y)))) (Bq ((23:Int) !=0) (x_ (readF 600 s a m y) (L7 (readF 600 s a m y) a)) (fQ (cU s a (aB (ak s) (Wq (a+600))))/\Wq (5+0)=(readF 600 s a m y).1.1/\ck (readF 600 s a m y).1.2/\DF a (mo (cU s a (aB (ak s) (Wq (a+600))),0)) (readF 600 s a m y)))) (Bq ((31:Int) !=0) (x_ (readF 600 s a m y) (Qg (readF 600 s a m y) a)) (fQ (R (cU s a (aB (ak s) (Wq (a+600))),0) 4).1.1/\Wq (5+(R (cU s a (aB (ak s) (Wq (a+600))),0) 4).2.1)=(readF 600 s a m y).1.1/\ck (readF 600 s a m y).1.2/\DF a (mo (vT (R (cU s a (aB (ak s) (Wq (a+600))),0) 4))) (readF 600 s a m y))) (Bq ((31:Int) !=0) (x_ (readF 600 s a m y) (Qg (readF 600 s a m y) a)) (fQ (cU s a (aB (ak s) (Wq (a+600))))/\Wq (5+0)=(readF 600 s a m y).1.1/\ck (readF 600 s a m y).1.2/\DF a (mo (cU s a (aB (ak s) (Wq (a+600))),0)) (readF 600 s a m y))) (fU (Wq (5+(R (cU s a (aB (ak s) (Wq (a+600))),0) 4).2.1))) (Wq (5+(R (cU s a (aB (ak s) (Wq (a+600))),0) 4).2.1)) (R (cU s a (aB (ak s) (Wq (a+600))),0) 4).2 (x_ (readF 600 s a m y) (WA (readF 600 s a m y))) (fQ (cU s a (aB (ak s) (Wq (a+600))))) (aB (ak s) (Wq (a+600)))) (by
 unfold asd Qg L7 WA fQ aF DF fU vT fG jL x_ aeq jd lZ ck ak cU U1 Dq Bq Cq Wq Uq Zq;simp only[e00,n00,e23,n23,Hp,n31,Jl,rz,zQ,Jn,eq_self,xo,sZ,ql,kC,MX,dJ,dH,toNat_cast];refine⟨fun h=>by rw[sK (zF (.inl h))];((repeat' (refine fY ?_ ?_))<;>first|rfl|exact gA|omega|(rw[wr Y Y];done)|(rw[wr Y Y];first|rfl|omega|(simp;done))),fun c=>⟨fun h=>by rw[sK (zF (.inr (.inl h)))];((repeat' (refine fY ?_ ?_))<;>first|rfl|exact gA|omega|(rw[wr Y Y];done)|(rw[wr Y Y];first|rfl|omega|(simp;done))),fun d=>⟨fun h=>by rw[sK (zF (.inr (.inr (.inl h))))];((repeat' (refine fY ?_ ?_))<;>first|rfl|exact gA|omega|(rw[wr Y Y];done)|(rw[wr Y Y];first|rfl|omega|(simp;done))),fun f=>⟨fun h=>by rw[sK (zF (.inr (.inr (.inr (.inl h)))))];((repeat' (refine fY ?_ ?_))<;>first|rfl|exact gA|omega|(rw[wr Y Y];done)|(rw[wr Y Y];first|rfl|omega|(simp;done))),fun o=>⟨fun h=>by rw[sK (zF (.inr (.inr (.inr (.inr (.inl h))))))];((repeat' (refine fY ?_ ?_))<;>first|rfl|exact gA|omega|(rw[wr Y Y];done)|(rw[wr Y Y];first|rfl|omega|(simp;done))),fun q=>⟨fun h=>by rw[sK (zF (.inr (.inr (.inr (.inr (.inr h))))))];((repeat' (refine fY ?_ ?_))<;>first|rfl|exact gA|omega|(rw[wr Y Y];done)|(rw[wr Y Y];first|rfl|omega|(simp;done))),fun t=>?_⟩⟩⟩⟩⟩⟩;have r:=af7 c d f o q t;have A:Q bW (a+600)=a+600:=wr Y Y;have F:=aw2 s a 600 Y;have u:s.extract a.toNat (min (s.size:Int) (a+600)).toNat=ga s a 600:=rfl;simp only[A,u];refine⟨Y,Y,Y,fun e=>⟨Y,?_⟩,fun e=>⟨Y,?_⟩⟩
 ·have C:=Um e
  have w:Q bW (5+(R (ga s a 600,0) 4).2.1)=ix (ga s a 600,0):=by
   rw[Int.add_comm];exact wr (n:=ix (ga s a 600,0)) Y Y
  simp only[w];refine⟨fun v=>?_,fun v=>?_⟩
  ·have x:=Qp (y:=y) e v
   rw[Co r (by rw[x];show(31:Int)≠0;decide),x];exact⟨rfl,rfl,rfl,rfl,rfl⟩
  ·have x:=Qr (y:=y) e v
   have l:Q fh (ix (ga s a 600,0))=ix (ga s a 600,0):=fW Y Y;simp only[l,sS (g:=ix (ga s a 600,0)) Y Y,UA];have T:=uL e;have j:(R (ga s a 600,0) 4).1.1=ga s a 600:=by rw[T.rd]
   have I:(R (ga s a 600,0) 4).1.2=4:=by rw[T.rd];rfl
   have H:=Ie (g:=ix (ga s a 600,0)) Y;have G:=jJ (ix (ga s a 600,0)).toNat;refine⟨Y,fun k=>⟨by rw[j];omega,Y,Y,Y,Y,Y,Y,?_⟩,fun k=>⟨by rw[j];omega,Y,Y,Y,Y,Y,Y,?_⟩⟩
   ·rw[<-x]at k|-
    rw[IG r k];obtain⟨S,b,B⟩:=WU Y k;have D:=UC S b B;refine⟨by rw[S.st];dsimp only;omega,?_⟩;have i:Q bW (a+(mo (ij (ga s a 600,0) m y).1).1)=a+(mo (ij (ga s a 600,0) m y).1).1:=wr Y Y;exact⟨rfl,rfl,i,rfl,rfl⟩
   ·have z:((ij (ga s a 600,0) m y).2.2==31)=ah:=by rw[x];simpa using afQ _ _ _ _
    rw[<-x]at k;rw[Co r k,z];exact⟨rfl,rfl,rfl,rfl,rfl⟩
 ·have x:=Qq (m:=m) (y:=y) e
  have z:((ij (ga s a 600,0) m y).2.2==31)=ah:=by rw[x];simpa using ahP _ _
  rw[Co r (by rw[x];exact e),z];exact⟨rfl,rfl,rfl,rfl,rfl⟩)⟩
def ayv:=m.cons aLT<| .cons aLU<|Ze
theorem asb(s:M)(a m y:Int)(z:s.size<=600):readF 2000 s a m y=readF 600 s a m y:=by
 cases h:sN s a m y
 ·have x:=h
  unfold sN at x;simp only[qS,dH]at x;have:ga s a 2000=ga s a 600:=by unfold ga;rw[show min (s.size:Int) (a+2000)=s.size by omega,show min (s.size:Int) (a+600)=s.size by omega]
  unfold readF;rw[this]
 ·rw[sK h,sK h]
theorem amI{y:Int}:∀(f:Nat) (r:R2) (x:N),(kg y f r x).2.2=0->((kg y f r x).2.1.length:Int)<=y
 |0,r,x,h=>by simp[kg]at h
 |f+1,r,x,h=>by
  by_cases e:(R r 2).2.2=0
  ·have v0:=(uL e).v0
   by_cases z:y<x.length+(R r 2).2.1
   ·rw[N6 e z]at h;exact absurd h (by show¬(23:Int)=0;decide)
   ·rw[N7 e z]at h|-
    cases k:(R r 2).2.1==3
    ·simp only[iw,gn,qR]
     omega
    ·rw[k]at h
     exact amI f _ _ h
  ·rw[N5 e]at h;exact absurd h e
theorem afP{y:Int}:∀(f:Nat) (r:R2) (left:Int) (x:N),0<=left->left<=4096->(x.length:Int)<=y->(gh y f r left x).2.2=0->((gh y f r left x).2.1.length:Int)<=y
 |0,r,left,x,l0,l1,n,h=>by simp[gh]at h
 |f+1,r,left,x,l0,l1,n,h=>by
  by_cases z:0<left
  ·by_cases e:(dW r left).2.2=0
   ·obtain⟨i,v,k⟩:∃i v,dW r left=(i,v,0):=⟨_,_,by rw[<-e]⟩
    have j:=Q0 l0 l1 k;have v0:=j.v0;have v1:=j.v1;cases u:((x.length:Int)==y)
    ·have a:(x.length:Int)≠y:=by simpa using u
     by_cases oO:v=1
     ·subst oO
      rw[Qv z k u]at h|-;by_cases w:(kg y (y.toNat+1) i (x++ [1-1])).2.2=0
      ·rw[aap w]at h|-
       exact afP f _ _ _ l0 l1 (amI _ _ _ w) h
      ·rw[Hi w]at h;exact absurd h w
     ·rw[Qu z k u oO]at h|-
      exact afP f _ _ _ Y Y (by simp only[gn,rG];omega) h
    ·rw[Qt z k u]at h;exact absurd h (by show¬(23:Int)=0;decide)
   ·rw[Mg z e]at h;exact absurd h e
  ·rw[Qs z];exact n
theorem afN{r:R2}{m y:Int}(u:m<=12)(v:1<=y)(h:(ij r m y).2.2=0):((ij r m y).2.1.length:Int)<=y:=by
 by_cases e:(R r 4).2.2=0
 ·by_cases x:m<ix r
  ·rw[Qp e x]at h;exact absurd h (by show¬(31:Int)=0;decide)
  ·rw[Qr e x]at h|-
   have k:=Um e;have z:=Ie (g:=ix r) Y;have w:=jJ (ix r).toNat;exact afP _ _ _ _ Y z (by simpa using(Y:(0:Int)<=y)) h
 ·rw[Qq e]at h;exact absurd h e
theorem asa(w:Int)(s:M)(a m y:Int):(readF w s a m y).1.2.length<=4294967296:=by
 cases h:sN s a m y
 ·have x:=h
  unfold sN at x;simp only[qS,dH]at x;obtain⟨⟨⟨⟨⟨z,k⟩,r⟩,u⟩,v⟩,i⟩:=x;by_cases e:(ij (ga s a w,0) m y).2.2=0
  ·rw[IG h e]
   have:=afN Y Y e;dsimp only;omega
  ·rw[Co h e]
   simp
 ·rw[sK h]
  simp
def rh(s:M):Int:=u s ((s.size:Int)-1)
def i_(s:M):Bool:=(s.size:Int)==0||rh s==0
def aR(s:M):Int:=cond (i_ s) (-1) (8*((s.size:Int)-1)+aS (rh s))
def gD(s:M):Int:=cond (i_ s) 22 0
def ia(s:M):Int:=cond (i_ s) 0 (aR s)
def kG(s:M):M:=cond (i_ s) aJ s
def mv(s:M)(l:Int):Int:=if i_ s=ab\/l<0\/aR s<l then 10 else 0
def kW(s:M)(l n:Int):Int:=if mv s l=0 then(if n<0\/32<n then 2 else 0)else 10
def iQ(s:M)(k:Int):Int:=if k<0 then 0 else u s (k/8)/2^(k%8).toNat%2
def iD(s:M)(l:Int):Nat->Int
 |0=>0
 |i+1=>2*iD s l i+iQ s (l-1- (i:Nat))
def zj(s:M)(l n:Int):Int:=if kW s l n=0 then iD s l n.toNat else 0
def gx(s:M)(l n:Int):Int:=if kW s l n=0 then(if l<n then 5 else 0)else kW s l n
def dw(s:M)(l n:Int):M:=if gx s l n=0 then s else aJ
def dQ(s:M)(l n:Int):Int:=if gx s l n=0 then l-n else 0
def cm(s:M)(l n:Int):Int:=if gx s l n=0 then iD s l n.toNat else 0
def qZ:N->Int
 | []=>0
 |x::r=>cond (x==0) (qZ r) x
def Pc:M:=⟨(([0,1]++au 2 2++au 4 3++au 8 4++au 16 5++au 32 6++au 64 7++au 128 8:List UInt8)).toArray⟩
def Cy(s:M):Nat:=(aS (rh s)).toNat
def aPJ:Spec:=Sp (Bool×Int) [.b,.i] fun(c,e)=>([],aE (B (cond c e 0)))
def aPK:Spec:=Sp (N) [.l] fun l=>([E (l.length<=3)],aE (B (qZ l)))
def aPF:Spec:=Sp M [.g [.s]] fun s=>([E (s.size<=1000000)],aE (fN ah))
def agM:Spec:=Sp Int [.y] fun x=>([E (0<=x),E (x<=255)],aE (B (aS x+1)))
def aPL:Spec:=Sp M [.g [.s]] fun s=>([E (s.size<=1000000)],aE (B (aR s)))
def aPH:Spec:=Sp (M×Int) [.g [.s],.i] fun(s,i)=>([E (0<=i),E (i<8*s.size),E (s.size<=1000000)],aE (dy (iQ s i)))
def agN:Spec where
 ι:=M×Int×Int
 dec l H:=match l with
  | [.p l0 0 0,.v (.int .i64 n)]=>match H l0 with
    |some (.cells 353 [.v (.string s),.v (.int .i64 l)])=>O ((s,l,n),[l0])
    |_=>ae
  |_=>ae
 args:=fun(s,l,n)=>[U 0,B n]
 hp:=fun(s,l,n)=>[(0,.cells 353 [aD s,B l])]
 pre:=fun(s,l,n)=>[E (0<=n),E (n<=32),E (0<=l),E (l<=8*s.size),E (s.size<=1000000)]
 out:=fun(s,l,n)=>.leaf (dy (iD s l n.toNat)) [(0,.cells 353 [aD s,B l])]
theorem aPI:agN.dn:=by
 intro l H n i x h;simp only[agN]at h
 repeat' split at h
 all_goals first|(cases h;done)|(cases h;exact⟨rfl,rfl⟩)|(cases h;refine⟨rfl,?_⟩;simp only[dK,iF,iN,gN, *];rfl)
def aus:Spec:=Sp M [.s] fun s=>([E (s.size<=1000000)],aE (.tu [B (ia s),B (gD s)]))
def auw:Spec:=Sp M [.s] fun s=>([E (s.size<=1000000)],aE (.tu [.ag [aD (kG s),B (ia s)],B (gD s)]))
def aut:Spec:=Sp (M×Int) [.g [.s,.i]] fun(s,l)=>([E (s.size<=1000000)],aE (B (mv s l)))
def aPE:Spec:=Sp (M×Int×Int) [.g [.s,.i],.i] fun(s,l,n)=>([E (s.size<=1000000)],aE (B (kW s l n)))
def auv:Spec:=Sp (M×Int×Int) [.g [.s,.i],.i] fun(s,l,n)=>([E (s.size<=1000000)],aE (.tu [dy (zj s l n),B (kW s l n)]))
def aPG:Spec:=Sp (M×Int×Int) [.g [.s,.i],.i] fun(s,l,n)=>([E (s.size<=1000000)],aE (.tu [.ag [aD (dw s l n),B (dQ s l n)],B (gx s l n)]))
def auu:Spec:=Sp (M×Int×Int) [.g [.s,.i],.i] fun(s,l,n)=>([E (s.size<=1000000)],aE (.tu [.ag [aD (dw s l n),B (dQ s l n)],dy (cm s l n),B (gx s l n)]))
def aIr(l:N):bO:=dX [(0,.one (bi Nat fun i=>(i<=l.length/\qZ (l.drop i)=qZ l,[(3,B 0),(6,dm l),(7,B (l.length:Nat)),(8,cP i)],[],l.length-i)))]
def aIq(s:M)(l n:Int):bO:=dX [(0,.one (bi Nat fun i=>(i<=n.toNat,[(0,U 0),(5,dy (iD s l i)),(8,B n),(9,cP i)],[(0,.cells 353 [aD s,B l])],n.toNat-i)))]
def aIp(s:M)(l n:Int):bO:=dX [(0,.one (bi Nat fun i=>(i<=n.toNat/\kW s l n=0,[(1,B n),(2,U 1000),(7,dy (iD s l i)),(8,cP i)],[(1000,.cells 231 [aD s,B l])],n.toNat-i)))]
def aIo(s:M):bO:=dX [(0,.one (bi Nat fun i=>(i_ s=ah/\i+Cy s<=7,[(0,aD s),(4,B (8*s.size-1- (i:Nat)))],[],8-i)))]
def tI(h0:N)(h1:Prop):Prop:=h0=h0/\o h0=o h0/\h1
def asO(s:M)(i:Int):Prop:=(8:Int)≠0/\B9 i s (fU (i.tmod 8)) (bits .and .u64 ((Uq (Zq (Yq s (b5 (i.tdiv 8))))).fdiv (pI (i.tmod 8) .u64)) 1=iQ s i)
def asP(s:M)(D:Int):Prop:=Bq (s.toList==ByteArray.empty.toList) (fH=aR s) (Rq (bF (ak s)) (ak s) (Bq (D==0) (fH=aR s) (Rq (bF (ak s)) (ak s) (aF D (D<=255) (bF (Wq (Wq (8*bF (ak s))+(aS D+1)))=aR s)))))
def atl(s:M)(l:Int):Prop:=
 s.size<=1000000/\Bq (gD s !=0) (10=mv s l) (Dq (l<0) (10=mv s l) (Dq (l>ia s) (10=mv s l) (0=mv s l)))
def ato(s:M):Prop:=
 s.size<=1000000/\Bq (gD s !=0) (aJ=kG s/\0=ia s/\gD s=gD s) (s=kG s/\ia s=ia s/\0=gD s)
def asF(s:M)(D:Int):Prop:=bD s/\bD s/\[(0:Int),bif decide (aR s<0)then 22 else 0].length<=3/\bS D (0=ia s) (D=gD s) (bD s) (aR s=ia s/\0=gD s)
def asG(s:M)(l:Int):Prop:=
 s.size<=1000000/\
 Bq ah (10=mv s l)
 (s.size<=1000000/\
 Dq (aR s<0) (10=mv s l)
 (Dq (l<0) (10=mv s l) (s.size<=1000000/\(bif decide (l>aR s)then(10:Int)else(0:Int))=mv s l)))
def atk(s:M)(l n:Int):Prop:=
 s.size<=1000000/\Bq (mv s l==0) (Dq (n<0) (2=kW s l n) (Dq (n>32) (2=kW s l n) (mv s l=kW s l n))) (mv s l=kW s l n)
def asN(s:M):Prop:=
 s.size<=1000000/\Bq (gD s !=0) (aJ=kG s/\0=ia s/\gD s=gD s) (s=kG s/\ia s=ia s/\0=gD s)
def afj(h0:Int)(h1:N)(y:M)(x h:Int)(z:N)(e k:Prop):Prop:=(h0::h1).length<=3/\bS (qZ (h0::h1)) (0=zj y x h) (qZ z=kW y x h) (0<=h) (h<=32/\aF x e k)
def asM(s:M)(l n:Int)(D:Prop):Prop:=bD s/\Dq (n<0) (afj (mv s l) [2] s l n [mv s l,2] (l<=8*ak s) D) (afj (mv s l) [bif decide (n>32)then 2 else 0] s l n [mv s l,bif decide (n>32)then 2 else 0] (l<=8*ak s) D)
def asL(s:M)(l n:Int):Prop:=asM s l n (bD s/\iD s l n.toNat=zj s l n/\0=kW s l n)
def atp(s:M)(l n:Int):Prop:=bD s/\Ll (kW s l n) n l ((5:Int) !=0) (aJ=dw s l n/\0=dQ s l n/\5=gx s l n) (s=dw s l n/\Wq (l-n)=dQ s l n/\0=gx s l n) (kW s l n !=0) (aJ=dw s l n/\0=dQ s l n/\kW s l n=gx s l n)
def asK(s:M)(l n D:Int):Prop:=bD s/\[kW s l n,bif decide (n>l)then 5 else 0].length<=3/\bS D (aJ=dw s l n) (0=dQ s l n/\0=cm s l n/\D=gx s l n) (s=dw s l n) (Wq (l-n)=dQ s l n/\zj s l n=cm s l n/\0=gx s l n)
def asJ(s:M)(l n:Int):Prop:=asK s l n (qZ [kW s l n,bif decide (n>l)then 5 else 0])
def atn(s:M)(l n:Int):Prop:=
 s.size<=1000000/\
 Bq (gx s l n !=0) (aJ=dw s l n/\0=dQ s l n/\0=cm s l n/\gx s l n=gx s l n)
 (s.size<=1000000/\dw s l n=dw s l n/\dQ s l n=dQ s l n/\zj s l n=cm s l n/\0=gx s l n)
section
variable{s:M}{l n:Int}
theorem me(s:M)(i:Int):0<=u s i/\u s i<256:=by
 unfold u;have:=(s.data.toList.getD i.toNat 0).toNat_lt;omega
theorem OH{x:Int}(h0:0<=x)(h1:x<256): -1<=aS x/\aS x<=7/\(0<x->0<=aS x):=by
 have:∀n:Fin 256, -1<=aS (n.val:Int)/\aS (n.val:Int)<=7/\(0<n.val->0<=aS (n.val:Int)):=by decide+kernel
 obtain⟨n,rfl⟩:=pP h0;have:=this ⟨n,Y⟩;grind
theorem BW(h:i_ s=ah):1<=s.size/\0<rh s/\aR s=8*((s.size:Int)-1)+aS (rh s)/\0<=aR s/\aR s<8*s.size:=by
 have y:=me s ((s.size:Int)-1);have e:aR s=8*((s.size:Int)-1)+aS (rh s):=by grind [aR]
 unfold i_ at h;simp only[qS,wo]at h;have x:0<=rh s/\rh s<256:=y;have:=OH x.1 x.2;omega
theorem UE(h:i_ s=ab):aR s= -1:=by unfold aR;rw[h];rfl
theorem Xa(h:mv s l=0):i_ s=ah/\0<=l/\l<=aR s:=by grind [mv]
theorem PE(h:kW s l n=0):mv s l=0/\0<=n/\n<=32:=by grind [kW]
theorem aa':qZ []=0:=rfl
theorem Oa{x:Int}{r:N}:qZ (x::r)=if x=0 then qZ r else x:=by grind [qZ]
theorem awv(s:M):∀(k i:Nat) (r:List UInt8),s.size-i=k->ByteArray.toList.loop s i r=r.reverse++s.data.toList.drop i
 |0,i,r,h=>by
  rw[ByteArray.toList.loop,V Y,CH (by show s.data.toList.length<=i;have:s.data.toList.length=s.size:=rfl;omega),zK]
 |k+1,i,r,h=>by
  rw[ByteArray.toList.loop,I Y,awv s k (i+1) _ Y];have x:i<s.data.toList.length:=by have:s.data.toList.length=s.size:=rfl;omega
  rw[zJ x,List.reverse_cons,qQ];have:s.get! i=s.data.toList[i]:=by
   show s.data[i]! =_;grind
  grind
theorem toList_data(s:M):s.toList=s.data.toList:=by
 unfold ByteArray.toList;rw[awv s s.size 0 [] Y];simp
theorem az0{a b:M}(h:a.toList=b.toList):a=b:=by
 rw[toList_data,toList_data]at h;cases a;cases b;simp_all
theorem toList_nil(s:M):(s.toList==ByteArray.empty.toList)=decide (s.size=0):=by
 by_cases h:s.size=0
 ·simp_all
 ·rw[iW h]
  exact beq_eq_false_iff_ne.2 fun x=>h (by rw[az0 x];rfl)
theorem aF6:∀n:Fin 256,((M4 (eU Pc.data.toList n.val 0):Nat):Int)=aS (n.val:Int)+1:=by decide+kernel
theorem aMz(x:Int):((0:Int)<=x/\x<(Pc.size:Int)/\Q bW ((M4 (eU Pc.data.toList (X x) 0):Nat):Int)=aS x+1)=agM.vc ar [] (fun _=>ae) Tryz.f294 x:=by rfl
theorem aMB{x:Int}(h0:0<=x)(h1:x<=255):(0:Int)<=x/\x<(Pc.size:Int)/\Q bW ((M4 (eU Pc.data.toList (X x) 0):Nat):Int)=aS x+1:=by
 obtain⟨n,rfl⟩:=pP h0;have h:=aF6 ⟨n,Y⟩;dsimp only at h;have:=OH h0 Y;refine⟨h0,by show(n:Int)<256;omega,?_⟩;grind [wr]
theorem azT:∀x:Fin 256,∀k:Fin 8,bits .and .u64 (kQ (Q .u64 (x.val:Int)) (2^min k.val (cZ .u64))) 1=(x.val/2^k.val%2:Nat):=by decide+kernel
theorem aaa(k:Nat)(h:k<=100000000):Q .i64 (fi (k:Int) 8)=(k/8:Nat)/\Q .u64 (kf (k:Int) 8)=(k%8:Nat):=by
 have:=akL k 0 Y;grind
theorem Z5(I:Nat):iQ s (I:Int)=((s.data.toList.getD (I/8) 0).toNat/2^(I%8)%2:Nat):=by rfl
theorem R7(k:Int):0<=iQ s k/\iQ s k<=1:=by
 unfold iQ;grind
theorem ao9(h:1<=s.size)(x:s.size<=1000000):Q .i64 ((s.size:Int)-1)=(s.size:Int)-1/\((s.data.toList.getD ((s.size:Int)-1).toNat 0).toNat:Int)=rh s:=⟨wr Y Y,rfl⟩
theorem UF(h:1<=s.size):i_ s=(rh s==0):=by unfold i_;rw[oc Y];rfl
theorem ap5(h:s.size=0):i_ s=ab:=by unfold i_;rw[h];rfl
theorem aR0:∀x:Fin 256,x.val≠0->∀k:Fin 8,((aS (x.val:Int)).toNat<k.val->x.val/2^k.val%2=0)/\(k.val=(aS (x.val:Int)).toNat->x.val/2^k.val%2=1):=by decide+kernel
end
section
variable{s:M}{l n:Int}
theorem Le(s:M)(l:Int)(i:Nat):0<=iD s l i/\iD s l i<2^i:=by
 induction i with
 |zero=>exact⟨jj _,by show(0:Int)<1;decide⟩
 |succ i h=>
  have:=R7 (s:=s) (l-1- (i:Nat));grind [iD]
theorem aJ_{a b:Int}(h0:0<=a)(h1:a<4294967296)(h:0<=b)(x:b<=1):bits .or .u64 (2*a) b=2*a+b:=by
 obtain⟨a,rfl⟩:=pP h0;obtain⟨b,rfl⟩:=pP h;rw[show(2*(a:Int))=((2*a:Nat):Int)by omega,K8 _ _ Y Y];have:=MI (i:=1) (b:=b) Y a;grind
theorem aqN{i:Nat}(hi:i<=32):Q .u64 (iD s l i*2^min (X 1) (cZ .u64))=2*iD s l i:=by
 have h:=Le s l i;have x:(2:Int)^i<=2^32:=nQ hi;grind [cZ,fW]
theorem ad2{i:Nat}:iD s l (i+1)=2*iD s l i+iQ s (l-1- (i:Nat)):=rfl
theorem aMu(s:M)(l:Int):mv s l=0\/mv s l=10:=by grind [mv]
end
def aMJ:=aPJ.gd m.nil Tryz.func224 fun⟨c,e⟩ _=>⟨aK,J (p:=Bq c (e=(bif c then e else 0)) (0=(bif c then e else 0))) (by
 grind)⟩
def aMK:=aPK.gd m.nil Tryz.func223 fun(l:N) ⟨h,_⟩=>⟨(aIr l),J (p:=(∃(z:Nat),(jc z l/\qZ (iI z l)=qZ l)/\a_/\tI l (aZ z))/\(∀(x1:Nat),jc x1 l/\qZ (iI x1 l)=qZ l->Dq (Zq x1<o l) (Rq (Zq x1) (o l) (Bq (b_ l x1 !=0) (b_ l x1=qZ l) (∃(x:Nat),(jc x l/\qZ (iI x l)=qZ l)/\gS l x x1/\a_/\tI l (bE x1 x)))) (0=qZ l))) (by
 unfold a_ tI o bE aZ jc gS cl b_ Rq Wq Zq;refine⟨⟨0,⟨Y,rfl⟩,rfl,rfl,rfl,rfl⟩,fun i ⟨hi,y⟩=>dq (fun c=>⟨Y,c,bV (fun d=>?_) fun d=>⟨i+1,⟨Y,?_⟩,by show l.length- (i+1)<l.length-i;omega,rfl,rfl,rfl,wr Y Y⟩⟩) fun c=>?_⟩
 ·rw[toNat_cast]at d|-
  rw[<-y,zJ Y,Oa,V c9];grind
 ·rw[toNat_cast]at d
  rw[<-y,zJ (show i<l.length by omega),Oa,I c9]
 ·rw[<-y,CH Y];rfl)⟩
def aMD:=aPF.gd m.nil Tryz.func272 fun(s:M) ⟨h,_⟩=>⟨aK,J (p:=decide (ak s>1048576)=ah) (by
 unfold ak Zq;simp;omega)⟩
theorem aMA:Sound ar 294 agM.iY:=agM.te ax Sp.dn m.nil mixed Tryz.func294 fun x ⟨h,y,_⟩=>⟨_,(aMz x).mp (aMB h y)⟩
def aMH:=aPH.gd m.nil Tryz.func295 fun⟨s,i⟩ ⟨y,z,e,_⟩=>⟨aK,J (p:=asO s i) (by
 obtain⟨I,rfl⟩:=pP y;unfold asO pI fU B9 ak b5 Rq Wq Uq Zq Yq;obtain⟨h,x⟩:=aaa I Y;rw[h,x,toNat_cast,toNat_cast,azT ⟨_,Ec _⟩ ⟨I%8,CC _ H⟩,Z5];grind)⟩
def aNx:=aus.gd m.nil Tryz.func250 fun(s:M) ⟨q,_⟩=>⟨(aIo s),J (p:=Dq (ak s>1048576) (0=ia s/\4=gD s) (Bq (s.toList==ByteArray.empty.toList) (0=ia s/\22=gD s) (Rq (bF (ak s)) (ak s) (Bq (Zq (Yq s (b5 (ak s-1)))==0) (0=ia s/\22=gD s) ((∃(w:Nat),(i_ s=ah/\w+Cy s<=7)/\s=s/\bF (Wq (8*ak s))=8*ak s-1-Zq w)/\(∀(x1:Nat),i_ s=ah/\x1+Cy s<=7->(8:Int)≠0/\B9 (8*ak s-1-Zq x1) s (fU ((8*ak s-1-Zq x1).tmod 8)) (Bq (LC s (b5 ((8*ak s-1-Zq x1).tdiv 8)) (8*ak s-1-Zq x1)==0) (∃(v:Nat),(i_ s=ah/\v+Cy s<=7)/\fj 8 v<fj 8 x1/\s=s/\bF (8*ak s-1-Zq x1)=8*ak s-1-Zq v) (8*ak s-1-Zq x1=ia s/\0=gD s)))))))) (by
 unfold LC pI fU bF B9 ak b5 Rq Wq Uq Zq Yq;rw[toList_nil];refine rK Y (bq (fun h=>?_) fun h=>?_)
 ·have:=ap5 (ow h)
  exact⟨by unfold ia;rw[this];rfl,by unfold gD;rw[this];rfl⟩
 have h:=nD h;obtain⟨j,a⟩:=ao9 (s:=s) Y q;rw[j,a];refine⟨Y,Y,de (fun h=>?_) fun g=>?_⟩
 ·have:i_ s=ab:=by rw[UF Y,h];rfl
  exact⟨by unfold ia;rw[this];rfl,by unfold gD;rw[this];rfl⟩
 have y:i_ s=ah:=by rw[UF Y,oc g]
 obtain⟨B,C,D,E,F⟩:=BW y;have z:=me s ((s.size:Int)-1);have z:0<=rh s/\rh s<256:=z;have l:=OH z.1 z.2;have A:(Cy s:Int)=aS (rh s):=by unfold Cy;omega
 refine⟨⟨0,⟨y,Y⟩,rfl,by rw[wr (n:=8*_) Y Y,wr Y Y];omega⟩,fun i ⟨_,hi⟩=>?_⟩;obtain⟨x,e⟩:∃x:Nat,s.data.toList.getD (s.size-1) 0=zW x/\x<256:=⟨(s.data.toList.getD (s.size-1) 0).toNat,aj,Ec _⟩;have o:rh s=(x:Int):=by
  have:rh s=((s.data.toList.getD (s.size-1) 0).toNat:Int):=by unfold rh u;rw[show((s.size:Int)-1).toNat=s.size-1 by omega]
  rw[this,e.1];simp;omega
 have r:(s.data.toList.getD (s.size-1) 0).toNat=x:=by rw[e.1];simp;omega
 have k:=aR0 ⟨x,e.2⟩ (by dsimp only;omega) ⟨7-i,Y⟩;dsimp only at k;have t:Cy s=(aS (x:Int)).toNat:=by unfold Cy;rw[o]
 rw[<-t]at k;rw[show 8*(s.size:Int)-1- (i:Int)=((8*(s.size-1)+(7-i):Nat):Int)by omega];obtain⟨b,f⟩:=aaa (8*(s.size-1)+(7-i)) Y;rw[b,f,toNat_cast,toNat_cast,show(8*(s.size-1)+(7-i))/8=s.size-1 by omega,show(8*(s.size-1)+(7-i))%8=7-i by omega,r,(aab ⟨x,e.2⟩ ⟨7-i,Y⟩).1];refine⟨H,Y,Y,H,Y,de (fun d=>⟨i+1,⟨y,?_⟩,by show 8- (i+1)<8-i;omega,rfl,by rw[wr Y Y];omega⟩) fun d=>?_⟩
 ·by_cases c:7-i=Cy s
  ·have:=k.2 c;dsimp only at d;omega
  ·omega
 ·have:¬Cy s<7-i:=fun c=>by have:=k.1 c;dsimp only at d;omega
  exact⟨by unfold ia;rw[y];show _=aR s;omega,by unfold gD;rw[y];rfl⟩)⟩
def M':=m.cons aMJ<| .cons aMK<| .cons aMD<| .cons aMA<| .cons aMH<| .cons aNx<|m.nil
def aML:=aPL.gd M' Tryz.func273 fun(s:M) ⟨r,_⟩=>⟨aK,J (p:=asP s (Zq (Yq s (b5 (ak s-1))))) (by
 unfold asP aF fH bF ak b5 Rq Wq Zq Yq;rw[toList_nil];refine bq (fun h=>(UE (ap5 (ow h))).symm) fun h=>?_;have h:=nD h;obtain⟨y,z⟩:=ao9 (s:=s) Y r;rw[y,z];refine⟨Y,Y,de (fun h=>(UE (by rw[UF Y,h];rfl)).symm) fun e=>?_⟩;have k:i_ s=ah:=by rw[UF Y,oc e]
 have x:=me s ((s.size:Int)-1);have x:0<=rh s/\rh s<256:=x;have u:=OH x.1 x.2;obtain⟨v,w,i,j,a⟩:=BW k;refine⟨Y,Y,Y,Y,?_⟩;rw[wr (n:=8*_) Y Y,wr (n:=_+_) Y Y,wr Y Y];omega)⟩
def aMI:=agN.gE aPI M' Tryz.func275 fun⟨s,l,n⟩ ⟨r,u,e,v,k,_⟩=>⟨(aIq s l n),J (p:=(∃(h:Nat),rY h n/\0=iD s l h/\n=n/\aZ h/\s=s/\l=l)/\(∀(x1:Nat),rY x1 n->Dq (Zq x1<n) ((0:Int)<=1/\Dq (Wq (bF l-Zq x1)>=0) (Rq (Wq (bF l-Zq x1)) (8*ak s) (bD s/\(∃(x:Nat),v7 x n x1 (bits .or .u64 (Uq (iD s l x1*gH (X 1) IntKind.u64.bits)) (iQ s (Wq (bF l-Zq x1)))=iD s l x/\n=n/\bE x1 x/\s=s/\l=l)))) (∃(y:Nat),v7 y n x1 (Uq (iD s l x1*gH (X 1) IntKind.u64.bits)=iD s l y/\n=n/\bE x1 y/\s=s/\l=l))) (iD s l x1=iD s l n.toNat/\s=s/\l=l))) (by
 unfold v7 bE qh bF rY gH cl aZ ak bD Rq Wq Uq Zq;refine⟨⟨0,dx _,rfl,rfl,rfl,rfl,rfl⟩,fun i (hi:i<=n.toNat)=>dq (fun c=>⟨H,?_⟩) fun c=>⟨by rw[show i=n.toNat by omega],rfl,rfl⟩⟩;rw[aqN Y,wr (n:=l-1) Y Y,wr (n:=_-_) Y Y];have hp:=Le s l i;have e:(2:Int)^i<=2^31:=nQ Y;have z:=R7 (s:=s) (l-1- (i:Nat));refine dq (fun d=>⟨d,Y,k,i+1,by show i+1<=n.toNat;omega,by show n.toNat- (i+1)<n.toNat-i;omega,aJ_ hp.1 Y z.1 z.2,rfl,wr Y Y,rfl,rfl⟩) fun d=>⟨i+1,by show i+1<=n.toNat;omega,by show n.toNat- (i+1)<n.toNat-i;omega,?_,rfl,wr Y Y,rfl,rfl⟩;rw[ad2];unfold iQ;rw[I Y];omega)⟩
def aNy:=aut.gd M' Tryz.func300 fun⟨s,l⟩ ⟨h,_⟩=>⟨aK,J (p:=atl s l) (by
 grind [atl,mv,gD,ia])⟩
def aNA:=auw.gd M' Tryz.func191 fun(s:M) ⟨h,_⟩=>⟨aK,J (p:=ato s) (by
 grind [ato,gD,ia,kG])⟩
def RK:=m.cons aML<| .cons aMI<| .cons aNy<| .cons aNA<|M'
def aMC:=aus.gd RK Tryz.func221 fun(s:M) ⟨h,_⟩=>⟨aK,J (p:=asF s (qZ [0,bif decide (aR s<0)then 22 else 0])) (by
 unfold asF bS bD;grind [BW,UE,gD,ia,Oa,aa'])⟩
def aME:=aut.gd RK Tryz.func274 fun⟨s,l⟩ ⟨h,_⟩=>⟨aK,J (p:=asG s l) (by
 grind [asG,UE,mv])⟩
def aNw:=aPE.gd RK Tryz.func289 fun⟨s,l,n⟩ ⟨h,_⟩=>⟨aK,J (p:=atk s l n) (by
 grind [atk,kW,mv])⟩
def Na:=m.cons aMC<| .cons aME<| .cons aNw<|RK
def aMG:=auw.gd Na Tryz.func167 fun(s:M) ⟨h,_⟩=>⟨aK,J (p:=asN s) (by
 grind [asN,gD,ia,kG])⟩
def aMF:=auv.gd Na Tryz.func222 fun⟨s,l,n⟩ ⟨h,_⟩=>⟨aK,J (p:=asL s l n) (by
 have:=@Xa s l;have:=@BW s;have:=aMu s l;unfold asL asM afj aF ak bS bD Zq;unfold zj kW;(repeat' (first|refine dq (fun _=>?_) fun _=>?_|refine de (fun _=>?_) fun _=>?_|refine bV (fun _=>?_) fun _=>?_|refine bq (fun _=>?_) fun _=>?_|refine cq (fun _=>?_) fun _=>?_|refine fY ?_ ?_))<;>grind [Oa,aa'])⟩
def aNB:=aPG.gd Na Tryz.func251 fun⟨s,l,n⟩ ⟨h,_⟩=>⟨aK,J (p:=atp s l n) (by
 have:=@Xa s l;have:=@BW s;have:=@PE s l n;unfold atp Ll Lk bD Wq;unfold dw dQ gx;(repeat' (first|refine dq (fun _=>?_) fun _=>?_|refine de (fun _=>?_) fun _=>?_|refine bV (fun _=>?_) fun _=>?_|refine bq (fun _=>?_) fun _=>?_|refine cq (fun _=>?_) fun _=>?_|refine fY ?_ ?_))<;>grind [wr])⟩
def aNz:=auv.gd Na Tryz.func252 fun⟨s,l,n⟩ ⟨w,_⟩=>⟨(aIp s l n),J (p:=bD s/\bS (kW s l n) (0=zj s l n) (kW s l n=kW s l n) (∃(e:Nat),(e<=n.toNat/\kW s l n=0)/\n=n/\0=iD s l e/\aZ e/\s=s/\l=l) (∀(x1:Nat),x1<=n.toNat/\kW s l n=0->Dq (Zq x1<n) ((0:Int)<=1/\Dq (Wq (bF l-Zq x1)>=0) ((8:Int)≠0/\B9 (Wq (bF l-Zq x1)) s (fU ((Wq (bF l-Zq x1)).tmod 8)) (∃(x:Nat),(x<=n.toNat/\kW s l n=0)/\qh n x x1/\n=n/\Uq (Uq (iD s l x1*gH (X 1) IntKind.u64.bits)+Uq (LC s (b5 ((Wq (bF l-Zq x1)).tdiv 8)) (Wq (bF l-Zq x1))))=iD s l x/\bE x1 x/\s=s/\l=l)) (∃(y:Nat),(y<=n.toNat/\kW s l n=0)/\qh n y x1/\n=n/\Uq (iD s l x1*gH (X 1) IntKind.u64.bits)=iD s l y/\bE x1 y/\s=s/\l=l)) (iD s l x1=zj s l n/\0=kW s l n))) (by
 unfold bE qh LC pI fU bF B9 gH cl aZ ak bS b5 bD Rq Wq Uq Zq Yq;refine⟨w,bV (fun h=>⟨by unfold zj;rw[V h],rfl⟩) fun h=>?_⟩;obtain⟨p1,p2,p3⟩:=PE h;obtain⟨j,b,f⟩:=Xa p1;obtain⟨g,m,o,q,t⟩:=BW j;refine⟨⟨0,⟨dx _,h⟩,rfl,rfl,rfl,rfl,rfl⟩,fun i ⟨hi,_⟩=>dq (fun c=>⟨H,?_⟩) fun c=>⟨by unfold zj;rw[I h,show i=n.toNat by omega],h.symm⟩⟩;rw[aqN Y,wr (n:=l-1) Y Y,wr (n:=_-_) Y Y];have hp:=Le s l i;have a:(2:Int)^i<=2^31:=nQ Y;have v:=R7 (s:=s) (l-1- (i:Nat));refine dq (fun d=>⟨H,?_⟩) fun d=>⟨i+1,⟨Y,h⟩,by show n.toNat- (i+1)<n.toNat-i;omega,rfl,by rw[ad2];unfold iQ;rw[I Y];omega,wr Y Y,rfl,rfl⟩;obtain⟨k,z⟩:=pP d;obtain⟨r,u⟩:=aaa k Y;rw[z,Z5]at v;rw[z,r,u,toNat_cast,toNat_cast,(aab ⟨_,Ec _⟩ ⟨k%8,CC _ H⟩).1];refine⟨Y,Y,H,Y,i+1,⟨Y,h⟩,by show n.toNat- (i+1)<n.toNat-i;omega,rfl,?_,wr Y Y,rfl,rfl⟩;rw[ad2,z,Z5];dsimp only;rw[fW (n:=((_:Nat):Int)) Y Y,fW Y Y])⟩
def Zt:=m.cons aMG<| .cons aMF<| .cons aNB<| .cons aNz<|Na
def asH:=auu.gd Zt Tryz.func169 fun⟨s,l,n⟩ ⟨h,_⟩=>⟨aK,J (p:=asJ s l n) (by
 have:=@Xa s l;have:=@BW s;have:=@PE s l n;unfold asJ asK bS bD Wq;unfold dw dQ cm gx;(repeat' (first|refine dq (fun _=>?_) fun _=>?_|refine de (fun _=>?_) fun _=>?_|refine bV (fun _=>?_) fun _=>?_|refine bq (fun _=>?_) fun _=>?_|refine cq (fun _=>?_) fun _=>?_|refine fY ?_ ?_))<;>grind [Oa,aa',zj,wr])⟩
def atm:=auu.gd Zt Tryz.func193 fun⟨s,l,n⟩ ⟨h,_⟩=>⟨aK,J (p:=atn s l n) (by
 grind [atn,dw,dQ,cm,gx,zj])⟩
def ayE:=m.cons asH<| .cons atm<|Zt
theorem apt{c:u9}:∀(A B:xp) (f:Nat),cu (A++B) f=O c->cu A f=O c\/cu B f=O c
 | [],_,_,h=>.inr h
 |(i,y)::r,B,f,h=>by
  simp only[yw,cu]at h|-;cases x:ap f i
  ·rw[x]at h;exact apt r B f h
  ·rw[x]at h;exact .inl h
theorem CS{P:Program}{A B:xp}(x:m P A)(hB:m P B):m P (A++B):=fun f c h=>(apt A B f h).elim (x f c) (hB f c)
def ajJ:=CS ayE ayv
section
variable{l:q}{lt bf a b c W:Int}{s:mb}
theorem alX(P:DsP l lt bf a b c W s)(hi:s.i<l.length)(h:s.lt<bg (l.getD s.i [])):cG l lt bf a b c W=⟨24,(s.i:Nat),[],s.a,s.b,s.c⟩:=by
 rw[<-P.g,NQ hi];unfold ph;rw[I h]
theorem alY(P:DsP l lt bf a b c W s)(hi:s.i<l.length)(h:¬s.lt<bg (l.getD s.i []))(k:yS W s.a s.b s.c s.th (l.getD s.i [])):cG l lt bf a b c W=⟨25,(s.i:Nat),[],s.a,s.b,s.c⟩:=by
 rw[<-P.g,NQ hi];unfold ph;rw[V h,I k]
theorem aaF(P:DsP l lt bf a b c W s)(hi:s.i=l.length):cG l lt bf a b c W=if 131072<s.th+s.lt-bf then⟨19,(s.i:Nat),[],s.a,s.b,s.c⟩else⟨0,(s.i:Nat),s.d,s.a,s.b,s.c⟩:=by
 rw[<-P.g,List.drop_of_length_le Y];rfl
def dsN(s:mb)(x:N):mb:=⟨s.i+1,s.lt-bg x,s.th+bg x+kN x,gU s.a s.b s.c (dC x) (bg x),fb s.a s.b s.c (dC x) (bg x),fc s.a s.b s.c (dC x) (bg x),s.d++ [dT s.a s.b s.c (dC x) (bg x)]⟩
theorem alZ(x:jB l=0)(P:DsP l lt bf a b c W s)(hi:s.i<l.length)(h:¬s.lt<bg (l.getD s.i []))(k:¬yS W s.a s.b s.c s.th (l.getD s.i [])):DsP l lt bf a b c W (dsN s (l.getD s.i []))/\ff s.a (dC (l.getD s.i [])) (bg (l.getD s.i []))=ah:=by
 have o:=(Mt x).2 _ (Tf hi);have hB:=af'.1 (mV fun h=>k (.inl h));have g:=P.g;rw[NQ hi]at g;unfold ph at g;rw[V h,V k]at g;have l0:=P.l0;have l1:=P.l1;have t0:=P.t0;have t1:=P.t1;have o1:=o.l0;have y:=o.l1;have z:=o.m0;have e:=o.m1;refine⟨⟨hi,(Xi P.r ⟨o.o0,o.o1,o.l0⟩ hB).1,?_,?_,?_,?_,?_,g⟩,hB⟩
 ·show 0<=s.lt-_;omega
 ·show s.lt-_<=lt;omega
 ·show bf<=s.th+_+_;omega
 ·show s.th+_+_<=bf+262146*((s.i+1:Nat):Int);push_cast;omega
 ·show(s.d++ [_]).length=s.i+1;rw[gn,P.n];rfl
theorem alW(x:fI a b c)(h:0<=lt):DsP l lt bf a b c W ⟨0,lt,bf,a,b,c,[]⟩:=⟨dx _,x,h,jj _,jj _,by show bf<=bf+262146*((0:Nat):Int);simp,rfl,rfl⟩
theorem aFO{e i:Int}:ac0 e i:=by
 unfold ac0 ao4 nu vX ft b8 jL cE kX Rq Wq Zq;have h:Q .i64 ((0:Int)+1)=1:=H;grind
theorem aBh(x:jB l=0)(w:fI a b c)(v:0<=lt/\lt<=131072)(f:0<=bf/\bf<=1048576):aaE l lt bf a b c W:=by
 obtain⟨g,j⟩:=Mt x;unfold aaE alV aw afu L6 Wt afg fq dk aV j7 T cl aZ ay fP ck Lt B8 sB d tC bM gg lf gY Rq Wq Zq Jq;refine⟨⟨_,alW w v.1,rfl,rfl,rfl,rfl,rfl,rfl,rfl,rfl,rfl⟩,fun s P=>?_⟩;have l0:=P.l0;have l1:=P.l1;have t0:=P.t0;have t1:=P.t1;have i1:=P.i1;have C:=P.n;simp only[toNat_cast];refine dq (fun hi=>?_) fun hi=>?_
 ·have hi:s.i<l.length:=Y
  have o:=j _ (Tf hi);have o1:=o.l0;have t:=o.l1;have A:=o.m0;have B:=o.m1;have y:eU (eU l s.i []) 0 0=bg (l.getD s.i []):=rfl;have z:eU (eU l s.i []) 1 0=kN (l.getD s.i []):=rfl;have u:eU (eU l s.i []) 2 0=dC (l.getD s.i []):=rfl;rw[y,z,u,wr (n:=s.th+bg (l.getD s.i [])) Y Y,wr (n:=s.lt-bg (l.getD s.i [])) Y Y,wr (n:=s.th+bg (l.getD s.i [])+kN (l.getD s.i [])) Y Y,wr (n:=(s.i:Int)+1) Y Y];refine⟨Y,Y,dq (fun h=>?_) fun h=>⟨Y,Y,Y,Y,rfl,Y,Y,Y,Y,P.r,⟨o.o0,o.o1,o.l0⟩,?_⟩⟩
  ·rw[alX P hi h];exact⟨rfl,rfl,rfl,rfl,rfl,rfl,rfl⟩
  ·have bad:yS W s.a s.b s.c s.th (l.getD s.i [])->_:=fun k=>(by rw[alY P hi h k];exact⟨rfl,rfl,rfl,rfl,rfl,rfl,rfl⟩:3=oy (qm [s.b,s.c].length 0)/\[s.a,s.b,s.c].length=3/\[s.a,s.b,s.c].length= [(0:Int),0,0].length/\3=oy (qm [s.b,s.c].length 0)/\(cG l lt bf a b c W).d.length=0/\[s.a,s.b,s.c]= [(cG l lt bf a b c W).a,(cG l lt bf a b c W).b,(cG l lt bf a b c W).c]/\25=(cG l lt bf a b c W).e)
   refine bV (fun k=>bad (.inl k)) fun m=>dq (fun k=>bad (.inr (.inl k))) fun p=>dq (fun k=>bad (.inr (.inr k))) fun k3=>?_;obtain⟨N,hB⟩:=alZ x P hi h (fun k=>by rcases k with k|k|k<;>omega);refine⟨rfl,Y,Y,Y,Y,cq (fun _=>⟨P.r,⟨o.o0,o.o1,o.l0⟩,by trivial,by trivial,Y,Y,Y,_,N,?_,by trivial,by trivial,by trivial,by trivial,by trivial,by trivial,by trivial,by trivial,by trivial⟩) fun h=>absurd hB h⟩;show l.length- (s.i+1)<l.length-s.i;omega
 ·have E:=aaF P Y
  rw[wr (n:=s.th+s.lt) Y Y,wr (n:=s.th+s.lt-bf) Y Y,E];refine dq (fun h=>?_) fun h=>?_
  ·rw[I h];exact⟨rfl,rfl,rfl,rfl,rfl,rfl,rfl⟩
  ·rw[V h];exact⟨rfl,rfl,rfl,rfl,rfl,rfl,rfl⟩
theorem aBf(e:jB l=0)(w:fI a b c)(v:0<=lt/\lt<=131072)(g:0<=bf/\bf<=1048576):aaD l lt bf a b c W:=by
 obtain⟨m,j⟩:=Mt e;unfold aaD alU aw afr Wt yf ae7 iy eO F1 aeX fq bF dk aV j7 T aey jL cl aZ lZ aL fC ay fP rX ck Lt B8 sB d tC bM gg qf lf gY Rq Wq Zq Jq;have f:True:=trivial;refine⟨⟨_,alW w v.1,by trivial,by trivial,by trivial,by trivial,by trivial,by trivial,by trivial,by trivial,by trivial,by trivial,by trivial⟩,fun s P=>?_⟩;have l0:=P.l0;have l1:=P.l1;have t0:=P.t0;have t1:=P.t1;have i1:=P.i1;have D:=P.n;simp only[toNat_cast];refine dq (fun hi=>?_) fun hi=>?_
 ·have hi:s.i<l.length:=Y
  have o:=j _ (Tf hi);have o1:=o.l0;have A:=o.l1;have B:=o.m0;have C:=o.m1;have u:eU (eU l s.i []) 0 0=bg (l.getD s.i []):=rfl;have y:eU (eU l s.i []) 1 0=kN (l.getD s.i []):=rfl;have z:eU (eU l s.i []) 2 0=dC (l.getD s.i []):=rfl;rw[u,y,z,wr (n:=s.th+bg (l.getD s.i [])) Y Y,wr (n:=s.lt-bg (l.getD s.i [])) Y Y];refine⟨Y,Y,dq (fun h=>?_) fun h=>⟨by trivial,P.r,⟨o.o0,o.o1,o.l0⟩,s,?_,fun _ Q=>?_⟩⟩
  ·rw[alX P hi h]
   exact⟨by trivial,by trivial,by trivial,cq (fun k=>by cases(show _=(0:Int)from k)) fun _=>⟨by trivial,by trivial,by trivial,by trivial,by trivial⟩⟩
  ·have Q:G5 l lt bf a b c W s:=⟨P,hi,h⟩
   have bad:yS W s.a s.b s.c s.th (l.getD s.i [])->25=yR W s.a s.b s.c s.th (l.getD s.i []):=fun k=>by unfold yR;rw[I k]
   have gd:¬yS W s.a s.b s.c s.th (l.getD s.i [])->0=yR W s.a s.b s.c s.th (l.getD s.i []):=fun k=>by unfold yR;rw[V k]
   refine bV (fun k=>?_) fun p=>dq (fun k=>?_) fun t=>dq (fun k=>?_) fun k3=>?_
   ·exact⟨(),Q,by trivial,by trivial,by trivial,by trivial,by trivial,by trivial,bad (.inl k),by trivial,by trivial,by trivial,by trivial,by trivial,by trivial,by trivial,by trivial,by trivial,by trivial⟩
   ·exact⟨(),Q,by trivial,by trivial,by trivial,by trivial,by trivial,by trivial,bad (.inr (.inl k)),by trivial,by trivial,by trivial,by trivial,by trivial,by trivial,by trivial,by trivial,by trivial,by trivial⟩
   ·exact⟨(),Q,by trivial,by trivial,by trivial,by trivial,by trivial,by trivial,bad (.inr (.inr k)),by trivial,by trivial,by trivial,by trivial,by trivial,by trivial,by trivial,by trivial,by trivial,by trivial⟩
   ·exact⟨(),Q,by trivial,by trivial,by trivial,by trivial,by trivial,by trivial,gd (fun k=>by rcases k with k|k|k<;>omega),by trivial,by trivial,by trivial,by trivial,by trivial,by trivial,by trivial,by trivial,by trivial,by trivial⟩
  ·have h:=Q.x
   unfold yR;by_cases k:yS W s.a s.b s.c s.th (l.getD s.i [])
   ·rw[I k,alY P hi h k]
    refine bV (fun _=>⟨by trivial,by trivial,by trivial,cq (fun k=>by cases(show _=(0:Int)from k)) fun _=>⟨by trivial,by trivial,by trivial,by trivial,by trivial⟩⟩) fun k=>absurd k H
   ·rw[V k]
    obtain⟨N,hB⟩:=alZ e P hi h k;refine bV (fun k=>absurd rfl k) fun _=>⟨by trivial,cq (fun _=>⟨P.r,⟨o.o0,o.o1,o.l0⟩,by trivial,by trivial,Y,?_⟩) fun h=>absurd hB h⟩;rw[wr (n:=(l.length:Int)-1) Y Y,wr (n:=(s.i:Int)+1) Y Y,wr (n:=s.th+bg (l.getD s.i [])+kN (l.getD s.i [])) Y Y,wr (n:=s.th+bg (l.getD s.i [])+kN (l.getD s.i [])+(s.lt-bg (l.getD s.i []))) Y Y,wr (n:=s.th+bg (l.getD s.i [])+kN (l.getD s.i [])+(s.lt-bg (l.getD s.i []))-bf) Y Y];refine de (fun h=>?_) fun h=>?_
    ·have E:=aaF N (by show s.i+1=_;omega)
     have y:(dsN s (l.getD s.i [])).lt=s.lt-bg (l.getD s.i []):=rfl;have z:(dsN s (l.getD s.i [])).th=s.th+bg (l.getD s.i [])+kN (l.getD s.i []):=rfl;rw[y,z]at E;rw[E];refine dq (fun h=>?_) fun h=>?_
     ·rw[I h]
      exact⟨by trivial,by trivial,by trivial,cq (fun k=>by cases(show _=(0:Int)from k)) fun _=>⟨by trivial,by trivial,by trivial,by trivial,by show(l.length:Int)=((s.i+1:Nat):Int);omega⟩⟩
     ·rw[V h]
      exact⟨by trivial,by trivial,by trivial,cq (fun _=>⟨by trivial,by trivial,by trivial,by trivial⟩) fun k=>absurd rfl k⟩
    ·exact⟨_,N,(by show l.length- (s.i+1)<l.length-s.i;omega),by trivial,by trivial,by trivial,by trivial,by trivial,by trivial,by trivial,by trivial,by trivial,by trivial,by trivial⟩
 ·have E:=aaF P Y
  rw[wr (n:=s.th+s.lt) Y Y,wr (n:=s.th+s.lt-bf) Y Y,E];refine dq (fun h=>?_) fun h=>?_
  ·rw[I h]
   exact⟨by trivial,by trivial,by trivial,cq (fun k=>by cases(show _=(0:Int)from k)) fun _=>⟨by trivial,by trivial,by trivial,by trivial,by show(l.length:Int)=((s.i:Nat):Int);omega⟩⟩
  ·rw[V h]
   exact⟨by trivial,by trivial,by trivial,cq (fun _=>⟨by trivial,by trivial,by trivial,by trivial⟩) fun k=>absurd rfl k⟩
end
def aFN:=agE.gE aO6 m.nil Tryz.func173 fun⟨e,i⟩ _=>⟨(aHK),J (p:=ac0 e i) (aFO)⟩
def Zj:=m.cons aFN<|(CS ayG ayD)
def aBe:=aON.gd Zj Tryz.func124 fun⟨l,lt,bf,a,b,c,W⟩ ⟨h,x,y,z,_⟩=>⟨(oDs l lt bf a b c W),J (p:=aaD l lt bf a b c W) (aBf h x y z)⟩
def aBg:=aOO.gd Zj Tryz.func144 fun⟨l,lt,bf,a,b,c,W⟩ ⟨h,x,y,z,_⟩=>⟨(aHs l lt bf a b c W),J (p:=aaE l lt bf a b c W) (aBh h x y z)⟩
def ayw:=m.cons aBe<| .cons aBg<| .cons aRZ<|Zj
def qt(l:q)(t bf:M)(a b c W:Int):Int:=if lP l t bf a b c W=0 then(cG l t.size bf.size a b c W).a else 0
def pX(l:q)(t bf:M)(a b c W:Int):Int:=if lP l t bf a b c W=0 then(cG l t.size bf.size a b c W).b else 0
def pY(l:q)(t bf:M)(a b c W:Int):Int:=if lP l t bf a b c W=0 then(cG l t.size bf.size a b c W).c else 0
structure ExQ (l:List (N)) (t bf:M) (a b c W:Int) (s:n_):Prop extends ExP l t bf a b c W s where
 q:jB l=0
 tz:t.size<=131072
 bz:bf.size<=1048576
 by':∀y∈s.F,0<=y/\y<256
structure Ej (l:List (N)) (t bf:M) (W:Int):Prop where
 q:jB l=0
 w:0<=W
 tz:t.size<=131072
 bz:bf.size<=1048576
def Ad(l:q)(t bf:M)(W:Int):Int:=if jB l≠0 then jB l else if W<0 then 2 else if 131072<t.size\/1048576<bf.size then 4 else 0
def ic(l:q)(s:n_):N:=l.getD s.i []
def C5(l:q)(s:n_):M:=s.t.extract 0 (bg (ic l s)).toNat
def tc(l:q)(s:n_):M:=s.t.extract (bg (ic l s)).toNat s.t.size
def pj(l:q)(s:n_):Nat:=(kN (ic l s)).toNat
def ta(l:q)(s:n_):Int:=dT s.a s.b s.c (dC (ic l s)) (bg (ic l s))
def gV(l:q)(s:n_)(j:Nat):N:=uh (ta l s).toNat j (s.F++dY (C5 l s))
structure Ek (l:List (N)) (t bf:M) (a b c W:Int) (s:n_) (j:Nat):Prop extends ExQ l t bf a b c W s where
 i2:s.i<l.length
 j1:j<=pj l s
def SU(l:q)(s:n_):n_:=⟨s.i+1,tc l s,gV l s (pj l s),gU s.a s.b s.c (dC (ic l s)) (bg (ic l s)),fb s.a s.b s.c (dC (ic l s)) (bg (ic l s)),fc s.a s.b s.c (dC (ic l s)) (bg (ic l s))⟩
def sEx:Spec:=Sp (List (N)×M×M×Int×Int×Int×Int) [.r 3,.s,.s,.t,.i] fun(l,t,bf,a,b,c,W)=>([E (fI a b c),E (l.length<=1000000)],aE (.tu [aD (rL l t bf a b c W),qT [qt l t bf a b c W,pX l t bf a b c W,pY l t bf a b c W],B (lP l t bf a b c W)]))
def TP(l:q)(t bf:M)(a b c W:Int):bN:=[(1001,wb [(cG l t.size bf.size a b c W).a,(cG l t.size bf.size a b c W).b,(cG l t.size bf.size a b c W).c]),(1002,wb [0,0,0])]
def aom(bf:M)(F:N):bN:=[(5000,.ob 183 5001 bf),(5001,.fr 5 (F.drop bf.size))]
def hpX(k:Nat)(x:N):Nat×bm:=(k,.cells 185 [.v (.int .i64 (bg x)),.v (.int .i64 (kN x)),.v (.int .i64 (dC x))])
def awq(l:q)(t bf:M)(a b c W:Int)(i:Nat)(u:M):lW:=[(1,.v (.string u)),(8,.p 1001 0 0),(11,.p 1002 0 0),(14,.bZ (.ints .i64 (cG l t.size bf.size a b c W).d)),(16,.p 5000 0 0),(64,.bZ (.cH 3 l)),(65,.v (.int .i64 (l.length:Nat))),(66,.v (.int .i64 (i:Nat)))]
def XZ(l:q)(t bf:M)(W v:Int):lW:=[(0,.bZ (.cH 3 l)),(1,.v (.string t)),(2,.v (.string bf)),(4,.v (.int .i64 W)),(8,.p 1001 0 0),(11,.p 1002 0 0),(13,.v (.int .i64 v))]
def TO(a b c:Int):bN:=[(1001,wb [a,b,c]),(1002,wb [0,0,0])]
def oEx(l:q)(t bf:M)(a b c W:Int):bO:=dX [
 (1004,jG True (XZ l t bf W (jB l)) (TO a b c)),(1009,jG True (XZ l t bf W (Ad l t bf W)) (TO a b c)),(1011,jG (Ej l t bf W) (XZ l t bf W 0) (TO a b c)),
 (0,.one {ι:=n_,p:=ExQ l t bf a b c W,tm:=fun s=>awq l t bf a b c W s.i s.t,hp:=fun s=>TP l t bf a b c W++aom bf s.F,μ:=fun s=>l.length-s.i}),
 (1,.nk n_ fun s=>{ι:=Nat,p:=Ek l t bf a b c W s,tm:=fun j=>awq l t bf a b c W s.i (tc l s)++ [(17,B (s.i:Nat)),(18,U 1003),(84,B (kN (ic l s))),(85,cP j)],hp:=fun j=>TP l t bf a b c W++(hpX 1003 (ic l s)::aom bf (gV l s j)),μ:=fun j=>pj l s-j})]
def awp(l:q)(t bf:M)(a b c W:Int)(i:Nat)(u:M):lW:=[(0,.bZ (.cH 3 l)),(1,.v (.string u)),(2,.v (.string bf)),(11,.p 1002 0 0),(14,.bZ (.ints .i64 (cG l t.size bf.size a b c W).d)),(15,.p 1001 0 0),(16,.o 5000),(17,.v (.int .i64 (i:Nat)))]
def aoo(F:N):bN:=[(5000,.row 5 (.ints .u8 F))]
def oEr(l:q)(t bf:M)(a b c W:Int):bO:=dX [
 (1004,jG True (XZ l t bf W (jB l)) (TO a b c)),
 (0,.one {ι:=n_,p:=ExQ l t bf a b c W,tm:=fun s=>awp l t bf a b c W s.i s.t,hp:=fun s=>TP l t bf a b c W++aoo s.F,μ:=fun s=>l.length-s.i}),
 (1,.nk n_ fun s=>{ι:=Nat,p:=Ek l t bf a b c W s,tm:=fun j=>awp l t bf a b c W s.i (tc l s)++ [(18,cP j)],hp:=fun j=>TP l t bf a b c W++aoo (gV l s j),μ:=fun j=>pj l s-j})]
def B5(h0:zX)(h1:Prop):Prop:=Jq [h0.a,h0.b,h0.c]/\Jq [(0:Int),0,0]/\h1
def Il(h0:q)(h1 h:M)(x y z e:Int)(k:Prop):Prop:=Jq [(0:Int),0,0].length/\(3:Nat)=3/\aJ=rL h0 h1 h x y z e/\[(0:Int),0,0]= [qt h0 h1 h x y z e,pX h0 h1 h x y z e,pY h0 h1 h x y z e]/\k
def wY(h0:M):N:=ma (fun(h:UInt8)=>Zq h.toNat) h0.data.toList
def VZ(h0:zX):Prop:=3=gY h0.b [h0.c]
def V'(h0:q)(h1 h e:Int)(x y:M)(z:Int)(k:Prop):Prop:=h0.length<=140737488355328/\Bq (jB h0==0) (3=gY h1 [h]/\fI e h1 h/\ja (h0=h0) (x=x/\y=y/\z=z/\0=jB h0/\Jq [e,h1,h]/\fP=fq)) (ja (h0=h0) (x=x/\y=y/\z=z/\aw (jB h0) (Jq [e,h1,h]) (fP=fq)))/\k
def LP(h0:Bool)(h1 h x:Prop):Prop:=mr True (Bq h0 h1 h/\mr True x)
def w_(h0:M):Prop:=ak h0<=ak h0
def F9(h0:M):Prop:=h0.size<=4294967296
def ae6(h0:zX)(h1 h:Prop):Prop:=tC (sB h0) fq (VZ h0) (h1/\h)
def P'(h0 h1:M)(h:Prop):Prop:=(0<=ak h0/\ak h0<=131072)/\(0<=ak h1/\ak h1<=1048576)/\h
def afl(h0:q)(h1 h:M)(x y z e:Int):Prop:=sB (cG h0 (ak h1) (ak h) x y z e)= [qt h0 h1 h x y z e,pX h0 h1 h x y z e,pY h0 h1 h x y z e]/\0=lP h0 h1 h x y z e
def WC(h0:q)(h1 h:M)(x y z e:Int)(k:N):Prop:=VZ (cG h0 (ak h1) (ak h) x y z e)/\ae6 (cG h0 (ak h1) (ak h) x y z e) (strOfNums k=rL h0 h1 h x y z e) (afl h0 h1 h x y z e)
def amu(l:q)(t bf:M)(a b c W:Int)(D P i p:Prop)(j:N)(h:zX)(k:Int):Prop:=V' l b c a t bf W (LP (jB l !=0) D (Dq (W<0) (ja (l=l) (t=t/\fV bf W (2=k) p)) (Dq (ak t>131072) P (Dq (ak bf>1048576) P D))) (iy (k !=0) ((3:Nat)=3/\fq.length=3/\Il l t bf a b c W (k=lP l t bf a b c W)) (aL (Ej l t bf W/\l=l/\t=t/\fV bf W (k=0) p)) (Ej l t bf W->3=gY b [c]/\lZ h.e (jB l=0) (fI a b c/\P' t bf (tC (sB h) [a,b,c] (∃(e:n_),ExQ l t bf a b c W e/\t=e.t/\i/\yf l (aZ e.i/\B5 h (bf=bf/\ck (iI bf.size e.F)))) (∀(x:n_),ExQ l t bf a b c W x->kX (Zq x.i) (dk l) (ft (0<=bM l (T x.i)) (bM l (T x.i)<=ak x.t/\cd (iI bf.size x.F)/\F9 (x.t.extract 0 (bM l (T x.i)).toNat)/\aF (bM l (T x.i)) (bM l (T x.i)<=ak x.t) (w_ x.t/\(∃(g13:n_),(∃(L:Nat),Ek l t bf a b c W g13 L/\x.t.extract (bM l (T x.i)).toNat (ak x.t).toNat=tc l g13/\i/\yf l (fC x.i g13.i/\fC x.i g13.i/\d l (T x.i)=kN (ic l g13)/\aZ L/\B5 h (bM l (T x.i)=bg (ic l g13)/\d l (T x.i)=kN (ic l g13)/\aV l (T x.i)=dC (ic l g13)/\bf=bf/\iI bf.size x.F++wY (x.t.extract 0 (bM l (T x.i)).toNat)=iI bf.size (gV l g13 L))))/\(∀(y:Nat),Ek l t bf a b c W g13 y->Dq (Zq y<kN (ic l g13)) (o8 g13.i j (cd (iI bf.size (gV l g13 y))) (F9 bf/\1<=j.getD (T g13.i) 0/\j.getD (T g13.i) 0<=ak bf+o (iI bf.size (gV l g13 y))/\cd (iI bf.size (gV l g13 y))/\Rq (if j.getD (T g13.i) 0<=o (iI bf.size (gV l g13 y))then sc (strOfNums (iI bf.size (gV l g13 y))) (o (iI bf.size (gV l g13 y))-j.getD (T g13.i) 0)else sc bf (ak bf+o (iI bf.size (gV l g13 y))-j.getD (T g13.i) 0)) 256 (∃(r:Nat),Ek l t bf a b c W g13 r/\cl (pj l g13) r y/\tc l g13=tc l g13/\i/\yf l (aw (Zq g13.i) (Zq g13.i=Zq g13.i) (aw (kN (ic l g13)) (bE y r) (B5 h (aw (bg (ic l g13)) (kN (ic l g13)=kN (ic l g13)) (aw (dC (ic l g13)) (bf=bf) (iI bf.size (gV l g13 y)++ [if j.getD (T g13.i) 0<=o (iI bf.size (gV l g13 y))then sc (strOfNums (iI bf.size (gV l g13 y))) (o (iI bf.size (gV l g13 y))-j.getD (T g13.i) 0)else sc bf (ak bf+o (iI bf.size (gV l g13 y))-j.getD (T g13.i) 0)]=iI bf.size (gV l g13 r)))))))))) (∃(z:n_),ExQ l t bf a b c W z/\cl l.length z.i x.i/\tc l g13=z.t/\i/\yf l (ay (Zq g13.i)=Zq z.i/\B5 h (bf=bf/\iI bf.size (gV l g13 y)=iI bf.size z.F)))))))) (cd (iI bf.size x.F)) (F9 x.t/\cd (iI bf.size x.F++wY x.t)/\WC l t bf a b c W (iI bf.size x.F++wY x.t))))) (fI a b c/\P' t bf (tC (sB h) [a,b,c] ((3:Nat)=3) (fq.length=3/\Il l t bf a b c W (h.e=lP l t bf a b c W)))))))
def aaZ(l:q)(t bf:M)(a b c W:Int):Prop:=amu l t bf a b c W (ja (l=l) (t=t/\fV bf W (jB l=Ad l t bf W) (Jq [a,b,c]/\Jq fq))) (ja (l=l) (t=t/\fV bf W (4=Ad l t bf W) (Jq [a,b,c]/\Jq fq))) (Jq (cG l (ak t) (ak bf) a b c W).d) (Jq [a,b,c]/\Jq fq) (cG l (ak t) (ak bf) a b c W).d (cG l (ak t) (ak bf) a b c W) (Ad l t bf W)
def FJ(h0:N):Prop:=(h0.length+1)*1<=140737488355328
def asy(l:q)(t bf:M)(a b c W:Int)(D P:Prop)(i:N)(p:zX)(j:Int):Prop:=V' l b c a t bf W (mr True (Bq (jB l !=0) (Il l t bf a b c W (jB l=j)) (Dq (W<0) (Il l t bf a b c W (2=j)) (Dq (ak t>131072) D (Dq (ak bf>1048576) D (3=gY b [c]/\jB l=0/\fI a b c/\P' t bf ((sB p).length=3/\gg (sB p) fP/\bS p.e (Jq fq.length) ((3:Nat)=3/\aJ=rL l t bf a b c W/\fq= [qt l t bf a b c W,pX l t bf a b c W,pY l t bf a b c W]/\p.e=j) (fQ bf) ((∃(y:n_),ExQ l t bf a b c W y/\l=l/\t=y.t/\bf=bf/\P/\aZ y.i/\B5 p (wY bf=y.F))/\(∀(x4:n_),ExQ l t bf a b c W x4->kX (Zq x4.i) (dk l) (ft (0<=bM l (T x4.i)) (bM l (T x4.i)<=ak x4.t/\(x4.F.length+(wY (x4.t.extract 0 (bM l (T x4.i)).toNat)).length)*1<=140737488355328/\Rq (Zq x4.i) (dk l) (aF (bM l (T x4.i)) (bM l (T x4.i)<=ak x4.t) (w_ x4.t/\(∃(g5:n_),(∃(k:Nat),Ek l t bf a b c W g5 k/\l=l/\x4.t.extract (bM l (T x4.i)).toNat (ak x4.t).toNat=tc l g5/\bf=bf/\P/\fC x4.i g5.i/\aZ k/\B5 p (x4.F++wY (x4.t.extract 0 (bM l (T x4.i)).toNat)=gV l g5 k))/\(∀(h:Nat),Ek l t bf a b c W g5 h->Rq (Zq g5.i) (dk l) (Dq (Zq h<d l (T g5.i)) (Rq (Zq g5.i) (o i) (Rq (Wq (o (gV l g5 h)-i.getD (T g5.i) 0)) (o (gV l g5 h)) (b5 (o (gV l g5 h)-i.getD (T g5.i) 0)<(gV l g5 h).length/\FJ (gV l g5 h)/\(∃(z:Nat),Ek l t bf a b c W g5 z/\cl (pj l g5) z h/\l=l/\tc l g5=tc l g5/\bf=bf/\P/\aw (Zq g5.i) (bE h z) (B5 p (gV l g5 h++ [(gV l g5 h).getD (b5 (o (gV l g5 h)-i.getD (T g5.i) 0)) 0]=gV l g5 z)))))) (∃(x:n_),ExQ l t bf a b c W x/\cl l.length x.i x4.i/\l=l/\tc l g5=x.t/\bf=bf/\P/\ay (Zq g5.i)=Zq x.i/\B5 p (gV l g5 h=x.F))))))))) ((x4.F.length+(wY x4.t).length)*1<=140737488355328) (aF (ak bf) (ak bf<=o (x4.F++wY x4.t)) (o (x4.F++wY x4.t)<=o (x4.F++wY x4.t)/\WC l t bf a b c W (Cc (o (x4.F++wY x4.t)).toNat (ak bf).toNat (x4.F++wY x4.t)))))))))))))
def af0(l:q)(t bf:M)(a b c W:Int):Prop:=asy l t bf a b c W (Il l t bf a b c W (4=lP l t bf a b c W)) (Jq (cG l (ak t) (ak bf) a b c W).d) (cG l (ak t) (ak bf) a b c W).d (cG l (ak t) (ak bf) a b c W) (lP l t bf a b c W)
end Go.Proofs.YtegnkfbnmepmpaaGreatDoor
namespace Go.Proofs.YtegnkfbnmepmpaaGreatDoor
open Go
def aG(g:Int):Nat:=2^g.toNat
def ou(g:Int):Nat:=aG g/2+aG g/8+3
def oN(g:Int)(t:Nat):Nat:=(t*ou g)%aG g
def oQ(p:Int):Bool:=p== -1
def bu(l:N):Nat:=(l.filter oQ).length
def oR(s:Int):N->N
 | []=>[]
 |p::r=>cond (oQ p) (s::oR (s+1) r) (oR (s+1) r)
def km(s:Int):N->N
 | []=>[]
 |p::r=>au p.toNat s++km (s+1) r
def lE(g:Int)(l:N)(c:Nat):Bool:=decide (c+bu l<aG g)
def tL(g:Int)(l:N):cf:=(fM (aG g)).filter fun t=>lE g l (oN g t)
def qs(g:Int)(l:N)(t:Nat):Nat:=((fM t).filter fun t=>lE g l (oN g t)).length
def Aw(g:Int)(c:Nat):N->List (Int×Int)
 | []=>[]
 |s::r=>((aG g:Int)-1- (c:Int),s)::Aw g (c+1) r
def y_(g:Int)(l:N)(c:Nat):N->List (Int×Int)
 | []=>[]
 |s::r=>((oN g ((tL g l).getD c 0):Int),s)::y_ g l (c+1) r
def Du(g:Int)(l:N):List (Int×Int):=Aw g 0 (oR 0 l)
def Fl(g:Int)(l:N):List (Int×Int):=y_ g l 0 (km 0 l)
def kL(g:Int)(l:N):List (Int×Int):=Du g l++Fl g l
def FE(h:N)(x:Int×Int):N:=h.set x.1.toNat x.2
def Dy(h:N)(xs:List (Int×Int)):N:=xs.foldl FE h
def zL(n:Nat):N:=au n 0
def k8(g:Int)(l:N)(n:Nat):N:=Dy (zL (aG g)) ((kL g l).take n)
def aH(g:Int)(l:N):N:=Dy (zL (aG g)) (kL g l)
def pJ(g:Int)(n:Nat):List Bool:=au (aG g-n) ah++au n ab
def yh(g:Int):Nat->List (N×N)
 |0=>[]
 |n+1=>([(aG g:Int)-1-n],[1])::yh g n
def gm(l:N)(i:Nat):Nat:=(km 0 (l.take i)).length
def KL(x:Int×Int):bG:=[.int .i64 x.1,.int .i64 x.2]
def Av(g:Int)(l:N):List (List Value):=(kL g l).map KL
def Fx(g:Int)(l:N):Bool:=cb g l==0
def AQ(g:Int)(l:N):N:=cond (Fx g l) (aH g l) []
def Mr(l:N):Bool:=(fM (l.length-1)).all fun i=>decide (l.getD i 0<=l.getD (i+1) 0)
end Go.Proofs.YtegnkfbnmepmpaaGreatDoor
namespace Go.Proofs.YtegnkfbnmepmpaaGreatDoor
open Go Go.RowKit
theorem amE{p:Nat->Bool}:∀{n t:Nat},t<n->p t=ab->((fM n).filter p)[((fM t).filter p).length]? =O t
 |n+1,t,h,hp=>by
  rw[aiu,aiU];by_cases z:t<n
  ·have x:=amE (n:=n) z hp
   have y:=(List.getElem?_eq_some_iff.1 x).1;rw[GJ y];exact x
  ·have e:t=n:=Y
   grind
theorem aqL{l:cf}{n:Nat}(y:l.Nodup)(u:l.length=n)(h:∀x∈l,x<n):l.Perm (fM n):=by
 rw[List.perm_ext_iff_of_nodup y aiv];intro a;rw[List.mem_range];refine⟨h a,fun r=>?_⟩;by_cases z:a∈l
 ·exact z
 ·exfalso
  have e:=List.nodup_cons.2 ⟨z,y⟩;have k:(a::l)⊆fM n:=c9;have:=List.Nodup.length_le_of_subset e k;grind
structure oB (g:Int) (l:N):Prop where
 g5:5<=g
 g12:g<=12
 n1:1<=l.length
 n2:l.length<=256
 lo:∀x∈l, -1<=x
 last:l.getD (l.length-1) 0≠0
 sum:ie l=2^g.toNat
theorem C3{g:Int}{l:N}(h:cb g l=0):oB g l:=by
 unfold cb at h;cases z:decide (g<5)||decide (12<g)
 ·rw[z,iw]at h
  simp only[qS,dH]at z;cases y:Bn g l
  ·unfold Bn at y
   simp only[qS,dH,Bool.not_eq_false',wx,wo,aiC,dJ]at y;obtain⟨⟨⟨⟨u,v⟩,k3⟩,k⟩,r⟩:=y;exact⟨Y,Y,Y,Y,fun x e=>by have:=k x e;omega,k3,r⟩
  ·grind
 ·grind
theorem Gt(g:Int):(aG g:Int)=2^g.toNat:=by simp[aG]
theorem xe{g:Int}(h1:5<=g)(h:g<=12):32<=aG g/\aG g<=4096:=by
 have a:=nF (show 0<2 by omega) (show 5<=g.toNat by omega);have b:=nF (show 0<2 by omega) (show g.toNat<=12 by omega);exact⟨a,b⟩
theorem Mw(g:Int):0<aG g:=Nat.two_pow_pos _
theorem avS{g:Int}(h1:5<=g)(h:g<=12):1<=ou g/\ou g<=4096:=by grind [xe,ou]
theorem aRc{g:Int}(h1:5<=g):ou g%2=1:=by
 obtain⟨k,h⟩:∃k,g.toNat=k+5:=⟨g.toNat-5,Y⟩;grind [ou,aG]
theorem aRe{g:Int}(h1:5<=g):Nat.Coprime (aG g) (ou g):=by
 refine Nat.Coprime.pow_left _ ?_;grind [aRc,Nat.gcd]
theorem Fw(g:Int)(t:Nat):oN g t<aG g:=CC _ (Mw g)
theorem adK(g:Int):oN g 0=0:=by simp[oN]
theorem aHV(g:Int):oN g (aG g)=0:=by simp[oN]
theorem aql(g:Int)(t:Nat):oN g (t+1)=(oN g t+ou g)%aG g:=by
 unfold oN;rw[pQ,Nat.one_mul,Nat.mod_add_mod]
theorem aqk{g:Int}(h1:5<=g){a b:Nat}(e:a<aG g)(y:b<aG g)(h:oN g a=oN g b):a=b:=by
 have z:∀{a b:Nat},a<=b->b<aG g->oN g a=oN g b->a=b:=by
  intro a b k y h;obtain⟨d,rfl⟩:∃d,b=a+d:=⟨b-a,Y⟩;have x:=aiR (Nat.sub_mod_eq_zero_of_mod_eq h.symm);rw[pQ,aiT]at x;have:=Nat.Coprime.dvd_of_dvd_mul_right (aRe h1) x;rcases yx d with h0|h0
  ·omega
  ·have:=Nat.le_of_dvd h0 this
   omega
 grind
theorem aHT{g:Int}(h1:5<=g):((fM (aG g)).map (oN g)).Nodup:=by grind [List.Pairwise.imp_of_mem,List.nodup_range,aqk]
theorem aHU{g:Int}(h1:5<=g):((fM (aG g)).map (oN g)).Perm (fM (aG g)):=
 aqL (aHT h1) aj fun x h=>by
  simp only[List.mem_map]at h;obtain⟨t,_,rfl⟩:=h;exact Fw g t
theorem aG2(l:N)(x:Int):bu (l++ [x])=bu l+cond (oQ x) 1 0:=by grind [bu]
theorem Pw{l:N}{i:Nat}(h:i<l.length):bu (l.take (i+1))=bu (l.take i)+cond (oQ (l.getD i 0)) 1 0:=by grind [take_succ,aG2]
theorem aG3(l:N)(i:Nat):bu (l.take i)<=bu l:=by grind [Jy,bu]
theorem Pn(s:Int):∀l:N,(oR s l).length=bu l
 | []=>rfl
 |p::r=>by
  have h:=Pn (s+1) r;grind [bu,oR]
theorem apx:∀(l:N) (s:Int) (i:Nat),i<l.length->oQ (l.getD i 0)=ab->(oR s l)[bu (l.take i)]? =O (s+i)
 |p::r,s,0,_,h=>by
  simp only[I8]at h;simp[oR,h,bu]
 |p::r,s,i+1,hi,h=>by
  have y:=apx r (s+1) i (by simpa using hi) (by simpa using h);have e:bu ((p::r).take (i+1))=cond (oQ p) 1 0+bu (r.take i):=by
   grind [bu]
  rw[e];have x:s+1+(i:Int)=s+((i+1:Nat):Int):=Y;cases hp:oQ p
  ·simp only[oR,hp,iw,rA]
   rw[y,x]
  ·simp only[oR,hp,bo]
   grind
theorem abV(s:Int):∀(a b:N),km s (a++b)=km s a++km (s+a.length) b:=by
 intro a;induction a generalizing s with
 |nil=>grind [km]
 |cons p r h=>grind [km]
theorem OG{l:N}{i:Nat}(h:i<l.length):gm l (i+1)=gm l i+(l.getD i 0).toNat:=by grind [gm,take_succ,abV,km]
theorem abY(l:N)(i:Nat):gm l i<=(km 0 l).length:=by grind [Jy,gm,abV]
theorem abX(l:N):gm l l.length=(km 0 l).length:=by simp[gm]
theorem aEg{l:N}{i j:Nat}(h:i<l.length)(x:j<(l.getD i 0).toNat):(km 0 l)[gm l i+j]? =O (i:Int):=by
 have e:l=l.take i++l.getD i 0::l.drop (i+1):=by simp_all
 grind [km,abV,gm]
theorem aKS:∀(s:Int) (l:N),(∀x∈l, -1<=x)->ie l=(bu l+(km s l).length:Nat):=by
 intro s l;have y:∀(l:N) (s a:Int),(∀x∈l, -1<=x)->l.foldl (fun s p=>s+pt p) a=a+(bu l+(km s l).length:Nat):=by
  intro l;induction l with
  |nil=>grind [bu,km]
  |cons p r z=>
   intro s a h;have hp:=h p aj;rw[GL,z (s+1) _ (fun x e=>h x c9)];grind [bu,oQ,km,pt]
 intro h;have:=y l s 0 h;rw[A5]at this;exact this
theorem oB.total{g:Int}{l:N}(h:oB g l):bu l+(km 0 l).length=aG g:=by
 have x:=aKS 0 l h.lo;rw[h.sum,<-Gt]at x;omega
theorem oB.pos{g:Int}{l:N}(h:oB g l){i j:Nat}(hi:i<l.length)(z:j<(l.getD i 0).toNat):bu l<aG g:=by
 have x:=h.total;have y:=abY l (i+1);grind [OG]
theorem alk(g:Int)(l:N)(t:Nat):qs g l (t+1)=qs g l t+cond (lE g l (oN g t)) 1 0:=by grind [qs,GY]
theorem av_{g:Int}{l:N}(h:oB g l):(tL g l).length=(km 0 l).length:=by
 have z:=(aHU h.g5).filter (lE g l);have x:=z.length_eq;rw[List.filter_map,qk]at x;have e:(lE g l∘oN g)=fun t=>lE g l (oN g t):=rfl;rw[e]at x;have u:((fM (aG g)).filter (lE g l)).length=aG g-bu l:=by
  have k:∀n,((fM n).filter fun c=>decide (c+bu l<aG g)).length=min n (aG g-bu l):=by
   intro n;induction n with
   |zero=>simp
   |succ n r=>
    rw[aiu,aiU,gn,r];by_cases y:n+bu l<aG g
    ·simp[y];omega
    ·simp[y];omega
  have:=k (aG g);unfold lE;rw[this];omega
 have:=h.total;show((fM (aG g)).filter fun t=>lE g l (oN g t)).length=_;omega
theorem aAi{g:Int}{l:N}(h:oB g l):qs g l (aG g)=(km 0 l).length:=av_ h
theorem ahC{g:Int}{l:N}(h:oB g l){t:Nat}(y:t<=aG g)(x:qs g l t<(km 0 l).length):t<aG g:=by grind [aAi]
theorem aRu{g:Int}{l:N}{t:Nat}(x:t<aG g)(h:lE g l (oN g t)=ab):(tL g l).getD (qs g l t) 0=t:=by grind [tL,qs,amE]
theorem adh(g:Int):∀(xs:N) (c:Nat),(Aw g c xs).length=xs.length
 | [],_=>rfl
 |x::r,c=>by simp[Aw,adh g r]
theorem adg(g:Int):∀(xs:N) (c k:Nat) {s:Int},xs[k]? =O s->(Aw g c xs)[k]? =O ((aG g:Int)-1- ((c+k:Nat):Int),s)
 |x::r,c,0,s,h=>by grind [Aw]
 |x::r,c,k+1,s,h=>by
  simp only[A4]at h;simp only[Aw,A4,adg g r (c+1) k h];grind
theorem anY(g:Int)(l:N):∀(xs:N) (c:Nat),(y_ g l c xs).length=xs.length
 | [],_=>rfl
 |x::r,c=>by simp[y_,anY g l r]
theorem abW(g:Int)(l:N):∀(xs:N) (c k:Nat) {s:Int},xs[k]? =O s->(y_ g l c xs)[k]? =O ((oN g ((tL g l).getD (c+k) 0):Int),s)
 |x::r,c,0,s,h=>by grind [y_]
 |x::r,c,k+1,s,h=>by
  simp only[A4]at h;simp only[y_,A4,abW g l r (c+1) k h];grind
theorem acW(g:Int)(l:N):(Du g l).length=bu l:=by grind [Du,adh,Pn]
theorem aoT(g:Int)(l:N):(Fl g l).length=(km 0 l).length:=by grind [Fl,anY]
theorem T_{g:Int}{l:N}(h:oB g l):(kL g l).length=aG g:=by
 unfold kL;rw[gn,acW,aoT,h.total]
theorem aoW{g:Int}{l:N}{i:Nat}(h:i<l.length)(y:oQ (l.getD i 0)=ab):(kL g l)[bu (l.take i)]? =O ((aG g:Int)-1- (bu (l.take i):Nat),(i:Int)):=by
 have x:=apx l 0 i h y;rw[A5]at x;have z:(Du g l)[bu (l.take i)]? =_:=adg g (oR 0 l) 0 _ x;grind [kL]
theorem aoV{g:Int}{l:N}(e:oB g l){i j t:Nat}(h:i<l.length)(k:j<(l.getD i 0).toNat)(u:t<=aG g)(z:qs g l t=gm l i+j)(r:lE g l (oN g t)=ab):
  (kL g l)[bu l+(gm l i+j)]? =O ((oN g t:Int),(i:Int)):=by
 have x:=aEg h k;have y:=abW g l (km 0 l) 0 _ x;have w:=(List.getElem?_eq_some_iff.1 x).1;have v:=ahC e u Y;unfold kL;rw[GI (by rw[acW];omega),acW,aiT];show(y_ g l 0 (km 0 l))[_]? =_;rw[y,rA,<-z,aRu v r]
theorem acX{g:Int}{l:N}{k:Nat}{x:Int×Int}(h:(kL g l)[k]? =O x):(Av g l)[k]? =O [.int .i64 x.1,.int .i64 x.2]:=by
 unfold Av;rw[pS,h];rfl
theorem aFF(g:Int)(l:N):(Av g l).length=(kL g l).length:=by simp[Av]
theorem H7(p:N×N)(l:List (N×N))(h:N):eh (p::l) h=if p.1=h then O p.2 else eh l h:=by grind [eh]
theorem arT(g:Int):∀(n c:Nat),c<aG g->n<=aG g->eh (yh g n) [(c:Int)]=if c+n<aG g then ae else O [1]
 |0,c,h,_=>by rw[I Y];rfl
 |n+1,c,h,x=>by
  rw[yh,H7,arT g n c h Y];grind
theorem aLr{g:Int}{l:N}(x:bu l<=aG g){c:Nat}(h:c<aG g):((sw 1 (yh g (bu l)) [(c:Int)]).headD 0==1)= !lE g l c:=by
 unfold sw lE;rw[arT g _ c h x];grind
theorem Me(g:Int){n:Nat}(h:n<=aG g):(pJ g n).length=aG g:=by grind [pJ]
theorem arU(g:Int){n c:Nat}(h:c<aG g)(x:n<=aG g):(pJ g n).getD c ah= !decide (c+n<aG g):=by grind [pJ]
theorem aLs(g:Int){n:Nat}(z:n<aG g):(pJ g n).set (aG g-1-n) ab=pJ g (n+1):=by
 apply D8;intro c;rw[Rh,Me g Y];have at_:∀{n c:Nat},n<=aG g->c<aG g->(pJ g n)[c]? =O (!decide (c+n<aG g)):=by
  intro n c z x;have:=arU g x z;grind [Me]
 by_cases x:c<aG g
 ·rw[at_ Y x,at_ Y x]
  by_cases h:aG g-1-n=c
  ·rw[I h,I Y]
   have:¬(c+(n+1)<aG g):=Y;simp[this]
  ·rw[V h]
   congr 2;by_cases y:c+n<aG g
   ·rw[jS y,jS Y]
   ·rw[iW y,iW Y]
 ·rw[xk (by rw[Me g Y];omega),xk (by rw[Me g Y];omega)]
  split
  ·omega
  ·rfl
theorem aLt(g:Int):pJ g 0=au (aG g) ah:=by simp[pJ]
theorem aqW(o:N)(x:Int×Int):(FE o x).length=o.length:=by simp[FE]
theorem ad9:∀(xs:List (Int×Int)) (o:N),(Dy o xs).length=o.length
 | [],_=>rfl
 |x::xs,o=>by
  unfold Dy;rw[GL];exact(ad9 xs (FE o x)).trans (aqW o x)
theorem ahg(g:Int)(l:N)(k:Nat):(k8 g l k).length=aG g:=by grind [k8,ad9,zL]
theorem IN(g:Int)(l:N):(aH g l).length=aG g:=by grind [aH,ad9,zL]
theorem avr(g:Int)(l:N):k8 g l 0=au (aG g) 0:=by rfl
theorem aRz{α:Type}{l:List α}{k:Nat}{x:α}(h:l[k]? =O x):l.take (k+1)=l.take k++ [x]:=by grind [List.take_add_one]
theorem ahh{g:Int}{l:N}{k:Nat}{x:Int×Int}(h:(kL g l)[k]? =O x):k8 g l (k+1)=(k8 g l k).set x.1.toNat x.2:=by
 unfold k8;rw[aRz h];unfold Dy;rw[Rl];rfl
theorem avq{g:Int}{l:N}(h:oB g l):k8 g l (bu l+gm l l.length)=aH g l:=by
 have:=T_ h;have x:=h.total;grind [k8,aH,abX]
theorem aoU{g:Int}{l:N}(h:oB g l){k:Nat}{x:Int×Int}(v:(kL g l)[k]? =O x):0<=x.1/\x.1<aG g:=by
 have hm:=aiJ v;unfold kL at hm;rw[jv]at hm;rcases hm with hm|hm
 ·have r:=h.total
  obtain⟨j,u,z⟩:=List.mem_iff_getElem.1 hm;have y:j<(oR 0 l).length:=by grind [Du,adh]
  have:=adg g (oR 0 l) 0 j (kB y);grind [Du,Pn]
 ·obtain⟨j,u,z⟩:=List.mem_iff_getElem.1 hm
  have y:j<(km 0 l).length:=by grind [aoT]
  have:=abW g l (km 0 l) 0 j (kB y);have e:(Fl g l)[j]? =O x:=c9;unfold Fl at e;rw[e]at this;cases this;have:=Fw g ((tL g l).getD (0+j) 0);omega
theorem azg(a:Nat){g:Int}(h1:5<=g)(x:g<=12)(y:a<=100000):bits .and .i64 (a:Int) ((aG g:Int)-1)=((a%aG g:Nat):Int):=by
 have h:∀a:Nat,a<=4294967295->(lk 64 (a:Int)).toNat=a:=fun a y=>by grind
 have k:=xe h1 x;have e:(aG g:Int)-1=((aG g-1:Nat):Int):=Y;rw[e];show IntKind.i64.wrap ((lk 64 (a:Int)&&&lk 64 ((aG g-1:Nat):Int)).toNat:Int)=_;rw[Yx,h a Y,h _ Y];have:aG g-1=2^g.toNat-1:=rfl;rw[this,aiS,Rf];have z:a%2^g.toNat<2^g.toNat:=CC _ (Nat.two_pow_pos _);grind
def aPZ:Spec:=Sp Int [.i] fun g=>([E (5<=g),E (g<=12)],aE (B (ou g)))
def aPP:Spec:=Sp Int [.i] fun g=>([E (5<=g),E (g<=12)],aE (.tu [B (ou g),B 0]))
def aOX:Spec:=Sp (Int×N) [.g [.i,.l]] fun(g,l)=>([],.leaf (.fn (.func 305) [] [U 2000]) [(2000,.cells 44 [B g,dm l])])
def auF:Spec:=Sp (Int×N) [.g [.i,.l]] fun(g,l)=>([E (l.length<=4294967296)],aE (.tu [dm (AQ g l),B (cb g l)]))
def dB(g:Int)(l:N):bm:=.cells 44 [.v (.int .i64 g),.bZ (.ints .i64 l)]
def mB(g:Int)(n:Nat):bm:=.mp (.one (.i .i64)) (.one .b) (yh g n)
def aHD(l0:Nat)(g:Int)(l:N):CQ:={ι:=Nat,p:=fun i=>i<=l.length,tm:=fun i=>[(0,.v (.func (.yield l0) #[] #[])),(1,U 0),(3,B (aG g:Nat)),(4,.m 1000),(5,B ((aG g:Int)-1- (bu (l.take i):Nat))),(18,dm l),(19,B l.length),(20,cP i)],hp:=fun i=>[(0,dB g l),(1000,mB g (bu (l.take i)))],μ:=fun i=>l.length-i,y:=fun i=>bu (l.take i)}
def aHE(l0:Nat)(g:Int)(l:N):CQ:={ι:=Nat×Nat,p:=fun x=>x.1<=l.length/\x.2<=aG g/\qs g l x.2=gm l x.1/\(lE g l (oN g x.2)=ab\/aG g<=bu l),tm:=fun x=>[(0,.v (.func (.yield l0) #[] #[])),(1,U 0),(3,B (aG g:Nat)),(4,.m 1000),(8,B (oN g x.2:Nat)),(38,dm l),(39,B l.length),(40,B (x.1:Nat))],hp:=fun x=>[(0,dB g l),(1000,mB g (bu l))],μ:=fun x=>l.length-x.1,y:=fun x=>bu l+gm l x.1}
def aHF(l0:Nat)(g:Int)(l:N)(i:Nat):CQ:={ι:=Nat×Nat,p:=fun x=>i<l.length/\x.1<=(l.getD i 0).toNat/\x.2<=aG g/\qs g l x.2=gm l i+x.1/\(lE g l (oN g x.2)=ab\/aG g<=bu l),tm:=fun x=>[(0,.v (.func (.yield l0) #[] #[])),(1,U 0),(3,B (aG g:Nat)),(4,.m 1000),(8,B (oN g x.2:Nat)),(9,cP i),(38,dm l),(39,B l.length),(40,cP i),(46,B ((l.getD i 0).toNat:Nat)),(47,B (x.1:Nat))],hp:=fun x=>[(0,dB g l),(1000,mB g (bu l))],μ:=fun x=>(l.getD i 0).toNat-x.1,y:=fun x=>bu l+(gm l i+x.1)}
def aHG(l0:Nat)(g:Int)(l:N)(i j:Nat):CQ:={ι:=Nat,p:=fun t=>i<l.length/\j<(l.getD i 0).toNat/\t<=aG g/\qs g l t=gm l i+(j+1),tm:=fun t=>[(0,.v (.func (.yield l0) #[] #[])),(1,U 0),(3,B (aG g:Nat)),(4,.m 1000),(8,B (oN g t:Nat)),(9,cP i),(38,dm l),(39,B l.length),(40,cP i),(46,B ((l.getD i 0).toNat:Nat)),(47,cP j)],hp:=fun t=>[(0,dB g l),(1000,mB g (bu l))],μ:=fun t=>aG g-t,y:=fun t=>bu l+(gm l i+(j+1))}
def aqi(l0:Nat)(g:Int)(l:N):Nat->Option Ba:=fun k=>cond (ap k 0) (O ⟨Unit,fun _=>aHD l0 g l⟩) (cond (ap k 1) (O ⟨Unit,fun _=>aHE l0 g l⟩) (cond (ap k 2) (O ⟨Nat,fun i=>aHF l0 g l i⟩) (cond (ap k 3) (O ⟨Nat×Nat,fun x=>aHG l0 g l x.1 x.2⟩) ae)))
def aIT(g:Int)(l:N):dV:=bi Nat fun i=>(i<=l.length/\cb g l=0,[(1,U 1000),(5,B (aG g:Nat)),(6,B (ou g:Nat)),(8,.o 5000),(9,.o 5001),(10,B ((aG g:Int)-1- (bu (l.take i):Nat))),(11,cP i)],[(1000,dB g l),(5000,.row 3 (.ints .i64 (k8 g l (bu (l.take i))))),(5001,.row 4 (.xx (pJ g (bu (l.take i)))))],l.length-i)
def aIU(g:Int)(l:N):dV:=bi (Nat×Nat) fun x=>(x.1<=l.length/\cb g l=0/\x.2<=aG g/\qs g l x.2=gm l x.1/\(lE g l (oN g x.2)=ab\/aG g<=bu l),[(1,U 1000),(5,B (aG g:Nat)),(6,B (ou g:Nat)),(8,.o 5000),(9,.o 5001),(12,B (oN g x.2:Nat)),(13,B (x.1:Nat))],[(1000,dB g l),(5000,.row 3 (.ints .i64 (k8 g l (bu l+gm l x.1)))),(5001,.row 4 (.xx (pJ g (bu l))))],l.length-x.1)
def aIV(g:Int)(l:N)(i:Nat):dV:=bi (Nat×Nat) fun x=>(i<l.length/\cb g l=0/\x.1<=(l.getD i 0).toNat/\x.2<=aG g/\qs g l x.2=gm l i+x.1/\(lE g l (oN g x.2)=ab\/aG g<=bu l),[(1,U 1000),(5,B (aG g:Nat)),(6,B (ou g:Nat)),(8,.o 5000),(9,.o 5001),(12,B (oN g x.2:Nat)),(13,cP i),(14,B (x.1:Nat))],[(1000,dB g l),(5000,.row 3 (.ints .i64 (k8 g l (bu l+(gm l i+x.1))))),(5001,.row 4 (.xx (pJ g (bu l))))],(l.getD i 0).toNat-x.1)
def aIW(g:Int)(l:N)(i j:Nat):dV:=bi Nat fun t=>(i<l.length/\cb g l=0/\j<(l.getD i 0).toNat/\t<=aG g/\qs g l t=gm l i+(j+1),[(1,U 1000),(5,B (aG g:Nat)),(6,B (ou g:Nat)),(8,.o 5000),(9,.o 5001),(12,B (oN g t:Nat)),(13,cP i),(14,cP j)],[(1000,dB g l),(5000,.row 3 (.ints .i64 (k8 g l (bu l+(gm l i+(j+1)))))),(5001,.row 4 (.xx (pJ g (bu l))))],aG g-t)
def aIS(g:Int)(l:N):bO:=fun k=>cond (ap k 0) (O (.one (aIT g l))) (cond (ap k 1) (O (.one (aIU g l))) (cond (ap k 2) (O (.nk Nat fun i=>aIV g l i)) (cond (ap k 3) (O (.nk (Nat×Nat) fun x=>aIW g l x.1 x.2)) ae)))
def aK'(g:Int)(l:N):Ha:={f:=305,cap:=[U 600008],iR:=[(600008,dB g l)],xs:=Av g l,it:=fun i=>KL ((kL g l).getD i (0,0)),tm:=[(5,U 1001)],hp:=fun i=>[(1001,.cells 42 [.o 1002]),(1002,.row 3 (.ints .i64 (k8 g l i)))]}
def aH3(g:Int)(l:N):bO:=fun k=>cond (ap k 0) (O (.Cr Nat fun _=>aK' g l)) ae
def U2(h0:Int)(h1:N)(h:Nat×Nat):Prop:=lE h0 h1 (oN h0 h.2)=ab\/aG h0<=bu h1
def sD(h0:Int)(h1:Nat)(h:N):Int:=Zq (aG h0)-1-Zq (bu (aC h1 h))
def FL(h0:Nat×Nat)(h1:N)(x:Nat)(h:Int):Prop:=h0.1<=G h1 x/\h0.2<=aG h/\qs h h1 h0.2=gm h1 x+h0.1/\U2 h h1 h0
def yb(h0 h1:Int)(h x:Prop):Prop:=h0*h1<=281474976710656/\h1<=9223372036854775807/\h/\x
def FO(h0:Nat)(h1:Int)(h x:Prop):Prop:=aw (Zq h0) (h1=h1) (h/\x)
def FY(h0:Nat×Nat)(h1:N)(h:Nat)(x:Int):Prop:=h0.2<G h1 h0.1/\h<=aG x/\qs x h1 h=gm h1 h0.1+(h0.2+1)
def LF(h0:Nat×Nat)(h1:Int)(h:N):Prop:=h0.2<=aG h1/\qs h1 h h0.2=gm h h0.1/\U2 h1 h h0
def aeZ(h0:N)(h1:Int)(y z:Nat)(e k x:Int)(r:N)(u:List Bool):Prop:=∃(h:Nat),(jc h h0/\h1=0)/\gS h0 h y/\FO z e (k=sD x h h0) (bE y h/\x=x/\h0=h0/\r=k8 x h0 (bu (aC h h0))/\u=pJ x (bu (aC h h0)))
def LQ(h0:Int)(h1:Nat):Int:=Wq (Zq (oN h0 h1)+Zq (ou h0))
def Ga(h0:Int)(h1 h:Nat):Prop:=fC (oN h0 h1) (oN h0 h)
def WD(h0:Int)(h1:N)(h x y:Nat):Prop:=k8 h0 h1 (h+x)=k8 h0 h1 (h+y)/\pJ h0 (bu h1)=pJ h0 (bu h1)
def WG(h0:Nat×Nat)(h1:N)(h:Int):Prop:=h0.1<=h1.length/\cb h h1=0/\LF h0 h h1
def ats(g:Int)(l:N)(D:Prop)(P:List Bool)(i:Int):Prop:=cd l/\bS (cb g l) (ck (AQ g l)) (cb g l=cb g l) (fU g) (5<=g/\g<=12/\aF (fG g) (fG g<=fG g) (yb (Zq 8) (fG g) (0<=fG g) (fG g<=fG g/\yb (Zq 1) (fG g) (∃(x:Nat),(jc x l/\D)/\fG g=Zq (aG g)/\aw i (bF (fG g)=sD g x l) (aZ x/\g=g/\l=l/\AM (fG g)=k8 g l (bu (aC x l))/\au (fG g).toNat ah=pJ g (bu (aC x l)))) (∀(x1:Nat),jc x1 l/\D->kX (Zq x1) (o l) (Bq (b_ l x1==fH) (Rq (sD g x1 l) (o (k8 g l (bu (aC x1 l)))) ((sD g x1 l).toNat<(k8 g l (bu (aC x1 l))).length/\Rq (sD g x1 l) (Zq (pJ g (bu (aC x1 l))).length) ((sD g x1 l).toNat<(pJ g (bu (aC x1 l))).length/\aeZ l (cb g l) x1 (aG g) i (bF (sD g x1 l)) g ((k8 g l (bu (aC x1 l))).set (sD g x1 l).toNat (Zq x1)) ((pJ g (bu (aC x1 l))).set (sD g x1 l).toNat ab)))) (aeZ l (cb g l) x1 (aG g) i (sD g x1 l) g (k8 g l (bu (aC x1 l))) (pJ g (bu (aC x1 l))))) (∃(x4:Nat×Nat),WG x4 l g/\FO (aG g) i (aZ (oN g x4.2)) (aZ x4.1/\g=g/\l=l/\k8 g l (bu (aC x1 l))=k8 g l (bu l+gm l x4.1)/\pJ g (bu (aC x1 l))=P)) (∀(h:Nat×Nat),WG h l g->Dq (Zq h.1<o l) (∃(g6:Nat),(∃(k:Nat×Nat),(g6<l.length/\D/\FL k l g6 g)/\FO (aG g) i (Ga g h.2 k.2) (fC h.1 g6/\aZ k.1/\g=g/\l=l/\WD g l (bu l) (gm l h.1) (gm l g6+k.1)))/\(∀(x8:Nat×Nat),g6<l.length/\D/\FL x8 l g6 g->Rq (Zq g6) (o l) (Dq (Zq x8.1<b_ l g6) (o8 (oN g x8.2) (k8 g l (bu l+(gm l g6+x8.1))) (T (oN g x8.2)<(k8 g l (bu l+(gm l g6+x8.1))).length) (Zq (aG g)≠0/\(∃(g9:Nat×Nat),(∃(u:Nat),(g9.1<l.length/\D/\FY g9 l u g)/\FO (aG g) i ((LQ g x8.2).tmod (Zq (aG g))=Zq (oN g u)) (fC g6 g9.1/\fC x8.1 g9.2/\g=g/\l=l/\(k8 g l (bu l+(gm l g6+x8.1))).set (T (oN g x8.2)) (Zq g6)=k8 g l (bu l+(gm l g9.1+(g9.2+1)))/\P=P))/\(∀(e:Nat),g9.1<l.length/\D/\FY g9 l e g->Rq (Zq (oN g e)) (Zq P.length) (T (oN g e)<P.length/\Bq (P.getD (T (oN g e)) ah) (Zq (aG g)≠0/\(∃(r:Nat),(g9.1<l.length/\D/\FY g9 l r g)/\cl (aG g) r e/\FO (aG g) i ((LQ g e).tmod (Zq (aG g))=Zq (oN g r)) (Jq (Zq g9.1)/\Jq (Zq g9.2)/\g=g/\l=l/\Jq (k8 g l (bu l+(gm l g9.1+(g9.2+1))))/\P=P))) (∃(y:Nat×Nat),(g6<l.length/\D/\FL y l g6 g)/\cl (G l g6) y.1 x8.1/\FO (aG g) i (Ga g e y.2) (fC g9.1 g6/\ay (Zq g9.2)=Zq y.1/\g=g/\l=l/\WD g l (bu l) (gm l g9.1+(g9.2+1)) (gm l g6+y.1)))))))) (∃(z:Nat×Nat),WG z l g/\cl l.length z.1 h.1/\FO (aG g) i (Ga g x8.2 z.2) (ay (Zq g6)=Zq z.1/\g=g/\l=l/\WD g l (bu l) (gm l g6+x8.1) (gm l z.1)))))) (k8 g l (bu l+gm l h.1)=AQ g l/\0=cb g l))))))
def tG(h0:List (List Value))(h1:Nat)(h:bG):Prop:=GetElem?.getElem? h0 h1=Option.some h
def ot(h0:Int)(h1:Value):bG:=[cg .i64 h0,h1]
def DE(h0:Int):SV:=SV.v (cg .i64 h0)
def F_(h0:cf):Nat:=h0.toArray.toList.length
def avo(g:Int)(l:N)(D:Int):Prop:=cd l/\bS (cb g l) (ck (AQ g l)) (cb g l=cb g l) (0<=g) (aF D (D<=D) (Zq 8*D<=281474976710656/\D<=9223372036854775807/\(∃(y:Nat),xt Proofs.Tryz.prog 305 [SV.p 600008 0 0] [(600008,bm.cells 44 [DE g,SV.bZ (aA.ints .i64 l)])] (ma KL (kL g l)) (fun(x:Nat)=>([]:bN))/\(g=g/\l=l)/\True/\AM D=k8 g l 0/\(∀(h:Nat),h<(ma KL (kL g l)).length->True->tG (ma KL (kL g l)) h (ot ((kL g l).getD h (0,0)).1 (cg .i64 ((kL g l).getD h (0,0)).2))/\(ot ((kL g l).getD h (0,0)).1 (cg .i64 ((kL g l).getD h (0,0)).2)).length=F_ [19,20]/\Rq ((kL g l).getD h (0,0)).1 (o (k8 g l h)) (((kL g l).getD h (0,0)).1.toNat<(k8 g l h).length/\True/\(k8 g l h).set ((kL g l).getD h (0,0)).1.toNat ((kL g l).getD h (0,0)).2=k8 g l (h+1)))/\(True->k8 g l (ma KL (kL g l)).length=AQ g l/\0=cb g l))))
def xW(h0 h1:Nat):Prop:=(h0,ab)=(h1,ab)
def DA(h0 h1:List (N×N)):Prop:=∀(h:N),eh h0 h=eh h1 h
def PQ(h0:List (N×N)):Prop:=∀(h:N),Jq (eh h0 h)
def Io(h0:List (N×N)):Prop:=∀(h:N),eh [] h=eh h0 h
def vU(h0:Nat):Prop:=Jq (Value.func (Fn.yield h0) ([]:bG).toArray ([]:bG).toArray)
def FT(h0:Nat):Prop:=((0:Nat),ab)=(h0,ab)
def aeK(h0:N)(h1 y z:Nat)(e k x r:Int)(u:List (N×N)):Prop:=∃(h:Nat),iT h h0/\xW h1 (M2 oQ (aC h h0)).length/\gS h0 h y/\vU z/\aw e (k=sD x h h0) (h0=h0/\aw r (bE y h) (x=x/\h0=h0/\DA u (yh x (bu (aC h h0)))))
def anb(g:Int)(l:N)(l0:Nat)(D:Prop)(P i:Int):Prop:=0<=g/\aL (∃(x1:Nat),iT x1 l/\FT (M2 oQ (aC x1 l)).length/\(vU l0/\jd g .i64=P/\bF (jd g .i64)=sD g x1 l/\lG l i (aZ x1) (g=g/\l=l/\Io (yh g (bu (aC x1 l)))))/\(∀(h:Nat),iT h l->Dq (Zq h<i) (Rq (Zq h) i (Bq (b_ l h==fH) (l0=l0/\tG (Av g l) (M2 oQ (aC h l)).length (ot (sD g h l) (cg .i64 (Zq h)))/\aeK l ((M2 oQ (aC h l)).length+1) h l0 P (bF (sD g h l)) g i (([sD g h l],[(1:Int)])::yh g (bu (aC h l)))/\True) (aeK l (M2 oQ (aC h l)).length h l0 P (sD g h l) g i (yh g (bu (aC h l)))))) (aL (∃(k:Nat×Nat),(k.1<=l.length/\LF k g l)/\xW (M2 oQ (aC h l)).length ((bu l).add (gm l k.1))/\(vU l0/\aw P (aZ (oN g k.2)) (lG l i (aZ k.1) (g=g/\l=l/\DA (yh g (bu (aC h l))) (yh g (bu l)))))/\(∀(e:Nat×Nat),e.1<=l.length/\LF e g l->Dq (Zq e.1<i) (Rq (Zq e.1) i (∃(g12:Nat),∃(u:Nat×Nat),(g12<l.length/\FL u l g12 g)/\xW ((bu l).add (gm l e.1)) ((bu l).add (gm l g12+u.1))/\(vU l0/\aw P (Ga g e.2 u.2) (fC e.1 g12/\lG l i (fC e.1 g12) (uZ (b_ l e.1) (0:Int)=Zq (G l g12)/\aZ u.1/\D)))/\(∀(x:Nat×Nat),g12<l.length/\FL x l g12 g->Dq (Zq x.1<Zq (G l g12)) (l0=l0/\tG (Av g l) ((bu l).add (gm l g12+x.1)) (ot (Zq (oN g x.2)) (cg .i64 (Zq g12)))/\(5<=g/\g<=12/\(∃(g16:Nat×Nat),∃(S:Nat),(g16.1<l.length/\FY g16 l S g)/\xW ((bu l).add (gm l g12+x.1)+1) ((bu l).add ((gm l g16.1).add g16.2)).succ/\(vU l0/\aw P (bits .and .i64 (LQ g x.2) (bF P)=Zq (oN g S)) (fC g12 g16.1/\lG l i (fC g12 g16.1) (fC (G l g12) (G l g16.1)/\fC x.1 g16.2/\D)))/\(∀(z:Nat),g16.1<l.length/\FY g16 l z g->Bq ((sw 1 (yh g (bu l)) [Zq (oN g z)]).headD 0==1) (5<=g/\g<=12/\(∃(v:Nat),(g16.1<l.length/\FY g16 l v g)/\Jq (((bu l).add ((gm l g16.1).add g16.2)).succ,ab)/\cl (aG g) v z/\vU l0/\aw P (bits .and .i64 (LQ g z) (bF P)=Zq (oN g v)) (Jq (Zq g16.1)/\lG l i (Jq (Zq g16.1)) (Jq (Zq (G l g16.1))/\Jq (Zq g16.2)/\D)))) (∃(r:Nat×Nat),(g12<l.length/\FL r l g12 g)/\xW ((bu l).add ((gm l g16.1).add g16.2)).succ ((bu l).add (gm l g12+r.1))/\cl (G l g12) r.1 x.1/\vU l0/\aw P (Ga g z r.2) (fC g16.1 g12/\lG l i (fC g16.1 g12) (fC (G l g16.1) (G l g12)/\ay (Zq g16.2)=Zq r.1/\D))))))/\True) (∃(y:Nat×Nat),(y.1<=l.length/\LF y g l)/\xW ((bu l).add (gm l g12+x.1)) ((bu l).add (gm l y.1))/\cl l.length y.1 e.1/\vU l0/\aw P (Ga g x.2 y.2) (lG l i (ay (Zq g12)=Zq y.1) D))))) ((bu l).add (gm l e.1)=(Av g l).length))))))
def abd(g:Int)(l:N)(l0:Nat):Prop:=anb g l l0 (g=g/\l=l/\PQ (yh g (bu l))) (Zq (aG g)) (o l)
theorem Mx{g:Int}(h1:5<=g)(h:g<=12):Q bW ((1:Int)*(2:Int)^min (X g) (cZ bW))=(aG g:Int):=by
 rw[sS Y Y,Gt]
theorem wu{g:Int}(h1:5<=g)(h:g<=12):Q fh g=g:=fW Y Y
theorem stI(g:Int):(ou g:Int)=(aG g:Int)/2+(aG g:Int)/8+3:=by unfold ou;push_cast;rfl
theorem aj6{g:Int}(h1:5<=g)(h:g<=12)(t:Nat):bits CL bW (Q bW ((oN g t:Int)+(ou g:Int))) (Q bW ((aG g:Int)- (1:Int)))=(oN g (t+1):Int):=by
 have a:=Fw g t;have b:=xe h1 h;have c:=avS h1 h;rw[wr Y Y,wr Y Y,aql];have:=azg (oN g t+ou g) h1 h Y;push_cast at this;rw[this];push_cast;rfl
theorem asm{g:Int}(h1:5<=g)(h:g<=12)(t:Nat):kf (Q bW ((oN g t:Int)+(ou g:Int))) (aG g:Int)=(oN g (t+1):Int):=by
 have a:=Fw g t;have b:=xe h1 h;have c:=avS h1 h;rw[wr Y Y,aql,Jo Y];push_cast;rfl
theorem KK{x:Int}(h:(x==(-1:Int))=ab):oQ x=ab:=h
theorem ap'{l:N}{i:Nat}(h:i<l.length)(y:oQ (l.getD i 0)=ab):bu (l.take i)<bu l:=by
 have x:=Pw h;have z:=aG3 l (i+1);rw[y]at x;simp only[bo]at x;omega
theorem ap_{g:Int}{l:N}(h:oB g l):bu l<=aG g:=by have:=h.total;omega
theorem arV{g:Int}{l:N}(hp:bu l<aG g){t:Nat}(y:t<=aG g)(x:lE g l (oN g t)=ah):t<aG g/\qs g l (t+1)=qs g l t:=by
 refine⟨?_,by rw[alk,x];rfl⟩;rcases uQ t (aG g)with h|h
 ·exact h
 ·have e:t=aG g:=Y
  subst e;rw[aHV]at x;unfold lE at x;rw[jS Y]at x;cases x
theorem ane{g:Int}{l:N}{t:Nat}(h:lE g l (oN g t)=ab):qs g l (t+1)=qs g l t+1:=by rw[alk,h];rfl
theorem aqq{g:Int}{l:N}(h:oB g l):lE g l (oN g 0)=ab\/aG g<=bu l:=by
 rw[adK];unfold lE;by_cases x:bu l<aG g
 ·exact .inl (jS Y)
 ·exact .inr Y
theorem wJ{i:Nat}(h:i<=100000):Q bW ((i:Int)+1)=((i+1:Nat):Int):=by rw[wr Y Y];push_cast;rfl
theorem aC0(g:Int)(l:N)(h:cb g l=0)(l0:Nat):abd g l l0:=by
 have z:=C3 h;have a:=z.g5;have n:=z.g12;have H:=xe a n;have F:=z.n2;have B:=z.total;have m:=ap_ z;unfold abd anb o lG Ga jd LQ LF fH FY bF aeK aw bE FT vU FL G aZ Io sD aL ot fC PQ tG DA ay xW gS cl iT U2 b_ Dq Bq Rq Wq Zq Jq;simp only[Mx a n,toNat_cast,gG,ai_,r_];refine⟨Y,(),0,dx _,A,⟨A,A,by rw[wr Y Y];simp[bu],A,A,A,A,A,(by first|trivial|(intro q;first|rfl|trivial))⟩,fun i hi=>⟨fun x=>?_,fun w=>?_⟩⟩
 ·have x:i<l.length:=by simpa using x
  refine⟨Y,Y,fun y=>?_,fun y=>?_⟩
  ·have E:=ap' x (KK y)
   have v:bu (l.take (i+1))=bu (l.take i)+1:=by rw[Pw x,KK y];rfl
   refine⟨A,acX (aoW x (KK y)),⟨i+1,Y,dR (fun k:Nat=>(k,ab)) v.symm,Y,A,A,?_,A,A,wJ Y,A,A,fun q=>?_⟩,A⟩
   ·rw[wr Y Y,v];omega
   ·rw[v];rfl
  ·have v:bu (l.take (i+1))=bu (l.take i):=by
    rw[Pw x];have:oQ (l.getD i 0)=ah:=y;rw[this];rfl
   exact⟨i+1,Y,dR (fun k:Nat=>(k,ab)) v.symm,Y,A,A,by rw[v],A,A,wJ Y,A,A,(by first|trivial|(intro q;rw[v]))⟩
 ·have w:i=l.length:=by simp at w;omega
  subst w;refine⟨(),(0,0),⟨dx _,dx _,A,aqq z⟩,?_,⟨A,A,by rw[adK];rfl,A,A,A,A,A,fun q=>by rw[Ed]⟩,?_⟩
  ·show(bu (l.take l.length),ab)=(bu l+gm l 0,ab)
   rw[Ed];simp[gm,km]
  rintro⟨i,t⟩ ⟨hi,r,u,b⟩;simp only at hi r u b|-;refine⟨fun x=>?_,fun w=>?_⟩
  ·have x:i<l.length:=by simpa using x
   refine⟨Y,Y,i,(0,t),⟨x,dx _,r,u,b⟩,A,⟨A,A,A,A,A,A,A,Y,A,A,A,(by first|trivial|(intro q;first|rfl|trivial))⟩,?_⟩;rintro⟨j,t⟩ ⟨_,f,r,u,b⟩;simp only at f r u b|-;refine⟨fun e=>?_,fun e=>?_⟩
   ·have e:j<(l.getD i 0).toNat:=by
     simp only[dJ]at e;omega
    have s:=z.pos x e;have d:lE g l (oN g t)=ab:=b.resolve_right Y;have uu:=abY l (i+1);rw[OG x]at uu;have I:=ahC z r Y;refine⟨A,acX (aoV z x e r u d),⟨a,n,(i,j),t+1,⟨x,e,Y,by rw[ane d,u];simp only;omega⟩,A,⟨A,A,aj6 a n t,A,A,A,A,A,A,A,A,(by first|trivial|(intro q;first|rfl|trivial))⟩,fun t C=>?_⟩,A⟩;obtain⟨_,_,r,u⟩:=C;simp only at u|-;have c:=aLr m (Fw g t);rw[c];refine⟨fun y=>?_,fun y=>?_⟩
    ·have y:lE g l (oN g t)=ah:=by simpa using y
     obtain⟨J,D⟩:=arV s r y;exact⟨a,n,t+1,⟨x,e,Y,by rw[D,u]⟩,A,Y,A,A,aj6 a n t,A,A,A,A,A,A,A,A,(by first|trivial|(intro q;first|rfl|trivial))⟩
    ·have y:lE g l (oN g t)=ab:=by simpa using y
     have:=yW x;have p:(l.getD i 0)<=4096:=by
      have:=z.total;omega
     refine⟨(j+1,t),⟨x,by simp only;omega,r,by simp only;omega,.inl y⟩,A,by simp only;omega,A,A,A,A,A,A,A,A,wJ Y,A,A,(by first|trivial|(intro q;first|rfl|trivial))⟩
   ·have e:j=(l.getD i 0).toNat:=by
     simp only[dH]at e;omega
    have v:=OG x;exact⟨(i+1,t),⟨x,r,by simp only;omega,b⟩,by simp only;rw[v,e],by simp only;omega,A,A,A,A,A,wJ Y,A,A,(by first|trivial|(intro q;first|rfl|trivial))⟩
  ·have w:i=l.length:=by simp at w;omega
   subst w;rw[aFF,T_ z,abX];exact B
theorem avp{g:Int}{l:N}(h:(cb g l !=(0:Int))=ab):(AQ g l).length=0:=by
 have:Fx g l=ah:=by unfold Fx;simpa using h
 unfold AQ;rw[this];rfl
theorem XJ{g:Int}{l:N}(h:cb g l=0):AQ g l=aH g l:=by
 have:Fx g l=ab:=by unfold Fx;simpa using h
 unfold AQ;rw[this];rfl
def aRj:=aPZ.gd ajJ Tryz.func306 fun(g:Int) ⟨h,x,_⟩=>⟨aK,J (p:=aF g ((0:Int)<=1) ((0:Int)<=3/\Wq (Wq ((jd g .i64).fdiv (gH (X 1) IntKind.i64.bits)+(jd g .i64).fdiv (gH (X 3) IntKind.i64.bits))+3)=Zq (ou g))) (by
 unfold jd aF gH Wq Zq;have e:=xe h x;simp only[Mx h x];simp only[Et,azV];have y:kQ (aG g:Int) (2^min (X 1) 64)=(aG g:Int)/2:=by rw[N4 H];rfl
 have z:kQ (aG g:Int) (2^min (X 3) 64)=(aG g:Int)/8:=by rw[N4 H];rfl
 rw[y,z,stI,wr (n:=(aG g:Int)/2+(aG g:Int)/8) Y Y,wr Y Y];simp;omega)⟩
def aNP:=aPP.gd m.nil Tryz.func299 fun(g:Int) ⟨h,x,_⟩=>⟨aK,J (p:=Dq (g<5) (aZ (ou g)/\(2:Int)=0) (Dq (g>12) (aZ (ou g)/\(2:Int)=0) (fU g/\(2:Int)≠0/\(8:Int)≠0/\Wq (Wq (Wq ((fG g).tdiv 2)+Wq ((fG g).tdiv 8))+3)=Zq (ou g)/\a_))) (by
 unfold a_ fU fG jd aZ Dq Wq Uq Zq;have e:=xe h x;rw[iW Y,iW Y,wu h x];simp only[Mx h x];have y:fi (aG g:Int) 2=(aG g:Int)/2:=MR Y;have z:fi (aG g:Int) 8=(aG g:Int)/8:=MR Y;rw[y,z,wr (n:=(aG g:Int)/2) Y Y,wr (n:=(aG g:Int)/8) Y Y,wr (n:=(aG g:Int)/2+(aG g:Int)/8) Y Y,wr Y Y,stI];simp;omega)⟩
def aC2:=aOX.gd m.nil Tryz.func296 fun⟨g,l⟩ _=>⟨aK,J (p:=g=g/\l=l) (⟨rfl,rfl⟩)⟩
def Zk:=m.cons aRj<| .cons aNP<| .cons aC2<|ajJ
theorem aCZ(g:Int)(l:N)(l0:Nat):abd g l l0=Yd ar (oC (sa Zk)) l0 (Av g l) (aqi l0 g l) Tryz.f305 [.p 0 0 0] [(0,.cells 44 [.v (.int .i64 g),.bZ (.ints .i64 l)])]:=ax
theorem aC1(k:Nat)(g:Int)(l:N)(h:cb g l=0):A' ar 305 [.p k 0 0] [(k,.cells 44 [.v (.int .i64 g),.bZ (.ints .i64 l)])] (Av g l):=by
 have x:A' ar 305 [.p 0 0 0] [(0,.cells 44 [.v (.int .i64 g),.bZ (.ints .i64 l)])] (Av g l):=
  acV (Ωi:=fun l0=>aqi l0 g l) Zk mixed Tryz.func305 ax fun l0=>by
   have:=aC0 g l h l0;rw[aCZ]at this;exact this
 exact x.js (fun i=>k+i) (by intro a b _ _ e;omega) rfl rfl
def ajy:=Zk
def aNG:=auF.gd ajy Tryz.func288 fun⟨g,l⟩ ⟨f,_⟩=>⟨(aIS g l),J (p:=ats g l (cb g l=0) (pJ g (bu l)) (Zq (ou g))) (by
 unfold ats cd WG WD Ga aF LQ AM aeZ bE o8 o LF fH FY fU bF FO aw yb FL G T fG jd aZ sD jc fC ay ck gS cl bS kX U2 b_ Dq Bq Rq Wq Uq Zq Jq;refine⟨f,fun h=>⟨avp h,A⟩,fun h=>?_⟩;have h:cb g l=0:=by simpa using h
 have z:=C3 h;have n:=z.g5;have w:=z.g12;have D:=xe n w;have C:=z.n2;have F:=z.total;have c:=ap_ z;simp only[wu n w,Mx n w,toNat_cast,ai_,r_];refine⟨Y,n,w,Y,jj _,Y,Y,Y,jj _,Y,Y,?_⟩;refine⟨⟨0,⟨dx _,h⟩,A,A,by rw[wr Y Y];simp[bu],A,A,A,?_,?_⟩,?_⟩
 ·rw[List.take_zero]
  exact(avr g l).symm
 ·rw[List.take_zero]
  exact(aLt g).symm
 rintro i ⟨hi,_⟩;refine⟨fun x=>?_,fun v=>?_⟩
 ·have x:i<l.length:=by simpa using x
  refine⟨Y,Y,fun y=>?_,fun y=>?_⟩
  ·have B:=ap' x (KK y)
   have u:bu (l.take (i+1))=bu (l.take i)+1:=by rw[Pw x,KK y];rfl
   rw[ahg,Me g Y];refine⟨Y,Y,Y,Y,Y,Y,i+1,⟨Y,h⟩,Y,A,A,?_,wJ Y,A,A,?_,?_⟩
   ·rw[wr Y Y,u];omega
   ·rw[u,ahh (aoW x (KK y))]
   ·rw[u,<-aLs g Y]
    congr 1;omega
  ·have u:bu (l.take (i+1))=bu (l.take i):=by
    rw[Pw x];have:oQ (l.getD i 0)=ah:=y;rw[this];rfl
   exact⟨i+1,⟨Y,h⟩,Y,A,A,by rw[u],wJ Y,A,A,by rw[u],by rw[u]⟩
 ·have v:i=l.length:=by simp at v;omega
  subst v;refine⟨⟨(0,0),⟨dx _,h,dx _,A,aqq z⟩,A,A,by rw[adK];rfl,A,A,A,?_,by rw[Ed]⟩,?_⟩
  ·rw[Ed]
   simp[gm,km]
  rintro⟨i,t⟩ ⟨hi,_,k,r,a⟩;simp only at hi k r a|-;refine⟨fun x=>?_,fun v=>?_⟩
  ·have x:i<l.length:=by simpa using x
   refine⟨i,⟨(0,t),⟨x,h,dx _,k,r,a⟩,A,A,A,A,A,A,A,A,A⟩,?_⟩;rintro⟨j,t⟩ ⟨_,_,m,k,r,a⟩;simp only at m k r a|-;refine⟨Y,Y,fun e=>?_,fun e=>?_⟩
   ·have e:j<(l.getD i 0).toNat:=by
     simp only[dJ]at e;omega
    have q:=z.pos x e;have d:lE g l (oN g t)=ab:=a.resolve_right Y;have uu:=abY l (i+1);rw[OG x]at uu;have E:=ahC z k Y;have b:=Fw g t;rw[ahg];refine⟨Y,Y,Y,Y,(i,j),⟨t+1,⟨x,h,e,Y,by rw[ane d,r];simp only;omega⟩,A,A,asm n w t,A,A,A,A,?_,A⟩,?_⟩
    ·have:=ahh (aoV z x e k r d)
     simp only[toNat_cast]at this;rw[<-this];rfl
    rintro t ⟨_,_,_,k,r⟩;simp only at r|-;rw[Me g c,arU g (Fw g t) c];have b:=Fw g t;refine⟨Y,Y,Y,fun y=>?_,fun y=>?_⟩
    ·have y:lE g l (oN g t)=ah:=by unfold lE;simpa using y
     obtain⟨H,s⟩:=arV q k y;exact⟨Y,t+1,⟨x,h,e,Y,by rw[s,r]⟩,Y,A,A,asm n w t,A,A,A,A,A,A⟩
    ·have y:lE g l (oN g t)=ab:=by unfold lE;simpa using y
     exact⟨(j+1,t),⟨x,h,by simp only;omega,k,by simp only;omega,.inl y⟩,by simp only;omega,A,A,A,A,wJ Y,A,A,A,A⟩
   ·have e:j=(l.getD i 0).toNat:=by
     simp only[dH]at e;omega
    have u:=OG x;exact⟨(i+1,t),⟨x,h,k,by simp only;omega,a⟩,by simp only;omega,A,A,A,wJ Y,A,A,by simp only;rw[u,e],A⟩
  ·have v:i=l.length:=by simp at v;omega
   subst v;exact⟨by rw[avq z,XJ h],h.symm⟩)⟩
def ajz:=m.cons aNG<|ajy
def aQW:=auF.gd ajz Tryz.func276 fun⟨g,l⟩ ⟨r,_⟩=>⟨(aH3 g l),J (p:=avo g l (jd g .i64)) (by
 unfold avo o cd jd aF F_ AM DE ot tG ck bS Bq Rq Wq Zq;refine⟨r,fun h=>⟨avp h,rfl⟩,fun h=>?_⟩;have h:cb g l=0:=by simpa using h
 have x:=C3 h;have k:=x.g5;have e:=x.g12;have u:=xe k e;simp only[Mx k e,toNat_cast,ai_,r_];refine⟨Y,Y,jj _,Y,Y,0,aC1 _ g l h,A,trivial,(avr g l).symm,fun i hi _=>?_,fun _=>⟨?_,h.symm⟩⟩
 ·rw[qk]at hi
  have y:(kL g l)[i]? =O ((kL g l).getD i (0,0)):=by
   rw[jR,kB hi];rfl
  have z:=aoU x y;rw[ahg];exact⟨acX y,A,z.1,z.2,Y,trivial,(ahh y).symm⟩
 ·rw[qk,XJ h]
  have:=avq x;rw[abX,x.total]at this;rw[T_ x];exact this)⟩
def ayx:=m.cons aQW<|ajz
def iL(p sy:N)(i:Nat):Int:=pt (p.getD (sy.getD i 0).toNat 0)+((sy.take i).count (sy.getD i 0):Nat)
def kJ(g:Int)(p sy:N)(i:Nat):Int:=g-aS (iL p sy i)
def NB(g:Int)(p sy:N)(i:Nat):N:=[sy.getD i 0,kJ g p sy i,iL p sy i*2^(kJ g p sy i).toNat-2^g.toNat]
def qq(g:Int)(p sy:N)(i:Nat):q:=(fM i).map (NB g p sy)
def cC(g:Int)(p:N):q:=qq g p (aH g p) (aH g p).length
def xB(g:Int)(p:N):q:=cond (Fx g p) (cC g p) []
def pD(p sy:N):Nat->List (N×N)
 |0=>[]
 |i+1=>([sy.getD i 0],[iL p sy i+1])::pD p sy i
def zi(p:N)(i:Nat):N:=(p.take i).map pt
def lD(p sy:N)(i:Nat):N:=(fM p.length).map fun(s:Nat)=>pt (p.getD s 0)+((sy.take i).count (s:Int):Nat)
def cS(c:q)(x:Int):Int:=(c.getD x.toNat []).getD 0 0
def cB(c:q)(x:Int):Int:=(c.getD x.toNat []).getD 1 0
def cA(c:q)(x:Int):Int:=(c.getD x.toNat []).getD 2 0
structure RA (g:Int) (c:List (N)):Prop where
 g0:0<=g
 g12:g<=12
 len:c.length=aG g
 b0:∀x:Int,0<=x->x<c.length->0<=cB c x/\cB c x<=g
 a0:∀x:Int,0<=x->x<c.length->0<=cA c x/\cA c x+2^(cB c x).toNat<=c.length
def dF(k:Nat)(g:Int)(p:N):Nat×bm:=(k,.cells 44 [.v (.int .i64 g),.bZ (.ints .i64 p)])
def sPt:Spec:=Sp Int [.i] fun x=>([],aE (B (pt x)))
def agH:Spec where
 ι:=Int×Int×N
 dec l H:=match l with
  | [.v (.int .i64 x),.p l0 0 0]=>match H l0 with
    |some (.cells 44 [.v (.int .i64 g),.bZ (.ints .i64 p)])=>O ((x,g,p),[l0])
    |_=>ae
  |_=>ae
 args:=fun(x,g,p)=>[B x,U 0]
 hp:=fun(x,g,p)=>[(0,.cells 44 [B g,dm p])]
 pre:=fun(x,g,p)=>[E (0<=x),E (x<p.length)]
 out:=fun(x,g,p)=>.leaf (B (pt (p.getD x.toNat 0))) [(0,.cells 44 [B g,dm p])]
theorem aPq:agH.dn:=by
 intro l H n i x h;simp only[agH]at h
 repeat' split at h
 all_goals first|(cases h;done)|(cases h;exact⟨rfl,rfl⟩)|(cases h;refine⟨rfl,?_⟩;simp only[dK,iF,iN,gN, *];rfl)
def Xp:Spec where
 ι:=Int×N×Int×N
 dec l H:=match l with
  | [.v (.int .i64 y),.fn (.func 278) [] [.p l0 0 0],.bZ (.ints .i64 q)]=>match H l0 with
    |some (.cells 44 [.v (.int .i64 g),.bZ (.ints .i64 p)])=>O ((y,q,g,p),[l0])
    |_=>ae
  |_=>ae
 args:=fun(y,q,g,p)=>[B y,.fn (.func 278) [] [U 0],dm q]
 hp:=fun(y,q,g,p)=>[(0,.cells 44 [B g,dm p])]
 pre:=fun(y,q,g,p)=>[E (cb g p=0),E (y=g),E (q=aH g p)]
 out:=fun(y,q,g,p)=>.leaf (.bZ (.cH 3 (cC g p))) [(0,.cells 44 [B g,dm p])]
theorem aOL:Xp.dn:=by
 intro l H n i x h;simp only[Xp]at h
 repeat' split at h
 all_goals first|(cases h;done)|(cases h;exact⟨rfl,rfl⟩)|(cases h;refine⟨rfl,?_⟩;simp only[dK,iF,iN,gN, *];rfl)
def at0:Spec:=Sp (Int×N) [.g [.i,.l]] fun(g,p)=>([E (p.length<=4294967296)],aE (.tu [.bZ (.cH 3 (xB g p)),B (cb g p)]))
def aHn(g:Int)(p:N):dV:=bi Nat fun i=>(i<=(aH g p).length,[(0,B g),(1,.fn (.func 278) [] [U 0]),(8,.o 5000),(9,.m 5001),(18,dm (aH g p)),(19,.v (.int .i64 (aH g p).length)),(20,cP i)],[dF 0 g p,(5000,.row 243 (.cH 3 (qq g p (aH g p) i))),(5001,.mp (.one (.i .i64)) (.one (.i .i64)) (pD p (aH g p) i))],(aH g p).length-i)
def aHq(g:Int)(p:N)(i:Nat):dV:=bi Unit fun _=>(i<(aH g p).length,[(0,B g),(1,.fn (.func 278) [] [U 0]),(8,.o 5000),(9,.m 5001),(11,B ((aH g p).getD i 0)),(18,dm (aH g p)),(19,.v (.int .i64 (aH g p).length)),(20,cP i)],[dF 0 g p,(5000,.row 243 (.cH 3 (qq g p (aH g p) i))),(5001,.mp (.one (.i .i64)) (.one (.i .i64)) (([(aH g p).getD i 0],[iL p (aH g p) i])::pD p (aH g p) i))],0)
def aHo(g:Int)(p:N)(i:Nat):dV:=bi Unit fun _=>(i<(aH g p).length,[(0,B g),(1,.fn (.func 278) [] [U 0]),(8,.o 5000),(9,.m 5001),(11,B ((aH g p).getD i 0)),(14,B (iL p (aH g p) i)),(18,dm (aH g p)),(19,.v (.int .i64 (aH g p).length)),(20,cP i)],[dF 0 g p,(5000,.row 243 (.cH 3 (qq g p (aH g p) i))),(5001,.mp (.one (.i .i64)) (.one (.i .i64)) (pD p (aH g p) (i+1)))],0)
def aHp(g:Int)(p:N)(i:Nat):dV:=bi Unit fun _=>(i<(aH g p).length,[(0,B g),(1,.fn (.func 278) [] [U 0]),(8,.o 5000),(9,.m 5001),(11,B ((aH g p).getD i 0)),(14,B (iL p (aH g p) i)),(15,B (kJ g p (aH g p) i)),(18,dm (aH g p)),(19,.v (.int .i64 (aH g p).length)),(20,cP i)],[dF 0 g p,(5000,.row 243 (.cH 3 (qq g p (aH g p) i))),(5001,.mp (.one (.i .i64)) (.one (.i .i64)) (pD p (aH g p) (i+1)))],0)
def aHm(g:Int)(p:N):bO:=fun k=>cond (ap k 0) (O (.one (aHn g p))) (cond (ap k 1010) (O (.nk Nat fun i=>aHq g p i))<|cond (ap k 1012) (O (.nk Nat fun i=>aHo g p i)) (cond (ap k 1013) (O (.nk Nat fun i=>aHp g p i)) ae))
def aIg(g:Int)(p:N):dV:=bi Nat fun i=>(i<=p.length,[(1,U 1000),(5,dm (aH g p)),(7,.o 5000),(8,cP i)],[dF 1000 g p,(5000,.row 3 (.ints .i64 (zi p i)))],p.length-i)
def aIh(g:Int)(p:N):dV:=bi Nat fun i=>(i<=(aH g p).length,[(1,U 1000),(5,dm (aH g p)),(7,.o 5000),(9,.o 5001),(10,cP i)],[dF 1000 g p,(5000,.row 3 (.ints .i64 (lD p (aH g p) i))),(5001,.row 243 (.cH 3 (qq g p (aH g p) i)))],(aH g p).length-i)
def aIi(g:Int)(p:N)(i:Nat):dV:=bi Unit fun _=>(i<(aH g p).length,[(1,U 1000),(5,dm (aH g p)),(7,.o 5000),(9,.o 5001),(10,cP i),(11,B ((aH g p).getD i 0)),(12,B (kJ g p (aH g p) i))],[dF 1000 g p,(5000,.row 3 (.ints .i64 (lD p (aH g p) i))),(5001,.row 243 (.cH 3 (qq g p (aH g p) i)))],0)
def aIj(g:Int)(p:N)(i:Nat):dV:=bi Unit fun _=>(i<(aH g p).length,[(1,U 1000),(5,dm (aH g p)),(7,.o 5000),(9,.o 5001),(10,cP i),(11,B ((aH g p).getD i 0))],[dF 1000 g p,(5000,.row 3 (.ints .i64 (lD p (aH g p) i))),(5001,.row 243 (.cH 3 (qq g p (aH g p) (i+1))))],0)
def aIf(g:Int)(p:N):bO:=fun k=>cond (ap k 0) (O (.one (aIg g p))) (cond (ap k 1) (O (.one (aIh g p))) (cond (ap k 1018) (O (.nk Nat fun i=>aIi g p i)) (cond (ap k 1019) (O (.nk Nat fun i=>aIj g p i)) ae)))
def Ik(h0:N):Nat:=((ma (fun(h:Nat)=>aC 3 (iI (h*3) h0)) []).length.add 0).succ
def zm(h0:N):q:=ma (fun(h:Nat)=>aC 3 (iI (h*3) h0)) (fM 1)
def gZ(h0:q):Prop:=h0.length=0
def FZ(h0:N)(h1 h:Nat):Prop:=h0.getD h1 0=h0.getD h 0
def zv(h0:Nat)(h1:Int)(h:N):Prop:=h0.succ.le (aH h1 h).length
def P_(h0:q)(h1:N):Prop:=(h0.length+Ik h1)*24<=140737488355328
def zw(h0:Int)(h1:N)(h:Nat):q:=qq h0 h1 (aH h0 h1) h
def Wi(h0:Int)(h1:N)(h:Nat)(x:Int):Prop:=P_ (qq h0 h1 (aH h0 h1) h) [(aH h0 h1).getD h 0,kJ h0 h1 (aH h0 h1) h,Wq x]
def ar9(g:Int)(p:N)(D:Prop)(P:N):Prop:=cd p/\bS (cb g p) (gZ (xB g p)) (cb g p=cb g p) (cd p) (bS (cb g p) (gZ (xB g p)) (cb g p=cb g p) (∃(y:Nat),iT y p/\AQ g p=P/\aZ y/\g=g/\p=p/\ck (zi p y)) (∀(x1:Nat),iT x1 p->kX (Zq x1) (o p) (o8 x1 p (lf (zi p x1)) (∃(z:Nat),rl z p x1 D (bE x1 z/\g=g/\p=p/\zi p x1++ [uZ (b_ p x1) (Wq (0-b_ p x1))]=zi p z))) (∃(x:Nat),iT x P/\D/\aZ x/\g=g/\p=p/\zi p x1=lD p P x/\gZ (zw g p x)) (∀(x4:Nat),iT x4 P->kX (Zq x4) (o P) (∃(g5:Nat),Rq (P.getD (T x4) 0) (o (lD p P x4)) (G P (T x4)<(lD p P x4).length/\(lD p P x4).getD (G P (T x4)) 0<=9223372036854775807/\aL (zv g5 g p/\D/\fC x4 g5/\FZ P (T x4) g5/\Wq (g-aS ((lD p P x4).getD (G P (T x4)) 0))=kJ g p P g5/\g=g/\p=p/\lD p P x4=lD p P g5/\zw g p x4=zw g p g5))/\eO (zv g5 g p->(∃(g8:Nat),Rq (P.getD g5 0) (o (lD p P g5)) (G P g5<(lD p P g5).length/\fU (kJ g p P g5)/\fU g/\Wi g p g5 (Wq ((lD p P g5).getD (G P g5) 0*pI (kJ g p P g5) .i64)-fG g)/\aL (zv g8 g p/\D/\fC g5 g8/\FZ P g5 g8/\g=g/\p=p/\lD p P g5=lD p P g8/\zw g p g5++zm [P.getD g5 0,kJ g p P g5,Wq (Wq ((lD p P g5).getD (G P g5) 0*pI (kJ g p P g5) .i64)-fG g)]=qq g p P (g8+1)))/\eO (zv g8 g p->Rq (P.getD g8 0) (o (lD p P g8)) (G P g8<(lD p P g8).length/\Rq (P.getD g8 0) (o (lD p P g8)) (G P g8<(lD p P g8).length/\(∃(h:Nat),iT h P/\gS P h x4/\D/\bE g8 h/\g=g/\p=p/\(lD p P g8).set (G P g8) (ay ((lD p P g8).getD (G P g8) 0))=lD p P h/\qq g p P (g8+1)=zw g p h))))))) (zw g p x4=xB g p) (0=cb g p))))
def PZ(h0:Int)(h1:N)(h x:Nat)(y:Prop):Prop:=aH h0 h1=aH h0 h1/\Jq (o (aH h0 h1))/\fC h x/\h0=h0/\h1=h1/\qq h0 h1 (aH h0 h1) h=qq h0 h1 (aH h0 h1) x/\y
def F7(h0 h1 h:Prop):Prop:=aL (h0/\h1)/\eO (h0->h)
def alO(g:Int)(p D:N):Prop:=a_/\ft ((0:Int)<=512) ((0:Int)<512/\512<=Zq 512/\(512:Nat)=512/\(512:Nat)<=4294967296/\(∃(y:Nat),iT y D/\g=g/\D=D/\Jq (o D)/\aZ y/\g=g/\p=p/\aC bY (iI 0 (au 512 fP))=zw g p y/\Io (pD p D y))/\(∀(h:Nat),iT h D->kX (Zq h) (o D) (∃(g3:Nat),iy (!AA (pD p D h) [D.getD (T h) 0]) (Rq (D.getD (T h) 0) (o p) (aL (zv g3 g p/\g=g/\FZ D (T h) g3/\PZ g p h g3 (DA (([D.getD (T h) 0],[pt (p.getD (G D (T h)) 0)])::pD p D h) (([D.getD g3 0],[iL p D g3])::pD p D g3))))) (aL (zv g3 g p/\g=g/\FZ D (T h) g3/\PZ g p h g3 (DA (pD p D h) (([D.getD g3 0],[iL p D g3])::pD p D g3)))) (zv g3 g p->(∃(g9:Nat),F7 (zv g9 g p) (g=g/\FZ D g3 g9/\(sw 1 (([D.getD g3 0],[iL p D g3])::pD p D g3) [D.getD g3 0]).headD 0=iL p D g9/\PZ g p g3 g9 (DA (([D.getD g3 0],[ay ((sw 1 (([D.getD g3 0],[iL p D g3])::pD p D g3) [D.getD g3 0]).headD 0)])::([D.getD g3 0],[iL p D g3])::pD p D g3) (pD p D (g9+1)))) (∃(g13:Nat),(iL p D g9<=9223372036854775807/\aL (zv g13 g p/\g=g/\FZ D g9 g13/\iL p D g9=iL p D g13/\Wq (g-aS (iL p D g9))=kJ g p D g13/\PZ g p g9 g13 (DA (pD p D (g9+1)) (pD p D (g13+1)))))/\eO (zv g13 g p->fU (kJ g p D g13)/\fU g/\Wi g p g13 (Wq (iL p D g13*pI (kJ g p D g13) .i64)-fG g)/\(∃(x:Nat),iT x D/\gS D x h/\g=g/\D=D/\Jq (o D)/\bE g13 x/\g=g/\p=p/\zw g p g13++zm [D.getD g13 0,kJ g p D g13,Wq (Wq (iL p D g13*pI (kJ g p D g13) .i64)-fG g)]=zw g p x/\DA (pD p D (g13+1)) (pD p D x))))))) (zw g p h=cC g p) (g=g/\p=p)))
def aay(g:Int)(p:N):Prop:=alO g p (aH g p)
def aA8(g:Int)(p:N)(h:Prop):Prop:=
 p.length<=4294967296/\
 Bq (cb g p !=0) h (p.length<=4294967296/\Bq (cb g p !=0) h (cb g p=0/\g=g/\AQ g p=aH g p/\cC g p=xB g p/\0=cb g p))
def aA7(g:Int)(p:N):Prop:=
 aA8 g p (cY (xB g p)=0/\cb g p=cb g p)
end Go.Proofs.YtegnkfbnmepmpaaGreatDoor

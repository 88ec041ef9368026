/-
  Texts joined: Ret, Rf, ScF, Sc, Sct, Sd, SeF, Se, Set, Sf, Vt, DsF, DsG, Ed, Edt, BtF, Bt, Btt, Bu, QF, QG, QA, QAt, QB, QM, QMul, QRep, QI, QIt, QJ, QN, QNt, QO. Conditions: each theorem's own.
-/
import Derived.Test.YtegnkfbnmepmpaaGreatDoorK5
import Derived.Test.YtegnkfbnmepmpaaGreatDoorK4
import Derived.WalkKit
import Derived.IntWalk
import Derived.Laws.CopyOwn
import Derived.Deep.RegionLaw
set_option maxRecDepth 100000
set_option linter.all false
open And renaming intro->fY
open BitVec renaming ofInt->lk
open Bool renaming false->ah,false->nH,true->ab,true->nG
open ByteArray renaming empty->aJ,size->kD
open Go.IntKind renaming bits->cZ,i64->bW,u64->fh,wrap->Q
open Go.Proofs.Tryz renaming prog->ar
open Go.Value renaming int->cg,oneCell'->tY
open Int renaming fdiv->kQ,tdiv->fi,tmod->kf,toNat->X
open List renaming drop->iI,getD->eU,length->cY,replicate->au,take->aC
open Max renaming max->uZ
open Min renaming min->aB
open Nat renaming add->qm,beq->ap,log2->wD,log2_lt->Y5,sub->fj,succ->oy
open Option renaming map->gN,none->ae,some->O
open True renaming intro->gA
namespace Go.Proofs.YtegnkfbnmepmpaaGreatDoor
open Go Go.RowKit
variable(k:Nat)(w x y:Int){z:Nat}
def Rb:=@Int.toNat_of_nonneg
def axC:=@List.take_succ_eq_append_getElem
def uY:=@Bool.or_true
def pP:=@Int.eq_ofNat_of_zero_le
def Rl:=@List.foldl_append
def kC:=@gt_iff_lt
def axE:=@Int.ediv_nonpos_of_nonpos_of_neg
def GP:=@Int.ediv_le_self
def wA:=@Int.le_of_lt
def MW:=@Int.pow_succ
def Rm:=@Int.ediv_ediv_of_nonneg
def aiS:=@Nat.and_two_pow_sub_one_eq_mod
def Rn:=@Go.IntKind.wrap_u64
def YP:=@Go.Proofs.Tryz.underlying42
def aiT:=@Nat.add_sub_cancel_left
def axF:=@List.replicate_append_replicate
def Rc:=@List.replicate_succ'
def fP:N:=au 3 0
def Wp:Prop:=gg [1,4,8] fP/\3=3/\[(1:Int),4,8]= [1,4,8]
def gY(h0:Int)(h1:N):Nat:=((h0::h1).length.add 0).succ
def VN(h0:Nat)(h1:Int)(x:N):Prop:=∃(h:Nat),h.le 3/\fj 3 h<h0/\h1=Zq h/\x=x
def as_(D:N):Prop:=(∃h,h.le 3/\0=Zq h/\D=D)/\(∀x1,x1.le 3->Dq (Zq x1<3) (aF (Zq x1) (Zq x1<Zq 3)<|(Zq x1).toNat<gY w [x]/\Dq (D.getD (Zq x1).toNat 0<0) ((10:Int)=0) (aF (Zq x1) (Zq x1<Zq 3)<|(Zq x1).toNat<gY w [x]/\Dq (D.getD (Zq x1).toNat 0>2147483648) ((10:Int)=0) (Dq (Zq x1>0) (aF (Zq x1) (Zq x1<Zq 3)<|(Zq x1).toNat<gY w [x]/\Dq (D.getD (Zq x1).toNat 0>0) (cE (Zq x1-1)/\bF (Zq x1)<Zq 3/\b5 (Zq x1-1)<gY w [x]/\Bq (D.getD (b5<|Zq x1-1) 0==0) ((10:Int)=0) (VN (fj 3 x1) (ay<|Zq x1) D)) (VN (fj 3 x1) (ay<|Zq x1) D))<|VN (fj 3 x1) (ay<|Zq x1) D))) a_)
def aM5:Prop:=
 3=oy (qm (cY [x,y])<|(0:Nat))/\
 3=cY [w,x,y]/\
 3=cY [1,4,(8:Int)]/\
 (([w,x,y]== [1,4,8])=ab->0=(0:Int))/\
 (([w,x,y]== [1,4,8])=ah->
 3=oy (qm (cY [x,y])<|(0:Nat))/\
 3=cY [w,x,y]/\
 3=cY [0,0,(0:Int)]/\
 (([w,x,y]== [0,0,0])=ab->0=(0:Int))/\
 (([w,x,y]== [0,0,0])=ah->
 3=oy (qm (cY [x,y])<|(0:Nat))/\
 (∃c,Nat.le c 3/\ab=ab/\[w,x,y]= [w,x,y]/\0=(↑c:Int))/\
 ∀x1,
 Nat.le x1 3->
 (decide ((↑x1)<(3:Int))=ab->
 0<=(↑x1:Int)/\
 (↑x1)<(↑(3:Nat):Int)/\
 3=cY [w,x,y]/\
 (decide (eU [w,x,y] (X (↑x1)) 0<0)=ab->10=(0:Int))/\
 (decide (eU [w,x,y] (X (↑x1)) 0<0)=ah->
 (decide (eU [w,x,y] (X (↑x1)) 0>2147483648)=ab->10=(0:Int))/\
 (decide (eU [w,x,y] (X (↑x1)) 0>2147483648)=ah->
 (decide (eU [w,x,y] (X (↑x1)) 0>0)=ab->
 ((!ab)=ab->10=(0:Int))/\
 ((!ab)=ah->
 ∃h,
 Nat.le h 3/\
 fj (3:Nat) h<fj (3:Nat) x1/\
 decide (eU [w,x,y] (X (↑x1)) 0>0)=ab/\
 [w,x,y]= [w,x,y]/\Q bW ((↑x1)+1)=(↑h)))/\
 (decide (eU [w,x,y] (X (↑x1)) 0>0)=ah->
 ∃b,
 Nat.le b 3/\
 fj (3:Nat) b<fj (3:Nat) x1/\
 decide (eU [w,x,y] (X (↑x1)) 0>0)=ab/\
 [w,x,y]= [w,x,y]/\Q bW ((↑x1)+1)=(↑b)))))/\
 (decide ((↑x1)<(3:Int))=ah->0=(0:Int))))
def B8(h0:Bool)(h1 h x:Prop):Prop:=Cq (h0=ah) (h1/\h)<|h1/\x
def WQ(h0 h1:Int)(y h:Nat)(z:Bool)(x e:Prop)(k:Nat)(r:Bool)(u:Prop):Prop:=Dq (fJ h0 h1<3) (0<=fJ h0 h1/\fJ h0 h1<Zq 3/\y<h/\Bq z x e)<|(0:Int)<=0/\0<Zq 3/\k<h/\Bq r x u
def qf(h0:N):Nat:=(h0.length.add 0).succ
def tC(h0 h1:N)(h x:Prop):Prop:=h0.length=3/\gg h0 h1/\h/\x
def aej(h0 h1 h e:Int)(k:N)(x r u:Int)(y v z:N):Prop:=B8 (ff h0 h1 h) (3=qf (e::k)) (Wq x=dT h0 r u h1 h/\y=v/\(0:Int)=0)<|Wq x=0/\y=z/\(0:Int)=25
def x'(h0 h1:Int)(h:Prop):Prop:=(0:Int)<=0/\0<Zq 3/\X 0<gY h0 [h1]/\h
def VA(h0 h1:Int)(x h y:Prop):Prop:=Bq (h0==0) (aL<|h1.NonNeg/\x/\h)<|aL<|h1.NonNeg/\y/\h
def fq:N:=[0,0,0]
def Wf(h0:N)(h1:Bool)(h x y:Prop):Prop:=h0.length=3/\gg h0 fq/\B8 h1 h x y
def LS(h0 h1:Int)(h:Prop):Prop:=(0:Int)<=1/\1<Zq 3/\X 1<gY h0 [h1]/\h
def as5(v l:Int)(D:N)(P:Prop)(i j:N)(h:Prop)(c:Int)(u:N)(e:Int)(z:N)(f:Prop)(b:Int):Prop:=f/\tC z fP (Dq (v>3) (x' x y<|LS x y<|gg i fP/\aej w v l e u (v-3) x y i j z)<|VA l (3-v) (oY (v-1)=b) (h/\fP=fq/\h)<|bF v=b) (eO<|(3-v).NonNeg->WQ v l b.toNat (gY x [y]) (c==0) (f/\Wf z (ff w v l) f (0=dT w x y v l/\P/\(7:Int)=0) (a_/\h/\(7:Int)=25)) ((∃r,(v<=3/\b<3/\Zq r<=b)/\aw b (b=Zq r) (h/\fq=fq/\z=Cs w x y b (Zq r)))/\(∀x4,v<=3/\b<3/\Zq x4<=b->Dq (Zq x4>0) (cE (Zq x4-1)/\bF (Zq x4)<Zq 3/\b5 (Zq x4-1)<qf [bif decide (Zq x4<1)&&decide (1<=b)then w else x,bif decide (Zq x4<2)&&decide (2<=b)then x else y]/\aF (Zq x4) (Zq x4<Zq 3) ((Zq x4).toNat<qf [bif decide (Zq x4<1)&&decide (1<=b)then w else x,bif decide (Zq x4<2)&&decide (2<=b)then x else y]/\(∃k,(v<=3/\b<3/\Zq k<=b)/\k<x4/\aw b (bF (Zq x4)=Zq k) (h/\fq=fq/\(Cs w x y b<|Zq x4).set (Zq x4).toNat ((Cs w x y b<|Zq x4).getD (b5<|Zq x4-1) 0)=Cs w x y b (Zq k))))) (aF b (b<Zq 3)<|b.toNat<gY x [y]/\ft (0<Zq 3) (bY<qf [bif decide (Zq x4<1)&&decide (1<=b)then w else x,bif decide (Zq x4<2)&&decide (2<=b)then x else y]/\aF b (b<Zq 3) (b.toNat<gY x [y]/\3=((Cs w x y b<|Zq x4).set bY c).length/\Wf ((Cs w x y b<|Zq x4).set bY c) (ff w v l) (3=((Cs w x y b<|Zq x4).set bY c).length) (c=dT w x y v l/\(Cs w x y b<|Zq x4).set bY c=j/\a_) (c=0/\(Cs w x y b<|Zq x4).set bY c=z/\(0:Int)=25)))))) bY (e==0) (x' x y<|Bq (e==1) (f/\Wf z (ff w v l) f (0=dT w x y v l/\P/\(25:Int)=0) (a_/\h/\(25:Int)=25))<|x' x y<|x' x y<|x' x y<|LS x y<|gg D fq/\aej w v l e u (e-1) x y D j z))
def VY(h0 h1 x h y:Int)(z e k r:Prop):Prop:=Cq (ff h0 h1 x=ah) (h=y/\z/\e)<|h=0/\k/\r
def as'(v l:Int)(D P:Prop)(i p j h:Int):Prop:=Dq (v>3) (VY w v l (Wq<|v-3) (dT w x y v l) D a_ ((3:Int)=0)<|(0:Int)=25)<|VA l (3-v) (oY (v-1)=h) ([w,x,y]= [w,x,y]) (bF v=h)/\eO ((3-v).NonNeg->WQ v l h.toNat (gY x [y]) (i==0) (Cq (ff w v l=ah) (0=dT w x y v l/\P/\(7:Int)=0)<|ca<|(7:Int)=25) (aF h (h<Zq 3)<|h.toNat<gY x [y]/\VY w v l i (dT w x y v l) (h=p) a_ (h=0) ((0:Int)=25)) bY (j==0) (Bq (j==1) (Cq (ff w v l=ah) (0=dT w x y v l/\P/\(25:Int)=0)<|ca<|(25:Int)=25)<|x' x y<|VY w v l (bF j) (dT w x y v l) D a_ ((3:Int)=0)<|(0:Int)=25))
def aNf(v l:Int):Prop:=
 3=oy (qm (cY [x,y])<|(0:Nat))/\
 fI w x y/\
 ((0==(0:Int))=ab->
 (decide (v<1)=ab->2=(0:Int))/\
 (decide (v<1)=ah->
 (decide (v>2147483651)=ab->2=(0:Int))/\
 (decide (v>2147483651)=ah->(decide (l<0)=ab->2=(0:Int))/\(decide (l<0)=ah->0=(0:Int)))))/\
 ((0==(0:Int))=ah->0=(0:Int))
def aM4(v l:Int):Prop:=
 3=oy (qm (cY [x,y])<|(0:Nat))/\
 fI w x y/\
 ((0 !=(0:Int))=ab->
 cY [0,0,(0:Int)]=cY (au 3 (0:Int))/\
 (ff w v l=ah->3=3/\0=dT w x y v l/\[0,0,0]= [gU w x y v l,fb w x y v l,fc w x y v l]/\0=(0:Int))/\
 (¬ff w v l=ah->3=3/\0=(0:Int)/\[0,0,0]= [0,0,(0:Int)]/\0=(25:Int)))/\
 ((0 !=(0:Int))=ah->
 (decide (v<1)=ab->
 cY [0,0,(0:Int)]=cY (au 3 (0:Int))/\
 (ff w v l=ah->3=3/\0=dT w x y v l/\[0,0,0]= [gU w x y v l,fb w x y v l,fc w x y v l]/\2=(0:Int))/\
 (¬ff w v l=ah->3=3/\0=(0:Int)/\[0,0,0]= [0,0,(0:Int)]/\2=(25:Int)))/\
 (decide (v<1)=ah->
 (decide (v>2147483651)=ab->
 cY [0,0,(0:Int)]=cY (au 3 (0:Int))/\
 (ff w v l=ah->3=3/\0=dT w x y v l/\[0,0,0]= [gU w x y v l,fb w x y v l,fc w x y v l]/\2=(0:Int))/\
 (¬ff w v l=ah->3=3/\0=(0:Int)/\[0,0,0]= [0,0,(0:Int)]/\2=(25:Int)))/\
 (decide (v>2147483651)=ah->
 (decide (l<0)=ab->
 cY [0,0,(0:Int)]=cY (au 3 (0:Int))/\
 (ff w v l=ah->
 3=3/\0=dT w x y v l/\[0,0,0]= [gU w x y v l,fb w x y v l,fc w x y v l]/\2=(0:Int))/\
 (¬ff w v l=ah->3=3/\0=(0:Int)/\[0,0,0]= [0,0,(0:Int)]/\2=(25:Int)))/\
 (decide (l<0)=ah->
 3=oy (qm (cY [x,y])<|(0:Nat))/\
 (ff w v l=ah->
 fI w x y/\
 (1<=v/\v<=2147483651/\0<=l)/\
 cY [gU w x y v l,fb w x y v l,fc w x y v l]=3/\
 cY [gU w x y v l,fb w x y v l,fc w x y v l]=cY (au 3 (0:Int))/\
 ((0 !=(0:Int))=ab->
 cY [0,0,(0:Int)]=cY (au 3 (0:Int))/\
 (ff w v l=ah->
 3=3/\
 0=dT w x y v l/\[0,0,0]= [gU w x y v l,fb w x y v l,fc w x y v l]/\0=(0:Int))/\
 (¬ff w v l=ah->
 3=3/\0=(0:Int)/\[0,0,0]= [0,0,(0:Int)]/\0=(25:Int)))/\
 ((0 !=(0:Int))=ah->
 3=oy (qm (cY [fb w x y v l,fc w x y v l])<|(0:Nat))/\
 cY [gU w x y v l,fb w x y v l,fc w x y v l]=3/\
 cY [gU w x y v l,fb w x y v l,fc w x y v l]=cY (au 3 (0:Int))/\
 (ff w v l=ah->
 3=oy (qm (cY [fb w x y v l,fc w x y v l])<|(0:Nat))/\
 dT w x y v l=dT w x y v l/\
 [gU w x y v l,fb w x y v l,fc w x y v l]= [gU w x y v l,fb w x y v l,fc w x y v l]/\0=(0:Int))/\
 (¬ff w v l=ah->
 3=oy (qm (cY [fb w x y v l,fc w x y v l])<|(0:Nat))/\
 dT w x y v l=0/\[gU w x y v l,fb w x y v l,fc w x y v l]= [0,0,0]/\0=(25:Int))))/\
 (¬ff w v l=ah->
 fI w x y/\
 (1<=v/\v<=2147483651/\0<=l)/\
 cY [w,x,y]=3/\
 cY [w,x,y]=cY (au 3 (0:Int))/\
 ((25 !=(0:Int))=ab->
 cY [0,0,(0:Int)]=cY (au 3 (0:Int))/\
 (ff w v l=ah->
 3=3/\
 0=dT w x y v l/\[0,0,0]= [gU w x y v l,fb w x y v l,fc w x y v l]/\25=(0:Int))/\
 (¬ff w v l=ah->
 3=3/\0=(0:Int)/\[0,0,0]= [0,0,(0:Int)]/\25=(25:Int)))/\
 ((25 !=(0:Int))=ah->
 3=oy (qm (cY [x,y])<|(0:Nat))/\
 cY [w,x,y]=3/\
 cY [w,x,y]=cY (au 3 (0:Int))/\
 (ff w v l=ah->
 3=oy (qm (cY [x,y])<|(0:Nat))/\
 0=dT w x y v l/\[w,x,y]= [gU w x y v l,fb w x y v l,fc w x y v l]/\0=(0:Int))/\
 (¬ff w v l=ah->
 3=oy (qm (cY [x,y])<|(0:Nat))/\
 0=(0:Int)/\[w,x,y]= [0,0,0]/\0=(25:Int))))))))
def aNh(v l:Int):Prop:=
 3=oy (qm (cY [x,y])<|(0:Nat))/\
 fI w x y/\
 (1<=v/\v<=2147483651/\0<=l)/\
 ((0 !=(0:Int))=ab->0=dT w x y v l/\0=wc w v l)/\
 ((0 !=(0:Int))=ah->
 3=oy (qm (cY [x,y])<|(0:Nat))/\
 (ff w v l=ah->fI w x y/\(1<=v/\v<=2147483651/\0<=l)/\dT w x y v l=dT w x y v l/\0=wc w v l)/\
 (¬ff w v l=ah->fI w x y/\(1<=v/\v<=2147483651/\0<=l)/\0=dT w x y v l/\25=wc w v l))
def aq1(h0 h1 x:Int)(y:Nat)(h z e:N):Prop:=B8 (ff h0 h1 x) (3=y.succ) (h=z/\(0:Int)=0)<|h=e/\(0:Int)=25
def Lt(h0 h1 x y z:Int)(h e k:Prop):Prop:=B8 (ff h0 h1 x) (fI h0 y z) (h/\e)<|h/\k
def Vx(h0:N)(h1 h x:Int)(y:Nat)(z e:N):Prop:=gg h0 fP/\aq1 h1 h x y h0 z e
def aeC(h0 h1 y h x:Int)(e z:N)(k r:Nat)(u:Int):Prop:=Vx [dT h0 h1 y h x,(h0::e).getD (X 0) 0,z.getD k 0] h0 h x ([z.getD r 0,u].length.add 0) [gU h0 h1 y h x,fb h0 h1 y h x,fc h0 h1 y h x] [0,0,0]
def aeF(h0:Int)(h1 e:N)(k:Nat)(h x:Int)(r:Nat)(u y z:Int):Prop:=Vx [0,(h0::h1).getD (X 0) 0,e.getD k 0] h0 h x ([e.getD r 0,u].length.add 0) [gU h0 y z h x,fb h0 y z h x,fc h0 y z h x] [0,0,0]
def sF(h0 h1 h x:Prop):Prop:=Bq ((0:Int) !=0) (h0/\h1)<|h/\x
def ata(v l:Int)(D P i:Prop)(j:Int)(h:N):Prop:=3=gY x [y]/\fI w x y/\(1<=v/\v<=2147483651/\0<=l)/\sF (gg fq fP) P (3=gY x [y]) (Lt w v l x y (1<=v/\v<=2147483651/\0<=l) (Bq ((0:Int) !=0) (gg fq fP/\P)<|Bq (j==0) D<|Bq (j==1) (x' x y<|(0:Int)<=2/\2<Zq 3/\X 2<gY x [y]/\aeC w x y v l [x,y] h (X 2) bY (h.getD (X 2) 0))<|x' x y<|LS x y<|aeC w x y v l [x,y] h (X 1) bY<|h.getD (X 1) 0)<|Bq ((25:Int) !=0) (gg fq fP/\B8 (ff w v l) (3=3) (i/\(25:Int)=0) (fq=fq/\(25:Int)=25))<|Bq ((0:Int)==0) D<|Bq ((0:Int)==1) (x' x y<|(0:Int)<=2/\2<Zq 3/\X 2<gY x [y]/\aeF w [x,y] h (X 2) v l bY (h.getD (X 2) 0) x y)<|x' x y<|LS x y<|aeF w [x,y] h (X 1) v l bY (h.getD (X 1) 0) x y)
def aM7(v l:Int):Prop:=
 3=oy (qm (cY [x,y])<|(0:Nat))/\
 (ff w v l=ah->
 fI w x y/\
 (1<=v/\v<=2147483651/\0<=l)/\
 cY [gU w x y v l,fb w x y v l,fc w x y v l]=3/\
 cY [gU w x y v l,fb w x y v l,fc w x y v l]=cY (au 3 (0:Int))/\dT w x y v l=dT w x y v l/\0=wc w v l)/\
 (¬ff w v l=ah->
 fI w x y/\
 (1<=v/\v<=2147483651/\0<=l)/\
 cY [0,0,(0:Int)]=3/\
 cY [0,0,(0:Int)]=cY (au 3 (0:Int))/\0=dT w x y v l/\25=wc w v l)
def aM_(v l:Int):Prop:=
 3=oy (qm (cY [x,y])<|(0:Nat))/\
 (ff w v l=ah->
 fI w x y/\
 (1<=v/\v<=2147483651/\0<=l)/\
 cY [gU w x y v l,fb w x y v l,fc w x y v l]=3/\
 cY [gU w x y v l,fb w x y v l,fc w x y v l]=cY (au 3 (0:Int))/\
 3=oy (qm (cY [fb w x y v l,fc w x y v l])<|(0:Nat))/\
 cY [gU w x y v l,fb w x y v l,fc w x y v l]=3/\
 cY [gU w x y v l,fb w x y v l,fc w x y v l]=cY (au 3 (0:Int))/\
 (ff w v l=ah->
 3=oy (qm (cY [fb w x y v l,fc w x y v l])<|(0:Nat))/\
 [gU w x y v l,fb w x y v l,fc w x y v l]= [gU w x y v l,fb w x y v l,fc w x y v l]/\0=(0:Int))/\
 (¬ff w v l=ah->
 3=oy (qm (cY [fb w x y v l,fc w x y v l])<|(0:Nat))/\
 [gU w x y v l,fb w x y v l,fc w x y v l]= [0,0,0]/\0=(25:Int)))/\
 (¬ff w v l=ah->
 fI w x y/\
 (1<=v/\v<=2147483651/\0<=l)/\
 cY [0,0,(0:Int)]=3/\
 cY [0,0,(0:Int)]=cY (au 3 (0:Int))/\
 3=3/\
 cY [0,0,(0:Int)]=3/\
 cY [0,0,(0:Int)]=cY (au 3 (0:Int))/\
 (ff w v l=ah->3=3/\[0,0,0]= [gU w x y v l,fb w x y v l,fc w x y v l]/\25=(0:Int))/\
 (¬ff w v l=ah->3=3/\[0,0,0]= [0,0,(0:Int)]/\25=(25:Int)))
section
variable{a b c v l:Int}
theorem aga(h:3<v):fJ v l=4:=by unfold fJ;rw[jS h];rfl
theorem Qy(h:¬3<v):fJ v l=cond (l==0) v (v-1):=by grind [fJ]
def Xj(h1:1<=v)(h:¬3<v):fJ v l=0\/fJ v l=1\/fJ v l=2\/fJ v l=3:=by grind [Qy]
theorem Xh(h:3<v):ff a v l=ah/\dT a b c v l=v-3/\gU a b c v l=v-3/\fb a b c v l=a/\fc a b c v l=b:=by
 have e:=aga (l:=l) h;have hB:ff a v l=ah:=by grind [ff]
 have x:dT a b c v l=v-3:=by grind [dT]
 refine⟨hB,x,x,?_,?_⟩
 ·grind [fb]
 ·grind [fc]
def Mj(h:¬3<v){k:Int}(e:fJ v l=k)(h0:0<=k)(y:k<3):ff a v l=ah/\dT a b c v l= [a,b,c].getD k.toNat 0/\gU a b c v l= [a,b,c].getD k.toNat 0/\fb a b c v l=cond (k==0) b a/\fc a b c v l=cond (k==0||k==1) c b:=by
 have hB:ff a v l=ah:=by unfold ff;rw[e,oc<|by lia];rfl
 have x:dT a b c v l= [a,b,c].getD k.toNat 0:=by grind [dT]
 refine⟨hB,x,x,?_,?_⟩
 .grind [fb]
 .grind [fc]
def Xg(h:¬3<v)(e:fJ v l=3):ff a v l=(a==1)/\((a==1)=ah->dT a b c v l=a-1/\gU a b c v l=a-1/\fb a b c v l=a/\fc a b c v l=b):=by
 have hB:ff a v l=(a==1):=by grind [ff]
 refine⟨hB,λy=>?_⟩;have x:dT a b c v l=a-1:=by grind [dT]
 refine⟨x,x,?_,?_⟩
 .grind [fb]
 .grind [fc]
def agb(h:fI a b c)(i:Nat)(hi:i<3):1<=[a,b,c].getD i 0/\[a,b,c].getD i 0<=2147483648:=c9
def as2(h:ff a v l=ah):wc a v l=0:=by grind [wc]
def Xf(h:¬ff a v l=ah):wc a v l=25/\dT a b c v l=0:=by grind [wc,dT]
end
def as3:=agP.gd m.nil Tryz.func47 λ_ _=>⟨aK,J (p:=Wp)<|by unfold Wp fP gg;first|trivial|decide|simp⟩
def aNi:=agP.gd m.nil Tryz.func30 λ_ _=>⟨aK,J (p:=Wp)<|by unfold Wp fP gg;first|trivial|decide|simp⟩
def as9:=agO.gd m.nil Tryz.func57 λ⟨a,b,c⟩ ⟨z,_⟩=>⟨(aIx a b c),J (p:=as_ b c [a,b,c])<|by
 unfold as_ aF a_ bF VN ay cE b5 gY Dq Bq Wq Zq;refine⟨⟨0,dx _,rfl,rfl⟩,λi u=>⟨λx=>?_,λx=>rfl⟩⟩;have x:(i:Int)<3:=ow x;have g:=agb z i Y;rw[show X i=i from rfl];have next:∃y:Nat,Nat.le y 3/\fj 3 y<fj 3 i/\Q .i64 (i+1)=y/\[a,b,c]= [a,b,c]:=⟨i+1,show i+1<=3 by omega,show 3- (i+1)<3-i by omega,wr Y Y,rfl⟩
 refine⟨Y,x,show i<3 by omega,λh=>absurd (ow h) Y,λ_=>⟨Y,x,show i<3 by omega,λh=>absurd (ow h) Y,λ_=>⟨λr=>⟨Y,x,show i<3 by omega,λ_=>?_,λ_=>next⟩,λ_=>next⟩⟩⟩;have r:(i:Int)>0:=ow r;have e:Q .i64 (i-1)=((i-1:Nat)):=by rw[wr Y Y];omega
 rw[e];grind⟩
def aM8:=aPN.gd m.nil Tryz.func280 λ⟨a,b,c,v,l⟩ ⟨t,D,_⟩=>⟨(aIv a b c v l),J (p:=as5 a b c v l [bF<|[a,b,c].getD bY 0,[a,b,c].getD bY 0,[a,b,c].getD (X 1) 0] ([a,b,c]= [gU a b c v l,fb a b c v l,fc a b c v l]) [Wq<|v-3,[a,b,c].getD bY 0,[a,b,c].getD (X 1) 0] [gU a b c v l,fb a b c v l,fc a b c v l] ([a,b,c]= [a,b,c]) ([a,b,c].getD (fJ v l).toNat 0) [[a,b,c].getD (X 1) 0] ([a,b,c].getD bY 0) [a,b,c] (3=gY b [c])<|fJ v l)<|by
 unfold as5 aw WQ eO aF a_ LS Wf bY ft fq bF VA x' aL fP oY aej B8 cE b5 tC gg qf gY Dq Bq Cq Wq Zq;refine⟨rfl,rfl,rfl,⟨λh=>?_,λh=>⟨λs=>⟨(),?_,?_,rfl,rfl,rfl⟩,λs=>⟨(),?_,?_,rfl,rfl,rfl⟩⟩⟩,λ_ o=>?_⟩
 .have d:3<v:=ow h
  obtain⟨z,k,r,e4,u⟩:=Xh (a:=a) (b:=b) (c:=c) (l:=l) d;rw[z,k,r,e4,u,wr Y Y];exact⟨H,H,by show 0<3;decide,H,H,by show 1<3;decide,rfl,λ_=>⟨rfl,rfl,rfl,rfl⟩,λh=>absurd rfl h⟩
 .have:=nD h;show v<=3;omega
 .rw[wr (n:=v-1) Y Y,wr Y Y,Qy<|nD h,s];show v-1+1=v;omega
 .have:=nD h;show v<=3;omega
 .rw[wr Y Y,Qy<|nD h,s];rfl
 have o:v<=3:=o;have d:¬3<v:=Y;have I:=Xj (l:=l) D.1 d;refine⟨λx=>?_,λx=>?_⟩
 .have x:fJ v l<3:=ow x
  have j:0<=fJ v l:=Y;have g:=agb t (fJ v l).toNat Y;obtain⟨z,k,r,e4,u⟩:=Mj (a:=a) (b:=b) (c:=c) d rfl j x;rw[z,k,r,e4,u];refine⟨j,x,show(fJ v l).toNat<3 by omega,λh=>absurd (xw h) Y,λ_=>⟨⟨(fJ v l).toNat,⟨o,x,Y⟩,rfl,Y,rfl,rfl,?_⟩,λi ⟨_,_,G⟩=>⟨λf=>?_,λf=>?_⟩⟩⟩
  .rw[Rb j]
   have:fJ v l=0\/fJ v l=1\/fJ v l=2:=Y;rcases this with h|h|h<;>rw[h]<;>rfl
  .have f:(i:Int)>0:=ow f
   have e:Q .i64 (i-1)=((i-1:Nat)):=by rw[wr Y Y];omega
   rw[e];refine⟨Y,by show((i-1:Nat):Int)<3;omega,show i-1<3 by omega,Y,by show(i:Int)<3;omega,show i<3 by omega,i-1,⟨o,x,Y⟩,Y,rfl,rfl,rfl,rfl,?_⟩;have B:i=1\/i=2:=Y;have C:fJ v l=1\/fJ v l=2:=Y;rcases B with h|h<;>subst h<;>rcases C with h|h<;>rw[h]<;>first|rfl|(exfalso;omega)
  .have f:¬(i:Int)>0:=nD f
   have q:i=0:=Y;subst q;refine⟨j,x,show(fJ v l).toNat<3 by omega,H,H,by show(0:Nat)<3;decide,j,x,show(fJ v l).toNat<3 by omega,rfl,rfl,rfl,λ_=>⟨rfl,rfl,?_,rfl⟩,λh=>absurd rfl h⟩;have:fJ v l=0\/fJ v l=1\/fJ v l=2:=Y;rcases this with h|h|h<;>rw[h]<;>rfl
 .have x:¬fJ v l<3:=nD x
  have e:fJ v l=3:=Y;obtain⟨z,k⟩:=Xg (a:=a) (b:=b) (c:=c) d e;obtain⟨⟨E,F⟩,_,_⟩:=t;rw[z];refine⟨H,H,by show(0:Nat)<3;decide,λh=>absurd (show a=0 from xw h) Y,λ_=>⟨H,H,by show(0:Nat)<3;decide,λy=>?_,λy=>?_⟩⟩
  .have y:(a==1)=ab:=y
   rw[y];exact⟨rfl,rfl,rfl,λh=>(by cases h),λ_=>⟨rfl,rfl,rfl,rfl⟩⟩
  .have y:(a==1)=ah:=y
   obtain⟨r,e4,u,A⟩:=k y;rw[y,r,e4,u,A];have w:Q .i64 ([a,b,c].getD (X 0) 0-1)=a-1:=wr (n:=a-1) Y Y;rw[w];exact⟨H,H,by show(0:Nat)<3;decide,H,H,by show(0:Nat)<3;decide,H,H,by show(0:Nat)<3;decide,H,H,by show(1:Nat)<3;decide,rfl,λ_=>⟨rfl,rfl,rfl,rfl⟩,λh=>absurd rfl h⟩⟩
def aNj:=aRb.gd m.nil Tryz.func256 λ⟨a,b,c,v,l⟩ ⟨u,j,_⟩=>⟨(aIy a b c v l),J (p:=as' a b c v l (3=(bif decide (3<=fJ v l)then 3 else fJ v l)) (0=(bif decide (3<=fJ v l)then 3 else fJ v l)) ([a,b,c].getD (fJ v l).toNat 0) (bif decide (3<=fJ v l)then 3 else fJ v l) ([a,b,c].getD bY 0)<|fJ v l)<|by
 unfold as' WQ eO aF a_ bY VY bF VA x' aL oY ca gY Dq Bq Cq Wq Zq;refine⟨λh=>?_,λh=>⟨⟨λk=>⟨(),?_,?_,rfl⟩,λk=>⟨(),?_,?_,rfl⟩⟩,λ_ _=>?_⟩⟩
 .grind [Xh,aga,wr]
 .have:=nD h;show v<=3;omega
 .rw[wr (n:=v-1) Y Y,wr Y Y,Qy<|nD h,k];show v-1+1=v;omega
 .have:=nD h;show v<=3;omega
 .rw[wr Y Y,Qy<|nD h,k];rfl
 have z:¬3<v:=nD h;have s:=Xj (l:=l) j.1 z;refine⟨λx=>?_,λx=>?_⟩
 .have x:=ow x
  have i:0<=fJ v l:=Y;have g:=agb u (fJ v l).toNat Y;obtain⟨r,w,o,e4,q⟩:=Mj (a:=a) (b:=b) (c:=c) z rfl i x;grind
 .have x:=nD x
  have e:fJ v l=3:=Y;obtain⟨r,w⟩:=Xg (a:=a) (b:=b) (c:=c) z e;obtain⟨⟨d,f⟩,_,_⟩:=u;rw[r,e];refine⟨H,H,by show 0<3;decide,λh=>absurd (show a=0 from xw h) Y,λ_=>⟨λy=>?_,λy=>?_⟩⟩
  .have y:(a==1)=ab:=y
   rw[y];exact⟨λh=>(by cases h),λ_=>⟨rfl,rfl,rfl⟩⟩
  .grind [wr]⟩
def Zr:=m.cons as3<| .cons as9<| .cons aM8<| .cons aNj<|m.nil
def as0:=agO.gd Zr Tryz.func68 λ⟨a,b,c⟩ ⟨x,_⟩=>⟨(aIu a b c),J (p:=aM5 a b c)<|by refine⟨rfl,rfl,rfl,λ_=>rfl,λ_=>⟨rfl,rfl,rfl,λ_=>rfl,λ_=>?_⟩⟩;refine⟨rfl,⟨0,dx _,rfl,rfl,rfl⟩,λi e=>⟨λh=>?_,λh=>rfl⟩⟩;grind [X,wr]⟩
def aNe:=aRa.gd Zr Tryz.func255 λ⟨a,b,c,v,l⟩ ⟨x,y,_⟩=>⟨aK,J (p:=aNf a b c v l)<|⟨rfl,x,λ_=>⟨λh=>absurd (ow h) Y,λ_=>⟨λh=>absurd (ow h) Y,λ_=>⟨λh=>absurd (ow h) Y,λ_=>rfl⟩⟩⟩,λ_=>rfl⟩⟩
def RJ:=m.cons as0<| .cons aNe<|Zr
def aM3:=aPM.gd RJ Tryz.func230 λ⟨a,b,c,v,l⟩ ⟨x,y,_⟩=>⟨aK,J (p:=aM4 a b c v l)<|by refine⟨rfl,x,λh=>absurd h H,λ_=>⟨λh=>absurd (ow h) Y,λ_=>⟨λh=>absurd (ow h) Y,λ_=>⟨λh=>absurd (ow h) Y,λ_=>⟨rfl,λhB=>⟨x,y,rfl,rfl,λh=>absurd h H,λ_=>⟨rfl,rfl,rfl,λ_=>⟨rfl,rfl,rfl,rfl⟩,λh=>absurd hB h⟩⟩,λhB=>⟨x,y,rfl,rfl,λ_=>⟨rfl,λh=>absurd h hB,λ_=>⟨rfl,rfl,rfl,rfl⟩⟩,λh=>absurd h H⟩⟩⟩⟩⟩⟩⟩
def aNg:=auA.gd RJ Tryz.func198 λ⟨a,b,c,v,l⟩ ⟨x,y,_⟩=>⟨aK,J (p:=aNh a b c v l)<|⟨rfl,x,y,λh=>absurd h H,λ_=>⟨rfl,λh=>⟨x,y,rfl,(as2 h).symm⟩,λh=>⟨x,y,(Xf h).2.symm,(Xf (b:=b) (c:=c) h).1.symm⟩⟩⟩⟩
def aNk:=auC.gd RJ Tryz.func199 λ⟨a,b,c,v,l⟩ ⟨i,r,_⟩=>⟨aK,J (p:=ata a b c v l (3=gY b [c]/\[a,b,c].length=3/\Vx [a,b,c] a v l ([b,c].length.add 0) [gU a b c v l,fb a b c v l,fc a b c v l] fq) (B8 (ff a v l) (3=3) (fq= [gU a b c v l,fb a b c v l,fc a b c v l]/\a_)<|fq=fq/\(0:Int)=25) (fq= [gU a b c v l,fb a b c v l,fc a b c v l]) (bif decide (3<=fJ v l)then 3 else fJ v l) [a,b,c])<|by
 unfold ata a_ LS bY sF fq aeF aeC x' Vx fP Lt gg aq1 B8 gY Bq Cq Zq;refine⟨rfl,i,r,λh=>absurd h H,λ_=>⟨rfl,λhB=>⟨i,r,λh=>absurd h H,λ_=>?_⟩,λhB=>⟨i,r,λ_=>⟨rfl,λh=>absurd h hB,λ_=>⟨rfl,rfl,rfl⟩⟩,λh=>absurd h H⟩⟩⟩;have u:∀{P:Prop},¬ff a v l=ah->P:=λh=>absurd hB h;by_cases z:3<v
 .obtain⟨w,k,x,e4,y⟩:=Xh z
  rw[aga z,x,e4,y,k];exact⟨λh=>absurd h H,λ_=>⟨λh=>absurd h H,λ_=>⟨H,H,by show 0<3;decide,H,H,by show 1<3;decide,rfl,λ_=>⟨rfl,rfl,rfl⟩,u⟩⟩⟩
 .rcases Xj r.1 z with e|e|e|e
  .obtain⟨w,k,x,e4,y⟩:=Mj z e H H
   rw[e,x,e4,y];exact⟨λ_=>⟨rfl,rfl,rfl,λ_=>⟨rfl,rfl,rfl⟩,u⟩,λh=>absurd h H⟩
  .obtain⟨w,k,x,e4,y⟩:=Mj z e H H
   rw[e,x,e4,y,k];exact⟨λh=>absurd h H,λ_=>⟨λ_=>⟨H,H,by show 0<3;decide,H,H,by show 2<3;decide,rfl,λ_=>⟨rfl,rfl,rfl⟩,u⟩,λh=>absurd h H⟩⟩
  .obtain⟨w,k,x,e4,y⟩:=Mj z e H H
   rw[e,x,e4,y,k];exact⟨λh=>absurd h H,λ_=>⟨λh=>absurd h H,λ_=>⟨H,H,by show 0<3;decide,H,H,by show 1<3;decide,rfl,λ_=>⟨rfl,rfl,rfl⟩,u⟩⟩⟩
  .obtain⟨j,n⟩:=Xg (a:=a) (b:=b) (c:=c) z e
   grind⟩
def Zs:=m.cons aM3<| .cons aNg<| .cons aNk<|RJ
def aM6:=auA.gd Zs Tryz.func174 λ⟨a,b,c,v,l⟩ ⟨x,y,_⟩=>⟨aK,J (p:=aM7 a b c v l)<|⟨rfl,λh=>⟨x,y,rfl,rfl,rfl,(as2 h).symm⟩,λh=>⟨x,y,rfl,rfl,(Xf h).2.symm,(Xf (b:=b) (c:=c) h).1.symm⟩⟩⟩
def aM9:=auC.gd Zs Tryz.func175 λ⟨a,b,c,v,l⟩ ⟨y,z,_⟩=>⟨aK,J (p:=aM_ a b c v l)<|⟨rfl,λh=>⟨y,z,rfl,rfl,rfl,rfl,rfl,λ_=>⟨rfl,rfl,rfl⟩,λx=>absurd h x⟩,λh=>⟨y,z,rfl,rfl,rfl,rfl,rfl,λx=>absurd x h,λ_=>⟨rfl,rfl,rfl⟩⟩⟩⟩
def ayD:=m.cons aM6<| .cons aM9<|Zs
def bH(s:M)(a:Int):Int:=cond (decide ((s.size)<=a)) 1<|cond (u s a==255) 3<|cond (decide (u s a>=128)) 2 1
def jh(s:M)(a:Int):Int:=cond (bH s a==1) (u s a)<|cond (bH s a==2) ((u s a-128)*256+u s (a+1))<|32512+u s (a+1)+u s (a+2)*256
def li(s:M)(a:Int):= !lc s a&&decide (a+bH s a<=s.size)
def kZ(s:M)(a:Int):Int×Int:=cond (lc s a) (2,0) (5,(s.size))
def auD:=Sp (M×Int) [.s,.i] λ(s,a)=>([E<|s.size<=1000000],.ite (E<|li s a=ab) (aE<|.tu [B<|jh s a,B<|a+bH s a,.ag [B 0,B 0]])<|aE<|.tu [B 0,B 0,.ag [.v<|.int .i64 (kZ s a).1,.v<|.int .i64 (kZ s a).2]])
def oSc(s:M)(a:Int):bO:=dX [
 (1010,jG (0<=a/\a<=s.size) [(0,aD s),(1,B a),(6,U 1001),(7,aD<|s.extract a.toNat s.size),(8,B<|bH s a)] [(1001,yl)]),
 (1018,jG (li s a=ab) [(1,B a),(4,B<|jh s a),(6,U 1001),(8,B<|bH s a)] [(1001,yl)])]
def PY(h0:M)(h1:Int)(h:Int×Int):Prop:=Cq (li h0 h1=ab) (0=jh h0 h1/\0=h1+bH h0 h1/\(5:Int)=0/\aO h0=0)<|ca<|5=h.1/\aO h0=h.2
def LD(h0:M)(h1:Int):Prop:=Cq (li h0 h1=ab) (0=jh h0 h1/\0=h1+bH h0 h1/\(2:Int)=0/\(0:Int)=0)<|ca<|ig<|kZ h0 h1
def P8(h0:Int)(h1:M)(h:Prop):Prop:=(0<=h0/\h0<=aO h1)/\h1=h1/\h0=h0/\cU h1 h0 (aO h1)=h1.extract h0.toNat h1.size/\h
def au'(s:M)(a D P:Int)(i:UInt8)(p:Prop)(j:List UInt8)(h:Int)(y:Prop)(x:Int):Prop:=Dq (a<0) (LD s a)<|Dq (a>aO s) (LD s a)<|aF a (a<=aO s)<|xZ s/\iy ((cU s a<|aO s).toList==ByteArray.empty.toList) (aL<|P8 a s<|1=x/\dE) (ft (0<aO (cU s a<|aO s))<|Bq (P==255) (aL<|P8 a s<|oY (1+1)=x/\dE)<|ft (0<aO (cU s a<|aO s))<|Dq (P>=128) (aL<|P8 a s<|Wq (1+1)=x/\dE)<|aL<|P8 a s<|1=x/\dE) (0<=a/\a<=aO s->Dq (h<x) (PY s a<|kZ s a) (iy (x==1) (ft (0<h)<|aL<|y/\a=a/\pH i=jh s a/\p) (Bq (x==2) (ft (0<h)<|(0:Int)<=8/\(0:Int)<=1/\1<h/\aL (y/\a=a/\Wq (Wq (Wq (Q .u8<|Zq i.toNat-128)*gH (X 8) IntKind.i64.bits)+D)=jh s a/\p))<|(0:Int)<=1/\1<h/\(0:Int)<=2/\2<h/\(0:Int)<=8/\aL (y/\a=a/\Wq (Wq (32512+D)+Wq (pH (j.getD (X 2) 0)*gH (X 8) IntKind.i64.bits))=jh s a/\p))<|y->Cq y (aw (jh s a) (Wq (a+x)=a+x) dE) (jh s a=0/\Wq (a+x)=0/\dO (kZ s a))))
def au_(s:M)(a:Int):Prop:=au' s a (pH<|(s.extract a.toNat s.size).data.toList.getD (X 1) 0) (Zq ((cU s a<|aO s).data.toList.getD bY 0).toNat) ((s.extract a.toNat s.size).data.toList.getD bY 0) (bH s a=bH s a/\dE) (s.extract a.toNat s.size).data.toList (aO<|s.extract a.toNat s.size) (li s a=ab)<|bH s a
def PJ(h0:M)(h1 h x z:Int)(y e k:Prop):Prop:=Cq (li h0 h1=ab) (Wq h=jh h0 h1/\x=z/\y/\y)<|Wq h=0/\x=0/\e/\k
def atr(s:M)(a:Int)(D:Prop)(i:Int):Prop:=Dq (a<0) (LD s a)<|Dq (a>aO s) (LD s a)<|Dq (Wq (aO s-a)>=1) (aF a (a<aO s)<|Dq (i<128) (aF a (a<aO s)<|PJ s a i (ay a) (a+bH s a) a_ (0=(kZ s a).1)<|0=(kZ s a).2) D) D
def atq(s:M)(a:Int):Prop:=atr s a (Dq (Wq (aO s-a)>=2) (aF a (a<aO s)<|Dq (Zq (vS s.data a).toNat<255) (aF a (a<aO s)<|cE (a+1)/\ay a<aO s/\PJ s a (Wq (Wq (pH (vS s.data a)-128)*256)+pH (oX s<|a+1)) (Wq<|a+2) (a+bH s a) a_ (0=(kZ s a).1) (0=(kZ s a).2))<|Dq (Wq (aO s-a)>=3) (cE (a+1)/\ay a<aO s/\cE (a+2)/\Wq (a+2)<aO s/\PJ s a (Wq (32512+pH (oX s<|a+1))+Wq (256*pH (oX s<|a+2))) (Wq<|a+3) (a+bH s a) a_ (0=(kZ s a).1) (0=(kZ s a).2))<|PY s a<|kZ s a)<|Dq (Wq (aO s-a)>=3) (cE (a+1)/\ay a<aO s/\cE (a+2)/\Wq (a+2)<aO s/\PJ s a (Wq (32512+pH (oX s<|a+1))+Wq (256*pH (oX s<|a+2))) (Wq<|a+3) (a+bH s a) a_ (0=(kZ s a).1) (0=(kZ s a).2))<|PY s a<|kZ s a)<|Zq (vS s.data a).toNat
section
variable{s:M}{a:Int}
def azX(s:M)(p:Int):(((s.data.toList.getD p.toNat 0).toNat))=u s p:=rfl
def akQ(s:M)(p:Int):Q .i64 (u s p)=u s p:=by have:=Bi s p;exact wr Y Y
theorem avc(h0:0<=a)(h1:a<=s.size):lc s a=ah:=by grind [lc]
def avb(h0:0<=a)(h1:a<=s.size):li s a=decide (a+bH s a<=s.size):=by grind [li,avc]
def ava(h0:0<=a)(h1:a<=s.size):kZ s a=(5,(s.size:Int)):=by grind [kZ,avc]
def avd(h:(s.size)<=a):bH s a=1:=by grind [bH]
def ave(h:a<s.size)(x:u s a<128):bH s a=1:=by unfold bH;rw[iW Y,oc<|by lia,iW Y];rfl
def avf(h:a<s.size)(x:128<=u s a)(y:u s a<255):bH s a=2:=by unfold bH;rw[iW Y,oc<|by lia,jS x];rfl
def avg(h:a<s.size)(x:u s a=255):bH s a=3:=by grind [bH]
def aBQ(h0:0<=a):((s.extract a.toNat s.size).toList==ByteArray.empty.toList)=decide ((s.size)<=a):=by
 rw[YN,YN,C6];have y:s.data.toList.length=s.size:=rfl;by_cases h:(s.size)<=a
 .rw[jS h,CH Y,List.take_nil];rfl
 .rw[iW h,wo]
  intro x;have:=dR cY x;rw[mT,nW]at this;have:min (s.size-a.toNat) (s.data.toList.length-a.toNat)=0:=this;lia
def aaV(h0:0<=a)(i:Nat):((((s.extract a.toNat s.size).data.toList.getD i 0).toNat))=u s (a+i):=by unfold u;have h:s.data.toList.length=s.size:=rfl;rw[C6];grind
end
def aQG:=auD.gd m.nil Tryz.func120 λ⟨s,a⟩ ⟨G,_⟩=>⟨(oSc s a),J (p:=au_ s a)<|by
 have I:=Bi s a;have x1:=Bi s<|a+1;have K:=Bi s<|a+2;unfold au_ au' aw aF P8 iy eO pH bY ft LD dE PY ig aO gH dO xZ aL oY cU ca Dq Bq Cq Wq Zq;refine⟨λh=>?_,λx=>⟨λh=>?_,λe=>?_⟩⟩
 .have z:lc s a=ab:=by unfold lc;rw[h];rfl
  have b:li s a=ah:=by unfold li;rw[z];rfl
  have n:kZ s a=(2,0):=by unfold kZ;rw[z];rfl
  rw[b,n];exact⟨λh=>(by cases h),λ_=>⟨rfl,rfl,rfl,rfl⟩⟩
 .have z:lc s a=ab:=by unfold lc;rw[x,show decide ((s.size)<a)=ab from h];rfl
  have b:li s a=ah:=by unfold li;rw[z];rfl
  have n:kZ s a=(2,0):=by unfold kZ;rw[z];rfl
  rw[b,n];exact⟨λh=>(by cases h),λ_=>⟨rfl,rfl,rfl,rfl⟩⟩
 have x:0<=a:=by simpa using x
 have e:a<=(s.size):=by simpa using e
 have g0:=aaV (s:=s) x 0;have g1:=aaV (s:=s) x 1;have g2:=aaV (s:=s) x 2;rw[show a+((0:Nat))=a by omega]at g0;have o:(((s.extract a.toNat s.size).size))=(s.size)-a:=by rw[uj];omega
 have A:(2:Int)^min (X 8) (cZ .i64)=256:=H;have B:128<=u s a->Q .u8 (u s a-128)=u s a-128:=λh=>IntWalk.u8_in _ ⟨Y,Y⟩;have C:128<=u s a->Q .i64 (u s a-128)=u s a-128:=λh=>wr Y Y;have d:128<=u s a->Q .i64 ((u s a-128)*256)=(u s a-128)*256:=λh=>wr Y Y;have D:128<=u s a->Q .i64 ((u s a-128)*256+u s (a+1))=(u s a-128)*256+u s (a+1):=λh=>wr Y Y;have q4:Q .i64 (32512+u s (a+1))=32512+u s (a+1):=wr Y Y;have E:Q .i64 (u s (a+2)*256)=u s (a+2)*256:=wr Y Y;have F:Q .i64 (32512+u s (a+1)+u s (a+2)*256)=32512+u s (a+1)+u s (a+2)*256:=wr Y Y;have g:Q .i64 (Q .i64 (1+1)+1)=3:=H;have f:Q .i64 (1+1)=2:=H;have w:Q .i64 (a+1)=a+1:=wr Y Y;have i:Q .i64 (a+2)=a+2:=wr Y Y;have j:Q .i64 (a+3)=a+3:=wr Y Y;have r:Q .i64 2=2:=H;have v:Q .i64 3=3:=H;have q:X 0=0:=rfl;have t:X 1=1:=rfl;have l:X 2=2:=rfl;have L:a+((1:Nat))=a+1:=rfl;have M:a+((2:Nat))=a+2:=rfl;rw[L]at g1;rw[M]at g2;simp only[yz,q,t,l,aBQ x,g0,g1,g2,o,A,g,f,akQ,q4,E,F,ava x e];rw[avb x e];unfold jh;by_cases y:a<s.size
 .by_cases k:u s a<128
  .rw[ave y k]
   simp[y,k,x,w,i,j,r,v];omega
  .by_cases c:u s a<255
   .rw[avf y Y c]
    simp only[B Y,C Y,d Y,D Y];simp[y,k,c,x,w,i,j,r,v];omega
   .rw[avg y Y]
    simp[y,k,c,x,w,i,j,r,v];omega
 .rw[avd Y]
  simp[y,x,w,i,j,r,v];omega⟩
def aNE:=auD.gd m.nil Tryz.func140 λ⟨s,a⟩ ⟨l,_⟩=>⟨aK,J (p:=atq s a)<|by
 have A:=Bi s a;have x1:=Bi s<|a+1;have B:=Bi s<|a+2;unfold atq atr aF a_ pH LD PY ig aO ay cE vS oX ca PJ Dq Cq Wq Zq;refine⟨λh=>?_,λx=>⟨λh=>?_,λe=>?_⟩⟩
 .have z:lc s a=ab:=by unfold lc;rw[h];rfl
  have v:li s a=ah:=by unfold li;rw[z];rfl
  have r:kZ s a=(2,0):=by unfold kZ;rw[z];rfl
  rw[v,r];exact⟨λh=>(by cases h),λ_=>⟨rfl,rfl,rfl,rfl⟩⟩
 .have z:lc s a=ab:=by unfold lc;rw[x,show decide ((s.size)<a)=ab from h];rfl
  have v:li s a=ah:=by unfold li;rw[z];rfl
  have r:kZ s a=(2,0):=by unfold kZ;rw[z];rfl
  rw[v,r];exact⟨λh=>(by cases h),λ_=>⟨rfl,rfl,rfl,rfl⟩⟩
 have x:0<=a:=by simpa using x
 have e:a<=(s.size):=by simpa using e
 have t:Q .i64 ((s.size)-a)=(s.size)-a:=wr Y Y;have g:Q .i64 (a+1)=a+1:=wr Y Y;have o:Q .i64 (a+2)=a+2:=wr Y Y;have q:Q .i64 (a+3)=a+3:=wr Y Y;have j:Q .i64 (u s a-128)=u s a-128:=wr Y Y;have n:Q .i64 ((u s a-128)*256)=(u s a-128)*256:=wr Y Y;have c:Q .i64 ((u s a-128)*256+u s (a+1))=(u s a-128)*256+u s (a+1):=wr Y Y;have q4:Q .i64 (32512+u s (a+1))=32512+u s (a+1):=wr Y Y;have d:Q .i64 (256*u s (a+2))=u s (a+2)*256:=by rw[wr Y Y];omega
 have f:Q .i64 (32512+u s (a+1)+u s (a+2)*256)=32512+u s (a+1)+u s (a+2)*256:=wr Y Y;simp only[g,o,q,t,azX,akQ,j,n,c,q4,d,f,ava x e];rw[avb x e];unfold jh;have i:∀b:Bool,∀P:Prop,(b=ab->P)/\(b=ah->P)->P:=λb P h=>by cases b<;>simp_all
 by_cases y:a<s.size
 .by_cases k:u s a<128
  .rw[ave y k]
   simp[y,k,x];omega
  .by_cases w:u s a<255
   .rw[avf y Y w]
    simp[y,k,w,x];omega
   .rw[avg y Y]
    simp[y,k,w,x];omega
 .rw[avd Y]
  simp[y,x];omega⟩
def ayF:=m.cons aQG<| .cons aNE<|m.nil
def AR(x:N):=decide (x.getD 0 0<0)||decide (x.getD 0 0>131072)||decide (x.getD 1 0<3)||decide (x.getD 1 0>131074)||decide (x.getD 2 0<1)||decide (x.getD 2 0>2147483651)
def jB(l:q):Int:=cond (decide ((l.length:Int)>98303)) 6<|cond (l.any AR) 2 0
def auG:=Sp (List<|N) [.r 3] λl=>([E<|l.length<=140737488355328],aE<|B<|jB l)
def QB(l:q)(i:Nat):Prop:=i<=l.length/\l.length<=98303/\(l.take i).any AR=ah
def oSq(l:q):bO:=dX [(0,.one<|bi Nat λi=>(QB l i,[(8,.bZ<|.cH 3 l),(9,B (l.length)),(10,cP i)],[],l.length-i))]
def aI1(l:q):bO:=dX [(0,.one<|bi Nat λi=>(QB l i,[(0,.bZ<|.cH 3 l),(3,cP i)],[],l.length-i))]
def bM(h0:q)(h1:Nat):Int:=(h0.getD h1 []).getD 0 0
def d(h0:q)(h1:Nat):Int:=(h0.getD h1 []).getD 1 0
def aV(h0:q)(h1:Nat):Int:=(h0.getD h1 []).getD 2 0
def FU(h0:Nat)(h1:q):Prop:=h0<=h1.length/\h1.length<=98303/\(aC h0 h1).any AR=ah
def DI(h0:Nat)(h1:q)(h:Prop):Prop:=0<=Zq h0/\Zq h0<Zq h1.length/\h
def avu(l:q)(D:Prop):Prop:=Dq (Zq l.length>98303) (6=jB l)<|(∃x,FU x l/\l=l/\Zq l.length=Zq l.length/\0=Zq x)/\(∀x1,FU x1 l->Dq (Zq x1<Zq l.length) (DI x1 l<|Dq (bM l (Zq x1).toNat<0) D<|Dq (bM l (Zq x1).toNat>131072) D<|Dq (d l (Zq x1).toNat<3) D<|Dq (d l (Zq x1).toNat>131074) D<|Dq (aV l (Zq x1).toNat<1) D<|Dq (aV l (Zq x1).toNat>2147483651) D<|∃h,FU h l/\cl l.length h x1/\l=l/\Zq l.length=Zq l.length/\ay (Zq x1)=Zq h) (0=jB l))
def ahi(l:q):Prop:=avu l<|2=jB l
def att(l:q)(D:Prop):Prop:=Dq (Zq l.length>98303) (6=jB l)<|(∃x,FU x l/\l=l/\0=Zq x)/\(∀x1,FU x1 l->Dq (Zq x1<Zq l.length) (DI x1 l<|Dq (bM l (Zq x1).toNat<0) D<|DI x1 l<|Dq (bM l (Zq x1).toNat>131072) D<|DI x1 l<|Dq (d l (Zq x1).toNat<3) D<|DI x1 l<|Dq (d l (Zq x1).toNat>131074) D<|DI x1 l<|Dq (aV l (Zq x1).toNat<1) D<|DI x1 l<|Dq (aV l (Zq x1).toNat>2147483651) D<|∃h,FU h l/\cl l.length h x1/\l=l/\ay (Zq x1)=Zq h) (0=jB l))
def age(l:q):Prop:=att l<|2=jB l
section
variable{l:q}
def avG{i:Nat}(hi:i<l.length):l.getD i []=l[i]:=by rw[jR,kB hi];rfl
def avI(h:l.length<=98303):jB l=cond (l.any AR) 2 0:=by unfold jB;rw[iW Y];rfl
def avC{i:Nat}(hi:i<l.length)(x:l.length<=98303)(h:AR (l.getD i [])=ab):2=jB l:=by have:=List.any_eq_true.2 ⟨l[i],List.getElem_mem hi,by rw[<-avG hi];exact h⟩;rw[avI x,this];rfl
def avK{i:Nat}(hi:i<l.length)(hp:QB l i)(h:AR (l.getD i [])=ah):QB l (i+1):=by refine⟨hi,hp.2.1,?_⟩;rw[axC hi,List.any_append,hp.2.2,<-avG hi];simp[List.any_cons,List.any_nil,GM,Bool.or_false];exact h
def avE{i:Nat}(hi:¬i<l.length)(hp:QB l i):0=jB l:=by have h:=hp.2.2;rw[nE Y]at h;rw[avI hp.2.1,h];rfl
def avJ(h:decide ((l.length:Int)>98303)=ab):6=jB l:=by unfold jB;rw[h];rfl
def aQ0(u:l.length<=140737488355328):ahi l:=by
 unfold ahi avu DI FU aV cl ay d bM Dq Wq Zq;refine⟨avJ,λh=>?_⟩;have h:l.length<=98303:=by have:=nD h;lia
 refine⟨⟨0,⟨dx _,h,rfl⟩,C⟩,λi j=>⟨λv=>?_,λv=>?_⟩⟩
 .have v:i<l.length:=by have:=ow v;lia
  have bad:=avC v h;have next:=avK v j
  rw[show X i=i from rfl];unfold AR at bad next
  refine⟨Y,Y,λx=>bad<|by simp only[x,uV,uY],λx=>⟨λy=>bad<|by simp only[y,uV,uY],λy=>⟨λz=>bad<|by simp only[z,uV,uY],λz=>⟨λe=>bad<|by simp only[e,uV,uY],λe=>⟨λk=>bad<|by simp only[k,uV,uY],λk=>⟨λr=>bad<|by simp only[r,uV,uY],λr=>?_⟩⟩⟩⟩⟩⟩;exact⟨i+1,next (by rw[x,y,z,e,k,r];rfl),show l.length- (i+1)<l.length-i by lia,rfl,rfl,wr Y Y⟩
 .exact avE (by have:=nD v;lia) j
def aNL(w:l.length<=140737488355328):age l:=by
 unfold age att DI FU aV cl ay d bM Dq Wq Zq;refine⟨avJ,λy=>?_⟩;have y:l.length<=98303:=by have:=nD y;lia
 refine⟨⟨0,⟨dx _,y,rfl⟩,C⟩,λi n=>⟨λj=>?_,λj=>?_⟩⟩
 .have j:i<l.length:=by have:=ow j;lia
  have bad:=avC j y;have next:=avK j n
  have h:0<=(i:Int):=Y;have x:i<(l.length:Int):=Y;rw[show X i=i from rfl];unfold AR at bad next
  refine⟨h,x,λz=>bad<|by simp only[z,uV,uY],λz=>⟨h,x,λe=>bad<|by simp only[e,uV,uY],λe=>⟨h,x,λk=>bad<|by simp only[k,uV,uY],λk=>⟨h,x,λr=>bad<|by simp only[r,uV,uY],λr=>⟨h,x,λu=>bad<|by simp only[u,uV,uY],λu=>⟨h,x,λv=>bad<|by simp only[v,uV,uY],λv=>?_⟩⟩⟩⟩⟩⟩;exact⟨i+1,next (by rw[z,e,k,r,u,v];rfl),show l.length- (i+1)<l.length-i by lia,rfl,wr Y Y⟩
 .exact avE (by have:=nD j;lia) n
end
def aQZ:=auG.gd m.nil Tryz.func123 λ(l:q) ⟨h,_⟩=>⟨(oSq l),J<|aQ0 h⟩
def aNK:=auG.gd m.nil Tryz.func143 λ(l:q) ⟨h,_⟩=>⟨(aI1 l),J<|aNL h⟩
def ayG:=m.cons aQZ<| .cons aNK<|m.nil
def bq{b:Bool}{A B:Prop}(h:b=ab->A)(g:b=ah->B):Bq b A B:=⟨h,g⟩
def de{x y:Int}{A B:Prop}(h:x=y->A)(g:x≠y->B):Bq (x==y) A B:=⟨λe=>h<|xw e,λe=>g<|Ew e⟩
def bV{x y:Int}{A B:Prop}(h:x≠y->A)(g:x=y->B):Bq (x !=y) A B:=⟨λe=>h<|by simpa using e,λe=>g<|by simpa using e⟩
structure zX where
 e:Int
 i:Int
 d:N
 a:Int
 b:Int
 c:Int
def bg(x:N):Int:=x.getD 0 0
def kN(x:N):Int:=x.getD 1 0
def dC(x:N):Int:=x.getD 2 0
def yS(c h:Int)(b:N):Prop:=wc x (dC b) (bg b)≠0\/w<dT x y c (dC b) (bg b)\/h+bg b<dT x y c (dC b) (bg b)
instance(W a b c h)(x:N):Decidable (yS W a b c h x):=by unfold yS;infer_instance
def ph(W bf:Int):List (N)->Nat->Int->Int->Int->Int->Int->N->zX
 | [],i,lt,th,a,b,c,d=>if 131072<th+lt-bf then⟨19,i,[],a,b,c⟩else⟨0,i,d,a,b,c⟩
 |x::l,i,lt,th,a,b,c,d=>if lt<bg x then⟨24,i,[],a,b,c⟩else if yS W a b c th x then⟨25,i,[],a,b,c⟩
  else ph W bf l (i+1) (lt-bg x) (th+bg x+kN x) (gU a b c (dC x)<|bg x) (fb a b c (dC x)<|bg x) (fc a b c (dC x)<|bg x)<|d++ [dT a b c (dC x)<|bg x]
def cG(l:q)(lt bf a b c W:Int):zX:=ph W bf l 0 lt bf a b c []
structure mb where
 i:Nat
 lt:Int
 th:Int
 a:Int
 b:Int
 c:Int
 d:N
structure DsP (l:List (N)) (lt bf a b c W:Int) (s:mb):Prop where
 i1:s.i<=l.length
 r:fI s.a s.b s.c
 l0:0<=s.lt
 l1:s.lt<=lt
 t0:bf<=s.th
 t1:s.th<=bf+262146*(s.i:Nat)
 n:s.d.length=s.i
 g:ph W bf (l.drop s.i) s.i s.lt s.th s.a s.b s.c s.d=cG l lt bf a b c W
structure G5 (l:List (N)) (lt bf a b c W:Int) (s:mb):Prop extends DsP l lt bf a b c W s where
 i2:s.i<l.length
 x:¬s.lt<bg (l.getD s.i [])
def yR(c h:Int)(b:N):Int:=if yS w x y c h b then 25 else 0
def uh(d:Nat):Nat->N->N
 |0,F=>F
 |k+1,F=>uh d k<|F++ [F.getD (F.length-d) 0]
def SS:List (N)->N->N->N->N
 | [],_,t,F=>F++t
 |x::l,h,t,F=>SS l h.tail (t.drop (bg x).toNat)<|uh (h.headD 0).toNat (kN x).toNat<|F++t.take (bg x).toNat
def lP(l:q)(t bf:M)(a b c W:Int):Int:=
 if jB l≠0 then jB l else if W<0 then 2 else if 131072<t.size\/1048576<bf.size then 4 else(cG l t.size bf.size a b c W).e
def exF(l:q)(t bf:M)(a b c W:Int):N:=SS l (cG l t.size bf.size a b c W).d (dY t)<|dY bf
def rL(l:q)(t bf:M)(a b c W:Int):M:=if lP l t bf a b c W=0 then strOfNums ((exF l t bf a b c W).drop bf.size)else aJ
structure n_ where
 i:Nat
 t:M
 F:N
 a:Int
 b:Int
 c:Int
structure ExP (l:List (N)) (t bf:M) (a b c W:Int) (s:n_):Prop where
 i1:s.i<=l.length
 e:lP l t bf a b c W=0
 r:fI s.a s.b s.c
 t1:s.t.size<=t.size
 f0:bf.size<=s.F.length
 f1:s.F.length<=bf.size+262146*s.i
 g:ph W bf.size (l.drop s.i) s.i s.t.size s.F.length s.a s.b s.c ((cG l t.size bf.size a b c W).d.take s.i)=cG l t.size bf.size a b c W
 x:SS (l.drop s.i) ((cG l t.size bf.size a b c W).d.drop s.i) (dY s.t) s.F=exF l t bf a b c W
 p:s.F.take bf.size=dY bf
section
variable{a b c v l:Int}
def Xi(u:fI a b c)(r:1<=v/\v<=2147483651/\0<=l)(hB:ff a v l=ah):fI (gU a b c v l) (fb a b c v l) (fc a b c v l)/\1<=dT a b c v l/\dT a b c v l<=2147483648:=by
 by_cases h:3<v
 .obtain⟨_,x,y,z,e4⟩:=Xh h
  rw[x,y,z,e4];unfold fI at*;lia
 .rcases Xj r.1 h with e|e|e|e
  all_goals first
   |(obtain⟨_,x,y,z,e4⟩:=Mj h e H H
     rw[x,y,z,e4];unfold fI at*;simp;lia)
   |(obtain⟨k,x⟩:=Xg h e
     rw[k]at hB;obtain⟨x,y,z,e4⟩:=x hB;have:a≠1:=by simpa using hB
     rw[x,y,z,e4];unfold fI at*;lia)
def af':wc a v l=0↔ff a v l=ah:=by unfold wc;cases ff a v l<;>simp
end
section
variable{l:q}{W bf lt th a b c:Int}{t s:M}{d:N}{i:Nat}
structure RQ (x:N):Prop where
 l0:0<=bg x
 l1:bg x<=131072
 m0:3<=kN x
 m1:kN x<=131074
 o0:1<=dC x
 o1:dC x<=2147483651
def Mt(h:jB l=0):l.length<=98303/\∀x∈l,RQ x:=by
 unfold jB at h;cases y:decide ((l.length:Int)>98303)
 .rw[y]at h
  simp[dH]at y;cases z:l.any AR
  .refine⟨Y,λx e=>?_⟩
   have:=List.any_eq_false.1 z x e;unfold AR at this;simp only[GK,dJ,not_or]at this;exact⟨by show 0<=x.getD 0 0;lia,by show x.getD 0 0<=_;lia,by show _<=x.getD 1 0;lia,by show x.getD 1 0<=_;lia,by show _<=x.getD 2 0;lia,by show x.getD 2 0<=_;lia⟩
  .rw[z]at h;cases h
 .rw[y]at h;cases h
def aaB:∀(l:q) i (lt th a b c) d,(ph W bf l i lt th a b c d).e=0->∃r,(ph W bf l i lt th a b c d).d=d++r/\r.length=l.length
 | [],i,lt,th,a,b,c,d,h=>by
   unfold ph at h|-;split
   .rename_i k;rw[I k]at h;cases h
   .exact⟨[],aj,rfl⟩
 |x::l,i,lt,th,a,b,c,d,h=>by
  unfold ph at h|-;split
  .rename_i k;rw[I k]at h;cases h
  .rename_i k
   rw[V k]at h;split
   .rename_i y;rw[I y]at h;cases h
   .rename_i y
    rw[V y]at h;let⟨r,z,u⟩:=aaB l _ _ _ _ _ _ _ h;exact⟨dT a b c (dC x) (bg x)::r,by rw[z,qQ];rfl,by simp[u]⟩
def aBd(e:∀x∈l,RQ x)(z:fI a b c):fI (ph W bf l i lt th a b c d).a (ph W bf l i lt th a b c d).b (ph W bf l i lt th a b c d).c:=by
 induction l generalizing i lt th a b c d with
 |nil=>unfold ph;split<;>exact z
 |cons x l u=>
  unfold ph;split
  .exact z
  .split
   .exact z
   .rename_i k
    have o:=e x<|.head _;apply u (λy r=>e y<|.tail _ r) (Xi z ⟨o.o0,o.o1,o.l0⟩ ?_).1;unfold yS at k;exact af'.1<|mV λh=>k<|.inl h
def NQ{i:Nat}(h:i<l.length):l.drop i=l.getD i []::l.drop (i+1):=by rw[zJ h,jR,kB h];rfl
def Tf{i:Nat}(h:i<l.length):l.getD i []∈l:=by rw[jR,kB h];exact List.getElem_mem h
theorem amg(d:Nat):∀(k:Nat) (F:N),(uh d k F).length=F.length+k
 |0,F=>rfl
 |k+1,F=>by unfold uh;rw[amg d k,gn,rG];omega
def ami(d:Nat):∀k F,uh d (k+1) F=uh d k F++ [(uh d k F).getD ((uh d k F).length-d) 0]
 |0,F=>rfl
 |k+1,F=>by
  have:=ami d k<|F++ [F.getD (F.length-d) 0]
  conv=>lhs;unfold uh
  rw[this];rfl
end
def jnE(l:Nat):Nat×bm:=(k,.cells 296 [.o l])
def jnR:Nat×bm:=(k,.rc 126 1 1 [.fm 246<|.ag [.v<|.int .i64 w,.v<|.int .i64 x]])
def agE:Spec where
 ι:=Int×Int
 own:=ab
 dec l H:=match l with
  | [.s l0 0 1<|O 1]=>match H l0 with
    |some (.cells 126 [.fm 246<|.ag [.v<|.int .i64 e,.v<|.int .i64 i]])=>O ((e,i),[l0])
    |_=>ae
  |_=>ae
 args:=λ(e,i)=>[.s 0 0 1<|O 1]
 hp:=λ(e,i)=>[(0,.cells 126 [.fm 246<|.ag [B e,B i]])]
 out:=λ(e,i)=>.leaf (.fm 294<|U 2000) [(0,.cells 126 [.fm 246<|.ag [B e,B i]]),jnE 2000 2001,jnR 2001 e i]
def aO6:agE.dn:=by
 intro l H n i x h;simp[agE]at h
 repeat' split at h
 all_goals first|(cases h;done)|(cases h;exact⟨C⟩)|(cases h;refine⟨rfl,?_⟩;simp[dK,iF,iN,gN, *];rfl)
def aHK:bO:=dX [(0,.rr 2),(1,.rr 2)]
def aOO:=Sp (List (N)×Int×Int×Int×Int×Int×Int) [.r 3,.i,.i,.t,.i] λ(l,lt,bf,a,b,c,W)=>([E<|jB l=0,E<|fI a b c,E<|0<=lt/\lt<=131072,E<|0<=bf/\bf<=1048576],aE<|.tu [.bZ<|.ints .i64 (cG l lt bf a b c W).d,qT [(cG l lt bf a b c W).a,(cG l lt bf a b c W).b,(cG l lt bf a b c W).c],.v<|.int .i64 (cG l lt bf a b c W).e])
def aON:=Sp (List (N)×Int×Int×Int×Int×Int×Int) [.r 3,.i,.i,.t,.i] λ(l,lt,bf,a,b,c,W)=>([E<|jB l=0,E<|fI a b c,E<|0<=lt/\lt<=131072,E<|0<=bf/\bf<=1048576],.ite (E<|(cG l lt bf a b c W).e=0) (aE<|.tu [.bZ<|.ints .i64 (cG l lt bf a b c W).d,qT [(cG l lt bf a b c W).a,(cG l lt bf a b c W).b,(cG l lt bf a b c W).c],.v .nilIface])<|.leaf (.tu [.v<|.slice ae 0 0,qT [(cG l lt bf a b c W).a,(cG l lt bf a b c W).b,(cG l lt bf a b c W).c],.fm 294<|U 2000]) [jnE 2000 2001,jnR 2001 (cG l lt bf a b c W).e (cG l lt bf a b c W).i])
def aRT(l:q)(bf W:Int)(s:mb):lW:=[(0,.bZ<|.cH 3 l),(1,.v<|.int .i64 s.lt),(2,.v<|.int .i64 bf),(4,.v<|.int .i64 W),(8,.p 1001 0 0),(11,.p 1002 0 0),(13,.o 5000),(14,.v<|.int .i64 s.th),(21,.bZ<|.cH 3 l),(22,.v<|.int .i64 (l.length)),(23,.v<|.int .i64 (s.i))]
def acj(s:mb):bN:=[(1001,wb [s.a,s.b,s.c]),(1002,wb [0,0,0]),(5000,.row 3<|.ints .i64 s.d)]
def oDs(l:q)(lt bf a b c W:Int):bO:=dX [
 (0,.one {ι:=mb,p:=DsP l lt bf a b c W,tm:=aRT l bf W,hp:=acj,μ:=λs=>l.length-s.i}),
 (1014,.nk mb λs=>(bi Unit λ_=>(G5 l lt bf a b c W s,[(0,.bZ<|.cH 3 l),(1,B<|s.lt-bg (l.getD s.i [])),(2,B bf),(4,B W),(8,U 1001),(11,U 1002),(13,.o 5000),(14,B<|s.th+bg (l.getD s.i [])),(15,B (s.i)),(16,U 1003),(17,B<|yR W s.a s.b s.c s.th<|l.getD s.i []),(18,B<|dT s.a s.b s.c (dC<|l.getD s.i [])<|bg<|l.getD s.i []),(21,.bZ<|.cH 3 l),(22,B (l.length)),(23,B (s.i))],acj s++ [(1003,.cells 185 [B<|bg<|l.getD s.i [],B<|kN<|l.getD s.i [],B<|dC<|l.getD s.i []])],0)))]
def aHs(l:q)(lt bf a b c W:Int):bO:=dX [
 (0,.one {ι:=mb,p:=DsP l lt bf a b c W,tm:=λs=>[(0,.bZ<|.cH 3 l),(1,B s.lt),(2,B bf),(4,B W),(8,U 1001),(11,U 1002),(13,.o 5000),(14,B s.th),(15,B (s.i))],hp:=acj,μ:=λs=>l.length-s.i})]
def kX(h0 h1:Int)(h x y:Prop):Prop:=Dq (h0<h1) (Rq h0 h1 h)<|x/\y
def ao4(D:Prop):Prop:=Dq (0<Zq 1) (Rq 0 (Zq 1)<|Dq (b8<Zq 1) (Rq b8 (Zq 1)<|jL False)<|Bq (b8==0) (False/\w=w/\x=x/\nu)<|vX/\Zq 16*b8<=281474976710656/\b8<=9223372036854775807/\D)<|Bq ((0:Int)==0) (False/\w=w/\x=x/\nu)<|ft (Zq 16*0<=281474976710656)<|(0:Int)<=9223372036854775807/\D
def ac0:Prop:=ao4 w x<|Dq (0<Zq 1) (Rq 0 (Zq 1)<|1*16<=140737488355328/\kX b8 (Zq 1) (jL False) (w=w) (x=x/\w=w/\x=x))<|w=w/\x=x/\nu
def lZ(h0:Int)(h1 h x:Prop):Prop:=Cq (h0=0) (h1/\h)<|h1/\x
def aeX(h0 h1:Int)(h:Nat)(x:N)(y z:Nat)(e:Int)(k v w r u:Prop):Prop:=Dq (Wq (Wq h0-h1)>131072) (3=(h.add 0).succ/\x.length=3/\y=z/\lZ e k v w)<|3=(h.add 0).succ/\x.length=3/\y=z/\lZ e k r u
def lf(h0:N):Prop:=(h0.length+1)*8<=140737488355328
def sB(h0:zX):N:=[h0.a,h0.b,h0.c]
def ck(h0:N):Prop:=h0.length=0
def rX:Prop:=Jq<|Value.slice Option.none 0 0
def fC(h0 h1:Nat):Prop:=Zq h0=Zq h1
def aZ(h0:Nat):Prop:=0=Zq h0
def aey(h0:zX)(h1:mb)(y:Int)(h x:N)(z k:Prop):Prop:=lZ h0.e (3=gY h1.b [y]) (ck h0.d/\h=x/\False)<|rX/\h=x/\z/\k
def T(h0:Nat):Nat:=(Zq h0).toNat
def j7(h0:mb):N:=[h0.a,h0.b,h0.c]
def dk(h0:q):Int:=Zq h0.length
def F1:Prop:=Value.nilIface=Value.nilIface
def ae7(h0:mb)(h1:q)(h:mb):Prop:=h0.d++ [dT h0.a h0.b h0.c (dC<|h1.getD h0.i [])<|bg<|h1.getD h0.i []]=h.d
def yf(h0:q)(h1:Prop):Prop:=h0=h0/\Jq (dk h0)/\h1
def Wt(h0:mb)(h1:q)(h:Prop):Prop:=fI h0.a h0.b h0.c/\(1<=aV h1 (T h0.i)/\aV h1 (T h0.i)<=2147483651/\0<=bM h1 (T h0.i))/\h
def afr(h0:mb)(h1:Prop):Prop:=3=gY h0.b [h0.c]/\(j7 h0).length=3/\gg (j7 h0) fq/\h1
def alU(l:q)(lt bf a b c W:Int)(D P i:Prop)(p:Int)(j:N)(h:Int)(e:N)(k:zX):Prop:=(∃z,DsP l lt bf a b c W z/\l=l/\lt=z.lt/\aw bf (W=W) (bf=z.th/\yf l (aZ z.i/\[a,b,c]=j7 z/\fP=fq/\ck z.d)))/\(∀x1,DsP l lt bf a b c W x1->Dq (Zq x1.i<dk l) (Rq (Zq x1.i) (dk l)<|Dq (bM l (T x1.i)>x1.lt) (afr x1<|aey k x1 x1.c (j7 x1) j (24=p)<|Zq x1.i=h)<|3=gY x1.b [x1.c]/\Wt x1 l (∃g2,iy (wc x1.a (aV l<|T x1.i) (bM l<|T x1.i) !=0) (aL<|G5 l lt bf a b c W g2/\l=l/\Wq (x1.lt-bM l (T x1.i))=g2.lt-bg (l.getD g2.i [])/\aw bf (W=W) (Wq (x1.th+bM l (T x1.i))=g2.th+bg (l.getD g2.i [])/\fC x1.i g2.i/\25=yR W g2.a g2.b g2.c g2.th (l.getD g2.i [])/\dT x1.a x1.b x1.c (aV l<|T x1.i) (bM l<|T x1.i)=dT g2.a g2.b g2.c (dC<|l.getD g2.i []) (bg<|l.getD g2.i [])/\yf l (fC x1.i g2.i/\j7 x1=j7 g2/\Jq fq/\x1.d=g2.d/\bM l (T x1.i)=bg (l.getD g2.i [])/\d l (T x1.i)=kN (l.getD g2.i [])/\aV l (T x1.i)=dC (l.getD g2.i [])))) (Dq (dT x1.a x1.b x1.c (aV l<|T x1.i) (bM l<|T x1.i)>W) (aL<|G5 l lt bf a b c W g2/\l=l/\Wq (x1.lt-bM l (T x1.i))=g2.lt-bg (l.getD g2.i [])/\aw bf (W=W) (Wq (x1.th+bM l (T x1.i))=g2.th+bg (l.getD g2.i [])/\fC x1.i g2.i/\25=yR W g2.a g2.b g2.c g2.th (l.getD g2.i [])/\dT x1.a x1.b x1.c (aV l<|T x1.i) (bM l<|T x1.i)=dT g2.a g2.b g2.c (dC<|l.getD g2.i []) (bg<|l.getD g2.i [])/\yf l (fC x1.i g2.i/\j7 x1=j7 g2/\Jq fq/\x1.d=g2.d/\bM l (T x1.i)=bg (l.getD g2.i [])/\d l (T x1.i)=kN (l.getD g2.i [])/\aV l (T x1.i)=dC (l.getD g2.i []))))<|Dq (dT x1.a x1.b x1.c (aV l<|T x1.i) (bM l<|T x1.i)>Wq (x1.th+bM l (T x1.i))) (aL<|G5 l lt bf a b c W g2/\l=l/\Wq (x1.lt-bM l (T x1.i))=g2.lt-bg (l.getD g2.i [])/\aw bf (W=W) (Wq (x1.th+bM l (T x1.i))=g2.th+bg (l.getD g2.i [])/\fC x1.i g2.i/\25=yR W g2.a g2.b g2.c g2.th (l.getD g2.i [])/\dT x1.a x1.b x1.c (aV l<|T x1.i) (bM l<|T x1.i)=dT g2.a g2.b g2.c (dC<|l.getD g2.i []) (bg<|l.getD g2.i [])/\yf l (fC x1.i g2.i/\j7 x1=j7 g2/\Jq fq/\x1.d=g2.d/\bM l (T x1.i)=bg (l.getD g2.i [])/\d l (T x1.i)=kN (l.getD g2.i [])/\aV l (T x1.i)=dC (l.getD g2.i []))))<|aL<|G5 l lt bf a b c W g2/\l=l/\Wq (x1.lt-bM l (T x1.i))=g2.lt-bg (l.getD g2.i [])/\aw bf (W=W) (Wq (x1.th+bM l (T x1.i))=g2.th+bg (l.getD g2.i [])/\fC x1.i g2.i/\0=yR W g2.a g2.b g2.c g2.th (l.getD g2.i [])/\dT x1.a x1.b x1.c (aV l<|T x1.i) (bM l<|T x1.i)=dT g2.a g2.b g2.c (dC<|l.getD g2.i []) (bg<|l.getD g2.i [])/\yf l (fC x1.i g2.i/\j7 x1=j7 g2/\Jq fq/\x1.d=g2.d/\bM l (T x1.i)=bg (l.getD g2.i [])/\d l (T x1.i)=kN (l.getD g2.i [])/\aV l (T x1.i)=dC (l.getD g2.i []))))<|G5 l lt bf a b c W g2->Bq (yR W g2.a g2.b g2.c g2.th (l.getD g2.i []) !=0) (afr g2<|aey k g2 g2.c (j7 g2) j (yR W g2.a g2.b g2.c g2.th (l.getD g2.i [])=p)<|Zq g2.i=h) (3=gY g2.b [g2.c]/\Lt g2.a (dC<|l.getD g2.i []) (bg<|l.getD g2.i []) g2.b g2.c (1<=dC (l.getD g2.i [])/\dC (l.getD g2.i [])<=2147483651/\0<=bg (l.getD g2.i [])) (tC [gU g2.a g2.b g2.c (dC<|l.getD g2.i [])<|bg<|l.getD g2.i [],fb g2.a g2.b g2.c (dC<|l.getD g2.i [])<|bg<|l.getD g2.i [],fc g2.a g2.b g2.c (dC<|l.getD g2.i [])<|bg<|l.getD g2.i []] (j7 g2) (lf g2.d)<|Bq (Zq g2.i==bF (dk l)) (aeX (Wq (g2.th+bg (l.getD g2.i [])+kN (l.getD g2.i []))+(g2.lt-bg (l.getD g2.i []))) bf [fb g2.a g2.b g2.c (dC<|l.getD g2.i [])<|bg<|l.getD g2.i [],fc g2.a g2.b g2.c (dC<|l.getD g2.i [])<|bg<|l.getD g2.i []].length [gU g2.a g2.b g2.c (dC<|l.getD g2.i [])<|bg<|l.getD g2.i [],fb g2.a g2.b g2.c (dC<|l.getD g2.i [])<|bg<|l.getD g2.i [],fc g2.a g2.b g2.c (dC<|l.getD g2.i [])<|bg<|l.getD g2.i []] [gU g2.a g2.b g2.c (dC<|l.getD g2.i [])<|bg<|l.getD g2.i [],fb g2.a g2.b g2.c (dC<|l.getD g2.i [])<|bg<|l.getD g2.i [],fc g2.a g2.b g2.c (dC<|l.getD g2.i [])<|bg<|l.getD g2.i []].length fq.length p (3=qf [fb g2.a g2.b g2.c (dC<|l.getD g2.i [])<|bg<|l.getD g2.i [],fc g2.a g2.b g2.c (dC<|l.getD g2.i [])<|bg<|l.getD g2.i []]) (i/\[gU g2.a g2.b g2.c (dC<|l.getD g2.i [])<|bg<|l.getD g2.i [],fb g2.a g2.b g2.c (dC<|l.getD g2.i [])<|bg<|l.getD g2.i [],fc g2.a g2.b g2.c (dC<|l.getD g2.i [])<|bg<|l.getD g2.i []]=j/\False) (rX/\[gU g2.a g2.b g2.c (dC<|l.getD g2.i [])<|bg<|l.getD g2.i [],fb g2.a g2.b g2.c (dC<|l.getD g2.i [])<|bg<|l.getD g2.i [],fc g2.a g2.b g2.c (dC<|l.getD g2.i [])<|bg<|l.getD g2.i []]=j/\D) (g2.d++ [dT g2.a g2.b g2.c (dC<|l.getD g2.i [])<|bg<|l.getD g2.i []]=e/\[gU g2.a g2.b g2.c (dC<|l.getD g2.i [])<|bg<|l.getD g2.i [],fb g2.a g2.b g2.c (dC<|l.getD g2.i [])<|bg<|l.getD g2.i [],fc g2.a g2.b g2.c (dC<|l.getD g2.i [])<|bg<|l.getD g2.i []]=j/\F1)<|False/\[gU g2.a g2.b g2.c (dC<|l.getD g2.i [])<|bg<|l.getD g2.i [],fb g2.a g2.b g2.c (dC<|l.getD g2.i [])<|bg<|l.getD g2.i [],fc g2.a g2.b g2.c (dC<|l.getD g2.i [])<|bg<|l.getD g2.i []]=j/\jL False)<|∃x,DsP l lt bf a b c W x/\cl l.length x.i x1.i/\l=l/\g2.lt-bg (l.getD g2.i [])=x.lt/\aw bf (W=W) (Wq (g2.th+bg (l.getD g2.i [])+kN (l.getD g2.i []))=x.th/\yf l (ay (Zq g2.i)=Zq x.i/\[gU g2.a g2.b g2.c (dC<|l.getD g2.i [])<|bg<|l.getD g2.i [],fb g2.a g2.b g2.c (dC<|l.getD g2.i [])<|bg<|l.getD g2.i [],fc g2.a g2.b g2.c (dC<|l.getD g2.i [])<|bg<|l.getD g2.i []]=j7 x/\Jq fq/\ae7 g2 l x))) (tC fq (j7 g2) (lf g2.d)<|Bq (Zq g2.i==bF (dk l)) (Dq (Wq (Wq (Wq (g2.th+bg (l.getD g2.i [])+kN (l.getD g2.i []))+(g2.lt-bg (l.getD g2.i [])))-bf)>131072) (3=3/\fq.length=3/\Jq fq.length/\lZ p (3=3) (i/\P/\False) (rX/\P/\D))<|3=3/\fq.length=3/\Jq fq.length/\lZ p (3=3) (g2.d++ [dT g2.a g2.b g2.c (dC<|l.getD g2.i [])<|bg<|l.getD g2.i []]=e/\P/\F1) (False/\P/\jL False))<|∃y,DsP l lt bf a b c W y/\cl l.length y.i x1.i/\l=l/\g2.lt-bg (l.getD g2.i [])=y.lt/\aw bf (W=W) (Wq (g2.th+bg (l.getD g2.i [])+kN (l.getD g2.i []))=y.th/\yf l (ay (Zq g2.i)=Zq y.i/\fq=j7 y/\Jq fq/\ae7 g2 l y)))))) (aeX (x1.th+x1.lt) bf [x1.b,x1.c].length (j7 x1) (j7 x1).length fq.length p (3=gY x1.b [x1.c]) (i/\j7 x1=j/\False) (rX/\j7 x1=j/\D) (x1.d=e/\j7 x1=j/\F1)<|False/\j7 x1=j/\jL False))
def aaD(l:q)(lt bf a b c W:Int):Prop:=alU l lt bf a b c W (19=(cG l lt bf a b c W).e/\dk l=(cG l lt bf a b c W).i) (fq=sB (cG l lt bf a b c W)) (ck (cG l lt bf a b c W).d) (cG l lt bf a b c W).e (sB<|cG l lt bf a b c W) (cG l lt bf a b c W).i (cG l lt bf a b c W).d<|cG l lt bf a b c W
def afg(h0:mb)(h1:q)(h:mb):Prop:=h0.d++ [dT h0.a h0.b h0.c (aV h1<|T h0.i)<|bM h1<|T h0.i]=h.d
def L6(h0:mb)(h1 h:Int)(x y:N)(z e:Prop):Prop:=3=gY h0.b [h1]/\tC (j7 h0) fq (3=gY h x) (ck y/\z/\e)
def afu(h0:mb)(h1:q)(h:mb)(x:Prop):Prop:=Wq (Wq (h0.th+bM h1 (T h0.i))+d h1 (T h0.i))=h.th/\ay (Zq h0.i)=Zq h.i/\x
def alV(l:q)(lt bf a b c W D:Int)(P:N):Prop:=(∃h,DsP l lt bf a b c W h/\l=l/\lt=h.lt/\aw bf (W=W) (bf=h.th/\aZ h.i/\[a,b,c]=j7 h/\fP=fq/\ck h.d))/\(∀x1,DsP l lt bf a b c W x1->Dq (Zq x1.i<dk l) (Rq (Zq x1.i) (dk l)<|Dq (bM l (T x1.i)>x1.lt) (L6 x1 x1.c x1.b [x1.c] P (j7 x1=sB (cG l lt bf a b c W))<|24=D)<|Rq (Zq x1.i) (dk l)<|Rq (Zq x1.i) (dk l)<|3=gY x1.b [x1.c]/\Rq (Zq x1.i) (dk l) (Rq (Zq x1.i) (dk l)<|Wt x1 l<|Bq (wc x1.a (aV l<|T x1.i) (bM l<|T x1.i) !=0) (L6 x1 x1.c x1.b [x1.c] P (j7 x1=sB (cG l lt bf a b c W))<|25=D)<|Dq (dT x1.a x1.b x1.c (aV l<|T x1.i) (bM l<|T x1.i)>W) (L6 x1 x1.c x1.b [x1.c] P (j7 x1=sB (cG l lt bf a b c W))<|25=D)<|Dq (dT x1.a x1.b x1.c (aV l<|T x1.i) (bM l<|T x1.i)>Wq (x1.th+bM l (T x1.i))) (L6 x1 x1.c x1.b [x1.c] P (j7 x1=sB (cG l lt bf a b c W))<|25=D)<|3=gY x1.b [x1.c]/\Rq (Zq x1.i) (dk l) (Rq (Zq x1.i) (dk l)<|Lt x1.a (aV l<|T x1.i) (bM l<|T x1.i) x1.b x1.c (1<=aV l (T x1.i)/\aV l (T x1.i)<=2147483651/\0<=bM l (T x1.i)) (tC [gU x1.a x1.b x1.c (aV l<|T x1.i)<|bM l<|T x1.i,fb x1.a x1.b x1.c (aV l<|T x1.i)<|bM l<|T x1.i,fc x1.a x1.b x1.c (aV l<|T x1.i)<|bM l<|T x1.i] (j7 x1) (lf x1.d)<|Rq (Zq x1.i) (dk l)<|∃x,DsP l lt bf a b c W x/\cl l.length x.i x1.i/\l=l/\Wq (x1.lt-bM l (T x1.i))=x.lt/\aw bf (W=W) (afu x1 l x<|[gU x1.a x1.b x1.c (aV l<|T x1.i)<|bM l<|T x1.i,fb x1.a x1.b x1.c (aV l<|T x1.i)<|bM l<|T x1.i,fc x1.a x1.b x1.c (aV l<|T x1.i)<|bM l<|T x1.i]=j7 x/\Jq fq/\afg x1 l x))<|tC fq (j7 x1) (lf x1.d)<|Rq (Zq x1.i) (dk l)<|∃y,DsP l lt bf a b c W y/\cl l.length y.i x1.i/\l=l/\Wq (x1.lt-bM l (T x1.i))=y.lt/\aw bf (W=W) (afu x1 l y<|fq=j7 y/\Jq fq/\afg x1 l y)))) (Dq (Wq (Wq (x1.th+x1.lt)-bf)>131072) (L6 x1 x1.c x1.b [x1.c] P (j7 x1=sB (cG l lt bf a b c W))<|19=D)<|3=gY x1.b [x1.c]/\tC (j7 x1) fq (3=gY x1.b [x1.c]) (x1.d=P/\j7 x1=sB (cG l lt bf a b c W)/\0=D)))
def aaE(l:q)(lt bf a b c W:Int):Prop:=alV l lt bf a b c W (cG l lt bf a b c W).e (cG l lt bf a b c W).d
def lF(s:M)(h n:Nat):Nat:=lT s.data.toList/2^h%2^n
def lU(s:M)(b:Int):Int:=if 1048576<s.size then 4 else if b<0\/8*(s.size)<b then 2 else 0
def kF(s:M)(b n:Int):Int:=if lU s b=0 then if n<0\/32<n then 2 else 0 else lU s b
def DV(s:M)(b n:Int):Int:=if kF s b n=0/\8*(s.size)<b+n then 5 else kF s b n
def FC(s:M)(b n:Int):Int:=if kF s b n=0 then(lF s b.toNat n.toNat)else 0
abbrev R2:Type:=M×Int
def R(r:R2)(n:Int):R2×Int×Int:=if DV r.1 r.2 n=0 then((r.1,r.2+n),((lF r.1 r.2.toNat n.toNat)),0)else((aJ,0),0,DV r.1 r.2 n)
def mo(r:R2):=if lU r.1 r.2=0 then((r.2+7)/8,0)else(0,lU r.1 r.2)
def atW:=Sp (M×Int) [.g [.s,.i]] λ(s,b)=>([E<|s.size<=9223372036854775807],aE<|B<|lU s b)
def aOr:=Sp (M×Int×Int) [.g [.s,.i],.i] λ(s,b,n)=>([E<|s.size<=9223372036854775807],aE<|B<|kF s b n)
def atV:=Sp (M×Int×Int) [.g [.s,.i],.i] λ(s,b,n)=>([E<|kF s b n=0],aE<|B (lF s b.toNat n.toNat))
def aOs:=Sp (M×Int×Int) [.g [.s,.i],.i] λ(s,b,n)=>([E<|s.size<=9223372036854775807],aE<|.tu [B<|FC s b n,B<|kF s b n])
def auK:=Sp (M×Int×Int) [.g [.s,.i],.i] λ(s,b,n)=>([E<|s.size<=9223372036854775807],aE<|.tu [.ag [.v<|.string (R (s,b) n).1.1,.v<|.int .i64 (R (s,b) n).1.2],.v<|.int .i64 (R (s,b) n).2.1,.v<|.int .i64 (R (s,b) n).2.2])
def auk:=Sp (M×Int) [.g [.s,.i]] λ(s,b)=>([E<|s.size<=9223372036854775807],aE<|.tu [.v<|.int .i64 (mo (s,b)).1,.v<|.int .i64 (mo (s,b)).2])
def oBt(s:M)(b n:Int)(k:Nat):bO:=dX [(0,.one<|bi Nat λi=>(i<=n.toNat,cond (ap k 0) [(2,U 1000),(5,B (lF s b.toNat i)),(8,B n),(9,cP i)] [(1,B n),(2,U 1000),(5,B (lF s b.toNat i)),(6,cP i)],[(1000,.cells 278 [aD s,B b])],n.toNat-i))]
def Z'(s:M)(b:Int):Prop:=
 Dq (Zq (kD s)>1048576) (4=lU s b)
<|Dq (b<0) (2=lU s b)<|Dq (b>Wq (8*Zq (kD s))) (2=lU s b)<|0=lU s b
def bE(h0 h1:Nat):Prop:=Wq (Zq h0+1)=Zq h1
def pI(h0:Int)(h1:IntKind):Int:=2^aB (Uq h0).toNat h1.bits
def ak(h0:M):Int:=Zq h0.size
def rY(h0:Nat)(h1:Int):Prop:=h0.le h1.toNat
def B9(h0:Int)(h1:M)(h x:Prop):Prop:=Rq (Wq<|h0.tdiv 8) (ak h1)<|(8:Int)≠0/\h/\x
def fU(h0:Int):Prop:=0<=Uq h0
def LC(h0:M)(h1:Nat)(h:Int):Int:=bits .and .u8 ((Zq<|Yq h0 h1).fdiv<|pI (h.tmod 8) .u8) 1
def LU(h0:M)(h1 h x:Nat):Prop:=fC (lF h0 h1 h)<|lF h0 h1 x
def v7(h0:Nat)(h1:Int)(h:Nat)(x:Prop):Prop:=rY h0 h1/\qh h1 h0 h/\x
def Z_(s:M)(b n:Int):Prop:=(∃h,rY h n/\aZ (lF s b.toNat h)/\n=n/\aZ h/\s=s/\b=b)/\(∀x1,rY x1 n->Dq (Zq x1<n) (Dq (Wq (b+Zq x1)<Wq (8*ak s)) ((8:Int)≠0/\B9 (Wq<|b+Zq x1) s (fU<|(Wq<|b+Zq x1).tmod 8) (fU (Zq x1)/\(∃x,v7 x n x1<|bits .or .i64 (Zq<|lF s b.toNat x1) (Wq<|Wq (LC s (b5<|(Wq<|b+Zq x1).tdiv 8)<|Wq<|b+Zq x1)*pI (Zq x1) .i64)=Zq (lF s b.toNat x)/\n=n/\bE x1 x/\s=s/\b=b)))<|∃y,v7 y n x1<|LU s b.toNat x1 y/\n=n/\bE x1 y/\s=s/\b=b) (LU s b.toNat x1 n.toNat))
def l6(h0:M)(h1:Nat):Int:=Wq<|Zq<|Yq h0 h1
def afK(s:M)(b n:Int):Prop:=(∃h,rY h n/\n=n/\aZ (lF s b.toNat h)/\aZ h/\s=s/\b=b)/\(∀x1,rY x1 n->Dq (Zq x1<n) (Dq (Wq (b+Zq x1)<Wq (8*ak s)) ((8:Int)≠0/\B9 (Wq<|b+Zq x1) s (fU<|(Wq<|b+Zq x1).tmod 8) (fU (Zq x1)/\(∃x,v7 x n x1<|n=n/\Wq (Zq (lF s b.toNat x1)+Wq (bits .and .i64 ((l6 s<|b5<|(Wq<|b+Zq x1).tdiv 8).fdiv<|pI ((Wq<|b+Zq x1).tmod 8) .i64) 1*pI (Zq x1) .i64))=Zq (lF s b.toNat x)/\bE x1 x/\s=s/\b=b)))<|∃y,v7 y n x1<|n=n/\LU s b.toNat x1 y/\bE x1 y/\s=s/\b=b) (LU s b.toNat x1 n.toNat))
def akC(s:M)(b n:Int):Prop:=
 kD s<=9223372036854775807/\
 Bq (lU s b==0) (Dq (n<0) (2=kF s b n)<|Dq (n>32) (2=kF s b n)<|lU s b=kF s b n) (lU s b=kF s b n)
def arW(s:M)(b n:Int)(D P:Prop):Prop:=fQ s/\Bq (lU s b==0) (Dq (n<0) P<|Dq (n>32) P D) D
def Z9(s:M)(b:Int):Prop:=
 kD s<=9223372036854775807/\
 Bq (lU s b !=0) (0=(mo (s,b)).fst/\lU s b=(mo (s,b)).snd)
 (8≠(0:Int)/\Wq (fi (Wq<|b+7) (8:Int))=(mo (s,b)).fst/\0=(mo (s,b)).snd)
def Lk(h0 h1:Int)(x:Bool)(y h:Prop)(z:Bool)(e:Prop):Prop:=Dq (h0>h1) (Bq x y h)<|Bq z e h
def Ll(h0 h1 z:Int)(e:Bool)(k h:Prop)(x:Bool)(y:Prop):Prop:=Bq (h0==0) (Lk h1 z e k h x y)<|Bq x y h
def LA(h0:R2×Int×Int)(h1:Prop):Prop:=aJ=h0.1.1/\0=h0.1.2/\0=h0.2.1/\h1
def akH(s:M)(b n D:Int)(P:R2×Int×Int):Prop:=fQ s/\Ll (kF s b n) n (Wq<|Wq (8*ak s)-b) ((5:Int) !=0) (LA P<|5=D) (kF s b n=0/\s=P.1.1/\Wq (b+n)=P.1.2/\Zq (lF s b.toNat n.toNat)=P.2.1/\0=D) (kF s b n !=0) (LA P<|kF s b n=D)
def akG(s:M)(b n:Int):Prop:=akH s b n (R (s,b) n).2.2<|R (s,b) n
def arY(s:M)(b n D:Int)(P:R2×Int×Int):Prop:=fQ s/\Ll (kF s b n) (Wq<|b+n) (Wq<|8*ak s) ((5:Int) !=0) (LA P<|5=D) (s=P.1.1/\Wq (b+n)=P.1.2/\FC s b n=P.2.1/\0=D) (kF s b n !=0) (LA P<|kF s b n=D)
def arX(s:M)(b n:Int):Prop:=arY s b n (R (s,b) n).2.2<|R (s,b) n
section
variable{s:M}{b n:Int}
def ad1(s:M)(h n):lF s h n<2^n:=aGJ _ _
def aLH{s:M}{b:Int}(h:lU s b=0):s.size<=1048576/\0<=b/\b<=8*(s.size):=by grind [lU]
def ZT(h:kF s b n=0):s.size<=1048576/\0<=b/\b<=8*(s.size)/\0<=n/\n<=32:=by grind [kF,lU]
def akF(h:s.size<=9223372036854775807):Z' s b:=by grind [Z',lU,wr]
def akD(h:s.size<=9223372036854775807):Z9 s b:=by grind [Z9,mo,lU,wr]
def aqK{i:Nat}(B:Nat):lF s B (i+1)=lF s B i+(s.data.toList.getD ((B+i)/8) 0).toNat/2^((B+i)%8)%2*2^i:=by
 unfold lF;rw[aGI,axB,<-Jk];congr 2;by_cases h:(B+i)/8<s.data.toList.length
 .rw[<-aF3 _ _ h,jR,kB h];rfl
 .rw[aF2 _ _ Y,jR,xk Y];show 0%2=0/_%2;rw[Nat.zero_div]
def aKb(b n:Nat)(y:n<=60)(hp:k<2^n)(h:b<=1):bits .or .i64 k (b*2^n)=k+b*2^n:=by have z:2^n<=2^60:=nF Y y;have x:b*2^n<=1*2^n:=ox _ h;have e:(b*2^n)=((b*2^n:Nat):Int):=aj;rw[e,acH _ _ Y Y,Nat.or_comm,AY,<-MI hp];lia
def aab:∀x:Fin 256,∀k:Fin 8,bits .and .u8 (kQ (x.val)<|2^min k.val (cZ .u8)) 1=(x.val/2^k.val%2:Nat)/\bits .and .i64 (kQ (x.val)<|2^min k.val (cZ .i64)) 1=(x.val/2^k.val%2:Nat):=by decide+kernel
def aSN(i:Nat)(x:k<=1)(hi:i<=32):Q .i64 k=k/\Q .i64 (k*2^min i (cZ .i64))=k*2^i:=by have z:2^i<=2^32:=nF Y hi;have h:k*2^i<=1*2^i:=ox _ x;grind [cZ,wr]
def akL(i:Nat)(h:k+i<=100000000):Q .i64 (k+i)=(k+i:Nat)/\Q .i64 (fi ((k+i:Nat):Int) 8)=((k+i)/8:Nat)/\Q .u64 (kf ((k+i:Nat):Int) 8)=((k+i)%8:Nat)/\Q .u64 i=i/\Q .i64 (i+1)=(i+1:Nat):=by grind [wr,fW]
def akE(h:kF s b n=0):Z_ s b n/\afK s b n:=by
 let⟨t,f,l,g,A⟩:=ZT h;obtain⟨B,rfl⟩:=pP f;obtain⟨N,rfl⟩:=pP g;have o:Q .i64 (8*(s.size))=8*s.size:=wr Y Y;have u:0=((lF s B 0):Int):=by simp[lF,Nat.mod_one]
 have e:∀i,i<=N->(8*s.size<=B+i->lF s B (i+1)=lF s B i):=λi _ D=>by
  rw[aqK,show(s.data.toList.getD ((B+i)/8) 0).toNat=0 by rw[jR,xk<|by show s.data.toList.length<=_;have:s.data.toList.length=s.size:=rfl;lia];rfl];simp
 unfold Z_ v7 LU bE qh LC pI fU B9 rY cl aZ fC ak b5 Rq Wq Uq Zq Yq;unfold afK pI v7 LU bE l6 qh fU B9 rY cl aZ fC ak b5 Rq Wq Uq Zq Yq;rw[toNat_cast,toNat_cast,o];refine⟨⟨⟨0,dx _,u,C⟩,λi (E:i<=N)=>?_⟩,⟨0,dx _,rfl,u,C⟩,λi (E:i<=N)=>?_⟩
 all_goals
  have p:=ad1 s B i;have r:=@aqK s i B;have k:=e i E;let⟨v,w,j,e4,a⟩:=akL B i Y;let⟨x,z⟩:=aab ⟨(s.data.toList.getD ((B+i)/8) 0).toNat,Ec _⟩ ⟨(B+i)%8,CC _ H⟩;dsimp only at x z;obtain⟨y,m⟩:∃y,(s.data.toList.getD ((B+i)/8) 0).toNat/2^((B+i)%8)%2=y:=⟨_,rfl⟩;rw[m]at x z r;let⟨g1,g2⟩:=aSN y i Y Y;rw[v,w,j,e4,a,toNat_cast,toNat_cast,toNat_cast]
 .rw[x,g1,g2,aKb _ _ i Y p Y]
  apply dq (λc=>dq (λd=>⟨H,Y,Y,H,Y,Y,i+1,by show i+1<=N;lia,by show N- (i+1)<N-i;lia,by rw[r];simp,C⟩) λd=>⟨i+1,by show i+1<=N;lia,by show N- (i+1)<N-i;lia,by rw[k Y],C⟩) λc=>by rw[show i=N by lia]
 .rw[show Q .i64 ((s.data.toList.getD ((B+i)/8) 0).toNat)=(s.data.toList.getD ((B+i)/8) 0).toNat from wr Y<|by have:=(s.data.toList.getD ((B+i)/8) 0).toNat_lt;lia,z,g2]
  refine dq (λc=>dq (λd=>⟨H,Y,Y,H,Y,Y,i+1,by show i+1<=N;lia,by show N- (i+1)<N-i;lia,rfl,?_,C⟩) λd=>⟨i+1,by show i+1<=N;lia,by show N- (i+1)<N-i;lia,rfl,by rw[k Y],C⟩) λc=>by rw[show i=N by lia]
  have C:2^(i+1)<=2^33:=nF Y Y;have q:=ad1 s B<|i+1;have:((lF s B i))+y*2^i=((lF s B (i+1)):Int):=by rw[r];simp
  rw[this,wr Y Y]
end
def azQ:=atW.gd m.nil Tryz.func271 λ⟨s,b⟩ ⟨h,_⟩=>⟨aK,J (p:=Z' s b)<|akF h⟩
def aLB:=atW.gd m.nil Tryz.func287 λ⟨s,b⟩ ⟨h,_⟩=>⟨aK,J (p:=Dq (Zq (kD s)>1048576) (4=lU s b)<|Dq (b<0) (2=lU s b)<|Dq (b>Wq (8*Zq (kD s))) (2=lU s b)<|0=lU s b)<|akF h⟩
def azP:=atV.gd m.nil Tryz.func304 λ⟨s,b,n⟩ ⟨h,_⟩=>⟨(oBt s b n 0),J<|(akE h).1⟩
def aLA:=atV.gd m.nil Tryz.func307 λ⟨s,b,n⟩ ⟨h,_⟩=>⟨(oBt s b n 1),J<|(akE h).2⟩
def M8:=m.cons azQ<| .cons aLB<| .cons azP<| .cons aLA<|m.nil
def azN:=aOr.gd M8 Tryz.func303 λ⟨s,b,n⟩ ⟨h,_⟩=>⟨aK,J (p:=akC s b n)<|by grind [akC,kF]⟩
def aLy:=aOs.gd M8 Tryz.func298 λ⟨s,b,n⟩ ⟨h,_⟩=>⟨aK,J (p:=arW s b n (bS (lU s b) (0=FC s b n) (lU s b=kF s b n) (kF s b n=0)<|Zq (lF s b.toNat n.toNat)=FC s b n/\0=kF s b n)<|Bq ((2:Int) !=0) (0=FC s b n/\2=kF s b n)<|kF s b n=0/\Zq (lF s b.toNat n.toNat)=FC s b n/\0=kF s b n)<|by unfold arW fQ bS Zq;unfold FC kF;(repeat' (first|apply dq (λ_=>?_) λ_=>?_|apply de (λ_=>?_) λ_=>?_|apply bV (λ_=>?_) λ_=>?_|apply bq (λ_=>?_) λ_=>?_|apply cq (λ_=>?_) λ_=>?_|apply fY ?_ ?_))<;>grind⟩
def azO:=auk.gd M8 Tryz.func220 λ⟨s,b⟩ ⟨h,_⟩=>⟨aK,J (p:=Z9 s b)<|akD h⟩
def aLz:=auk.gd M8 Tryz.func247 λ⟨s,b⟩ ⟨h,_⟩=>⟨aK,J (p:=kD s<=9223372036854775807/\Bq (lU s b !=0) (0=(mo (s,b)).fst/\lU s b=(mo (s,b)).snd) (8≠0/\Wq (fi (Wq<|b+7) (8:Int))=(mo (s,b)).fst/\0=(mo (s,b)).snd))<|akD h⟩
def Zf:=m.cons azN<| .cons aLy<| .cons azO<| .cons aLz<|M8
def azR:=auK.gd Zf Tryz.func293 λ⟨s,b,n⟩ ⟨h,_⟩=>⟨aK,J (p:=akG s b n)<|by have:=@ZT s b n;unfold akG akH fQ LA ak Ll Lk Wq Zq;unfold R DV;(repeat' (first|apply dq (λ_=>?_) λ_=>?_|apply de (λ_=>?_) λ_=>?_|apply bV (λ_=>?_) λ_=>?_|apply bq (λ_=>?_) λ_=>?_|apply cq (λ_=>?_) λ_=>?_|apply fY ?_ ?_))<;>grind [wr]⟩
def aLC:=auK.gd Zf Tryz.func285 λ⟨s,b,n⟩ ⟨h,_⟩=>⟨aK,J (p:=arX s b n)<|by have:=@ZT s b n;unfold arX arY fQ LA ak Ll Lk Wq Zq;unfold R DV FC;(repeat' (first|apply dq (λ_=>?_) λ_=>?_|apply de (λ_=>?_) λ_=>?_|apply bV (λ_=>?_) λ_=>?_|apply bq (λ_=>?_) λ_=>?_|apply cq (λ_=>?_) λ_=>?_|apply fY ?_ ?_))<;>grind [wr]⟩
def G7:=m.cons azR<| .cons aLC<|Zf
end Go.Proofs.YtegnkfbnmepmpaaGreatDoor
namespace Go.Proofs.YtegnkfbnmepmpaaGreatDoor
variable(k w:N)(x:Int)
def aS:Int:=cond (decide (x<=0)) (-1) (wD x.toNat)
def BF(i:Nat):Int:=cond (decide (x<=0)) (-1)<|min (i-1) (wD x.toNat)
def wU:Int:=k.tail.foldl min<|k.headD 0
def vw:=k==w
def pt:Int:=cond (decide (x<0)) 1 x
def ie:Int:=k.foldl (λs p=>s+pt p) 0
def Bn(h:Int)(xs:N):=decide (xs.length<1)||decide (256<xs.length)||xs.getD (xs.length-1) 0==0||xs.any (λx=>decide (x< -1))|| !(ie xs==2^h.toNat)
def cb(xs:N):Int:=cond (decide (x<5)||decide (12<x)) 31<|cond (Bn x xs) 23 0
def aM(left:Int):Int:=aS (left+1)+1
def rn(left:Int):Int:=2^(aM left).toNat-1- (left+1)
def aKm:N:=[4,3,2,2,2,2,2,2,2,2,2,2,2,1,1,1,2,2,2,2,2,2,2,2,2,3,2,1,1,1,1,1, -1, -1, -1, -1]
def aKo:N:=[1,1,1,1,1,1,2,2,2,1,1,1,1,1,1,1,1,1,1,1,1,1,1,1, -1, -1, -1, -1, -1]
def aKn:N:=[1,4,3,2,2,2,2,2,2,1,1,1,1,1,1,1,1,1,1,1,1,1,1,1,1,1,1,1,1,1,1,1,1,1,1,1,1,1,1,1,1,1,1,1,1,1, -1, -1, -1, -1, -1, -1, -1]
def oq:Int:=cond (x==0) 6<|cond (x==1) 5<|cond (x==2) 6 0
def nR:N:=cond (x==0) aKm<|cond (x==1) aKo<|cond (x==2) aKn []
def xU:Int:=cond (x==0) 0<|cond (x==1) 0<|cond (x==2) 0 11
def xF:N->N
 |c::v::r=>au c.toNat v++xF r
 |_=>[]
def BZ:N->Bool
 |c::v::r=>decide (1<=c)&&decide (c<=64)&&BZ r
 |_=>ab
end Go.Proofs.YtegnkfbnmepmpaaGreatDoor
namespace Go.Proofs.YtegnkfbnmepmpaaGreatDoor
open Go Go.RowKit
variable{k:N}{w:Int}{x:N}(y:N)(z:Int)
def auc:=Sp Int [.i] λn=>([E<|n<=9223372036854775807],aE<|B<|aS n)
def atT:=Sp Int [.i] λn=>([E<|n<=9223372036854775807],aE<|B<|aS n+1)
def aPi:=Sp (N) [.l] λl=>([E<|0<l.length,E<|l.length<=4294967296],aE<|B<|wU l)
def sEq:=Sp (N×N) [.l,.l] λ(a,b)=>([E<|a.length<=4294967296],aE<|fN<|vw a b)
def agp:Spec where
 ι:=Int×Int
 dec l H:=match l with
  | [.v<|.int .i64 n,.p l0 0 0]=>match H l0 with
    |some (.cells 3 [.v<|.int .i64 s])=>O ((n,s),[l0])
    |_=>ae
  |_=>ae
 args:=λ(n,s)=>[B n,U 0]
 hp:=λ(n,s)=>[(0,.cells 3 [B s])]
 pre:=λ(n,s)=>[E<|0<=n,E<|n<=1048576,E<|0<=s,E<|s<=1048576]
 out:=λ(n,s)=>.leaf (.tu []) [(0,.cells 3 [B<|min (s+n) 1048576])]
def aOm:agp.dn:=by
 intro l H n i x h;simp[agp]at h
 repeat' split at h
 all_goals first|(cases h;done)|(cases h;exact⟨C⟩)|(cases h;refine⟨rfl,?_⟩;simp[dK,iF,iN,gN, *];rfl)
def aPp:=Sp (Int×N) [.g [.i,.l]] λ(g,l)=>([E<|l.length<=4294967296],aE<|B<|min (ie l) 1048576)
def aPO:=Sp (N) [.l] λl=>([E<|l.length<=65536,E<|l.all (λx=>decide (x<=65536))=ab],aE<|B<|ie l)
def atX:=Sp (Int×N) [.g [.i,.l]] λ(g,l)=>([E<|l.length<=4294967296],aE<|B<|cb g l)
def agV:Spec where
 ι:=N×Int×Int
 own:=ab
 dec l H:=match l with
  | [.o l0,.v<|.int .i64 n,.v<|.int .i64 x]=>match H l0 with
    |some (.row 3<|.ints .i64 l)=>O ((l,n,x),[l0])
    |_=>ae
  |_=>ae
 args:=λ(l,n,x)=>[.o 0,B n,B x]
 hp:=λ(l,n,x)=>[(0,.row 3<|.ints .i64 l)]
 pre:=λ(l,n,x)=>[E<|l.length<=65536,E<|n<=65536]
 out:=λ(l,n,x)=>.leaf (.o 2000) [(2000,.row 3<|.ints .i64<|l++au n.toNat x)]
def aP_:agV.dn:=by
 intro l H n i x h;simp[agV]at h
 repeat' split at h
 all_goals first|(cases h;done)|(cases h;exact⟨C⟩)|(cases h;refine⟨rfl,?_⟩;simp[dK,iF,iN,gN, *];rfl)
def agW:Spec where
 ι:=Int×Int
 own:=ab
 dec l H:=match l with
  | [.v<|.slice ae 0 0,.v<|.int .i64 n,.v<|.int .i64 x]=>O ((n,x),[])
  |_=>ae
 args:=λ(n,x)=>[.v<|.slice ae 0 0,B n,B x]
 pre:=λ(n,x)=>[E<|n<=65536]
 out:=λ(n,x)=>.leaf (.o 2000) [(2000,.row 3<|.ints .i64<|au n.toNat x)]
def aP9:agW.dn:=λl H n i x h=>by simp[agW]at h;split at h<;>cases h;exact⟨rfl,rfl⟩
def aPR:=Sp Int [.i] λn=>([E<|0<=n,E<|n<=1073741824],aE<|.tu [B<|aM n,B<|rn n])
def one(x:dV):bO:=λk=>cond (ap k 0) (O<|.one x) ae
def aHI:dV:=bi Nat λi=>(i<=63,[(0,B z),(3,B<|BF z i),(5,cP i)],[],63-i)
def aIm:dV:=bi Nat λi=>((z<=0/\i=0)\/(0<z/\i<=wD z.toNat+1),[(0,B<|z/2^i),(3,B<|i-1)],[],63-i)
def aHS:dV:=bi Nat λi=>(1<=i/\i<=y.length,[(0,dm y),(3,B<|wU<|y.take i),(4,cP i)],[],y.length-i)
def oEq(t n:Nat)(l:lW)(a b:N):dV:=bi Nat λi=>(i<=a.length/\a.take i=b.take i,(0,dm a)::(1,dm b)::(t,cP i)::l,[],a.length-i)
def aH2(g:Int)(l:N):dV:=bi Nat λi=>(i<=l.length,[(3,U 1001),(4,.fn (.func 206) [] [U 1001]),(9,dm l),(10,B l.length),(11,cP i)],[(1001,.cells 3 [B<|min (ie<|l.take i) 1048576])],l.length-i)
def aIw:dV:=bi Nat λi=>(i<=y.length,[(0,dm y),(3,B<|ie<|y.take i),(4,cP i)],[],y.length-i)
def aH'(l:N):dV:={ι:=Nat,p:=λi=>i<=l.length/\∀x∈l.take i, -1<=x/\x<=2^z.toNat,tm:=λi=>[(1,U 1000),(3,cP i)],hp:=λi=>[(1000,.cells 44 [B z,dm l])],μ:=λi=>l.length-i}
def aqm(x:Int):dV:=bi Nat λi=>(i<=z.toNat,[(0,.o 2000),(1,B z),(2,B x),(7,cP i)],[(2000,.row 3<|.ints .i64<|y++au i x)],z.toNat-i)
def VW(h0:Int)(h1:Nat):Prop:=h0<=0/\h1=0\/0<h0/\h1<=h0.toNat.log2+1
def o(h0:N):Int:=Zq h0.length
def b_(h0:N)(h1:Nat):Int:=h0.getD (Zq h1).toNat 0
def gS(h0:N)(h1 h:Nat):Prop:=cl h0.length h1 h
def jc(h0:Nat)(h1:N):Prop:=h0<=h1.length
def w9(h0 h1:Int)(h:Prop)(x y:Int):Prop:=Dq (h0<h1) (Rq h0 h1 h)<|x=y
def iT(h0:Nat)(h1:N):Prop:=h0.le h1.length
def rl(h0:Nat)(h1:N)(h:Nat)(x y:Prop):Prop:=iT h0 h1/\gS h1 h0 h/\x/\y
def AL(h0:Nat)(h1:N)(h:Nat)(x y:Int):Prop:=rl h0 h1 h (h1=h1)<|x=y/\bE h h0
def akt:Prop:=
 z<=9223372036854775807/\Wq (aS z+1)=aS z+1
def aLx:Prop:=
 z<=9223372036854775807/\Wq (aS z+1)=aS z+1
def AI(h0:N):Int:=aB (ie h0) 1048576
def afb(h0:Nat)(h1:N)(x y:Int):Prop:=aF (AI<|aC h0 h1) (AI (aC h0 h1)<=1048576)<|∃h,rl h h1 h0 (h1=h1)<|aw x (bE h0 h)<|y=AI (aC h h1)
def lG(h0:N)(h1:Int)(h x:Prop):Prop:=h0=h0/\aw h1 h x
def tH(h0:N):Prop:=h0.length<=65536
def fG(h0:Int):Int:=jd (Uq h0) .i64
def VT(h0:Nat)(h1:N)(h x:Int):Prop:=Membership.mem (aC h0 h1) h-> -1<=h/\h<=2^x.toNat
def V7(h0:Int)(h1:N)(h x y:Int)(z:Prop):Prop:=Dq (h0<5) (31=cb h0 h1)<|Dq (h0>12) (31=cb h0 h1)<|Dq (o h1<1) (23=cb h0 h1)<|Dq (h>256) (23=x)<|Rq y h z
def o8(h0:Nat)(h1:N)(h x:Prop):Prop:=Rq (Zq h0) (o h1)<|h/\x
def cd(h0:N):Prop:=h0.length<=4294967296
def ade(h:w<=9223372036854775807):wD w.toNat<=62:=by
 by_cases x:w.toNat=0
 .rw[x];decide
 .have:=(Y5 x (k:=63)).2 Y
  lia
def div_pos_iff(h:0<w)(i:Nat):0<w/2^i↔i<=wD w.toNat:=by
 rw[Nat.le_log2 Y];have x:0<w/2^i↔1*2^i<=w:=by
  rw[<-Int.le_ediv_iff_mul_le (jJ i)];lia
 rw[x,ad4];lia
def apU(h:y≠[]):wU (y++ [z])=min (wU y) z:=by
 cases y with
 |nil=>exact absurd rfl h
 |cons x r=>simp[wU,Rl]
theorem al'{a b:N}(h:a.length=b.length){i:Nat}(hi:i<a.length)(x:a.getD i 0≠b.getD i 0):vw a b=ah:=by
 unfold vw;rw[wo];rintro rfl;exact x rfl
theorem av'{a b:N}{i:Nat}(x:i<a.length)(y:i<b.length)(h:a.take i=b.take i)(z:a.getD i 0=b.getD i 0):a.take (i+1)=b.take (i+1):=by
 rw[take_succ a 0 x,take_succ b 0 y,h,z]
theorem amb{a b:N}(h:a.length=b.length){i:Nat}(hi:a.length<=i)(x:a.take i=b.take i):vw a b=ab:=by
 rw[nE hi,nE Y]at x;unfold vw;rw[x];simp
def ama(h:((k.length) !=(x.length:Int))=ab):vw k x=ah:=by unfold vw;rw[wo];rintro rfl;simp at h
def FD:ie (y++ [z])=ie y+pt z:=by simp[ie,Rl]
def UW:0<=pt z:=by
 unfold pt;by_cases h:z<0
 .rw[jS h];simp
 .rw[iW h];simp[iw];lia
def XI{P:N->Prop}(h0:P [])(h1:∀l z,P l->P (l++ [z]))(l:N):P l:=by
 have:P l.reverse.reverse:=by
  induction l.reverse with
  |nil=>exact h0
  |cons x r h=>rw[List.reverse_cons];exact h1 _ _ h
 rwa[List.reverse_reverse]at this
def PI:0<=ie y:=by
 induction y using XI with
 |h0=>simp[ie]
 |h1 y z h=>rw[FD];have:=UW z;lia
def PH(b:N):ie (y++b)=ie y+ie b:=by
 induction b using XI with
 |h0=>simp[ie]
 |h1 b z h=>rw[<-qQ,FD,h,FD];lia
def aKT(i:Nat):ie (y.take i)<=ie y:=by have h:=PH (y.take i)<|y.drop i;rw[Ra]at h;have:=PI<|y.drop i;lia
def aKQ(m:1<=z)(h:∀x∈y,x<=z):ie y<=z*y.length:=by
 induction y using XI with
 |h0=>simp[ie]
 |h1 y l r=>
  have u:pt l<=z:=by
   have:=h l aj;unfold pt;by_cases h:l<0
   .rw[jS h];simpa using m
   .rw[iW h];simpa using this
  have:=r λx k=>h x (by simp[k]);rw[FD,gn];simp[Jb,D_];have e:z*((y.length+(0+1):Nat))=z*y.length+z:=by
   rw[Int.natCast_add,Int.mul_add];simp
  lia
def ad8(h:decide (w<0)=ab):pt w=1:=by unfold pt;rw[h];rfl
def UX(h:decide (w<0)=ah):pt w=w:=by unfold pt;rw[h];rfl
def aku(h:z<=9223372036854775807):akt z:=by have:=ade h;refine⟨h,wr ?_ ?_⟩<;>(unfold aS;cases decide (z<=0)<;>simp[bo,iw]<;>lia)
def aqV(h:w∈k):pt w<=ie k:=by
 obtain⟨a,b,rfl⟩:=List.append_of_mem h;have y:=PH a<|w::b;have z:=PH [w] b;have l:=PI a;have r:=PI b;have u:ie [w]=pt w:=by simp[ie]
 have e:w::b= [w]++b:=rfl;rw[e]at y|-;lia
def SG(h:(decide (w<5)||decide (12<w))=ab):cb w x=31:=by unfold cb;rw[h];rfl
def alN(h1:decide (w<5)=ah)(h:decide (12<w)=ah):cb w x=cond (Bn w x) 23 0:=by unfold cb;rw[h1,h];rfl
theorem SF(g:Int)(l:N):Bn g l=ab↔l.length<1\/256<l.length\/l.getD (l.length-1) 0=0\/(∃x∈l,x< -1)\/ie l≠2^g.toNat:=by
 unfold Bn;simp only[GK,dJ,wx,List.any_eq_true,pR,wo,ne_eq];constructor
 ·rintro((((h|h)|h)|h)|h)
  ·exact .inl h
  ·exact .inr (.inl h)
  ·exact .inr (.inr (.inl h))
  ·exact .inr (.inr (.inr (.inl h)))
  ·exact .inr (.inr (.inr (.inr h)))
 ·rintro(h|h|h|h|h)
  ·exact .inl (.inl (.inl (.inl h)))
  ·exact .inl (.inl (.inl (.inr h)))
  ·exact .inl (.inl (.inr h))
  ·exact .inl (.inr h)
  ·exact .inr h
def z8(h1:decide (w<5)=ah)(y:decide (12<w)=ah)(h:x.length<1\/256<x.length\/x.getD (x.length-1) 0=0\/(∃g∈x,g< -1)\/ie x≠2^w.toNat):23=cb w x:=by rw[alN h1 y,(SF w x).2 h];rfl
def anc(h1:decide (w<5)=ah)(y:decide (12<w)=ah)(h:¬(x.length<1\/256<x.length\/x.getD (x.length-1) 0=0\/(∃g∈x,g< -1)\/ie x≠2^w.toNat)):0=cb w x:=by
 have:Bn w x=ah:=by
  cases z:Bn w x
  .rfl
  .exact absurd ((SF w x).1 z) h
 rw[alN h1 y,this];rfl
def apT(h:y≠[])(c:Int):wU y<c↔∃x∈y,x<c:=by
 induction y using XI with
 |h0=>exact absurd rfl h
 |h1 y z u=>
  by_cases e:y= []
  .subst e;simp[wU]
  .rw[apU y z e]
   have:=u e;constructor
   .intro h1
    by_cases r:z<c
    .exact⟨z,aj,r⟩
    .obtain⟨x,l,k⟩:=this.1 Y
     exact⟨x,by simp[l],k⟩
   .rintro⟨x,l,k⟩
    simp[jv,rD]at l;rcases l with l|rfl
    .have:=this.2 ⟨x,l,k⟩
     lia
    .omega
theorem Ie{g:Int}(h:g<=12):(2:Int)^g.toNat<=4096:=by
 have:=nQ (show g.toNat<=12 by omega);omega
def aEm:=auc.gd G7 Tryz.func171 λ(n:Int) ⟨k,_⟩=>⟨(one<|aHI n),J (p:=(∃e,e.le 63/\n=n/\fH=BF n e/\aZ e)/\(∀x1,x1.le 63->Dq (Zq x1<63) (0<=Zq x1/\Dq (n.fdiv (o9 (Zq x1) .i64)>0) (∃(x:Nat),x.le 63/\fj 63 x<fj 63 x1/\n=n/\Zq x1=BF n x/\bE x1 x) (∃(y:Nat),y.le 63/\fj 63 y<fj 63 x1/\n=n/\BF n x1=BF n y/\bE x1 y)) (BF n x1=aS n)))<|by
 unfold o9 bE fH aZ Dq Wq Zq;have v:=ade k;refine⟨⟨0,by rw[gG];omega,rfl,by unfold BF;cases decide (n<=0)<;>simp<;>omega,rfl⟩,λi a=>⟨λu=>?_,λr=>?_⟩⟩
 .simp only[dJ]at u
  rw[gG]at a;rw[Et,toNat_cast,wy Y,N4<|by have:=jJ i;omega];refine⟨Y,λj=>⟨i+1,by rw[gG];omega,by show 63- (i+1)<63-i;omega,by trivial,?_,by rw[wr Y Y];simp⟩,λj=>⟨i+1,by rw[gG];omega,by show 63- (i+1)<63-i;omega,by trivial,?_,by rw[wr Y Y];simp⟩⟩
  .simp only[kC,dJ]at j
   have z:0<n:=by
    rcases Int.lt_or_le 0 n with h|h
    .exact h
    .have:=axE h<|jJ i
     omega
   have:=(div_pos_iff z i).1 j;unfold BF;rw[iW Y];simp only[iw];omega
  .simp only[kC,dH]at j
   unfold BF;by_cases z:0<n
   .have:¬i<=wD n.toNat:=λh=>j<|(div_pos_iff z i).2 h
    rw[iW Y];simp only[iw];omega
   .rw[jS Y]
    rfl
 .simp only[dH]at r
  rw[gG]at a;unfold BF aS;cases decide (n<=0)
  .simp only[iw];omega
  .rfl⟩
def aMy:=auc.gd G7 Tryz.func194 λ(n:Int) ⟨e,_⟩=>⟨(one<|aIm n),J (p:=(∃z,VW n z/\n=n/2^z/\fH=Zq z-1)/\(∀x1,VW n x1->Dq (n/2^x1>0) ((2:Int)≠0/\(∃y,VW n y/\fj 63 y<fj 63 x1/\Wq ((n/2^x1).tdiv 2)=n/2^y/\ay (Zq x1-1)=Zq y-1)) (Zq x1-1=aS n)))<|by
 unfold VW fH ay Dq Wq Zq;have u:=ade e;refine⟨⟨0,?_,aj,rfl⟩,λi j=>⟨λv=>?_,λv=>?_⟩⟩
 .by_cases h:n<=0
  .exact .inl ⟨h,rfl⟩
  .exact .inr ⟨Y,Y⟩
 .simp only[kC,dJ]at v
  have x:0<n:=by
   rcases Int.lt_or_le 0 n with h|h
   .exact h
   .have:=axE h<|jJ i
    omega
  have r:=(div_pos_iff x i).1 v;have k:=GP (2^i)<|wA x;refine⟨Y,i+1,.inr ⟨x,Y⟩,?_,?_,?_⟩
  .show 63- (i+1)<63-i
   omega
  .rw[XX Y,MW,<-Rm (wA<|jJ i)]
   exact wr Y Y
  .rw[wr Y Y];simp
 .simp only[kC,dH]at v
  unfold aS;by_cases x:0<n
  .have:¬i<=wD n.toNat:=λh=>v<|(div_pos_iff x i).2 h
   rw[iW Y];simp only[iw];omega
  .rw[jS Y]
   simp only[bo];omega⟩
def ay_:=agp.gE aOm G7 Tryz.func206 λ⟨n,s⟩ ⟨h,x,y,z,_⟩=>⟨aK,J (p:=aB (Wq<|s+n) 1048576=aB (s+n) 1048576)<|by unfold Wq;rw[wr Y Y]⟩
def aGG:=aPi.gd G7 Tryz.func152 λ(l:N) ⟨e,j,_⟩=>⟨(one<|aHS l),J (p:=Dq (o l<1) False<|Rq 0 (o l)<|(∃z,(1<=z/\jc z l)/\l=l/\l.getD bY 0=wU (aC z l)/\1=Zq z)/\(∀x1,1<=x1/\jc x1 l->w9 (Zq x1) (o l) (∃y,(1<=y/\jc y l)/\gS l y x1/\l=l/\aB (wU<|aC x1 l) (b_ l x1)=wU (aC y l)/\bE x1 y) (wU<|aC x1 l) (wU l)))<|by
 unfold o bE bY w9 jc gS cl b_ Dq Rq Wq Zq;refine⟨λh=>by simp only[dJ]at h;omega,λh=>⟨Y,Y,⟨1,⟨Y,Y⟩,rfl,?_,rfl⟩,λi n=>⟨λu=>?_,λk=>?_⟩⟩⟩
 .cases l with
  |nil=>simp at e
  |cons x r=>simp[wU]
 .simp only[dJ]at u
  have v:i<l.length:=Y;refine⟨Y,Y,i+1,⟨Y,Y⟩,by show l.length- (i+1)<l.length-i;omega,by trivial,?_,by rw[wr Y Y];simp⟩;rw[take_succ l 0 v,toNat_cast,apU];intro w;have:=dR cY w;simp only[mT,D_]at this;omega
 .simp only[dH]at k
  rw[nE Y]⟩
def aBA:=sEq.gd G7 Tryz.func151 λ⟨a,b⟩ ⟨j,_⟩=>⟨(one<|oEq 13 12 [(12,.v<|.int .i64 a.length)] a b),J (p:=Bq (o a !=o b) (ah=vw a b)<|(∃y,(jc y a/\aC y a=aC y b)/\a=a/\b=b/\aZ y/\o a=o a)/\(∀x1,jc x1 a/\aC x1 a=aC x1 b->Dq (Zq x1<o a) (Rq (Zq x1) (o a)<|Rq (Zq x1) (o b)<|Bq (b_ a x1 !=b_ b x1) (ah=vw a b)<|∃x,(jc x a/\aC x a=aC x b)/\gS a x x1/\a=a/\b=b/\bE x1 x/\o a=o a) (ab=vw a b)))<|by
 unfold o bE aZ jc gS cl b_ Dq Bq Rq Wq Zq;refine⟨λh=>(ama h).symm,λh=>?_⟩;have z:a.length=b.length:=by have e:=h;simp at e;omega
 refine⟨⟨0,⟨Y,rfl⟩,rfl,rfl,rfl,rfl⟩,λi n=>⟨λu=>?_,λr=>?_⟩⟩
 .simp only[dJ]at u
  simp only[toNat_cast];refine⟨Y,Y,Y,Y,λw=>?_,λk=>?_⟩
  .exact(al' z (i:=i) Y<|by simpa using w).symm
  .exact⟨i+1,⟨Y,av' Y Y n.2<|by simpa using k⟩,by show a.length- (i+1)<a.length-i;omega,by trivial,by trivial,by rw[wr Y Y];simp,by trivial⟩
 .simp only[dH]at r
  exact(amb z Y n.2).symm⟩
def aM':=aPO.gd G7 Tryz.func132 λ(l:N) ⟨b,k,_⟩=>⟨(one<|aIw l),J (p:=(∃y,iT y l/\l=l/\0=ie (aC y l)/\aZ y)/\(∀x1,iT x1 l->w9 (Zq x1) (o l) (Dq (b_ l x1<0) (∃z,AL z l x1 (ay<|ie<|aC x1 l)<|ie<|aC z l)<|Rq (Zq x1) (o l)<|∃e,AL e l x1 (Wq<|ie (aC x1 l)+b_ l x1)<|ie<|aC e l) (ie<|aC x1 l) (ie l)))<|by
 unfold o AL bE rl w9 aZ ay gS cl iT b_ Dq Rq Wq Zq;have c:=aKQ l 65536 Y (λx w=>by simpa using List.all_eq_true.1 k x w);refine⟨⟨0,by rw[gG];omega,rfl,rfl,rfl⟩,λi f=>⟨λu=>?_,λr=>?_⟩⟩
 .simp only[dJ]at u
  rw[gG]at f;simp only[toNat_cast];have v:i<l.length:=Y;have d:ie (l.take<|i+1)=ie (l.take i)+pt (l.getD i 0):=by rw[take_succ l 0 v,FD]
  have j:=aKT l<|i+1;have n:=PI<|l.take i;have a:=UW<|l.getD i 0;refine⟨Y,Y,λh=>?_,λh=>⟨Y,Y,?_⟩⟩
  .have:=ad8 h
   exact⟨i+1,by rw[gG];omega,by show l.length- (i+1)<l.length-i;omega,by trivial,by rw[wr Y Y];omega,by rw[wr Y Y];simp⟩
  .have:=UX h
   exact⟨i+1,by rw[gG];omega,by show l.length- (i+1)<l.length-i;omega,by trivial,by rw[wr Y Y];omega,by rw[wr Y Y];simp⟩
 .simp only[dH]at r
  rw[nE Y]⟩
def G6:=m.cons aEm<| .cons aMy<| .cons ay_<| .cons aGG<| .cons aBA<| .cons aM'<|G7
def azH:=atT.gd G6 Tryz.func264 λ(n:Int) ⟨h,_⟩=>⟨aK,J<|aku n h⟩
def aLw:=atT.gd G6 Tryz.func297 λ(n:Int) ⟨h,_⟩=>⟨aK,J (p:=aLx n)<|aku n h⟩
def aKv:=aPp.gd G6 Tryz.func153 λ⟨g,l⟩ ⟨h,_⟩=>⟨(one<|aH2 g l),J (p:=(∃y,iT y l/\lG l (o l) (aZ y) (0=AI (aC y l)))/\(∀x1,iT x1 l->w9 (Zq x1) (o l) (Dq (b_ l x1<0) ((0:Int)<=1/\(1:Int)<=1048576/\afb x1 l (o l) (aB (AI (aC x1 l)+1) 1048576))<|aF (aB (b_ l x1) 1048576) (aB (b_ l x1) 1048576<=1048576)<|afb x1 l (o l)<|aB (AI (aC x1 l)+aB (b_ l x1) 1048576) 1048576) (AI<|aC x1 l) (AI l)))<|by
 unfold o lG afb aw aF bE rl w9 AI aZ gS cl iT b_ Dq Rq Wq Zq;refine⟨⟨0,by rw[gG];omega,rfl,rfl,rfl,rfl⟩,λi j=>⟨λe=>?_,λz=>?_⟩⟩
 .simp only[dJ]at e
  rw[gG]at j;simp only[toNat_cast];have k:i<l.length:=Y;have v:ie (l.take<|i+1)=ie (l.take i)+pt (l.getD i 0):=by rw[take_succ l 0 k,FD]
  have r:=PI<|l.take i;have u:=UW<|l.getD i 0;refine⟨Y,Y,λx=>?_,λx=>?_⟩
  .have:=ad8 x
   exact⟨Y,Y,Y,Y,i+1,by rw[gG];omega,by show l.length- (i+1)<l.length-i;omega,by trivial,by trivial,by rw[wr Y Y];simp,Y⟩
  .have:=UX x
   exact⟨Y,Y,Y,Y,i+1,by rw[gG];omega,by show l.length- (i+1)<l.length-i;omega,by trivial,by trivial,by rw[wr Y Y];simp,Y⟩
 .simp only[dH]at z
  rw[nE Y]⟩
def aLG:=atX.gd G6 Tryz.func89 λ⟨g,l⟩ ⟨_,_⟩=>⟨(one<|aH' g l),J (p:=V7 g l (o l) (cb g l) (bF<|o l)<|Bq (l.getD (b5<|o l-1) 0==0) (23=cb g l)<|(∃b,(jc b l/\(∀x1,VT b l x1 g))/\aZ b/\g=g/\l=l)/\(∀k,jc k l/\(∀C,VT k l C g)->kX (Zq k) (o l) (Dq (b_ l k<fH) (23=cb g l)<|o8 k l (fU g)<|Dq (b_ l k>fG g) (23=cb g l)<|∃u,(jc u l/\(∀D,VT u l D g))/\gS l u k/\bE k u/\g=g/\l=l) (tH l) (l.all (λ x=>decide (x<=65536))=ab/\fU g/\Bq (ie l !=fG g) (23=cb g l) (0=cb g l))))<|by
 unfold bE o8 V7 o VT fH fU bF fG jd aZ tH jc gS cl b5 kX b_ Dq Bq Rq Wq Uq Zq;refine⟨λh=>(SG<|by rw[h];rfl).symm,λe=>⟨λh=>(SG<|by simp only[kC]at h;rw[h,uY]).symm,λz=>⟨λh=>z8 e z<|.inl<|by simp only[dJ]at h;omega,λf=>⟨λh=>z8 e z<|.inr<|.inl<|by simp at h;omega,λm=>?_⟩⟩⟩⟩;simp only[dH,kC]at f m;have w:=e;have v:=z;simp only[dH,kC]at w v;have B:Q bW ((l.length)-1)=(l.length)-1:=wr Y Y;have A:((l.length:Int)-1).toNat=l.length-1:=Y;have q:Q fh g=g:=fW Y Y;simp only[B,A,q,sS (show 0<=g by omega)<|show g<=62 by omega,toNat_cast];have G:=Ie (show g<=12 by omega);have F:=jJ g.toNat;refine⟨Y,Y,λh=>z8 e z<|.inr<|.inr<|.inl<|by simpa using h,λd=>⟨⟨0,⟨Y,λx y=>by simp at y⟩,by trivial,by trivial,by trivial⟩,λi H=>⟨λt=>?_,λs=>?_⟩⟩⟩
 .simp only[dJ]at t
  have n:i<l.length:=Y;refine⟨Y,Y,λa=>z8 e z<|.inr<|.inr<|.inr<|.inl ⟨_,yW n,by simpa using a⟩,λa=>⟨Y,Y,Y,λr=>z8 e z<|.inr<|.inr<|.inr<|.inr ?_,λr=>?_⟩⟩
  .simp only[kC,dJ]at r
   have:=aqV<|yW n;have I:pt (l.getD i 0)=l.getD i 0:=UX<|iW Y;omega
  .simp only[kC,dH]at a r
   refine⟨i+1,⟨Y,λx y=>?_⟩,by show l.length- (i+1)<l.length-i;omega,by rw[wr Y Y];simp,by trivial,by trivial⟩;rw[take_succ l 0 n,jv,rD]at y;rcases y with y|rfl
   .exact H.2 x y
   .omega
 .simp only[dH]at s
  have j:=H.2;rw[nE Y]at j;refine⟨Y,List.all_eq_true.2 λx y=>by have:=j x y;simp only[dJ];omega,Y,λr=>z8 e z<|.inr<|.inr<|.inr<|.inr<|by simpa using r,λr=>anc e z ?_⟩;rintro(c|c|c|⟨x,y,E⟩|c)
  .omega
  .omega
  .rw[c]at d;simp at d
  .have:=j x y;omega
  .exact c<|by simpa using r⟩
def Zb:=m.cons azH<| .cons aLw<| .cons aKv<| .cons aLG<|G6
def check_sound:=atX.gd Zb Tryz.func103 λ⟨g,l⟩ ⟨u,_⟩=>⟨aK,J (p:=V7 g l (o l) (cb g l) (bF<|o l)<|Bq (l.getD (b5<|o l-1) 0==0) (23=cb g l)<|0<l.length/\cd l/\Dq (wU l<fH) (23=cb g l) (cd l/\0<=g/\Bq (AI l !=jd g .i64) (23=cb g l) (0=cb g l)))<|by
 unfold cd jd V7 o fH AI bF b5 Dq Bq Rq Wq Zq;refine⟨λh=>(SG<|by rw[h];rfl).symm,λy=>⟨λh=>(SG<|by simp only[kC]at h;rw[h,uY]).symm,λx=>⟨λh=>z8 y x<|.inl<|by simp only[dJ]at h;omega,λv=>⟨λh=>z8 y x<|.inr<|.inl<|by simp at h;omega,λj=>?_⟩⟩⟩⟩;simp only[dH,kC]at v j;have e:=y;have z:=x;simp only[dH,kC]at e z;have a:Q bW ((l.length)-1)=(l.length)-1:=wr Y Y;have n:((l.length:Int)-1).toNat=l.length-1:=Y;simp only[a,n,sS (show 0<=g by omega)<|show g<=62 by omega,toNat_cast];have f:=Ie (show g<=12 by omega);have d:=jJ g.toNat;have i:l≠[]:=by rintro rfl;simp at v
 refine⟨Y,Y,λh=>z8 y x<|.inr<|.inr<|.inl<|by simpa using h,λw=>⟨Y,u,λr=>z8 y x<|.inr<|.inr<|.inr<|.inl<|(apT l i _).1<|by simpa using r,λr=>⟨u,Y,λk=>z8 y x<|.inr<|.inr<|.inr<|.inr ?_,λk=>anc y x ?_⟩⟩⟩
 .have:min (ie l) 1048576≠2^g.toNat:=by simpa using k
  omega
 .have b:min (ie l) 1048576=2^g.toNat:=by simpa using k
  rintro(c|c|c|c|c)
  .omega
  .omega
  .rw[c]at w;simp at w
  .have:=(apT l i _).2 c
   simp only[dH]at r;omega
  .omega⟩
def aQN:=aPR.gd Zb Tryz.func268 λ(n:Int) ⟨z,r,_⟩=>⟨aK,J (p:=ay n<=9223372036854775807/\aF (aS (ay n)+1) (aS (ay n)+1=aM n) (Wq (bF (jd (aS (ay n)+1) .i64)-ay n)=rn n))<|by
 unfold jd aF bF ay Wq;have y:Q bW (n+1)=n+1:=wr Y Y;simp only[y];have x:(n+1).toNat≠0:=Y;have v:=(Y5 x (k:=31)).2 Y;have h:aS (n+1)=wD (n+1).toNat:=by unfold aS;rw[iW Y];rfl
 have u:aM n=(wD (n+1).toNat)+1:=by unfold aM;rw[h]
 refine⟨Y,Y,rfl,?_⟩;rw[sS Y Y];unfold rn;have e:(aS (n+1)+1).toNat=(aM n).toNat:=rfl;rw[e];have i:=nQ (show(aM n).toNat<=31 by omega);have w:=jJ (aM n).toNat;rw[wr (n:=2^(aM n).toNat-1) Y Y,wr Y Y]⟩
def ayu:=m.cons check_sound<| .cons aQN<|Zb
end Go.Proofs.YtegnkfbnmepmpaaGreatDoor
namespace Go.Proofs.YtegnkfbnmepmpaaGreatDoor
variable(k:R2)(w:Int)(x:M)(y z:Int)
def Ag(left v:Int):Int:=cond (decide (2^(aM left-1).toNat<=v)) (v-rn left) v
def dW(left:Int):=
 cond ((R k<|aM left-1).2.2==0)
  (cond (decide ((R k<|aM left-1).2.1<rn left)) (R k<|aM left-1)
   <|cond ((R (R k<|aM left-1).1 1).2.2==0)
      ((R (R k<|aM left-1).1 1).1,Ag left ((R k<|aM left-1).2.1+(R (R k<|aM left-1).1 1).2.1*2^(aM left-1).toNat),0)
      (k,0,(R (R k<|aM left-1).1 1).2.2))
  (k,0,(R k<|aM left-1).2.2)
def kg(h:Int):Nat->R2->N->R2×N×Int
 |0,r,out=>(r,out,23)
 |f+1,r,out=>cond ((R r 2).2.2==0)
   (cond (decide (h<out.length+(R r 2).2.1)) (r,out,23)
    <|cond ((R r 2).2.1==3) (kg h f (R r 2).1<|out++au (R r 2).2.1.toNat 0) ((R r 2).1,out++au (R r 2).2.1.toNat 0,0))
   (r,out,(R r 2).2.2)
def gh(h:Int):Nat->R2->Int->N->R2×N×Int
 |0,r,_,out=>(r,out,23)
 |f+1,r,left,out=>cond (decide (0<left))
   (cond ((dW r left).2.2==0)
     (cond ((out.length)==h) (r,out,23)
      <|cond ((dW r left).2.1==1)
         (cond ((kg h (h.toNat+1) (dW r left).1<|out++ [(dW r left).2.1-1]).2.2==0)
           (gh h f (kg h (h.toNat+1) (dW r left).1<|out++ [(dW r left).2.1-1]).1 left (kg h (h.toNat+1) (dW r left).1<|out++ [(dW r left).2.1-1]).2.1)
          <|kg h (h.toNat+1) (dW r left).1<|out++ [(dW r left).2.1-1])
        <|gh h f (dW r left).1 (left-max ((dW r left).2.1-1) 1)<|out++ [(dW r left).2.1-1])
     (r,out,(dW r left).2.2))
   (r,out,0)
def yP(f:Nat)(left:Int)(z:R2×N×Int):=cond (z.2.2==0) (gh w f z.1 left z.2.1) z
def ix:Int:=(R k 4).2.1+5
def ij:R2×N×Int:=
 cond ((R k 4).2.2==0) (cond (decide (w<ix k)) (k,[],31)<|gh y (y.toNat+1) (R k 4).1 (2^(ix k).toNat) []) (k,[],(R k 4).2.2)
def sN(s:Int):=decide (y<0)||decide ((x.size)<y)||decide (z<5)||decide (12<z)||decide (s<1)||decide (256<s)
def ga:M:=x.extract y.toNat (min (x.size:Int)<|y+z).toNat
def readF(s:Int):(Int×N)×Int×Int×Int:=
 cond (sN x y z s) ((0,[]),0,2,0)
 <|cond ((ij (ga x y w,0) z s).2.2==0) ((ix (ga x y w,0),(ij (ga x y w,0) z s).2.1),y+(mo (ij (ga x y w,0) z s).1).1,0,0)
    ((0,[]),0,cond ((ij (ga x y w,0) z s).2.2==31) 31 23,y)
end Go.Proofs.YtegnkfbnmepmpaaGreatDoor
namespace Go.Proofs.YtegnkfbnmepmpaaGreatDoor
open Go.RowKit
variable(k:Nat)
def ah7(y:k<=65536):bits .and .u64 k 4294967295=k:=by
 have h:∀a:Nat,a<=4294967295->(lk 64 a).toNat=a:=λa x=>by
  rw[BitVec.ofInt_natCast,BitVec.toNat_ofNat];exact MK Y
 show IntKind.u64.wrap ((lk 64 k&&&lk 64 ((4294967295:Nat))).toNat)=_;rw[Yx,h k Y,h 4294967295 Y,show 4294967295=2^32-1 from rfl,aiS,Rn];lia
set_option maxHeartbeats 1000000 in
theorem aGL(c:Nat)(hc:c<=65536)(w:World):
  Calls ar 74 #[.int .u64 1,.int .u64 c] w fun e w'=>e=.returned (.tuple #[.int .u64 0,.int .u64 c])/\w=w':=by
 have h1:bits .and .u64 1 4294967295=1:=ah7 1 Y;have h0:bits .and .u64 0 4294967295=0:=ah7 0 Y;have hw:IntKind.u64.wrap (c:Int)=c:=YJ _ ⟨Y,Y⟩;have O5:IntKind.u64.wrap 0=0:=YJ _ ⟨Y,Y⟩;have h2:=ah7 c hc;have h3:(c:Int)/4294967296=0:=Y
 go_enter Tryz.func74,Tryz.ntmps74
 go_wp2
 go_ret2
 exact⟨rfl,rfl⟩
def M5:=madeCells #[.int .i64 0] k
def aGH(h:k<=1099511627776)(w:World):(Instr.makeSlice 42 (.int .i64 k)<|.int .i64 k).run ar w=.ok (.slice (O ⟨w.heap.size,0,ae⟩) k k) (w.alloc<|.cells (M5 k) 3):=
 run_make_row' 42 3 (.int .i64 0) 8 YP ax rfl _ _ k Y Y w
def ay1(w:World)(v:Int)(c:Nat)(x:Value)(wr:World):Prop:=
 ∃(k:Nat) (h:bG),1<=k/\k<=c/\x=.int .i64 k/\h.length=c-k/\wr.heap[w.heap.size]? =O (.cells (au k (cg .i64 v)++h).toArray 3 (0,0))/\Below w.heap.size w wr
def ak7:(Tryz.prog.info? 3).map (·.size)=O 1:=ax
def aAz(w:World)(g k c)(v:Int)(h:bG)(q:k<c)(s:h.length=c-k)
  (y:w.heap[g]? =O (.cells (au k (cg .i64 v)++h).toArray 3 (0,0))):
  ∃i,(Builtin.copy_ #[42,42] 3 #[.slice (O ⟨g,k,ae⟩) (c-k) (c-k),.slice (O ⟨g,0,ae⟩) k c]).run ar w=.ok (.int .i64 ((min k (c-k):Nat))) i/\
   i.heap[g]? =O (.cells (au (k+min k (c-k)) (cg .i64 v)++h.drop (min k<|c-k)).toArray 3 (0,0))/\∀B r,Below B r w->B<=g->Below B r i:=by
 have hB:kE w g 3 (au k (cg .i64 v)++h).toArray:=y;have o:∀j u,(au (min k<|c-k)<|cg .i64 v)[j]? =O u->w.cell? ((⟨g,0,ae⟩:Addr).add j)=O u:=by
  intro j u x;rw[yy]at x;split at x
  .rename_i m
   have e:(⟨g,0,ae⟩:Addr).add j=⟨g,j,ae⟩:=by unfold Addr.add;split<;>simp_all
   rw[e];have:=hB.cell j;rw[Jg,GJ<|by simp;lia,yy,I Y]at this;rw[<-x];exact this
  .cases x
 have n:=run_copy_row (P:=ar) w 42 42 3 3 g k (c-k) (c-k) ⟨g,0,ae⟩ k c (au k (cg .i64 v)++h).toArray 3 (au (min k<|c-k)<|cg .i64 v) YP ak7 y (by rw[qR];try rfl) o (by first|(simp;done)|(simp;lia)) (λu p=>by obtain⟨_,rfl⟩:=List.mem_replicate.1 p;rfl);have d:aC k (au k (cg .i64 v)++h).toArray.toList++au (min k<|c-k) (cg .i64 v)++iI (k+(au (min k<|c-k)<|cg .i64 v).length) (au k (cg .i64 v)++h).toArray.toList=au (k+min k (c-k)) (cg .i64 v)++h.drop (min k<|c-k):=by
  simp only[qR];have a:aC k (au k (cg bW v)++h)=au k (cg bW v):=by
   rw[List.take_append_of_le_length aj,nE aj]
  have b:iI (k+min k (c-k)) (au k (cg bW v)++h)=h.drop (min k<|c-k):=by
   rw[List.drop_append,qR,CH aj,rB,aiT]
  show aC k (au k (cg bW v)++h)++_++iI (k+min k (c-k)) (au k (cg bW v)++h)=_;rw[a,b,axF]
 rw[d]at n;refine⟨w.setRow g (au (k+min k (c-k)) (cg .i64 v)++h.drop (min k<|c-k)).toArray,?_,?_,?_⟩
 .rw[n]
  simp[goInt]
 .exact zN w g _ _ 3 _ y
 .intro B r f z
  exact below_setRow f z _
set_option maxHeartbeats 2000000 in
theorem aMd(bx ak2 c:Nat)(v:Int)(w:World)(hc:c<=65536)(uo:1<=c)(hb:bx<w.heap.size)(hx:w.cell? ⟨bx,0,ae⟩=O (.int .i64 v)):
  Calls ar 205 #[.slice (O ⟨bx,0,ae⟩) 1 ak2,.int .i64 c] w fun e w'=>e=.returned (.slice (O ⟨w.heap.size,0,ae⟩) c c)/\
   w'.heap[w.heap.size]? =O (.cells (au c (cg .i64 v)).toArray 3 (0,0))/\Below w.heap.size w w':=by
 have BG:=aGH c Y;have hu:IntKind.u64.wrap (c:Int)=c:=YJ _ ⟨Y,Y⟩
 go_enter Tryz.func205,Tryz.ntmps205
 go_wp2_with fail
 refine(aGL c hc _).mono ?_;rintro e w' ⟨rfl,rfl⟩;have HS:(w.alloc (.cells (M5 c) 3)).heap[w.heap.size]? =O (.cells (au c (cg .i64 0)).toArray 3 (0,0)):=by
  have:=kE.new w 3 (M5 c);unfold kE at this;rw[this];congr 2;rw[<-toList_madeCells_one];simp[M5]
 have Aj:Below w.heap.size w (w.alloc (.cells (M5 c) 3)):=by go_grown
 have O7:(w.alloc (.cells (M5 c) 3)).cell? ⟨bx,0,ae⟩=O (.int .i64 v):=(aiw w _ ⟨bx,0,ae⟩ hb).trans hx;have Hz0:=zP HS;have Hb0:=zP Aj;have Hxx:=zP O7;clear HS Aj O7
 go_wp2_with (refine wpList_copy_splice rfl (.tmp 31) (.tmp 32) 42 42 rfl 3 YP ak7 (O ⟨w.heap.size,0,ae⟩) (O ⟨bx,0,ae⟩) c c 1 ak2 rfl rfl w.heap.size 0 (au c (.int .i64 0)) 3 Hz0.out [.int .i64 v] ?c1 ?c2 ?c3 ?c4 w.heap.size w Hb0.out (gL _) ?c5)
 case c1=>exact(wy uo).symm
 case c2=>
  intro j u hj
  match j,hj with
  |0,hj=>
   simp at hj;subst hj;exact hx
 case c3=>simp;omega
 case c4=>simp[tY]
 case c5=>
  intro w2 hw2 jn;have hw3:w2.heap[w.heap.size]? =O (.cells (au 1 (cg .i64 v)++au (c-1) (cg .i64 0)).toArray 3 (0,0)):=by
   rw[hw2.out];simp[splice]
  have Hw3:=zP hw3;have HW2:=zP jn;clear hw2 jn hw3 BG hu
  go_wp2
  go_loopw [8] (fun nv wr=>ay1 w v c nv wr) (fun nv _=>c- (intOf nv).toNat)
  case atStart=>exact⟨1,_,gL _,uo,rfl,aj,Hw3.out,HW2.out⟩
  case round=>
   obtain⟨k,rest,ra,hk,rfl,hr,hh,hW⟩:=hrel;have Hh:=zP hh;have HW:=zP hW;have Hr:=zP hr;clear hh hW hr;by_cases ai:k<c
   ·have hk0:(0:Int)<=(k:Int):=Y
    have hkc:(k:Int)<=(c:Int):=Y;have HD:¬c=k:=Y;have hws:IntKind.i64.wrap ((k:Int)+((min k (c-k):Nat):Int))=((k+min k (c-k):Nat):Int):=by
     rw[show(k:Int)+((min k (c-k):Nat):Int)=((k+min k (c-k):Nat):Int)by simp];exact IntWalk.i64_in _ Y
    go_wp2_with fail
    obtain⟨w3,gF,wS,anB⟩:=aAz wr.drew w.heap.size k c v rest ai Hr.out Hh.out;obtain⟨m,hm⟩:∃m,min k (c-k)=m:=⟨_,rfl⟩;rw[hm]at gF hws wS;have Hm:=zP hm;have ayO:=zP wS;have ayN:=zP (anB _ _ HW.out.drew (gL _));clear hm wS anB
    go_region
    go_wp2
    go_roundw
    case rel=>
     have TH:=Hm.out;refine⟨k+m,rest.drop m,Y,Y,by first|go_num|rw[hws],by rw[nW,Hr.out];omega,ayO.out,ayN.out⟩
    case measure=>
     have TH:=Hm.out
     try rw[hws]
     simp[intOf];omega
   ·have hkc:k=c:=Y
    subst hkc
    go_wp2
    go_ret
    refine⟨rfl,?_,HW.out⟩;have h0:rest= []:=r9 (by rw[Hr.out];omega);have:=Hh.out;rw[h0,zK]at this;exact this
end Go.Proofs.YtegnkfbnmepmpaaGreatDoor
namespace Go.Proofs.YtegnkfbnmepmpaaGreatDoor
open Go Go.RowKit
variable{k:R2}(w:R2)(x:Int)(y:N)(z:M)
def Xx:Spec where
 ι:=Int×Int
 own:=ab
 dec l H:=match l with
  | [.o l0,.v<|.int .i64 c]=>match H l0 with
    |some (.row 3<|.ints .i64 [v])=>O ((v,c),[l0])
    |_=>ae
  |_=>ae
 args:=λ(v,c)=>[.o 0,B c]
 hp:=λ(v,c)=>[(0,.row 3<|.ints .i64 [v])]
 pre:=λ(v,c)=>[E<|1<=c,E<|c<=65536]
 out:=λ(v,c)=>.leaf (dm<|au c.toNat v) [(0,.row 3<|.ints .i64 [v])]
def aPB:Xx.dn:=by
 intro l H n i x h;simp[Xx]at h
 repeat' split at h
 all_goals first|(cases h;done)|(cases h;exact⟨C⟩)|(cases h;refine⟨rfl,?_⟩;simp[dK,iF,iN,gN, *];rfl)
def aPQ:=Sp (N) [.l] λl=>([E<|l.length<=64,E<|BZ l=ab],.leaf (.o 2000) [(2000,.row 3<|.ints .i64<|xF l)])
def Xw:=Sp Int [.i] λk=>([],aE<|.tu [.ag [B<|oq k,dm<|nR k],B<|xU k])
def aIQ:dV:=bi (Nat×N) λx=>(x.1<=y.length/\BZ (y.drop x.1)=ab/\x.2.length<=64*x.1/\x.2++xF (y.drop x.1)=xF y,[(0,dm y),(3,.o 2000),(4,B (x.1))],[(2000,.row 3<|.ints .i64 x.2)],y.length-x.1)
def G(h0:N)(h1:Nat):Nat:=(h0.getD h1 0).toNat
def V6(h0:Nat×N)(h1:N):Prop:=h0.1<=h1.length/\BZ (iI h0.1 h1)=ab/\h0.2.length<=64*h0.1/\h0.2++xF (iI h0.1 h1)=xF h1
def Cc(h0 h1:Nat)(h:N):N:=aC (h0-h1)<|iI h1 h
def aqQ(P i p j h:N):Prop:=gg P (au 18 0)/\gg h (au 8 0)/\gg p (au 12 0)/\ft (0<=Zq 12) (Zq 12<=Zq 12/\12=12/\Bq (x==1) (ft (0<=Zq 8)<|Zq 8<=Zq 8/\8=8/\j.length<=64/\BZ j=ab/\5=oq x/\xF j=nR x/\0=xU x) (Bq (x==2) (i.length<=64/\BZ i=ab/\6=oq x/\xF i=nR x/\0=xU x)<|Bq (x==0) (ft (0<=Zq 18)<|Zq 18<=Zq 18/\18=18/\y.length<=64/\BZ y=ab/\6=oq x/\xF y=nR x/\0=xU x)<|0=oq x/\ck (nR x)/\11=xU x))
def ad6:Prop:=aqQ x (Cc (Zq 18).toNat bY [1,4,1,3,11,2,3,1,9,2,1,3,1,2,5,1,4,fH]) [1,4,1,3,11,2,3,1,9,2,1,3,1,2,5,1,4,fH] (Cc (Zq 12).toNat bY [1,1,1,4,1,3,6,2,37,1,7,fH]) [1,1,1,4,1,3,6,2,37,1,7,fH] (Cc (Zq 8).toNat bY [6,1,3,2,15,1,5,fH]) [6,1,3,2,15,1,5,fH]
def as6(P i p j h D:N):Prop:=Bq (x==0) (2*8<=140737488355328/\tH [4,3]/\(11:Int)<=65536/\16*8<=140737488355328/\tH i/\(9:Int)<=65536/\27*8<=140737488355328/\tH P/\(5:Int)<=65536/\tH y/\(4:Int)<=65536/\6=oq x/\y++au (X 4) fH=nR x/\0=xU x)<|Bq (x==1) ((6:Int)<=65536/\(au (X 6) 1).length<=65536/\(3:Int)<=65536/\tH D/\(15:Int)<=65536/\tH j/\(5:Int)<=65536/\5=oq x/\j++au (X 5) fH=nR x/\0=xU x)<|Bq (x==2) (3*8<=140737488355328/\tH [1,4,3]/\(6:Int)<=65536/\tH h/\(37:Int)<=65536/\tH p/\(7:Int)<=65536/\6=oq x/\p++au (X 7) fH=nR x/\0=xU x)<|0=oq x/\ck (nR x)/\11=xU x
def agc:Prop:=as6 x ([(4:Int),3]++au (X 11) (2:Int)++ [(1:Int),1,1]++au (X 9) (2:Int)++ [(3:Int),2]++au (X 5) (1:Int)) ([(4:Int),3]++au (X 11) (2:Int)++ [(1:Int),1,1]++au (X 9) (2:Int)++ [(3:Int),2]) ([(4:Int),3]++au (X 11) (2:Int)++ [(1:Int),1,1]) ([(1:Int),4,3]++au (X 6) (2:Int)++au (X 37) (1:Int)) (au (X 6) (1:Int)++au (X 3) (2:Int)++au (X 15) (1:Int)) ([(1:Int),4,3]++au (X 6) (2:Int))<|au (X 6) (1:Int)++au (X 3) (2:Int)
def drop_cons{l:N}{i:Nat}(h:i<l.length):l.drop i=l.getD i 0::l.drop (i+1):=by grind [List.drop_eq_getElem_cons]
theorem aMe(v c)(h1:1<=c)(h2:c<=65536):Sat ar 205 [.o 0,.v<|.int .i64 c] [(0,.row 3<|.ints .i64 [v])] (.bZ<|.ints .i64<|au c.toNat v) [(0,.row 3<|.ints .i64 [v])]:=by
 intro D β w us q Q m gR;simp only[Z,F]at q;obtain⟨_,_,rfl,⟨L,u,rfl⟩,_,_,rfl,rfl,rfl⟩:=q;let⟨L',p,hB,H⟩:=Q.1 0 _<|List.mem_singleton.2 rfl;rw[u]at p;cases p;let⟨A,z,hB⟩:=hB;simp only[aA.len,aA.wd,rG]at A z hB;rcases hB with⟨_,h0⟩|⟨a,J,T,cs,fZ,B,y,P,M,N⟩
 .omega
 let⟨U,s⟩:=H a;let⟨x,hx,t⟩:=N 0 0 Y Y;simp[aA.ok,aA.vl]at t;subst t;have K:w.cell? ⟨L.g,0,ae⟩=O (.int .i64 v):=by
  rw[Re w L.g 0 cs.toArray _ _ y,Jg];simpa using hx
 obtain⟨C,E⟩:∃C:Nat,c=C:=⟨c.toNat,Y⟩;subst E;have X:L.val=.slice (O ⟨L.g,0,ae⟩) 1 L.cap:=by unfold Loc.val;rw[a,z];rfl
 rw[X];apply(aMd L.g L.cap C v w Y Y s K).mono ?_;rintro e w' ⟨rfl,n,k⟩;have W:w.heap.size<w'.heap.size:=by
  rcases uQ w.heap.size w'.heap.size with h|h
  .exact h
  .rw[aix h]at n;cases n
 refine⟨_,λg=>D g\/g=w.heap.size,β,rfl,?_⟩;exact{
  vB:=⟨λ_ h=>.inl h,λg y=>k.block g<|m g y,λ_ _ h=>h⟩
  ret:=by
   simp only[F,va,Hb,aA.len,aA.wd,qR,yz];refine⟨_,_,rfl,gL _,λ_=>⟨w.heap.size,0,rfl,.inr rfl,λi j hi R=>?_⟩⟩;have j0:j=0:=Y;subst j0;refine⟨.int .i64 v,?_,?_⟩
   .rw[Re w' w.heap.size _ _ _ _ n,Jg,yy,I Y]
   .simp[aA.ok,aA.vl,jR,yy,hi]
  vI:=by
   refine⟨λl b r=>?_,λl l' b b' f L2 r S _ _ _ _ _=>?_⟩
   .obtain⟨rfl,rfl⟩:=Prod.mk.inj<|List.mem_singleton.1 r
    refine⟨L,u,⟨A,z,.inr ⟨a,J,T,cs,fZ,B,(k.block L.g s).trans y,P,M,λi j hi R=>?_⟩⟩,λ_=>⟨λh=>?_,by have:=k.size;lia⟩⟩
    .grind [aA.len,aA.wd]
    .rcases h with h|h
     .exact U h
     .omega
   .obtain⟨rfl,rfl⟩:=Prod.mk.inj<|List.mem_singleton.1 r
    obtain⟨rfl,rfl⟩:=Prod.mk.inj<|List.mem_singleton.1 S;rfl
  d:=λg y=>by
   rcases y with y|rfl
   .exact⟨.inl y,by have:=m g y;lia⟩
   .exact⟨.inr<|.inl<|gL _,W⟩
  ib:=λl L u=>.inl u
  own:=λl b f r G V=>by
   obtain⟨rfl,rfl⟩:=Prod.mk.inj<|List.mem_singleton.1 r;exact .inr ⟨0,_,f,List.mem_singleton.2 rfl,G,V,rfl⟩
  os:=k.os,tape:=k.tape,output:=k.output,size:=k.size
  block:=λg y _=>k.block g y}
def aMf:=Xx.sound ax aPB λ⟨v,c⟩ h=>by have x:=h _<|.head _;have y:=h _<|.tail _<|.head _;exact aMe v c x y
def aBV{l:N}{i:Nat}(h:i+1<l.length):xF (l.drop i)=au (l.getD i 0).toNat (l.getD (i+1) 0)++xF (l.drop<|i+2):=by rw[drop_cons Y,drop_cons h];rfl
def aJB{l:N}{i:Nat}(h:i+1<l.length)(x:BZ (l.drop i)=ab):1<=l.getD i 0/\l.getD i 0<=64/\BZ (l.drop<|i+2)=ab:=by rw[drop_cons Y,drop_cons h]at x;simp[BZ,bC,dJ]at x;grind
def aBU{l:N}{i:Nat}(h:¬i+1<l.length):xF (l.drop i)= []:=by
 by_cases x:i<l.length
 .rw[drop_cons x,CH Y];rfl
 .rw[CH Y];rfl
theorem ad5{k:Int}(h0:(k==0)=ah)(h1:(k==1)=ah)(h:(k==2)=ah):oq k=0/\nR k= []/\xU k=11:=by grind [oq,nR,xU]
def aNb(k:Int):agc k:=by
 unfold agc as6 fH tH ck Bq;refine⟨λh=>?_,λx=>⟨λh=>?_,λy=>⟨λh=>?_,λz=>?_⟩⟩⟩
 .have e:k=0:=by simpa using h
  subst e;decide+kernel
 .have e:k=1:=by simpa using h
  subst e;decide+kernel
 .have e:k=2:=by simpa using h
  subst e;decide+kernel
 .grind [ad5]
def aKE:ad6 x:=by
 unfold ad6 aqQ Cc bY ft fH ck gg Bq Zq;refine⟨H,H,H,H,H,H,H,λh=>?_,λy=>⟨λh=>?_,λz=>⟨λh=>?_,λx=>?_⟩⟩⟩
 .have e:x=1:=by simpa using h
  subst e;decide+kernel
 .have e:x=2:=by simpa using h
  subst e;decide+kernel
 .have e:x=0:=by simpa using h
  subst e;decide+kernel
 .grind [ad5]
def aRN:=agV.gE aP_ G6 Tryz.func131 λ⟨l,n,x⟩ ⟨k,r,_⟩=>⟨(one<|aqm l n x),J (p:=(∃h,rY h n/\n=n/\x=x/\aZ h/\l=l++au h x)/\(∀x1,rY x1 n->Dq (Zq x1<n) (lf (l++au x1 x)/\(∃y,v7 y n x1<|n=n/\x=x/\bE x1 y/\l++au x1 x++ [x]=l++au y x)) (l++au x1 x=l++au n.toNat x)))<|by
 unfold v7 bE qh rY cl aZ lf Dq Wq Zq;refine⟨⟨0,by rw[gG];omega,rfl,rfl,rfl,aj⟩,λi u=>⟨λe=>?_,λz=>?_⟩⟩
 .simp only[dJ]at e
  rw[gG]at u;refine⟨by simp;omega,i+1,by rw[gG];omega,by show n.toNat- (i+1)<n.toNat-i;omega,by trivial,by trivial,by rw[wr Y Y];simp,?_⟩;rw[Rc,qQ]
 .simp only[dH]at z
  rw[gG]at u;rw[show i=n.toNat by omega]⟩
def aRM:=agW.gE aP9 G6 Tryz.func131 λ⟨n,x⟩ ⟨k,_⟩=>⟨(one<|aqm [] n x),J (p:=(∃h,rY h n/\n=n/\x=x/\aZ h/\ck (([]:N)++au h x))/\(∀x1,rY x1 n->Dq (Zq x1<n) (lf (([]:N)++au x1 x)/\(∃y,v7 y n x1<|n=n/\x=x/\bE x1 y/\([]:N)++au x1 x++ [x]=([]:N)++au y x)) (([]:N)++au x1 x=au n.toNat x)))<|by
 unfold v7 bE qh rY cl aZ ck lf Dq Wq Zq;refine⟨⟨0,by rw[gG];omega,rfl,rfl,rfl,aj⟩,λi r=>⟨λe=>?_,λz=>?_⟩⟩
 .simp only[dJ]at e
  rw[gG]at r;refine⟨by simp;omega,i+1,by rw[gG];omega,by show n.toNat- (i+1)<n.toNat-i;omega,by trivial,by trivial,by rw[wr Y Y];simp,?_⟩;rw[Rc,qQ]
 .simp only[dH]at z
  rw[gG]at r;rw[show i=n.toNat by omega];simp⟩
def ajr:=m.cons aMf<| .cons (adT aRM aRN)<|ayu
def aN':=aPQ.gd ajr Tryz.func150 λ(l:N) ⟨b,r,_⟩=>⟨(one<|aIQ l),J (p:=(∃z,V6 z l/\l=l/\aZ z.1/\ck z.2)/\(∀x1,V6 x1 l->Dq (ay (Zq x1.1)<o l) (Rq (ay<|Zq x1.1) (o l)<|o8 x1.1 l (1<=b_ l x1.1)<|b_ l x1.1<=65536/\(x1.2.length+(au (G l<|T x1.1)<|l.getD (b5<|Zq x1.1+1) 0).length)*8<=140737488355328/\(∃x,V6 x l/\cl l.length x.1 x1.1/\l=l/\Wq (Zq x1.1+2)=Zq x.1/\x1.2++au (G l<|T x1.1) (l.getD (b5<|Zq x1.1+1) 0)=x.2)) (x1.2=xF l)))<|by
 unfold G o8 o V6 T cl aZ ay ck b5 b_ Dq Rq Wq Zq;refine⟨⟨(0,[]),⟨by(try dsimp only);omega,r,aj,rfl⟩,by((repeat' (apply fY ?_ ?_))<;>first|rfl|exact gA|lia|(rw[wr Y Y];done)|(rw[wr Y Y];first|rfl|lia|(simp;done)))⟩,?_⟩;rintro⟨i,y⟩ ⟨d,k,v,h⟩;dsimp only at d k v h;have a:Q bW (i+1)=((i+1:Nat)):=by rw[wr Y Y];simp
 simp only[a,toNat_cast,qR];refine⟨λw=>?_,λu=>?_⟩
 .simp only[dJ]at w
  have e:i+1<l.length:=Y;obtain⟨j,c,n⟩:=aJB e k;rw[aBV e,<-qQ]at h;refine⟨Y,Y,Y,Y,j,Y,Y,(i+2,y++au (l.getD i 0).toNat (l.getD (i+1) 0)),⟨by(try dsimp only);omega,n,?_,h⟩,by show l.length- (i+2)<l.length-i;omega,by((repeat' (apply fY ?_ ?_))<;>first|rfl|exact gA|lia|(rw[wr Y Y];done)|(rw[wr Y Y];first|rfl|lia|(simp;done)))⟩;grind
 .simp only[dH]at u
  rw[aBU Y,zK]at h;exact h⟩
def M7:=m.cons aN'<|ajr
def aKD:Sound ar 100 Xw.iY:=Xw.sound ax Sp.dn λk h=>Mn M7 mixed Tryz.func100 (ax:ad6 k=Gx ar (oC<|sa M7) (λ_=>ae) Tryz.f100 [.v<|.int .i64 k] [] (.leaf ((.tu [.ag [.v<|.int .i64<|oq k,.bZ<|.ints .i64<|nR k],.v<|.int .i64<|xU k]))<|[]))<|aKE k
def aNa:Sound ar 87 Xw.iY:=Xw.sound ax Sp.dn λk h=>Mn M7 mixed Tryz.func87 (ax:agc k=Gx ar (oC<|sa M7) (λ_=>ae) Tryz.f87 [.v<|.int .i64 k] [] (.leaf ((.tu [.ag [.v<|.int .i64<|oq k,.bZ<|.ints .i64<|nR k],.v<|.int .i64<|xU k]))<|[]))<|aNb k
def Zc:=m.cons aKD<| .cons aNa<|M7
def omg:List (Nat×xu)->Nat->Option xu
 | [],_=>ae
 |(k,x)::r,i=>cond (ap i k) (O x)<|omg r i
def rC:bm:=.cells 278 [.v<|.string w.1,.v<|.int .i64 w.2]
def xC:bm:=.cells 320 [.v<|.string w.1,.v<|.int .i64 w.2,.v<|.int .i64 x]
def amd:SV:=.fm 343<|.ag [.fm 23<|.v<|.int .i64 x]
def agx:Spec where
 ι:=Int×M×Int
 dec l H:=match l with
  | [.p l0 0 0,.v<|.int .i64 n]=>match H l0 with
    |some (.cells 278 [.v<|.string s,.v<|.int .i64 b])=>O ((n,s,b),[l0])
    |_=>ae
  |_=>ae
 args:=λ(n,s,b)=>[U 0,B n]
 hp:=λ(n,s,b)=>[(0,.cells 278 [aD s,B b])]
 pre:=λ(n,s,b)=>[E<|s.size<=9223372036854775807]
 out:=λ(n,s,b)=>.ite (E<|(R (s,b) n).2.2=0) (.leaf (.tu [.v<|.int .i64 (R (s,b) n).2.1,.v .nilIface]) [(0,rC (R (s,b) n).1)])<|.leaf (.tu [B 0,amd (R (s,b) n).2.2]) [(0,rC (s,b))]
def aOK:agx.dn:=by
 intro l H n i x h;simp[agx]at h
 repeat' split at h
 all_goals first|(cases h;done)|(cases h;exact⟨C⟩)|(cases h;refine⟨rfl,?_⟩;simp[dK,iF,iN,gN, *];rfl)
def agw:Spec where
 ι:=Int×Int×M×Int
 dec l H:=match l with
  | [.p l0 0 0,.v<|.int .i64 m,.v<|.int .i64 y]=>match H l0 with
    |some (.cells 278 [.v<|.string s,.v<|.int .i64 b])=>O ((m,y,s,b),[l0])
    |_=>ae
  |_=>ae
 args:=λ(m,y,s,b)=>[U 0,B m,B y]
 hp:=λ(m,y,s,b)=>[(0,.cells 278 [aD s,B b])]
 pre:=λ(m,y,s,b)=>[E<|m<=12,E<|1<=y,E<|y<=256,E<|s.size<=9223372036854775807]
 out:=λ(m,y,s,b)=>.ite (E<|(ij (s,b) m y).2.2=0) (.leaf (.tu [.ag [B<|ix (s,b),.bZ<|.ints .i64 (ij (s,b) m y).2.1],.v .nilIface]) [(0,rC (ij (s,b) m y).1)])<|.leaf (.tu [.ag [B 0,dm []],amd (ij (s,b) m y).2.2]) [(0,.cells 278 [.any,.any])]
def aOJ:agw.dn:=by
 intro l H n i x h;simp[agw]at h
 repeat' split at h
 all_goals first|(cases h;done)|(cases h;exact⟨C⟩)|(cases h;refine⟨rfl,?_⟩;simp[dK,iF,iN,gN, *];rfl)
def agK:Spec where
 ι:=Int×M×Int
 dec l H:=match l with
  | [.p l0 0 0,.v<|.int .i64 n]=>match H l0 with
    |some (.cells 320 [.v<|.string s,.v<|.int .i64 b,.v<|.int .i64 0])=>O ((n,s,b),[l0])
    |_=>ae
  |_=>ae
 args:=λ(n,s,b)=>[U 0,B n]
 hp:=λ(n,s,b)=>[(0,.cells 320 [aD s,B b,B 0])]
 pre:=λ(n,s,b)=>[E<|s.size<=9223372036854775807]
 out:=λ(n,s,b)=>.ite (E<|(R (s,b) n).2.2=0) (.leaf (.v<|.int .i64 (R (s,b) n).2.1) [(0,xC (R (s,b) n).1 0)])<|.leaf (B 0) [(0,xC (s,b) 23)]
def aPv:agK.dn:=by
 intro l H n i x h;simp[agK]at h
 repeat' split at h
 all_goals first|(cases h;done)|(cases h;exact⟨C⟩)|(cases h;refine⟨rfl,?_⟩;simp[dK,iF,iN,gN, *];rfl)
def agL:Spec where
 ι:=Int×M×Int
 dec l H:=match l with
  | [.p l0 0 0,.v<|.int .i64 g]=>match H l0 with
    |some (.cells 320 [.v<|.string s,.v<|.int .i64 b,.v<|.int .i64 0])=>O ((g,s,b),[l0])
    |_=>ae
  |_=>ae
 args:=λ(g,s,b)=>[U 0,B g]
 hp:=λ(g,s,b)=>[(0,.cells 320 [aD s,B b,B 0])]
 pre:=λ(g,s,b)=>[E<|s.size<=9223372036854775807,E<|0<=g,E<|g<=4096,E<|0<=b,E<|b<=9000000]
 out:=λ(g,s,b)=>.ite (E<|(dW (s,b) g).2.2=0) (.leaf (.v<|.int .i64 (dW (s,b) g).2.1) [(0,xC (dW (s,b) g).1 0)])<|.leaf (B 0) [(0,xC (s,b) 23)]
def aPw:agL.dn:=by
 intro l H n i x h;simp[agL]at h
 repeat' split at h
 all_goals first|(cases h;done)|(cases h;exact⟨C⟩)|(cases h;refine⟨rfl,?_⟩;simp[dK,iF,iN,gN, *];rfl)
def oD1(y z:Int)(h:R2×N×Int):dV:=bi (Nat×R2×Int×N) λx=>(gh y x.1 x.2.1 x.2.2.1 x.2.2.2=h/\y+1<=x.1+x.2.2.2.length/\x.2.2.2.length<=y/\0<=x.2.2.1/\x.2.2.1<=4096/\x.2.1.1.size<=9223372036854775807,[(0,U 0),(2,B y),(6,U 1002),(10,U 1000),(11,B x.2.2.1)],[(0,rC x.2.1),(1000,.cells 44 [B z,.o 1003]),(1003,.row 3<|.ints .i64 x.2.2.2),(1002,.cells 44 [.any,.any])],x.1)
def oD2(y z:Int)(h:R2×N×Int)(g:Nat×Int):dV:=bi (Int×Nat×R2×N) λx=>(yP y g.1 g.2 (cond (x.1==3) (kg y x.2.1 x.2.2.1 x.2.2.2) (x.2.2.1,x.2.2.2,0))=h/\(x.1=3->y+1<=x.2.1+x.2.2.2.length)/\y+1<=g.1+x.2.2.2.length/\x.2.2.2.length<=y/\x.2.2.1.1.size<=9223372036854775807,[(0,U 0),(2,B y),(6,U 1002),(10,U 1000),(11,B g.2),(18,B x.1)],[(0,rC x.2.2.1),(1000,.cells 44 [B z,.o 1003]),(1003,.row 3<|.ints .i64 x.2.2.2),(1002,.cells 44 [.any,.any])],cond (x.1==3) (x.2.1+1) 0)
def aHk(y z:Int)(h:R2×N×Int)(g:Nat×R2×Int×N):dV:=bi (R2×Int) λx=>(dW g.2.1 g.2.2.1=(x.1,x.2,0)/\gh y g.1 g.2.1 g.2.2.1 g.2.2.2=h/\0<g.2.2.1/\g.2.2.1<=4096/\x.1.1.size<=9223372036854775807,[(0,U 0),(2,B y),(6,U 1002),(10,U 1000),(11,B g.2.2.1),(14,B x.2)],[(0,rC x.1),(1000,.cells 44 [B z,.o 1003]),(1003,.row 3<|.ints .i64 g.2.2.2),(1002,.cells 44 [.any,.any])],0)
def aHl(y:Int)(r:R2):bO:=omg [(0,.one<|oD1 y (ix r)<|ij r x y),(1,.nk (Nat×Int)<|oD2 y (ix r)<|ij r x y),(1020,.nk (Nat×R2×Int×N)<|aHk y (ix r)<|ij r x y)]
def al0(b D P i:Int)(p:M):Prop:=fQ z/\Bq (D !=0) (Cq (D=0) (0=P/\False/\z=p/\b=i)<|a_/\Jq D/\z=z/\b=b) (Cq (D=0) (Jq P/\F1/\Jq p/\Jq i)<|P=0/\False/\p=z/\i=b)
def Vj(h0:R2×Int×Int)(h1:M)(h:Int):Prop:=Cq (h0.2.2=0) (0=h0.2.1/\h1=h0.1.1/\h=h0.1.2/\(23:Int)=0)<|(0:Int)=0/\h1=h1/\h=h/\(23:Int)=23
def PL(h0:R2×N×Int)(h1:M)(h:Int)(x:N)(y z:Prop)(e:R2×Int×Int):Prop:=Cq (h0.2.2=0) (0=ix (h1,h)/\x.length=0/\False/\y/\z)<|(0:Int)=0/\0=0/\e.2.2=h0.2.2
def ael(h0:R2×Int×Int)(h1 k:R2×N×Int)(x y r u:Int)(v:M)(w i:Int)(z e:N):Prop:=∃(h:R2×Int),(h0=(h.1,(h.2,0))/\h1=k/\0<x/\x<=4096/\fQ h.1.1)/\y=y/\r=x/\u=h.2/\v=h.1.1/\w=h.1.2/\Jq i/\z=e
def aq_(h0:Int)(h1:Nat×Int)(h:Int×Nat×R2×N)(x:M)(y z:Int):Prop:=yP h0 h1.1 h1.2 (bif h.1==3 then kg h0 h.2.1 h.2.2.1 h.2.2.2 else(h.2.2.1,(h.2.2.2,0)))=ij (x,y) z h0
def aem(h0:Int)(h1:R2×N×Int)(x:Int)(y:Nat)(z:Int)(e:M)(k r:Int)(u:N):Prop:=∃(h:Nat×R2×Int×N),(gh h0 h.1 h.2.1 h.2.2.1 h.2.2.2=h1/\x<=Zq h.1+o h.2.2.2/\o h.2.2.2<=h0/\0<=h.2.2.1/\h.2.2.1<=4096/\fQ h.2.1.1)/\h.1<y/\h0=h0/\z=h.2.2.1/\e=h.2.1.1/\k=h.2.1.2/\Jq r/\u=h.2.2.2
def aeo(h0:R2)(h1 h:Int)(k:Nat)(r:N)(y:M×Int)(u:Int)(z e:Nat×R2×Int×N)(v:Int)(x:R2×Int×Int):Prop:=ael (dW h0 h1) (gh h k h0 h1 r) (ij y u h) z.2.2.1 h e.2.2.1 (Wq v) x.1.1 x.1.2 (ix y) e.2.2.2 z.2.2.2
def aev(h0:R2×N×Int)(h1:M)(h:Int)(x y:Prop):Prop:=Cq (h0.2.2=0) (0=ix (h1,h)/\ck h0.2.1/\False/\x/\y)<|(0:Int)=0/\0=0/\23=h0.2.2
def vT(h0:R2×Int×Int):=(h0.1.1,h0.1.2)
def FQ(h0:Int)(h1:Nat×R2×Int×N):=gh h0 h1.1 h1.2.1 h1.2.2.1 h1.2.2.2
def P2(h0:Int)(h1:Nat×R2×Int×N)(h:Prop):Prop:=h0+1<=Zq h1.1+o h1.2.2.2/\o h1.2.2.2<=h0/\0<=h1.2.2.1/\h1.2.2.1<=4096/\h
def V0(h0:Int)(h1:Nat×Int)(h:Int×Nat×R2×N)(x:M)(y z:Int):Prop:=aq_ h0 h1 h x y z/\(h.1=3->h0+1<=Zq h.2.1+o h.2.2.2)/\h0+1<=Zq h1.1+o h.2.2.2/\o h.2.2.2<=h0/\fQ h.2.2.1.1
def AM(h0:Int):N:=au h0.toNat 0
def alS(y:Int)(s:M)(b D P:Int)(i:M)(p:N)(j:R2×N×Int)(h:Prop)(r:Int):Prop:=lZ (R (s,b) 4).2.2 (fQ s) (Dq (D>x) (Cq (j.2.2=0) (0=r/\ck p/\False/\(R (s,b) 4).1.1=i/\(R (s,b) 4).1.2=P)<|a_/\0=0/\31=j.2.2)<|cE ((R (s,b) 4).2.1+5)/\(∃e,(FQ y e=j/\P2 y e (fQ e.2.1.1))/\y=y/\jd D .i64=e.2.2.1/\(R (s,b) 4).1.1=e.2.1.1/\(R (s,b) 4).1.2=e.2.1.2/\D=r/\ck e.2.2.2)/\(∀x1,FQ y x1=j/\P2 y x1 (fQ x1.2.1.1)->Dq (x1.2.2.1>0) (aF x1.2.2.1 (x1.2.2.1<=1073741824)<|lZ (R (x1.2.1.1,x1.2.1.2)<|bF<|aM x1.2.2.1).2.2 (fQ x1.2.1.1) (∃g2,Dq ((R (x1.2.1.1,x1.2.1.2)<|bF<|aM x1.2.2.1).2.1>=rn x1.2.2.1) (lZ (R (vT<|R (x1.2.1.1,x1.2.1.2)<|bF<|aM x1.2.2.1) 1).2.2 (fQ (R (x1.2.1.1,x1.2.1.2)<|bF<|aM x1.2.2.1).1.1) (cE (aM x1.2.2.1-1)/\cE (aM x1.2.2.1-1)/\Dq (Wq ((R (x1.2.1.1,x1.2.1.2)<|bF<|aM x1.2.2.1).2.1+Wq ((R (vT<|R (x1.2.1.1,x1.2.1.2)<|bF<|aM x1.2.2.1) 1).2.1*o9 (bF<|aM x1.2.2.1) .i64))>=jd (bF<|aM x1.2.2.1) .i64) (aeo g2.2.1 g2.2.2.1 y g2.1 g2.2.2.2 (s,b) x g2 x1 (Wq ((R (x1.2.1.1,x1.2.1.2)<|bF<|aM x1.2.2.1).2.1+Wq ((R (vT<|R (x1.2.1.1,x1.2.1.2)<|bF<|aM x1.2.2.1) 1).2.1*o9 (bF<|aM x1.2.2.1) .i64))-rn x1.2.2.1)<|R (vT<|R (x1.2.1.1,x1.2.1.2)<|bF<|aM x1.2.2.1) 1) (aeo g2.2.1 g2.2.2.1 y g2.1 g2.2.2.2 (s,b) x g2 x1 ((R (x1.2.1.1,x1.2.1.2)<|bF<|aM x1.2.2.1).2.1+Wq ((R (vT<|R (x1.2.1.1,x1.2.1.2)<|bF<|aM x1.2.2.1) 1).2.1*o9 (bF<|aM x1.2.2.1) .i64))<|R (vT<|R (x1.2.1.1,x1.2.1.2)<|bF<|aM x1.2.2.1) 1))<|PL j s b p ((R (x1.2.1.1,x1.2.1.2)<|bF<|aM x1.2.2.1).1.1=i) ((R (x1.2.1.1,x1.2.1.2)<|bF<|aM x1.2.2.1).1.2=P)<|R (vT<|R (x1.2.1.1,x1.2.1.2)<|bF<|aM x1.2.2.1) 1) (ael (dW g2.2.1 g2.2.2.1) (FQ y g2) j g2.2.2.1 y x1.2.2.1 (R (x1.2.1.1,x1.2.1.2)<|bF<|aM x1.2.2.1).2.1 (R (x1.2.1.1,x1.2.1.2)<|bF<|aM x1.2.2.1).1.1 (R (x1.2.1.1,x1.2.1.2)<|bF<|aM x1.2.2.1).1.2 r x1.2.2.2 g2.2.2.2)/\(∀(z:R2×Int),dW g2.2.1 g2.2.2.1=(z.1,(z.2,0))/\FQ y g2=j/\0<g2.2.2.1/\g2.2.2.1<=4096/\fQ z.1.1->Bq (o g2.2.2.2==y) (aev j s b (z.1.1=i)<|z.1.2=P) (lf g2.2.2.2/\Bq (z.2 !=1) (aem y j (y+1) x1.1 (Wq<|g2.2.2.1-uZ (bF z.2) 1) z.1.1 z.1.2 r<|g2.2.2.2++ [bF z.2]) (∃g8,(∃u,V0 y g8 u s b x/\y=y/\g2.2.2.1=g8.2/\3=u.1/\z.1.1=u.2.2.1.1/\z.1.2=u.2.2.1.2/\h/\g2.2.2.2++ [bF z.2]=u.2.2.2)/\(∀m,V0 y g8 m s b x->Bq (m.1==3) (lZ (R (m.2.2.1.1,m.2.2.1.2) 2).2.2 (fQ m.2.2.1.1) (Dq (Wq (o m.2.2.2+(R (m.2.2.1.1,m.2.2.1.2) 2).2.1)>y) (aev j s b ((R (m.2.2.1.1,m.2.2.1.2) 2).1.1=i)<|(R (m.2.2.1.1,m.2.2.1.2) 2).1.2=P)<|aF (R (m.2.2.1.1,m.2.2.1.2) 2).2.1 ((R (m.2.2.1.1,m.2.2.1.2) 2).2.1<=4294967296)<|(m.2.2.2.length+(AM (R (m.2.2.1.1,m.2.2.1.2) 2).2.1).length)*8<=140737488355328/\(∃k,V0 y g8 k s b x/\(match k.fst==3 with|nG=>k.snd.fst+1|nH=>0)<(match m.fst==3 with|nG=>m.snd.fst+1|nH=>0)/\y=y/\aw g8.2 ((R (m.2.2.1.1,m.2.2.1.2) 2).2.1=k.1) ((R (m.2.2.1.1,m.2.2.1.2) 2).1.1=k.2.2.1.1/\(R (m.2.2.1.1,m.2.2.1.2) 2).1.2=k.2.2.1.2/\h/\m.2.2.2++AM (R (m.2.2.1.1,m.2.2.1.2) 2).2.1=k.2.2.2)))<|PL j s b p (m.2.2.1.1=i) (m.2.2.1.2=P)<|R (m.2.2.1.1,m.2.2.1.2) 2) (aem y j (y+1) x1.1 g8.2 m.2.2.1.1 m.2.2.1.2 r m.2.2.2))))))<|PL j s b p (x1.2.1.1=i) (x1.2.1.2=P)<|R (x1.2.1.1,x1.2.1.2)<|bF<|aM x1.2.2.1) (Cq (j.2.2=0) (h/\x1.2.2.2=p/\F1/\x1.2.1.1=i/\x1.2.1.2=P)<|r=0/\x1.2.2.2= []/\False)))<|PL j s b p (s=i) (b=P)<|R (s,b) 4
def ad'(h0 h1:R2×Int×Int)(h x:Int)(y:M)(z:Int):Prop:=Cq (h0.2.2=0) (h1.2.1=h0.2.1/\h1.1.1=h0.1.1/\h=x/\(0:Int)=0)<|h1.2.1=0/\h1.1.1=y/\h=z/\(0:Int)=23
def aeD(h0:R2×Int×Int)(h1 h:Int)(x y z e:Prop):Prop:=Cq (h0.2.2=0) (h1=h/\x/\y)<|h1=0/\z/\e
def atL(b:Int)(D:Prop)(P i p:Int)(j h:R2×Int×Int)(y:Prop)(g:Int)(e:Prop)(s:R2×Int×Int)(f:Int):Prop:=ay x<=9223372036854775807/\fU f/\lZ j.2.2 (fQ z) (Bq ((0:Int) !=0) D<|Dq (j.2.1<P) D<|lZ h.2.2 (fQ z) (e/\Dq (p>=fG (bF f)) (aeD s (Wq<|p-P) s.2.1 (h.1.1=s.1.1) (i=g/\a_) (h.1.1=z)<|i=b/\(0:Int)=23) (ad' s h i g z b))<|e/\Dq (0>=fG (bF f)) (aeD s (Wq<|0-P) s.2.1 (z=s.1.1) (b=g/\(23:Int)=0) (z=z)<|b=b/\(23:Int)=23) y) (Bq ((23:Int) !=0) y<|Dq (0<P) y<|False/\e/\nu)
def atK(b:Int):Prop:=atL x z b (ad' (dW (z,b) x) (R (z,b)<|bF<|aS (ay x)+1) (R (z,b)<|bF<|aS (ay x)+1).1.2 (dW (z,b) x).1.2 z b) (Wq<|bF (fG<|aS (ay x)+1)-ay x) (R (z,b)<|aS (ay x)+1).1.2 (R (z,b)<|aS (ay x)+1).2.1 (R (z,b)<|bF<|aS (ay x)+1) (R (z,b)<|aS (ay x)+1) (Vj (dW (z,b) x) z b) (dW (z,b) x).1.2 (fU<|bF<|aS (ay x)+1) (dW (z,b) x)<|aS (ay x)+1
def ahc(left:Int):rn left=2^(aM left).toNat-1- (left+1):=rfl
structure ShB (left:Int):Prop where
 b1:1<=aM left
 b2:aM left<=13
 lo:2^(aM left-1).toNat<=left+1
 hi:left+1<2^(aM left).toNat
 dbl:(2:Int)^(aM left).toNat=2*2^(aM left-1).toNat
def ahb{left:Int}(h0:0<=left)(h1:left<=4096):ShB left:=by
 have h:(left+1).toNat≠0:=Y;have e:=(Y5 h (k:=13)).2 Y;have z:aM left=(wD (left+1).toNat)+1:=by grind [aM,aS]
 have x:(aM left-1).toNat=wD (left+1).toNat:=Y;have y:(aM left).toNat=wD (left+1).toNat+1:=Y;have p1:=(Nat.le_log2 h).1<|gL _;have p2:=(Y5 h (k:=wD (left+1).toNat+1)).1 Y;refine⟨Y,Y,?_,?_,?_⟩
 .grind
 .grind
 .grind
structure aj2 (r:R2) (n:Int):Prop where
 rd:(R r n).1=(r.1,r.2+n)
 vl:(R r n).2.1=((lF r.1 r.2.toNat n.toNat:Nat):Int)
 n0:0<=n
 n1:n<=32
 b0:0<=r.2
 b1:r.2+n<=8*(r.1.size:Int)
 sz:r.1.size<=1048576
 v0:0<=(R r n).2.1
 v1:(R r n).2.1<2^n.toNat
theorem uL{r:R2}{n:Int}(h:(R r n).2.2=0):aj2 r n:=by
 unfold R at h;split at h
 ·rename_i y
  have x:R r n=((r.1,r.2+n),((lF r.1 r.2.toNat n.toNat:Nat):Int),0):=by unfold R;rw[I y]
  have z:=y;unfold DV at z;have v:kF r.1 r.2 n=0:=Y;have e:lU r.1 r.2=0:=by grind [kF]
  have i:¬(n<0\/32<n):=fun w=>by grind [kF]
  obtain⟨k,u,j⟩:=aLH e;have hp:=ad1 r.1 r.2.toNat n.toNat;refine⟨by rw[x],by rw[x],Y,Y,u,Y,k,by rw[x];simp,?_⟩;grind
 ·grind
def aid{left:Int}(h:(R k<|aM left-1).2.2≠0):dW k left=(k,0,(R k<|aM left-1).2.2):=by grind [dW]
def aie{left:Int}(h:(R k<|aM left-1).2.2=0)(x:(R k<|aM left-1).2.1<rn left):dW k left=((R k<|aM left-1).1,(R k<|aM left-1).2.1,0):=by grind [dW]
theorem aif{r:R2}{left:Int}(h:(R r (aM left-1)).2.2=0)(x:¬(R r (aM left-1)).2.1<rn left)(y:(R (R r (aM left-1)).1 1).2.2≠0):dW r left=(r,0,(R (R r (aM left-1)).1 1).2.2):=by grind [dW]
def Yc{left:Int}(h:(R k<|aM left-1).2.2=0)(x:¬(R k<|aM left-1).2.1<rn left)(y:(R (R k<|aM left-1).1 1).2.2=0):dW k left=((R (R k<|aM left-1).1 1).1,Ag left ((R k<|aM left-1).2.1+(R (R k<|aM left-1).1 1).2.1*2^(aM left-1).toNat),0):=by grind [dW]
structure ay4 (r:R2) (left:Int) (r':R2) (v:Int):Prop where
 v0:0<=v
 v1:v<=left+1
 st:r'.1=r.1
 b0:0<=r'.2
 b1:r'.2<=8*(r.1.size:Int)
 bs:r'.2<=r.2+13
 bl:r.2<=r'.2
 sz:r.1.size<=1048576
theorem Q0{n:R2}{left v:Int}(h0:0<=left)(h1:left<=4096)(h:dW k left=(n,v,0)):ay4 k left n v:=by
 have S:=ahb h0 h1;have o:=S.b1;have p:=S.b2;have lo:=S.lo;have hi:=S.hi;have g:=S.dbl;have et:=ahc left;by_cases z:(R k<|aM left-1).2.2=0
 .have x:=uL z
  have e:=x.v0;have f:=x.v1;have b0:=x.b0;have b1:=x.b1;by_cases c:(R k<|aM left-1).2.1<rn left
  .rw[aie z c]at h
   simp[Prod.mk.injEq,sZ]at h;obtain⟨rfl,rfl⟩:=h;rw[x.rd];exact⟨e,Y,rfl,by dsimp only;lia,by dsimp only;lia,by dsimp only;lia,by dsimp only;lia,x.sz⟩
  .by_cases i:(R (R k<|aM left-1).1 1).2.2=0
   .rw[Yc z c i]at h
    have y:=uL i;have r:=y.v0;have u:=y.v1;have w:=y.b0;have q:=y.b1;have a:=y.rd;rw[x.rd]at a w q r u h;dsimp only at w q;rw[a]at h;simp[Prod.mk.injEq,sZ]at h;let⟨b,d⟩:=h;have m:(R (k.1,k.2+(aM left-1)) 1).2.1=0\/(R (k.1,k.2+(aM left-1)) 1).2.1=1:=by
     have:(2:Int)^(1:Int).toNat=2:=rfl;lia
    rw[<-b];have j:0<=v/\v<=left+1:=by
     rw[<-d];unfold Ag;grind
    exact⟨j.1,j.2,rfl,by dsimp only;lia,by dsimp only;lia,by dsimp only;lia,by dsimp only;lia,x.sz⟩
   .grind [aif]
 .rw[aid z]at h
  simp[Prod.mk.injEq]at h;exact absurd h.2.2 z
theorem Qs{y:Int}{f:Nat}{r:R2}{left:Int}{x:N}(h:¬0<left):gh y (f+1) r left x=(r,x,0):=by grind [gh]
def Mg{y:Int}{f:Nat}{r:R2}{left:Int}{x:N}(h:0<left)(e:(dW r left).2.2≠0):gh y (f+1) r left x=(r,x,(dW r left).2.2):=by grind [gh]
theorem Qt{y:Int}{f:Nat}{r z:R2}{left v:Int}{x:N}(h:0<left)(e:dW r left=(z,v,0))(k:((x.length:Int)==y)=ab):gh y (f+1) r left x=(r,x,23):=by grind [gh]
def Qu{y:Int}{f:Nat}{r z:R2}{left v:Int}{x:N}(h:0<left)(e:dW r left=(z,v,0))(k:((x.length)==y)=ah)(u:v≠1):gh y (f+1) r left x=gh y f z (left-max (v-1) 1) (x++ [v-1]):=by grind [gh]
def Qv{y:Int}{f:Nat}{r z:R2}{left:Int}{x:N}(h:0<left)(e:dW r left=(z,1,0))(k:((x.length)==y)=ah):gh y (f+1) r left x=yP y f left (kg y (y.toNat+1) z<|x++ [1-1]):=by
 conv=>lhs;unfold gh
 rw[jS h,e,k];rfl
theorem N5{y:Int}{f:Nat}{r:R2}{h:N}(e:(R r 2).2.2≠0):kg y (f+1) r h=(r,h,(R r 2).2.2):=by grind [kg]
theorem N6{y:Int}{f:Nat}{r:R2}{x:N}(e:(R r 2).2.2=0)(h:y<x.length+(R r 2).2.1):kg y (f+1) r x=(r,x,23):=by grind [kg]
def N7{y:Int}{f:Nat}{r:R2}{x:N}(e:(R r 2).2.2=0)(h:¬y<x.length+(R r 2).2.1):kg y (f+1) r x=cond ((R r 2).2.1==3) (kg y f (R r 2).1<|x++au (R r 2).2.1.toNat 0) ((R r 2).1,x++au (R r 2).2.1.toNat 0,0):=by grind [kg]
def aap{y:Int}{f:Nat}{left:Int}{z:R2×N×Int}(h:z.2.2=0):yP y f left z=gh y f z.1 left z.2.1:=by grind [yP]
def Hi{y:Int}{f:Nat}{left:Int}{z:R2×N×Int}(h:z.2.2≠0):yP y f left z=z:=by grind [yP]
end Go.Proofs.YtegnkfbnmepmpaaGreatDoor

/-
  Texts joined: Sut, Sv, Sw, Sx, Sy, ZbF, Zk, Zb, Zbt, Zc, ZdF, Zd, Zdt, Ze, Zf, CsF, Cs, Cst, CsP, YfF, Yl, Yf, Yft, Ym, ZgF, Zg, Zgt, Zh, Zi, Zit, Zj, ZlF, Zl, Zlt, Zm. Conditions: each theorem's own.
-/
import Derived.Test.YtegnkfbnmepmpaaGreatDoorK10
import Derived.Test.YtegnkfbnmepmpaaGreatDoorK9
import Derived.Test.YtegnkfbnmepmpaaGreatDoorK5
import Derived.Test.YtegnkfbnmepmpaaGreatDoorK4
set_option maxRecDepth 100000
set_option linter.all false
open Array renaming size->Y6
open Bool renaming false->ah,true->ab
open ByteArray renaming empty->aJ
open Go.IntKind renaming wrap->Q
open Go.Proofs.Tryz renaming prog->ar
open Int renaming fdiv->kQ,tmod->kf
open List renaming range->fM,replicate->au
open Min renaming min->aB
open Nat renaming sub->fj
open Option renaming map->gN,none->ae,some->O
open True renaming intro->gA
open UInt8 renaming ofNat->zW
namespace Go.Proofs.YtegnkfbnmepmpaaGreatDoor
open Go Go.RowKit
variable{l t:Nat}{z:Int}
def Rs:=@exists_const
def arm(h0:T3)(h1:Prop):Prop:=0=h0.a.m/\0=h0.a.s/\0=h0.a.g/\(0:Nat)=0/\0=h0.b.m/\0=h0.b.s/\0=h0.b.g/\(0:Nat)=0/\0=h0.c.m/\0=h0.c.s/\0=h0.c.g/\(0:Nat)=0/\h1
def AG(h0 h1:T3)(h:Prop):Prop:=h0.a.m=h1.a.m/\h0.a.s=h1.a.s/\h0.a.g=h1.a.g/\h0.a.p=h1.a.p/\h0.b.m=h1.b.m/\h0.b.s=h1.b.s/\h0.b.g=h1.b.g/\h0.b.p=h1.b.p/\h0.c.m=h1.c.m/\h0.c.s=h1.c.s/\h0.c.g=h1.c.g/\h
def Lr(h0:M)(h1 y:Int)(z e k:T3)(h x:Int×Int):Prop:=AG z3 (eC h0 h1 y z)<|e.c.p=k.c.p/\h.1=x.1/\h.2=x.2
def PO(h0:M)(h1 h:Int)(y:IntKind)(x z:T3)(e:Prop):Prop:=qM 0 (bits .and .i64 ((Wq<|Zq<|Yq (h0.extract 0 h1.toNat) (h+bH (h0.extract 0 h1.toNat) h).toNat).fdiv<|2^aB (6:Nat) y.bits) 3) (h0.extract 0 h1.toNat) (Wq<|h+bH (h0.extract 0 h1.toNat) h+1) x.a.m=z.a.m/\qN 0 (bits .and .i64 ((Wq<|Zq<|Yq (h0.extract 0 h1.toNat) (h+bH (h0.extract 0 h1.toNat) h).toNat).fdiv<|2^aB (6:Nat) y.bits) 3) (h0.extract 0 h1.toNat) (Wq<|h+bH (h0.extract 0 h1.toNat) h+1) x.a.m x.a.s=z.a.s/\tU 0 (bits .and .i64 ((Wq<|Zq<|Yq (h0.extract 0 h1.toNat) (h+bH (h0.extract 0 h1.toNat) h).toNat).fdiv<|2^aB (6:Nat) y.bits) 3) (h0.extract 0 h1.toNat) (Wq<|h+bH (h0.extract 0 h1.toNat) h+1) x.a.m x.a.g=z.a.g/\sU 0 (bits .and .i64 ((Wq<|Zq<|Yq (h0.extract 0 h1.toNat) (h+bH (h0.extract 0 h1.toNat) h).toNat).fdiv<|2^aB (6:Nat) y.bits) 3) (h0.extract 0 h1.toNat) (Wq<|h+bH (h0.extract 0 h1.toNat) h+1) x.a.m x.a.p=z.a.p/\e
def tF(h0:T3)(h1:Prop):Prop:=0=h0.a.m/\0=h0.a.s/\0=h0.a.g/\h0.a.p.length=0/\0=h0.b.m/\0=h0.b.s/\0=h0.b.g/\h0.b.p.length=0/\0=h0.c.m/\0=h0.c.s/\0=h0.c.g/\h0.c.p.length=0/\h1
def aez(h0:M)(h1:Int)(x:IntKind)(h y:T3)(z:Prop):Prop:=qM 0 (bits .and .i64 ((Wq<|Zq<|Yq (h0.extract 0 h1.toNat) 0).fdiv<|2^aB (6:Nat) x.bits) 3) (h0.extract 0 h1.toNat) 1 h.a.m=y.a.m/\qN 0 (bits .and .i64 ((Wq<|Zq<|Yq (h0.extract 0 h1.toNat) 0).fdiv<|2^aB (6:Nat) x.bits) 3) (h0.extract 0 h1.toNat) 1 h.a.m h.a.s=y.a.s/\tU 0 (bits .and .i64 ((Wq<|Zq<|Yq (h0.extract 0 h1.toNat) 0).fdiv<|2^aB (6:Nat) x.bits) 3) (h0.extract 0 h1.toNat) 1 h.a.m h.a.g=y.a.g/\sU 0 (bits .and .i64 ((Wq<|Zq<|Yq (h0.extract 0 h1.toNat) 0).fdiv<|2^aB (6:Nat) x.bits) 3) (h0.extract 0 h1.toNat) 1 h.a.m h.a.p=y.a.p/\qM 1 (bits .and .i64 ((Wq<|Zq<|Yq (h0.extract 0 h1.toNat) 0).fdiv<|2^aB (4:Nat) x.bits) 3) (h0.extract 0 h1.toNat) (eG 0 (bits .and .i64 ((Wq<|Zq<|Yq (h0.extract 0 h1.toNat) 0).fdiv<|2^aB (6:Nat) x.bits) 3) (h0.extract 0 h1.toNat) 1 h.a.m) h.b.m=y.b.m/\qN 1 (bits .and .i64 ((Wq<|Zq<|Yq (h0.extract 0 h1.toNat) 0).fdiv<|2^aB (4:Nat) x.bits) 3) (h0.extract 0 h1.toNat) (eG 0 (bits .and .i64 ((Wq<|Zq<|Yq (h0.extract 0 h1.toNat) 0).fdiv<|2^aB (6:Nat) x.bits) 3) (h0.extract 0 h1.toNat) 1 h.a.m) h.b.m h.b.s=y.b.s/\z
def aeG(h0:M)(h1 h:Int)(y:IntKind)(x z:T3)(e:Prop):Prop:=qM 1 (bits .and .i64 ((Wq<|Zq<|Yq (h0.extract 0 h1.toNat) (h+bH (h0.extract 0 h1.toNat) h).toNat).fdiv<|2^aB (4:Nat) y.bits) 3) (h0.extract 0 h1.toNat) (eG 0 (bits .and .i64 ((Wq<|Zq<|Yq (h0.extract 0 h1.toNat) (h+bH (h0.extract 0 h1.toNat) h).toNat).fdiv<|2^aB (6:Nat) y.bits) 3) (h0.extract 0 h1.toNat) (Wq<|h+bH (h0.extract 0 h1.toNat) h+1) x.a.m) x.b.m=z.b.m/\qN 1 (bits .and .i64 ((Wq<|Zq<|Yq (h0.extract 0 h1.toNat) (h+bH (h0.extract 0 h1.toNat) h).toNat).fdiv<|2^aB (4:Nat) y.bits) 3) (h0.extract 0 h1.toNat) (eG 0 (bits .and .i64 ((Wq<|Zq<|Yq (h0.extract 0 h1.toNat) (h+bH (h0.extract 0 h1.toNat) h).toNat).fdiv<|2^aB (6:Nat) y.bits) 3) (h0.extract 0 h1.toNat) (Wq<|h+bH (h0.extract 0 h1.toNat) h+1) x.a.m) x.b.m x.b.s=z.b.s/\tU 1 (bits .and .i64 ((Wq<|Zq<|Yq (h0.extract 0 h1.toNat) (h+bH (h0.extract 0 h1.toNat) h).toNat).fdiv<|2^aB (4:Nat) y.bits) 3) (h0.extract 0 h1.toNat) (eG 0 (bits .and .i64 ((Wq<|Zq<|Yq (h0.extract 0 h1.toNat) (h+bH (h0.extract 0 h1.toNat) h).toNat).fdiv<|2^aB (6:Nat) y.bits) 3) (h0.extract 0 h1.toNat) (Wq<|h+bH (h0.extract 0 h1.toNat) h+1) x.a.m) x.b.m x.b.g=z.b.g/\e
def aeQ(h0:Int×Int)(h1:q)(x:M)(y z:Int)(e k:T3)(r:Int×Int)(u v h:Prop):Prop:=Rq 2 (Zq 3)<|Bq (h0.1 !=0) (([]:q)=h1/\Lr x y z e z3 k h0 r)<|Dq ((3:Int)<3) (u/\v)<|aL h
def aeS(h0:Int×Int)(h1:q)(h:M)(x y:Int)(z e:T3)(k:Int×Int):Prop:=Bq (h0.1 !=0) (([]:q)=h1/\Lr h x y z z3 e h0 k) False
def F2(h0:Int×Int)(h1:M)(h x:Int)(y:T3):Prop:=h0.1=0/\h0.2=sxF h1 h x y
def afw(h0:Int×Int)(h1:q)(x:M)(y z:Int)(e k:T3)(r:Int×Int)(u v h:Prop):Prop:=Rq 1 (Zq 3)<|Bq (h0.1 !=0) (([]:q)=h1/\Lr x y z e z3 k h0 r)<|Dq ((2:Int)<3) (u/\v)<|aL h
def afA(h0:M)(h1:Int)(x:IntKind)(h y:T3)(z:Prop):Prop:=tU 1 (bits .and .i64 ((Wq<|Zq<|Yq (h0.extract 0 h1.toNat) 0).fdiv<|2^aB (4:Nat) x.bits) 3) (h0.extract 0 h1.toNat) (eG 0 (bits .and .i64 ((Wq<|Zq<|Yq (h0.extract 0 h1.toNat) 0).fdiv<|2^aB (6:Nat) x.bits) 3) (h0.extract 0 h1.toNat) 1 h.a.m) h.b.m h.b.g=y.b.g/\sU 1 (bits .and .i64 ((Wq<|Zq<|Yq (h0.extract 0 h1.toNat) 0).fdiv<|2^aB (4:Nat) x.bits) 3) (h0.extract 0 h1.toNat) (eG 0 (bits .and .i64 ((Wq<|Zq<|Yq (h0.extract 0 h1.toNat) 0).fdiv<|2^aB (6:Nat) x.bits) 3) (h0.extract 0 h1.toNat) 1 h.a.m) h.b.m h.b.p=y.b.p/\z
def Ih(h0:Int)(h1:Nat):Prop:=bits .and .i64 ((Wq h0).fdiv<|2^h1) 3<=3
def Ii(h0:Int)(h1:Nat):Prop:=0<=bits .and .i64 ((Wq h0).fdiv<|2^h1) 3
def fp(h0:Int)(h1:Nat):Int:=bits .and .i64 ((Wq h0).fdiv<|2^h1) 3
def U3(h0:M)(h1 h:Int)(y:IntKind)(x z:T3)(e:Prop):Prop:=sU 1 (fp (Zq<|Yq (h0.extract 0 h1.toNat) (h+bH (h0.extract 0 h1.toNat) h).toNat)<|aB (4:Nat) y.bits) (h0.extract 0 h1.toNat) (eG 0 (fp (Zq<|Yq (h0.extract 0 h1.toNat) (h+bH (h0.extract 0 h1.toNat) h).toNat)<|aB (6:Nat) y.bits) (h0.extract 0 h1.toNat) (Wq<|h+bH (h0.extract 0 h1.toNat) h+1) x.a.m) x.b.m x.b.p=z.b.p/\qM 2 (fp (Zq<|Yq (h0.extract 0 h1.toNat) (h+bH (h0.extract 0 h1.toNat) h).toNat)<|aB (2:Nat) y.bits) (h0.extract 0 h1.toNat) (eG 1 (fp (Zq<|Yq (h0.extract 0 h1.toNat) (h+bH (h0.extract 0 h1.toNat) h).toNat)<|aB (4:Nat) y.bits) (h0.extract 0 h1.toNat) (eG 0 (fp (Zq<|Yq (h0.extract 0 h1.toNat) (h+bH (h0.extract 0 h1.toNat) h).toNat)<|aB (6:Nat) y.bits) (h0.extract 0 h1.toNat) (Wq<|h+bH (h0.extract 0 h1.toNat) h+1) x.a.m) x.b.m) x.c.m=z.c.m/\qN 2 (fp (Zq<|Yq (h0.extract 0 h1.toNat) (h+bH (h0.extract 0 h1.toNat) h).toNat)<|aB (2:Nat) y.bits) (h0.extract 0 h1.toNat) (eG 1 (fp (Zq<|Yq (h0.extract 0 h1.toNat) (h+bH (h0.extract 0 h1.toNat) h).toNat)<|aB (4:Nat) y.bits) (h0.extract 0 h1.toNat) (eG 0 (fp (Zq<|Yq (h0.extract 0 h1.toNat) (h+bH (h0.extract 0 h1.toNat) h).toNat)<|aB (6:Nat) y.bits) (h0.extract 0 h1.toNat) (Wq<|h+bH (h0.extract 0 h1.toNat) h+1) x.a.m) x.b.m) x.c.m x.c.s=z.c.s/\e
def U6(h0:M)(h1:Int)(x:IntKind)(h y:T3)(z:Prop):Prop:=qM 2 (fp (Zq<|Yq (h0.extract 0 h1.toNat) 0)<|aB (2:Nat) x.bits) (h0.extract 0 h1.toNat) (eG 1 (fp (Zq<|Yq (h0.extract 0 h1.toNat) 0)<|aB (4:Nat) x.bits) (h0.extract 0 h1.toNat) (eG 0 (fp (Zq<|Yq (h0.extract 0 h1.toNat) 0)<|aB (6:Nat) x.bits) (h0.extract 0 h1.toNat) 1 h.a.m) h.b.m) h.c.m=y.c.m/\qN 2 (fp (Zq<|Yq (h0.extract 0 h1.toNat) 0)<|aB (2:Nat) x.bits) (h0.extract 0 h1.toNat) (eG 1 (fp (Zq<|Yq (h0.extract 0 h1.toNat) 0)<|aB (4:Nat) x.bits) (h0.extract 0 h1.toNat) (eG 0 (fp (Zq<|Yq (h0.extract 0 h1.toNat) 0)<|aB (6:Nat) x.bits) (h0.extract 0 h1.toNat) 1 h.a.m) h.b.m) h.c.m h.c.s=y.c.s/\tU 2 (fp (Zq<|Yq (h0.extract 0 h1.toNat) 0)<|aB (2:Nat) x.bits) (h0.extract 0 h1.toNat) (eG 1 (fp (Zq<|Yq (h0.extract 0 h1.toNat) 0)<|aB (4:Nat) x.bits) (h0.extract 0 h1.toNat) (eG 0 (fp (Zq<|Yq (h0.extract 0 h1.toNat) 0)<|aB (6:Nat) x.bits) (h0.extract 0 h1.toNat) 1 h.a.m) h.b.m) h.c.m h.c.g=y.c.g/\z
def U7(h0:M)(h1 h:Int)(y:IntKind)(x:T3)(z:Prop):Prop:=(0:Int)<=2/\(2:Int)<=2/\Ii (Zq<|Yq (h0.extract 0 h1.toNat) (h+bH (h0.extract 0 h1.toNat) h).toNat) (aB (2:Nat) y.bits)/\Ih (Zq<|Yq (h0.extract 0 h1.toNat) (h+bH (h0.extract 0 h1.toNat) h).toNat) (aB (2:Nat) y.bits)/\0<=eG 1 (fp (Zq<|Yq (h0.extract 0 h1.toNat) (h+bH (h0.extract 0 h1.toNat) h).toNat)<|aB (4:Nat) y.bits) (h0.extract 0 h1.toNat) (eG 0 (fp (Zq<|Yq (h0.extract 0 h1.toNat) (h+bH (h0.extract 0 h1.toNat) h).toNat)<|aB (6:Nat) y.bits) (h0.extract 0 h1.toNat) (Wq<|h+bH (h0.extract 0 h1.toNat) h+1) x.a.m) x.b.m/\eG 1 (fp (Zq<|Yq (h0.extract 0 h1.toNat) (h+bH (h0.extract 0 h1.toNat) h).toNat)<|aB (4:Nat) y.bits) (h0.extract 0 h1.toNat) (eG 0 (fp (Zq<|Yq (h0.extract 0 h1.toNat) (h+bH (h0.extract 0 h1.toNat) h).toNat)<|aB (6:Nat) y.bits) (h0.extract 0 h1.toNat) (Wq<|h+bH (h0.extract 0 h1.toNat) h+1) x.a.m) x.b.m<=Zq (h0.extract 0 h1.toNat).size/\(h0.extract 0 h1.toNat).size<=600/\tbE 2 x.c.m x.c.s x.c.g x.c.p=0/\z
def aef(h0:Int×Int)(h1:q)(x:M)(y z:Int)(e k:T3)(r:Int×Int)(u v h:Prop):Prop:=Rq 0 (Zq 3)<|Bq (h0.1 !=0) (([]:q)=h1/\Lr x y z e z3 k h0 r)<|Dq ((1:Int)<3) (u/\v)<|aL h
def U9(h0:M)(h1 h:Int)(y:IntKind)(x:T3):N:=sU 1 (fp (Zq<|Yq (h0.extract 0 h1.toNat) (h+bH (h0.extract 0 h1.toNat) h).toNat)<|aB (4:Nat) y.bits) (h0.extract 0 h1.toNat) (eG 0 (fp (Zq<|Yq (h0.extract 0 h1.toNat) (h+bH (h0.extract 0 h1.toNat) h).toNat)<|aB (6:Nat) y.bits) (h0.extract 0 h1.toNat) (Wq<|h+bH (h0.extract 0 h1.toNat) h+1) x.a.m) x.b.m x.b.p
def U_(h0:M)(h1:Int)(x:IntKind)(h:T3):N:=sU 2 (fp (Zq<|Yq (h0.extract 0 h1.toNat) 0)<|aB (2:Nat) x.bits) (h0.extract 0 h1.toNat) (eG 1 (fp (Zq<|Yq (h0.extract 0 h1.toNat) 0)<|aB (4:Nat) x.bits) (h0.extract 0 h1.toNat) (eG 0 (fp (Zq<|Yq (h0.extract 0 h1.toNat) 0)<|aB (6:Nat) x.bits) (h0.extract 0 h1.toNat) 1 h.a.m) h.b.m) h.c.m h.c.p
def Va(h0:M)(h1:Int)(x:IntKind)(h:T3)(y:Int):Prop:=eG 2 (fp (Zq<|Yq (h0.extract 0 h1.toNat) 0)<|aB (2:Nat) x.bits) (h0.extract 0 h1.toNat) (eG 1 (fp (Zq<|Yq (h0.extract 0 h1.toNat) 0)<|aB (4:Nat) x.bits) (h0.extract 0 h1.toNat) (eG 0 (fp (Zq<|Yq (h0.extract 0 h1.toNat) 0)<|aB (6:Nat) x.bits) (h0.extract 0 h1.toNat) 1 h.a.m) h.b.m) h.c.m=nf h0 y h1 h
def PM(h0:M)(h1 h:Int)(x:IntKind)(y:T3):Int×Int:=lV 1 (fp (Zq<|Yq (h0.extract 0 h1.toNat) (h+bH (h0.extract 0 h1.toNat) h).toNat)<|aB (4:Nat) x.bits) (h0.extract 0 h1.toNat) (eG 0 (fp (Zq<|Yq (h0.extract 0 h1.toNat) (h+bH (h0.extract 0 h1.toNat) h).toNat)<|aB (6:Nat) x.bits) (h0.extract 0 h1.toNat) (Wq<|h+bH (h0.extract 0 h1.toNat) h+1) y.a.m) y.b.m
def FG(h0:M)(h1 h:Int)(x:IntKind)(y:T3):Int:=eG 1 (fp (Zq<|Yq (h0.extract 0 h1.toNat) (h+bH (h0.extract 0 h1.toNat) h).toNat)<|aB (4:Nat) x.bits) (h0.extract 0 h1.toNat) (eG 0 (fp (Zq<|Yq (h0.extract 0 h1.toNat) (h+bH (h0.extract 0 h1.toNat) h).toNat)<|aB (6:Nat) x.bits) (h0.extract 0 h1.toNat) (Wq<|h+bH (h0.extract 0 h1.toNat) h+1) y.a.m) y.b.m
def Ij(h0:M)(h1:Int)(h:IntKind)(x:T3):Int×Int:=lV 2 (fp (Zq<|Yq (h0.extract 0 h1.toNat) 0)<|aB (2:Nat) h.bits) (h0.extract 0 h1.toNat) (eG 1 (fp (Zq<|Yq (h0.extract 0 h1.toNat) 0)<|aB (4:Nat) h.bits) (h0.extract 0 h1.toNat) (eG 0 (fp (Zq<|Yq (h0.extract 0 h1.toNat) 0)<|aB (6:Nat) h.bits) (h0.extract 0 h1.toNat) 1 x.a.m) x.b.m) x.c.m
def tE(h0:Prop):Prop:=Rq 3 (Zq 3)<|False/\False/\h0
def Vd(h0:M)(h1:Int)(y:IntKind)(x h:T3)(z:Prop):Prop:=qM 0 (fp (Zq<|Yq (h0.extract 0 h1.toNat) 0)<|aB (6:Nat) y.bits) (h0.extract 0 h1.toNat) 1 x.a.m=h.a.m/\qN 0 (fp (Zq<|Yq (h0.extract 0 h1.toNat) 0)<|aB (6:Nat) y.bits) (h0.extract 0 h1.toNat) 1 x.a.m x.a.s=h.a.s/\tU 0 (fp (Zq<|Yq (h0.extract 0 h1.toNat) 0)<|aB (6:Nat) y.bits) (h0.extract 0 h1.toNat) 1 x.a.m x.a.g=h.a.g/\sU 0 (fp (Zq<|Yq (h0.extract 0 h1.toNat) 0)<|aB (6:Nat) y.bits) (h0.extract 0 h1.toNat) 1 x.a.m x.a.p=h.a.p/\0=h.b.m/\0=h.b.s/\0=h.b.g/\h.b.p.length=0/\0=h.c.m/\0=h.c.s/\0=h.c.g/\z
def Ve(h0:M)(h1 h:Int)(y:IntKind)(x:T3)(z:Prop):Prop:=(0:Int)<=1/\(1:Int)<=2/\Ii (Zq<|Yq (h0.extract 0 h1.toNat) (h+bH (h0.extract 0 h1.toNat) h).toNat) (aB (4:Nat) y.bits)/\Ih (Zq<|Yq (h0.extract 0 h1.toNat) (h+bH (h0.extract 0 h1.toNat) h).toNat) (aB (4:Nat) y.bits)/\0<=eG 0 (fp (Zq<|Yq (h0.extract 0 h1.toNat) (h+bH (h0.extract 0 h1.toNat) h).toNat)<|aB (6:Nat) y.bits) (h0.extract 0 h1.toNat) (Wq<|h+bH (h0.extract 0 h1.toNat) h+1) x.a.m/\eG 0 (fp (Zq<|Yq (h0.extract 0 h1.toNat) (h+bH (h0.extract 0 h1.toNat) h).toNat)<|aB (6:Nat) y.bits) (h0.extract 0 h1.toNat) (Wq<|h+bH (h0.extract 0 h1.toNat) h+1) x.a.m<=ak (h0.extract 0 h1.toNat)/\(h0.extract 0 h1.toNat).size<=600/\tbE 1 x.b.m x.b.s x.b.g x.b.p=0/\z
def Vf(h0:M)(h1:Int)(x:IntKind)(h:T3)(y:Prop):Prop:=(0:Int)<=2/\(2:Int)<=2/\Ii (Zq<|Yq (h0.extract 0 h1.toNat) 0) (aB (2:Nat) x.bits)/\Ih (Zq<|Yq (h0.extract 0 h1.toNat) 0) (aB (2:Nat) x.bits)/\0<=eG 1 (fp (Zq<|Yq (h0.extract 0 h1.toNat) 0)<|aB (4:Nat) x.bits) (h0.extract 0 h1.toNat) (eG 0 (fp (Zq<|Yq (h0.extract 0 h1.toNat) 0)<|aB (6:Nat) x.bits) (h0.extract 0 h1.toNat) 1 h.a.m) h.b.m/\eG 1 (fp (Zq<|Yq (h0.extract 0 h1.toNat) 0)<|aB (4:Nat) x.bits) (h0.extract 0 h1.toNat) (eG 0 (fp (Zq<|Yq (h0.extract 0 h1.toNat) 0)<|aB (6:Nat) x.bits) (h0.extract 0 h1.toNat) 1 h.a.m) h.b.m<=ak (h0.extract 0 h1.toNat)/\(h0.extract 0 h1.toNat).size<=600/\tbE 2 h.c.m h.c.s h.c.g h.c.p=0/\y
def Vm(h0:M)(h1:Int)(x:IntKind)(h:T3)(y:Int):Prop:=eG 1 (fp (Zq<|Yq (h0.extract 0 h1.toNat) 0)<|aB (4:Nat) x.bits) (h0.extract 0 h1.toNat) (eG 0 (fp (Zq<|Yq (h0.extract 0 h1.toNat) 0)<|aB (6:Nat) x.bits) (h0.extract 0 h1.toNat) 1 h.a.m) h.b.m=nf h0 y h1 h
def PR(h0:M)(h1:Int)(h:IntKind)(x:T3):Int×Int:=lV 1 (fp (Zq<|Yq (h0.extract 0 h1.toNat) 0)<|aB (4:Nat) h.bits) (h0.extract 0 h1.toNat) (eG 0 (fp (Zq<|Yq (h0.extract 0 h1.toNat) 0)<|aB (6:Nat) h.bits) (h0.extract 0 h1.toNat) 1 x.a.m) x.b.m
def Vt(h0:M)(h1 h:Int)(y:IntKind)(x:T3):Prop:=eG 0 (fp (Zq<|Yq (h0.extract 0 h1.toNat) (h+bH (h0.extract 0 h1.toNat) h).toNat)<|aB (6:Nat) y.bits) (h0.extract 0 h1.toNat) (ay<|h+bH (h0.extract 0 h1.toNat) h) x.a.m=nf h0 h h1 x
def Vv(h0:M)(h1:Int)(x:IntKind)(h:T3)(y:Prop):Prop:=(0:Int)<=1/\(1:Int)<=2/\Ii (Zq<|Yq (h0.extract 0 h1.toNat) 0) (aB (4:Nat) x.bits)/\Ih (Zq<|Yq (h0.extract 0 h1.toNat) 0) (aB (4:Nat) x.bits)/\0<=eG 0 (fp (Zq<|Yq (h0.extract 0 h1.toNat) 0)<|aB (6:Nat) x.bits) (h0.extract 0 h1.toNat) 1 h.a.m/\eG 0 (fp (Zq<|Yq (h0.extract 0 h1.toNat) 0)<|aB (6:Nat) x.bits) (h0.extract 0 h1.toNat) 1 h.a.m<=ak (h0.extract 0 h1.toNat)/\(h0.extract 0 h1.toNat).size<=600/\tbE 1 h.b.m h.b.s h.b.g h.b.p=0/\y
def PT(h0:M)(h1 h:Int)(x:IntKind)(y:T3):Int×Int:=lV 0 (fp (Zq<|Yq (h0.extract 0 h1.toNat) (h+bH (h0.extract 0 h1.toNat) h).toNat)<|aB (6:Nat) x.bits) (h0.extract 0 h1.toNat) (ay<|h+bH (h0.extract 0 h1.toNat) h) y.a.m
def VD(h0:M)(h1 h:Int)(y:IntKind)(x:T3):Prop:=eG 2 (fp (Zq<|Yq (h0.extract 0 h1.toNat) (h+bH (h0.extract 0 h1.toNat) h).toNat)<|aB (2:Nat) y.bits) (h0.extract 0 h1.toNat) (FG h0 h1 h .i64 x) x.c.m=nf h0 h h1 x
def VG(h0:M)(h1 h:Int)(y:IntKind)(x z:T3):Prop:=sU 2 (fp (Zq<|Yq (h0.extract 0 h1.toNat) (h+bH (h0.extract 0 h1.toNat) h).toNat)<|aB (2:Nat) y.bits) (h0.extract 0 h1.toNat) (FG h0 h1 h .i64 x) x.c.m x.c.p=z.c.p
def VH(h0:M)(h1 h:Int)(y:IntKind)(x z:T3):Prop:=tU 2 (fp (Zq<|Yq (h0.extract 0 h1.toNat) (h+bH (h0.extract 0 h1.toNat) h).toNat)<|aB (2:Nat) y.bits) (h0.extract 0 h1.toNat) (FG h0 h1 h .i64 x) x.c.m x.c.g=z.c.g
def Ly(h0 h1:Nat)(e:Int)(k:Nat)(r u:Prop)(v:M)(w i:Int)(j:T3)(h x:M)(y z:Prop):Prop:=Dq ((0:Int)<3) ((0:Int)<=6/\xX (Ii (Zq h0)<|aB (6:Nat) h1) (Ih e k/\r/\u))<|aL<|zZ v w i j/\h=x/\y/\z
def Iq(h0:M)(h1 h:Int)(y:IntKind)(x:T3):Int×Int:=lV 2 (fp (Zq<|Yq (h0.extract 0 h1.toNat) (h+bH (h0.extract 0 h1.toNat) h).toNat)<|aB (2:Nat) y.bits) (h0.extract 0 h1.toNat) (FG h0 h1 h .i64 x) x.c.m
def VU(h0:T3)(h1:Prop):Prop:=0=h0.b.m/\0=h0.b.s/\0=h0.b.g/\ck h0.b.p/\0=h0.c.m/\0=h0.c.s/\0=h0.c.g/\h1
def LH(h0:M)(h1 h:Int)(x y:T3)(z:Prop):Prop:=PO h0 h1 h .i64 x (qK h0 h h1 x)<|aeG h0 h1 h .i64 x y z
def V_(h0:M)(h1:Int)(x:IntKind)(h:T3)(y:Int):Prop:=eG 0 (fp (Zq<|Yq (h0.extract 0 h1.toNat) 0)<|aB (6:Nat) x.bits) (h0.extract 0 h1.toNat) 1 h.a.m=nf h0 y h1 h
def zu(h0:M)(h1:Int):Prop:=kv<|h0.extract 0 h1.toNat
def P6(h0:M)(h1:Int)(h:IntKind)(x:T3):Int×Int:=lV 0 (fp (Zq<|Yq (h0.extract 0 h1.toNat) 0)<|aB (6:Nat) h.bits) (h0.extract 0 h1.toNat) 1 x.a.m
def It(h0:M)(h1 h:Int)(x:T3)(y:Prop):Prop:=zZ h0 h1 h x/\h0.extract 0 h.toNat=c h0 h/\y
def F6(h0:M)(h1 h:Int)(x:T3):Int×List (N):=gJ ((c h0 h1).extract (nf h0 h h1 x).toNat (ak<|c h0 h1).toNat) (jh (c h0 h1) h)<|qK h0 h h1 x
def LO(h0:M)(h1:Int)(h:T3)(x:Int)(y:T3)(z:Prop):Prop:=aez h0 h1 .i64 h (qK h0 x h1 h)<|afA h0 h1 .i64 h y z
def P7(h0:T3)(h1:Prop):Prop:=0=h0.c.m/\0=h0.c.s/\0=h0.c.g/\h1
def ye(h0:M)(h1 h:Int)(x:T3)(y z:Prop):Prop:=AG z3 (eC h0 h1 h x)<|y/\z
def avw(s:M)(a e:Int)(T:T3)(D P i p j h v n d k:Prop)(f:Int)(w:Prop)(W:Int)(y:T3)(z:Int×Int)(r:T3)(u:q)(g:Int)(x:M):Prop:=nS a k p e i<|Dq (e>ak s) i<|B6 T<|sF k j ((0:Int)<=0)<|aF e (e<=ak s)<|pG (li x a) (bD x) (Bq ((0:Int) !=0) (k/\j)<|Bq (jh x a==0) (Dq (f<e) (k/\ye s a e T v (22=W/\h)) P)<|Bq (f==e) (k/\ye s a e T v (5=W/\h))<|Rq f (ak x)<|bS (bits .and .i64 (l6 x f.toNat) 3) k (ye s a e T v<|15=W/\h) (Ly (Yq x f.toNat) IntKind.i64.bits (Zq<|Yq x f.toNat) (aB (6:Nat) IntKind.i64.bits) (cE<|f+1) (ay f<=ak x/\zu s e/\wW T/\aef (PT s e a .i64 T) u s a e T r z ((0:Int)<=4) (Rq 1 (Zq 3)<|Ve s e a .i64 T<|afw (PM s e a .i64 T) u s a e T r z ((0:Int)<=2) (Rq 2 (Zq 3)<|U7 s e a .i64 T<|aeQ (Iq s e a .i64 T) u s a e T r z ((0:Int)<=0) (tE<|jL<|False/\tE (aeS (Iq s e a .i64 T) u s a e T r z))<|It s a e T<|VD s e a .i64 T/\n/\LH s e a T y (U3 s e a .i64 T y<|VH s e a .i64 T y/\VG s e a .i64 T y/\F2 (Iq s e a .i64 T) s a e T))<|It s a e T<|FG s e a .i64 T=g/\n/\LH s e a T y (U9 s e a .i64 T=y.b.p/\P7 y (d/\F2 (PM s e a .i64 T) s a e T))) (It s a e T<|Vt s e a .i64 T/\n/\PO s e a .i64 T y (VU y<|d/\F2 (PT s e a .i64 T) s a e T))) s a e T x (c s e) (ay f=g)<|n/\tF y (a_/\0=sxF s a e T)) D)<|Bq ((kZ x a).1 !=0) (k/\Lr s a e T z3 r (kZ x a) z)<|Bq ((0:Int)==0) (Dq (0<e) (k/\ye s a e T v (22=W/\0=z.2)) P)<|Bq (0==e) (k/\ye s a e T v (5=W/\0=z.2))<|Rq 0 (ak x)<|bS (bits .and .i64 (Wq<|Zq<|Yq x 0) 3) k (ye s a e T v<|15=W/\0=z.2) (Ly (Yq x 0) IntKind.i64.bits (Zq<|Yq x 0) (aB (6:Nat) IntKind.i64.bits) ((0:Int)<=1) (1<=ak x/\zu s e/\wW T/\aef (P6 s e .i64 T) u s a e T r z ((0:Int)<=4) (Rq 1 (Zq 3)<|Vv s e .i64 T<|afw (PR s e .i64 T) u s a e T r z ((0:Int)<=2) (Rq 2 (Zq 3)<|Vf s e .i64 T<|aeQ (Ij s e .i64 T) u s a e T r z ((0:Int)<=0) (tE<|jL<|False/\tE (aeS (Ij s e .i64 T) u s a e T r z))<|It s a e T<|Va s e .i64 T a/\w/\LO s e T a y (U6 s e .i64 T y<|U_ s e .i64 T=y.c.p/\F2 (Ij s e .i64 T) s a e T))<|It s a e T<|Vm s e .i64 T a/\w/\LO s e T a y (P7 y<|d/\F2 (PR s e .i64 T) s a e T)) (It s a e T<|V_ s e .i64 T a/\w/\Vd s e .i64 T y (d/\F2 (P6 s e .i64 T) s a e T))) s a e T x (c s e) (1=g)<|w/\tF y (F2 (kZ x a) s a e T)) D
def avv(s:M)(a e:Int)(T:T3):Prop:=avw s a e T (eO<|zZ s a e T->aF (nf s a e T) (nf s a e T<=ak (c s e)) (w_ (c s e)/\bD ((c s e).extract (nf s a e T).toNat (ak<|c s e).toNat)/\B6 (qK s a e T) (bS (F6 s e a T).1 (([]:q)=jC s a e T) (ye s a e T (z3.c.p=(eC s a e T).c.p)<|(F6 s e a T).1=(iH s a e T).1/\nf s a e T=(iH s a e T).2) ((F6 s e a T).2=jC s a e T)<|AG (qK s a e T) (eC s a e T)<|(qK s a e T).c.p=(eC s a e T).c.p/\dO (iH s a e T)))) (gZ (jC s a e T)/\AG T (eC s a e T) (T.c.p=(eC s a e T).c.p/\dO (iH s a e T))) (([]:q)=jC s a e T/\ye s a e T (z3.c.p=(eC s a e T).c.p) (ig<|iH s a e T)) (ye s a e T (z3.c.p=(eC s a e T).c.p)<|ig<|iH s a e T) (ye s a e T (z3.c.p=(eC s a e T).c.p)<|dO<|iH s a e T) (a+bH (gI s e) a=(iH s a e T).2) (z3.c.p=(eC s a e T).c.p) (jh (gI s e) a=jh (c s e) a) (ck (qK s a e T).c.p) (([]:q)=jC s a e T) (a+bH (gI s e) a) (0=jh (c s e) a) (iH s a e T).1 (qK s a e T) (iH s a e T) (eC s a e T) (jC s a e T) (nf s a e T)<|gI s e
def aq'(h0:T3)(h1:Prop):Prop:=0=h0.a.m/\0=h0.a.s/\0=h0.a.g/\h0.a.p.length=0/\0=h0.b.m/\0=h0.b.s/\0=h0.b.g/\h0.b.p.length=0/\0=h0.c.m/\0=h0.c.s/\0=h0.c.g/\h1
def aeL(h0:Int×Int)(h1:q)(x:M)(y z:Int)(e:T3)(k:Int×Int)(r:Int)(u v h:Prop):Prop:=Rq 2 (Zq 3)<|Bq (h0.1 !=0) (h1.length=0/\tF (eC x y z e) (iU h0 k))<|Dq ((3:Int)<3) ((0:Int)<=0/\Rq 3 r u)<|aL<|v/\h
def aeP(h0:Int×Int)(h1:q)(h:M)(x y:Int)(z:T3)(e:Int×Int):Prop:=Bq (h0.1 !=0) (h1.length=0/\tF (eC h x y z) (iU h0 e)) False
def F4(h0:T3)(h1:Prop):Prop:=0=h0.a.m/\0=h0.a.s/\0=h0.a.g/\(0:Nat)=0/\0=h0.b.m/\0=h0.b.s/\0=h0.b.g/\(0:Nat)=0/\0=h0.c.m/\0=h0.c.s/\0=h0.c.g/\(0:Nat)=0/\(0:Int)=0/\(0:Int)=0/\0=h0.a.m/\0=h0.a.s/\0=h0.a.g/\(0:Nat)=0/\0=h0.b.m/\0=h0.b.s/\0=h0.b.g/\(0:Nat)=0/\0=h0.c.m/\0=h0.c.s/\0=h0.c.g/\(0:Nat)=0/\h1
def afs(h0:Int×Int)(h1:q)(x:M)(y z:Int)(e:T3)(k:Int×Int)(r:Int)(u v h:Prop):Prop:=Rq 1 (Zq 3)<|Bq (h0.1 !=0) (h1.length=0/\tF (eC x y z e) (iU h0 k))<|Dq ((2:Int)<3) ((0:Int)<=2/\Rq 2 r u)<|aL<|v/\h
def aeb(h0:Int×Int)(h1:q)(x:M)(y z:Int)(e:T3)(k:Int×Int)(r:Int)(u v h:Prop):Prop:=Rq 0 (Zq 3)<|Bq (h0.1 !=0) (h1.length=0/\tF (eC x y z e) (iU h0 k))<|Dq ((1:Int)<3) ((0:Int)<=4/\Rq 1 r u)<|aL<|v/\h
def WB(h0:M)(h1 h:Int)(x:Prop):Prop:=gI h0 h1=c h0 h1/\jh (gI h0 h1) h=jh (c h0 h1) h/\x
def atv(s:M)(a e:Int)(T:T3)(D P i p j h n:Prop)(z:Int)(v r:Prop)(f:T3)(y:Int×Int)(W:T3)(k:q)(w:Int)(u:Prop)(x:M):Prop:=Dq (a<0) p<|Dq (e<a) p<|Dq (e>ak s) p<|B6 T<|sF r (tF W<|dO y) ((0:Int)<=0)<|aF e (e<=ak s)<|pG (li x a) (bD x) (Bq ((0:Int) !=0) (r/\tF W (dO y))<|Bq (jh x a==0) (Dq (z<e) (r/\tF W (22=y.1/\z=y.2)) P)<|Bq (z==e) i<|Rq z (ak x)<|(4:Int)≠0/\bS ((l6 x z.toNat).tmod 4) r (tF W<|15=y.1/\z=y.2) (Ly (Yq x z.toNat) IntKind.i64.bits (Zq<|Yq x z.toNat) (aB (6:Nat) IntKind.i64.bits) (cE<|z+1) (ay z<=ak x/\zu s e/\wW T/\aeb (PT s e a .i64 T) k s a e T y (Zq 3) (Ve s e a .i64 T<|afs (PM s e a .i64 T) k s a e T y (Zq 3) (U7 s e a .i64 T<|aeL (Iq s e a .i64 T) k s a e T y (Zq 3) (jL<|jL<|False/\tE (aeP (Iq s e a .i64 T) k s a e T y)) u<|WB s e a<|VD s e a .i64 T/\F4 z3 (LH s e a T f<|U3 s e a .i64 T f<|VH s e a .i64 T f/\VG s e a .i64 T f)) u<|WB s e a<|FG s e a .i64 T=w/\F4 z3 (LH s e a T f<|U9 s e a .i64 T=f.b.p/\h)) u (WB s e a<|Vt s e a .i64 T/\F4 z3 (PO s e a .i64 T f<|VU f n))) s a e T x (c s e) (jh x a=jh (c s e) a)<|ay z=w/\j) D)<|Bq ((kZ x a).1 !=0) (r/\tF W (iU (kZ x a) y))<|Bq ((0:Int)==0) (Dq (0<e) (r/\tF W (22=y.1/\0=y.2)) P)<|Bq (0==e) i<|Rq 0 (ak x)<|(4:Int)≠0/\bS ((Wq<|Zq<|Yq x 0).tmod 4) r (tF W<|15=y.1/\0=y.2) (Ly (Yq x 0) IntKind.i64.bits (Zq<|Yq x 0) (aB (6:Nat) IntKind.i64.bits) ((0:Int)<=1) (1<=ak x/\zu s e/\wW T/\aeb (P6 s e .i64 T) k s a e T y (Zq 3) (Vv s e .i64 T<|afs (PR s e .i64 T) k s a e T y (Zq 3) (Vf s e .i64 T<|aeL (Ij s e .i64 T) k s a e T y (Zq 3) (jL<|jL<|False/\tE (aeP (Ij s e .i64 T) k s a e T y)) u<|x=c s e/\v/\Va s e .i64 T a/\F4 z3 (LO s e T a f<|U6 s e .i64 T f<|U_ s e .i64 T=f.c.p)) u<|x=c s e/\v/\Vm s e .i64 T a/\F4 z3 (LO s e T a f h)) u (x=c s e/\v/\V_ s e .i64 T a/\F4 z3 (Vd s e .i64 T f n))) s a e T x (c s e) v<|1=w/\j) D
def atu(s:M)(a e:Int)(T:T3):Prop:=atv s a e T (eO<|zZ s a e T->aF (nf s a e T) (nf s a e T<=ak (c s e)) (w_ (c s e)/\bD ((c s e).extract (nf s a e T).toNat (ak<|c s e).toNat)/\B6 (qK s a e T) (bS (F6 s e a T).1 (gZ<|jC s a e T) (ye s a e T (z3.c.p=(eC s a e T).c.p)<|(F6 s e a T).1=(iH s a e T).1/\nf s a e T=(iH s a e T).2) ((F6 s e a T).2=jC s a e T)<|AG (qK s a e T) (eC s a e T)<|(qK s a e T).c.p=(eC s a e T).c.p/\dO (iH s a e T)))) (gZ (jC s a e T)/\AG T (eC s a e T) (T.c.p=(eC s a e T).c.p/\dO (iH s a e T))) (gZ (jC s a e T)/\tF (eC s a e T) (zy (iH s a e T) e)) (gZ (jC s a e T)/\tF (eC s a e T) (ig<|iH s a e T)) (F4 z3<|aq' (qK s a e T)<|ck (qK s a e T).c.p) (P7 (qK s a e T)<|ck (qK s a e T).c.p) (ck (qK s a e T).c.p) (a+bH (gI s e) a) (0=jh (c s e) a) (gZ<|jC s a e T) (qK s a e T) (iH s a e T) (eC s a e T) (jC s a e T) (nf s a e T) (zZ s a e T)<|gI s e
section
variable{s S:M}{a e q x y:Int}{T:T3}
def XR(s:M)(a e:Int)(T:T3)(U:T3)(x y:Int):Prop:=
 U.a.m=(eC s a e T).a.m/\U.a.s=(eC s a e T).a.s/\U.a.g=(eC s a e T).a.g/\U.a.p=(eC s a e T).a.p/\U.b.m=(eC s a e T).b.m/\U.b.s=(eC s a e T).b.s/\U.b.g=(eC s a e T).b.g/\U.b.p=(eC s a e T).b.p/\U.c.m=(eC s a e T).c.m/\U.c.s=(eC s a e T).c.s/\U.c.g=(eC s a e T).c.g/\U.c.p=(eC s a e T).c.p/\x=(iH s a e T).1/\y=(iH s a e T).2
def zI(z:x≠0)(h:iH s a e T=(x,y)): []=jC s a e T/\XR s a e T z3 x y:=by grind [XR,jC,eC]
def XS{U:T3}(z:eC s a e T=U)(h:iH s a e T=(x,y)):XR s a e T U x y:=by grind [XR]
def akK:∀b:Nat,b<256->bits .and .i64 (kQ (Q .i64 (b:Nat))<|2^min 6 IntKind.i64.bits) 3=(b:Int)/2^6%4:=by decide+kernel
def akJ:∀b:Nat,b<256->bits .and .i64 (kQ (Q .i64 (b:Nat))<|2^min 4 IntKind.i64.bits) 3=(b:Int)/2^4%4:=by decide+kernel
def akI:∀b:Nat,b<256->bits .and .i64 (kQ (Q .i64 (b:Nat))<|2^min 2 IntKind.i64.bits) 3=(b:Int)/2^2%4:=by decide+kernel
def azS:∀b:Nat,b<256->bits .and .i64 (Q .i64 (b:Nat)) 3=(b:Int)%4:=by decide+kernel
def CW(s:M)(i:Nat):(s.data.toList.getD i 0).toNat<256:=Ec _
def aQH:1<=bH S a:=by grind [bH]
def aha(h:li S a=ab)(z:a+bH S a=q):1<=q/\q<=S.size/\0<=a:=by unfold li lc at h;simp at h;have:=aQH (S:=S) (a:=a);omega
def ahA(h:¬uK s a e):((c s e).size:Int)=e:=by grind [uK,c,ByteArray.size_extract]
structure Rd3 (S:M) (q:Int) (T:T3):Prop where
 n0:0<=q+1
 n1:q+1<=S.size
 m:∀k,0<=rp S q k/\rp S q k<=3
 a:(wg S q T).1=0->0<=IP S q T/\IP S q T<=S.size/\(AS S q T).a.R 0
 b:(wg S q T).1=0->(zH S q T).1=0->0<=IQ S q T/\IQ S q T<=S.size/\(AS S q T).b.R 1
 c:(wg S q T).1=0->(zH S q T).1=0->(Cu S q T).1=0->0<=Gs S q T/\Gs S q T<=S.size/\(AS S q T).c.R 2
def rd3(r:S.size<=600)(z:T.R)(h0:0<=q)(h1:q<S.size):Rd3 S q T:=by
 have M:∀k,0<=rp S q k/\rp S q k<=3:=λk=>by grind [rp]
 have A:(wg S q T).1=0->0<=IP S q T/\IP S q T<=S.size/\(AS S q T).a.R 0:=λh=>by
  have:=ahS H H (M 0) Y Y r h;exact⟨this.1,this.2,ahT H H (M 0) z.1 h⟩
 have B:(wg S q T).1=0->(zH S q T).1=0->0<=IQ S q T/\IQ S q T<=S.size/\(AS S q T).b.R 1:=λg h=>by
  have:=ahS H H (M 1) (A g).1 (A g).2.1 r h;exact⟨this.1,this.2,ahT H H (M 1) z.2.1 h⟩
 refine⟨Y,Y,M,A,B,λf g h=>?_⟩;have:=ahS H H (M 2) (B f g).1 (B f g).2.1 r h;exact⟨this.1,this.2,ahT H H (M 2) z.2.2 h⟩
def QE(h:¬uK s a e):iH s a e T=xd (c s e) a T:=V h
def ahm(g:li S a=ah):xd S a T=kZ S a:=I g
def ahr(g:li S a=ab)(n:jh S a=0):xd S a T=if dM S a<S.size then(22,dM S a)else(0,0):=by grind [xd]
def ahs(g:li S a=ab)(n:¬jh S a=0)(h:dM S a=S.size):xd S a T=(5,dM S a):=by grind [xd]
def ahq(g:li S a=ab)(n:¬jh S a=0)(h:¬dM S a=S.size)(k:u S (dM S a)%4≠0):xd S a T=(15,dM S a):=by grind [xd]
def XK(g:li S a=ab)(n:¬jh S a=0)(h:¬dM S a=S.size)(k:u S (dM S a)%4=0):xd S a T=if(wg S (dM S a) T).1≠0 then wg S (dM S a) T else if(zH S (dM S a) T).1≠0 then zH S (dM S a) T else if(Cu S (dM S a) T).1≠0 then Cu S (dM S a) T
 else if(yo S a T).1≠0 then((yo S a T).1,Gs S (dM S a) T)else(0,0):=by grind [xd]
def ahn(g:li S a=ab)(n:¬jh S a=0)(h:¬dM S a=S.size)(k:u S (dM S a)%4=0)(e:(wg S (dM S a) T).1≠0):xd S a T=wg S (dM S a) T:=by rw[XK g n h k,I e]
def aho(g:li S a=ab)(n:¬jh S a=0)(h:¬dM S a=S.size)(k:u S (dM S a)%4=0)(z:(wg S (dM S a) T).1=0)(e:(zH S (dM S a) T).1≠0):xd S a T=zH S (dM S a) T:=by rw[XK g n h k,V λh=>h z,I e]
def ahp(g:li S a=ab)(n:¬jh S a=0)(h:¬dM S a=S.size)(k:u S (dM S a)%4=0)(z:(wg S (dM S a) T).1=0)(r:(zH S (dM S a) T).1=0)(e:(Cu S (dM S a) T).1≠0):xd S a T=Cu S (dM S a) T:=by rw[XK g n h k,V λh=>h z,V λh=>h r,I e]
def avZ(D:zZ s a e T):iH s a e T=if(yo (c s e) a T).1≠0 then((yo (c s e) a T).1,nf s a e T)else(0,0):=by rw[QE D.b,XK D.g D.n D.q D.m,V λh=>h D.e0,V λh=>h D.e1,V λh=>h D.e2];rfl
def av0(D:zZ s a e T)(h:(yo (c s e) a T).1≠0):iH s a e T=((yo (c s e) a T).1,nf s a e T):=by rw[avZ D,I h]
def av1(b:¬uK s a e)(g:li (c s e) a=ab)(n:jh (c s e) a=0)(h:¬dM (c s e) a<(c s e).size):iH s a e T=(0,0)/\jC s a e T= []/\eC s a e T=T:=by
 have E:iH s a e T=(0,0):=by rw[QE b,ahr g n,V h]
 grind [jC,eC]
def avY(D:zZ s a e T)(h:(yo (c s e) a T).1=0):iH s a e T=(0,0)/\jC s a e T=(yo (c s e) a T).2/\eC s a e T=qK s a e T:=by
 have E:iH s a e T=(0,0):=by rw[avZ D,V λk=>k h]
 unfold jC eC;rw[E,I rfl,I rfl,V D.n,V D.n];exact⟨rfl,rfl,rfl⟩
def ahy(r:s.size<=600)(h:T.R)(D:zZ s a e T):0<=nf s a e T/\nf s a e T<=(c s e).size/\(qK s a e T).R/\(c s e).size<=600:=by have u:=ahA D.b;have z:=D.b;unfold uK at z;have hi:=aha D.g (q:=dM (c s e) a) rfl;have k:=D.q;have R:=rd3 (S:=c s e) (q:=dM (c s e) a) Y h Y Y;have A:=R.a D.e0;have B:=R.b D.e0 D.e1;have C:=R.c D.e0 D.e1 D.e2;exact⟨C.1,C.2.1,⟨A.2.2,B.2.2,C.2.2⟩,Y⟩
end
section
variable{s S:M}{a e q x y:Int}{T:T3}
end
section
variable{s S:M}{a e q x y:Int}{T:T3}
def azU:∀b:Nat,b<256->kf (Q .i64 (b:Nat)) 4=(b:Int)%4:=by decide+kernel
def Cw(z:x≠0)(h:iH s a e T=(x,y)):(jC s a e T).length=0/\0=(eC s a e T).a.m/\0=(eC s a e T).a.s/\0=(eC s a e T).a.g/\(eC s a e T).a.p.length=0/\0=(eC s a e T).b.m/\0=(eC s a e T).b.s/\0=(eC s a e T).b.g/\(eC s a e T).b.p.length=0/\0=(eC s a e T).c.m/\0=(eC s a e T).c.s/\0=(eC s a e T).c.g/\(eC s a e T).c.p.length=0/\x=(iH s a e T).1/\y=(iH s a e T).2:=by unfold jC eC;rw[h,V z,V z];exact⟨rfl,rfl,rfl,rfl,rfl,rfl,rfl,rfl,rfl,rfl,rfl,rfl,rfl,rfl,rfl⟩
end
def aQ2:=aPW.gd m.nil Tryz.func118 λ⟨e,a⟩ _=>⟨aK,J (p:=(0:Nat)=0/\arm z3 (e=e/\a=a))<|by unfold arm;exact⟨rfl,rfl,rfl,rfl,rfl,rfl,rfl,rfl,rfl,rfl,rfl,rfl,rfl,rfl,rfl⟩⟩
def Zv:=m.cons aQ2<|ayH
def aQ1:=Xz.gE auH Zv Tryz.func80 λ⟨s,a,e,T⟩ ⟨V,f,o,t,_⟩=>⟨(aIY s a e T),J (p:=avv s a e T)<|by
 have C:T.R:=⟨f,o,t⟩;have T0:True:=trivial;unfold avv avw eO afw aF ye a_ gI P7 w_ LO afA F6 It P6 l6 zu V_ F2 LH aeS sF VU aeQ aeG Iq Ly VH VG nS ig VD PT aez kv gZ Vv Vt jL dO PR Vm tF ay ck PO Vf Ve Vd tE pG ak Ij FG PM Va U_ xX cE U9 wW aef aL Lr B6 U7 bS U6 U3 fp Ii AG Ih bD Rq Wq Zq Yq;simp only[H3,H4,H5,KQ,KR,KS,Uh,Ui,Uj,Up,Ur,Us,Uo,yQ,d13,d23,d33,zA,zC,zD,sd];have d:uK s a e->iH s a e T=(2,0):=λh=>I h;refine dq (λh=>zI H<|d<|.inl h) λg1=>dq (λh=>zI H<|d<|.inr<|.inl h) λg2=>dq (λh=>zI H<|d<|.inr<|.inr h) λg3=>⟨f,o,t,H,Y,Y,?_⟩;have i:¬uK s a e:=by unfold uK;omega
 have hz:=ahA i;have z:=QE (T:=T) i;have l:s.extract 0 e.toNat=c s e:=rfl;rw[l];have j:(c s e).size<=600:=Y;have v:=λD=>@ahy s a e T V C D;have S:=λg n h=>@av1 s a e T i g n h;have P:=λD h=>@avY s a e T D h;have Q:=λD h=>@av0 s a e T D h;have hQ:dM (c s e) a=a+bH (c s e) a:=rfl;refine cq (λg=>⟨Y,de (λn=>?_) λn=>?_⟩) λg=>?_
 .refine dq (λh=>zI H ?_) λh=>?_
  .rw[z,ahr g n,I Y];rfl
  .obtain⟨E,L,U⟩:=S g n Y
   exact⟨by rw[L];rfl,XS U E⟩
 .have x:=aha g rfl
  refine de (λh=>zI H ?_) λh=>?_
  .rw[z,ahs g n Y];rfl
  have R:=rd3 (T:=T) j C (q:=a+bH (c s e) a) Y Y;have r:¬dM (c s e) a=(c s e).size:=Y;have M:=(akK _<|CW (c s e) (a+bH (c s e) a).toNat).trans<|show _=rp (c s e) (a+bH (c s e) a) 0 from rfl;have K:=(akJ _<|CW (c s e) (a+bH (c s e) a).toNat).trans<|show _=rp (c s e) (a+bH (c s e) a) 1 from rfl;have G:=(akI _<|CW (c s e) (a+bH (c s e) a).toNat).trans<|show _=rp (c s e) (a+bH (c s e) a) 2 from rfl;have F:=(azS _<|CW (c s e) (a+bH (c s e) a).toNat).trans<|show _=u (c s e) (a+bH (c s e) a)%4 from rfl;rw[M,K,G,F,wr (n:=a+bH (c s e) a+1) Y Y];refine⟨Y,Y,bV (λh=>zI H ?_) λk=>⟨⟨H,H,H,(R.m 0).1,(R.m 0).2,R.n0,R.n1,j,f,bV (λh=>zI h ?_) λy=>⟨H,H,H,(R.m 1).1,(R.m 1).2,(R.a y).1,(R.a y).2.1,j,o,bV (λh=>zI h ?_) λw=>⟨H,H,H,(R.m 2).1,(R.m 2).2,(R.b y w).1,(R.b y w).2.1,j,t,bV (λh=>zI h ?_) λB=>?_⟩⟩⟩,λ_ D=>?_⟩⟩
  .rw[z,ahq g n r h];rfl
  .exact z.trans<|(ahn g n r k h).trans rfl
  .exact z.trans<|(aho g n r k y h).trans rfl
  .exact z.trans<|(ahp g n r k y w h).trans rfl
  .exact⟨(),⟨i,g,n,r,k,y,w,B⟩,rfl,rfl,rfl,rfl,rfl,rfl,rfl,rfl,rfl,rfl,rfl,rfl,rfl,rfl,rfl,B,rfl⟩
  .obtain⟨X,Z,A,t6⟩:=v D
   have l:(c s e).extract (nf s a e T).toNat ((c s e).size:Int).toNat=(c s e).extract (nf s a e T).toNat (c s e).size:=by rw[toNat_cast]
   rw[l];have N:((c s e).extract (nf s a e T).toNat (c s e).size).size<=1000000:=by rw[r8];omega
   refine⟨X,Z,jj _,N,A.1,A.2.1,A.2.2,bV (λh=>zI h ?_) λh=>?_⟩
   .exact(Q D h).trans rfl
   .obtain⟨E,L,U⟩:=P D h
    exact⟨L.symm,XS U E⟩
 .have g:li (c s e) a=ah:=by simpa using g
  refine⟨Y,bV (λh=>zI h ?_) λh=>?_⟩
  .rw[z,ahm g]
  .exfalso
   unfold kZ at h;cases W:lc (c s e) a<;>rw[W]at h<;>cases h⟩
def aNM:=Xz.gE auH Zv Tryz.func91 λ⟨s,a,e,T⟩ ⟨W,f,o,t,_⟩=>⟨(aIZ s a e T),J (p:=atu s a e T)<|by
 have C:T.R:=⟨f,o,t⟩;have T0:True:=trivial;unfold atu atv eO afs WB zy aF ye gI P7 w_ LO afA F6 P6 l6 zu F4 V_ LH sF VU aeP aeL aeG Iq Ly VH VG ig VD PT aez kv gZ Vv Vt jL dO PR Vm aq' ay ck PO Vf Ve Vd tE pG ak Ij FG PM Va U_ xX cE U9 wW B6 U7 bS U6 U3 fp aeb aL tF iU Ii AG Ih bD Rq Wq Zq Yq;simp only[H3,H4,H5,KQ,KR,KS,Uh,Ui,Uj,Up,Ur,Us,Uo,yQ,d13,d23,d33,zA,zC,zD,sd];have d:uK s a e->iH s a e T=(2,0):=λh=>I h;refine dq (λh=>Cw H<|d<|.inl h) λg1=>dq (λh=>Cw H<|d<|.inr<|.inl h) λg2=>dq (λh=>Cw H<|d<|.inr<|.inr h) λg3=>⟨f,o,t,H,Y,Y,?_⟩;have i:¬uK s a e:=by unfold uK;omega
 have hz:=ahA i;have z:=QE (T:=T) i;have l:s.extract 0 e.toNat=c s e:=rfl;rw[l];have j:(c s e).size<=600:=Y;have v:=λD=>@ahy s a e T W C D;have V:=λg n h=>@av1 s a e T i g n h;have Q:=λD h=>@avY s a e T D h;have S:=λD h=>@av0 s a e T D h;have hQ:dM (c s e) a=a+bH (c s e) a:=rfl;refine cq (λg=>⟨Y,de (λn=>?_) λn=>?_⟩) λg=>?_
 .refine dq (λh=>Cw H ?_) λh=>?_
  .rw[z,ahr g n,I Y];rfl
  .obtain⟨E,L,U⟩:=V g n Y
   exact⟨by rw[L];rfl,XS U E⟩
 .have x:=aha g rfl
  refine de (λh=>Cw H ?_) λh=>?_
  .rw[z,ahs g n Y];show(5,a+bH (c s e) a)=(5,e);rw[h]
  have R:=rd3 (T:=T) j C (q:=a+bH (c s e) a) Y Y;have r:¬dM (c s e) a=(c s e).size:=Y;have M:=(akK _<|CW (c s e) (a+bH (c s e) a).toNat).trans<|show _=rp (c s e) (a+bH (c s e) a) 0 from rfl;have K:=(akJ _<|CW (c s e) (a+bH (c s e) a).toNat).trans<|show _=rp (c s e) (a+bH (c s e) a) 1 from rfl;have G:=(akI _<|CW (c s e) (a+bH (c s e) a).toNat).trans<|show _=rp (c s e) (a+bH (c s e) a) 2 from rfl;have F:=(azU _<|CW (c s e) (a+bH (c s e) a).toNat).trans<|show _=u (c s e) (a+bH (c s e) a)%4 from rfl;rw[M,K,G,F,wr (n:=a+bH (c s e) a+1) Y Y];refine⟨Y,Y,H,bV (λh=>Cw H ?_) λk=>⟨⟨H,H,H,(R.m 0).1,(R.m 0).2,R.n0,R.n1,j,f,bV (λh=>Cw h ?_) λy=>⟨H,H,H,(R.m 1).1,(R.m 1).2,(R.a y).1,(R.a y).2.1,j,o,bV (λh=>Cw h ?_) λw=>⟨H,H,H,(R.m 2).1,(R.m 2).2,(R.b y w).1,(R.b y w).2.1,j,t,bV (λh=>Cw h ?_) λN=>?_⟩⟩⟩,λ_ D=>?_⟩⟩
  .rw[z,ahq g n r h];rfl
  .exact z.trans<|(ahn g n r k h).trans rfl
  .exact z.trans<|(aho g n r k y h).trans rfl
  .exact z.trans<|(ahp g n r k y w h).trans rfl
  .refine⟨(),⟨i,g,n,r,k,y,w,N⟩,?_⟩
   and_intros<;>first|exact gA|rfl
  .obtain⟨Z,t1,A,t6⟩:=v D
   have l:(c s e).extract (nf s a e T).toNat ((c s e).size:Int).toNat=(c s e).extract (nf s a e T).toNat (c s e).size:=by rw[toNat_cast]
   rw[l];have P:((c s e).extract (nf s a e T).toNat (c s e).size).size<=1000000:=by rw[r8];omega
   refine⟨Z,t1,jj _,P,A.1,A.2.1,A.2.2,bV (λh=>?_) λh=>?_⟩
   .have B:=zI h<|(S D h).trans rfl
    exact⟨by rw[<-B.1];rfl,B.2⟩
   .obtain⟨E,L,U⟩:=Q D h
    exact⟨L.symm,XS U E⟩
 .have g:li (c s e) a=ah:=by simpa using g
  refine⟨Y,bV (λh=>Cw h ?_) λh=>?_⟩
  .rw[z,ahm g]
  .exfalso
   unfold kZ at h;cases X:lc (c s e) a<;>rw[X]at h<;>cases h⟩
def ayI:=m.cons aQ1<| .cons aNM<|Zv
structure BS where
 a:Int
 b:Int
 c:Int
 l:N
 T:T3
def BS.v(S:BS):bL:=.v (.int .i64 S.a):: .v (.int .i64 S.b):: .v (.int .i64 S.c):: .bZ (.ints .i64 S.l)::S.T.v
def vm:List SV->Option BS
 |.v (.int .i64 a):: .v (.int .i64 b):: .v (.int .i64 c):: .bZ (.ints .i64 l)::r=>match IT r with
  |some T=>O ⟨a,b,c,l,T⟩
  |none=>ae
 |_=>ae
structure BS.R (S:BS):Prop where
 r:fI S.a S.b S.c
 l:S.l.length<=4294967296
 t:S.T.R
def iX(S:BS):Int:=if 0<S.l.length then cJ S.l else 0
def nT:T3:=⟨⟨-1,0,0,[]⟩,⟨-1,0,0,[]⟩,⟨-1,0,0,[]⟩⟩
def Bw:BS:=⟨1,4,8,[],nT⟩
def zB:BS:=⟨0,0,0,[],z3⟩
def uB:BS:=⟨0,0,0,[],nT⟩
def vq(b:M)(a e:Int)(S:BS)(m:Int):Int×Int:=gr (c b e) a S.l m
def oF(b:M)(a e:Int)(S:BS)(m:Int):Int:=ku (c b e) a S.l m
def nL(b:M)(a e:Int)(S:BS)(m:Int):M:=lY (c b e) a S.l m
def sg(b:M)(a e:Int)(S:BS)(m:Int):Int×Int:=iH b (oF b a e S m) e S.T
def ly(b:M)(a e:Int)(S:BS)(m:Int):q:=jC b (oF b a e S m) e S.T
def kR(b:M)(a e:Int)(S:BS)(o:M)(w m:Int):Int:=lP (ly b a e S m) (nL b a e S m) o S.a S.b S.c w
def s_(b:M)(a e:Int)(S:BS)(o:M)(w m:Int):M:=rL (ly b a e S m) (nL b a e S m) o S.a S.b S.c w
def jk(b:M)(h a e:Int)(S:BS)(o:M)(w m:Int):Int×Int:=
 if(vq b a e S m).1≠0 then vq b a e S m else if(sg b a e S m).1≠0 then sg b a e S m
 else if kR b a e S o w m=19\/kR b a e S o w m=0/\m<(s_ b a e S o w m).size then(19,h)else if kR b a e S o w m≠0 then(kR b a e S o w m,oF b a e S m)else(0,0)
def pV(b:M)(h a e:Int)(S:BS)(o:M)(w m:Int):M:=if(jk b h a e S o w m).1=0 then s_ b a e S o w m else aJ
def jm(b:M)(h a e:Int)(S:BS)(o:M)(w m:Int):BS:=if(jk b h a e S o w m).1=0 then⟨qt (ly b a e S m) (nL b a e S m) o S.a S.b S.c w,pX (ly b a e S m) (nL b a e S m) o S.a S.b S.c w,pY (ly b a e S m) (nL b a e S m) o S.a S.b S.c w,oT (c b e) a S.l m,eC b (oF b a e S m) e S.T⟩else zB
def fv(w:Int):Int:=min w 131072
def gC(b:M)(a:Int):Int:=if eY b a=1 then 1 else bP b a
def lu(b:M)(a:Int)(o:M)(w m:Int):Int×Int:=
 if ik b a=ah then((r b a).2.1,(r b a).2.2)else if fv w<bP b a then(19,a)else if eY b a≠2/\m<o.size+bP b a then(18,a)else if(b.size:Int)- (r b a).1<gC b a then(5,(b.size:Int))else(0,0)
def se(b:M)(a:Int)(S:BS)(o:M)(w:Int):Int×Int:=jk b a (r b a).1 ((r b a).1+bP b a) S o w<|fv w
def ve(b:M)(a:Int)(S:BS)(o:M)(w:Int):M:=pV b a (r b a).1 ((r b a).1+bP b a) S o w<|fv w
def lr(b:M)(a:Int)(S:BS)(o:M)(w m:Int):Int×Int:=
 if(lu b a o w m).1≠0 then lu b a o w m else if eY b a≠2 then(0,0)else if(se b a S o w).1≠0 then se b a S o w else if m<o.size+(ve b a S o w).size then(18,a)else(0,0)
def wG(b:M)(a:Int)(o:M)(w m:Int):Prop:=a<0\/(b.size:Int)<a\/w<0\/134217728<w\/m<0\/1048576<m\/m<o.size
instance(b:M)(a:Int)(o:M)(w m:Int):Decidable (wG b a o w m):=by unfold wG;infer_instance
def ed(b:M)(a:Int)(S:BS)(o:M)(w m:Int):Int×Int:=if wG b a o w m then(2,0)else if iX S≠0 then(iX S,0)else lr b a S o w m
def Bg(b:M)(a:Int)(S:BS)(o:M)(w:Int):M:=if eY b a=0 then b.extract (r b a).1.toNat ((r b a).1+bP b a).toNat else if eY b a=1 then strOfNums (au (bP b a).toNat<|u b (r b a).1)else ve b a S o w
def ua(b:M)(a:Int)(S:BS)(o:M)(w m:Int):M:=if(lr b a S o w m).1=0 then o++Bg b a S o w else aJ
def iP(b:M)(a:Int)(S:BS)(o:M)(w m:Int):BS:=if(lr b a S o w m).1=0 then(if eY b a=2 then jm b a (r b a).1 ((r b a).1+bP b a) S o w (fv w)else S)else zB
def xv(b:M)(a:Int)(S:BS)(o:M)(w m:Int):Bool:=if(lr b a S o w m).1=0 then iK b (gO b a)else ah
def vf(b:M)(a:Int)(S:BS)(o:M)(w m:Int):Int:=if(lr b a S o w m).1=0 then(r b a).1+gC b a else 0
def j9(b:M)(a:Int)(S:BS)(o:M)(w m:Int):M:=if(ed b a S o w m).1=0 then ua b a S o w m else aJ
def cX(b:M)(a:Int)(S:BS)(o:M)(w m:Int):BS:=if(ed b a S o w m).1=0 then iP b a S o w m else zB
def lH(b:M)(a:Int)(S:BS)(o:M)(w m:Int):Bool:=if(ed b a S o w m).1=0 then xv b a S o w m else ah
def kw(b:M)(a:Int)(S:BS)(o:M)(w m:Int):Int:=if(ed b a S o w m).1=0 then vf b a S o w m else 0
section
variable{D:aW}{w:World}{β:bp}{k:IntKind}{xs:N}
def afW:∀(l r:bL) {us:bG},Z D w β (l++Hd k xs::r) us->Z D w β (l++ .av (.ints k xs)::r) us
 | [],r,us,h=>by
   simp only[rB,Z]at h|-;obtain⟨u,v,e,y,z⟩:=h;exact⟨u,v,e,azb y,z⟩
 |x::l,r,us,h=>by simp only[yw,Z]at h|-;obtain⟨u,v,e,y,z⟩:=h;exact⟨u,v,e,y,afW l r z⟩
def asp:∀(l r:bL) {us:bG},Z D w β (l++ .av (.ints k xs)::r) us->Z D w β (l++Hd k xs::r) us
 | [],r,us,h=>by
   simp only[rB,Z]at h|-;obtain⟨u,v,e,y,z⟩:=h;exact⟨u,v,e,akd y,z⟩
 |x::l,r,us,h=>by simp only[yw,Z]at h|-;obtain⟨u,v,e,y,z⟩:=h;exact⟨u,v,e,y,asp l r z⟩
end
def Sat.conv{P:Program}{f:FuncId}{args x:bL}{hp hp':bN}{ret y:SV}(z:∀D w β us,Z D w β x us->Z D w β args us)(a:∀D w β u,F D w β ret u->F D w β y u)(h:Sat P f args hp ret hp'):Sat P f x hp y hp':=by intro D β w us k r i j;refine(h D β w us (z _ _ _ _ k) r i j).mono ?_;rintro e w' ⟨v,D',β',n,z⟩;exact⟨v,D',β',n,{z with ret:=a _ _ _ _ z.ret}⟩
def auz:Spec:=Sp (Int×Int×Int) [.g [.i,.i,.i]] λ(a,b,c)=>([E<|fI a b c],aE<|B 0)
def auB:Spec:=Sp Unit [] λ_=>([],aE<|.ag [B 1,B 4,B 8])
def at7:Spec:=Sp (List (N)×M×M×Int×Int×Int×Int) [.r 3,.s,.s,.g [.i,.i,.i],.i] λ(l,t,bf,a,b,c,W)=>([E<|fI a b c,E<|l.length<=1000000],aE<|.tu [aD<|rL l t bf a b c W,.ag [B<|qt l t bf a b c W,B<|pX l t bf a b c W,B<|pY l t bf a b c W],B<|lP l t bf a b c W])
def aKB{p q:Prop}{i:Decidable p}{j:Decidable q}(h:p)(k:q):∀c∈([⟨p,i⟩,⟨q,j⟩]:List lq),c.p:=λc x=>by
 rcases List.mem_cons.1 x with rfl|x
 .exact h
 .rcases List.mem_cons.1 x with rfl|x
  .exact k
  .cases x
def aKA{p:Prop}{i:Decidable p}(h:p):∀c∈([⟨p,i⟩]:List lq),c.p:=λc x=>by
 rcases List.mem_cons.1 x with rfl|x
 .exact h
 .cases x
def as1{f:FuncId}(h:Sound ar f agO.iY):Sound ar f auz.iY:=auz.sound h.1 Sp.dn λ(a,b,c) x=>
 (h.2 [.av<|.ints .i64 [a,b,c]] (λ_=>ae) 0<|aKA<|x _<|.head _).conv (λD w β us k=>afW (k:=.i64) (xs:=[a,b,c]) [] [] k) λD w β u k=>k
def as4{f:FuncId}(h:Sound ar f agP.iY):Sound ar f auB.iY:=auB.sound h.1 Sp.dn λ_ x=>
 (h.2 [] (λ_=>ae) 0 λc x=>by cases x).conv (λD w β us k=>k) λD w β u k=>akd (k:=.i64) (xs:=[1,4,8]) k
def exg{f:FuncId}(h:Sound ar f sEx.iY):Sound ar f at7.iY:=at7.sound h.1 Sp.dn λ(l,t,bf,a,b,c,W) x=>
 (h.2 [.bZ<|.cH 3 l,.v<|.string t,.v<|.string bf,.av<|.ints .i64 [a,b,c],.v<|.int .i64 W] (λ_=>ae) 0<|aKB (x _<|.head _)<|x _<|.tail _<|.head _).conv (λD w β us k=>afW (k:=.i64) (xs:=[a,b,c]) [.bZ<|.cH 3 l,.v<|.string t,.v<|.string bf] [.v<|.int .i64 W] k)
   λD w β u k=>by have k:F D w β (.tu [.v<|.string<|rL l t bf a b c W,.av<|.ints .i64 [qt l t bf a b c W,pX l t bf a b c W,pY l t bf a b c W],.v<|.int .i64<|lP l t bf a b c W]) u:=k;show F D w β (.tu [.v<|.string<|rL l t bf a b c W,Hd .i64 [qt l t bf a b c W,pX l t bf a b c W,pY l t bf a b c W],.v<|.int .i64<|lP l t bf a b c W]) u;unfold F at k|-;exact k.imp λus k=>⟨k.1,asp [.v<|.string<|rL l t bf a b c W] [.v<|.int .i64<|lP l t bf a b c W] k.2⟩
def Bh{cs:bL}{S:BS}(h:vm cs=O S):cs=S.v:=by
 unfold vm at h;split at h
 .split at h
  .rename_i e;cases h;rw[QH e];rfl
  .cases h
 .cases h
def au4:Spec:=Sp Unit [] λ_=>([],aE<|.ag uB.v)
def au3:Spec:=Sp Unit [] λ_=>([],aE<|.ag Bw.v)
def He(S:BS):List lq:=[E<|fI S.a S.b S.c,E<|S.l.length<=4294967296,E<|tbE 0 S.T.a.m S.T.a.s S.T.a.g S.T.a.p=0,E<|tbE 1 S.T.b.m S.T.b.s S.T.b.g S.T.b.p=0,E<|tbE 2 S.T.c.m S.T.c.s S.T.c.g S.T.c.p=0]
def XF:Spec where
 ι:=BS
 dec l H:=match l with
  | [.ag cs]=>match vm cs with
    |some S=>O (S,[])
    |none=>ae
  |_=>ae
 args:=λS=>[.ag S.v]
 pre:=λS=>He S
 out:=λS=>.leaf (B<|iX S) []
def au2:XF.dn:=by
 intro l H n i x h;simp only[XF]at h;split at h
 .split at h
  .rename_i e;cases h;rw[Bh e];exact⟨rfl,rfl⟩
  .cases h
 .cases h
def ag4:Spec where
 ι:=BS
 dec l H:=match l with
  | [.ag cs]=>match vm cs with
    |some S=>O (S,[])
    |none=>ae
  |_=>ae
 args:=λS=>[.ag S.v]
 pre:=λS=>He S
 out:=λS=>.leaf (.ag S.v) []
def aQz:ag4.dn:=by
 intro l H n i x h;simp only[ag4]at h;split at h
 .split at h
  .rename_i e;cases h;rw[Bh e];exact⟨rfl,rfl⟩
  .cases h
 .cases h
def ag6:Spec where
 ι:=M×Int×Int×Int×BS×M×Int×Int
 dec l H:=match l with
  | [.v<|.string b,.v<|.int .i64 h,.v<|.int .i64 a,.v<|.int .i64 e,.ag cs,.v<|.string o,.v<|.int .i64 w,.v<|.int .i64 m]=>match vm cs with
    |some S=>O ((b,h,a,e,S,o,w,m),[])
    |none=>ae
  |_=>ae
 args:=λ(b,h,a,e,S,o,w,m)=>[aD b,B h,B a,B e,.ag S.v,aD o,B w,B m]
 pre:=λ(b,h,a,e,S,o,w,m)=>(E<|b.size<=600)::(E<|0<=e/\e<=b.size)::He S
 out:=λ(b,h,a,e,S,o,w,m)=>.leaf (.tu [aD<|pV b h a e S o w m,.ag (jm b h a e S o w m).v,.ag [.v<|.int .i64 (jk b h a e S o w m).1,.v<|.int .i64 (jk b h a e S o w m).2]]) []
def aQB:ag6.dn:=by
 intro l H n i x h;simp only[ag6]at h;split at h
 .split at h
  .rename_i e;cases h;rw[Bh e];exact⟨rfl,rfl⟩
  .cases h
 .cases h
def aQy:Spec:=Sp (Int×Int) [.y,.i] λ(c,n)=>([E<|0<=c/\c<256,E<|0<=n/\n<=4294967296],aE<|aD<|strOfNums<|au n.toNat c)
def Pd:bO:=dX [(0,.rr 4)]
def aJn(S:BS):bO:=dX [(0,.AU 4 [700016]),(1004,jG True [(1,U 1001),(3,B<|iX S)] [(1001,.cells 49 S.v)])]
def aJo(S:BS):bO:=dX [(0,.rr 4),(1004,jG True [(1,U 1001),(3,B<|iX S)] [(1001,.cells 49 S.v)])]
def AE(h0:BS)(h1:Prop):Prop:=0=h0.a/\0=h0.b/\0=h0.c/\(0:Nat)=0/\0=h0.T.a.m/\0=h0.T.a.s/\0=h0.T.a.g/\(0:Nat)=0/\0=h0.T.b.m/\0=h0.T.b.s/\0=h0.T.b.g/\(0:Nat)=0/\0=h0.T.c.m/\0=h0.T.c.s/\0=h0.T.c.g/\h1
def aen(h0:BS)(h1:Prop):Prop:=0=h0.a/\0=h0.b/\0=h0.c/\(0:Nat)=0/\ -1=h0.T.a.m/\0=h0.T.a.s/\0=h0.T.a.g/\(0:Nat)=0/\h1
def Vk(h0:BS)(h1:Prop):Prop:=0=h0.a/\0=h0.b/\0=h0.c/\(0:Nat)=0/\ -1=h0.T.a.m/\0=h0.T.a.s/\0=h0.T.a.g/\(0:Nat)=0/\ -1=h0.T.b.m/\0=h0.T.b.s/\0=h0.T.b.g/\(0:Nat)=0/\h1
def aer(h0:BS):Prop:=Rq 1 (Zq 3)<|Dq ((2:Int)<3) (Rq 2 (Zq 3)<|Dq ((3:Int)<3) (Rq 3 (Zq 3)<|False/\False)<|Vk uB<|-1=h0.T.c.m/\0=h0.T.c.s/\0=h0.T.c.g/\(0:Nat)=0)<|Vk uB<|0=h0.T.c.m/\0=h0.T.c.s/\0=h0.T.c.g/\(0:Nat)=0
def Vs(h0:BS):Prop:=Dq ((0:Int)<3) (Rq 0 (Zq 3)<|Dq ((1:Int)<3) (aer uB)<|aen uB<|0=h0.T.b.m/\0=h0.T.b.s/\0=h0.T.b.g/\(0:Nat)=0/\0=h0.T.c.m/\0=h0.T.c.s/\0=h0.T.c.g/\(0:Nat)=0)<|AE uB<|(0:Nat)=0
def Vy(h0 h1:BS):Prop:=1=h0.a/\4=h0.b/\8=h0.c/\h1.l=h0.l/\h1.T.a.m=h0.T.a.m/\h1.T.a.s=h0.T.a.s/\h1.T.a.g=h0.T.a.g/\h1.T.a.p=h0.T.a.p/\h1.T.b.m=h0.T.b.m/\h1.T.b.s=h0.T.b.s/\h1.T.b.g=h0.T.b.g/\h1.T.b.p=h0.T.b.p/\h1.T.c.m=h0.T.c.m/\h1.T.c.s=h0.T.c.s/\h1.T.c.g=h0.T.c.g/\h1.T.c.p=h0.T.c.p
def AH(h0:BS)(h1:Prop):Prop:=h0.a=h0.a/\h0.b=h0.b/\h0.c=h0.c/\h0.l=h0.l/\h0.T.a.m=h0.T.a.m/\h0.T.a.s=h0.T.a.s/\h0.T.a.g=h0.T.a.g/\h0.T.a.p=h0.T.a.p/\h0.T.b.m=h0.T.b.m/\h0.T.b.s=h0.T.b.s/\h0.T.b.g=h0.T.b.g/\h0.T.b.p=h0.T.b.p/\h0.T.c.m=h0.T.c.m/\h0.T.c.s=h0.T.c.s/\h0.T.c.g=h0.T.c.g/\h1
def Vn(h0:BS):Prop:=Bq ((0:Int)==0) (Dq (o h0.l>0) (cd h0.l/\ja (cJ h0.l=iX h0) (AH h0<|h0.T.c.p=h0.T.c.p))<|ja (0=iX h0)<|AH h0<|h0.T.c.p=h0.T.c.p)<|ja (0=iX h0)<|AH h0<|h0.T.c.p=h0.T.c.p
def vY(h0:BS):Prop:=fI h0.a h0.b h0.c
def L8(h0:BS)(h1:Prop):Prop:=(0:Int)<=2/\(2:Int)<=2/\tbE 2 h0.T.c.m h0.T.c.s h0.T.c.g h0.T.c.p=0/\h1
def WH(h0:BS)(h1:Prop):Prop:=(0:Int)<=1/\(1:Int)<=2/\tbE 1 h0.T.b.m h0.T.b.s h0.T.b.g h0.T.b.p=0/\h1
def ax8(S:BS)(D P i:Prop):Prop:=vY S/\Vn S/\mr True (Dq ((0:Int)<3) (Rq 0 (Zq 3)<|Bq (iX S==0) (ft ((0:Int)<=2)<|tbE 0 S.T.a.m S.T.a.s S.T.a.g S.T.a.p=0/\Dq ((1:Int)<3) (Rq 1 (Zq 3)<|Bq ((0:Int)==0) D P) (0=iX S))<|Dq ((1:Int)<3) (Rq 1 (Zq 3)<|Bq (iX S==0) D<|Dq ((2:Int)<3) (Rq 2 (Zq 3)<|Bq (iX S==0) i<|Dq ((3:Int)<3) (tE<|Bq (iX S==0) nu False)<|iX S=iX S)<|iX S=iX S)<|iX S=iX S)<|iX S=iX S)
def atP(S:BS)(D:Prop):Prop:=vY S/\Vn S/\mr True (Dq ((0:Int)<3) (Bq (iX S==0) (xX (tbE 0 S.T.a.m S.T.a.s S.T.a.g S.T.a.p=0)<|Dq ((1:Int)<3) (Bq ((0:Int)==0) (Rq 1 (Zq 3)<|WH S<|Dq ((2:Int)<3) (Bq ((0:Int)==0) (Rq 2 (Zq 3)<|L8 S<|Dq ((3:Int)<3) (Bq ((0:Int)==0) (Rq 3 (Zq 3)<|jL False) D) D) D) D) D) D)<|iX S=iX S)<|iX S=iX S)
def ax9(S:BS)(D:Prop):Prop:=cd S.l/\Dq ((0:Int)<3) (zo (cd S.T.a.p)<|Rq 0 (Zq 3)<|Dq ((1:Int)<3) (Rq 1 (Zq 3)<|cd S.T.b.p/\Rq 1 (Zq 3) (Dq ((2:Int)<3) (Rq 2 (Zq 3)<|cd S.T.c.p/\Rq 2 (Zq 3) (Dq ((3:Int)<3) (tE<|Rq 3 (Zq 3) nu) D)) D)) D) D
def sC(h0:BS)(h1:Prop):Prop:=0=h0.a/\0=h0.b/\0=h0.c/\h0.l.length=0/\0=h0.T.a.m/\0=h0.T.a.s/\0=h0.T.a.g/\h0.T.a.p.length=0/\0=h0.T.b.m/\0=h0.T.b.s/\0=h0.T.b.g/\h0.T.b.p.length=0/\0=h0.T.c.m/\0=h0.T.c.s/\0=h0.T.c.g/\h0.T.c.p.length=0/\h1
def zk(h0:BS)(h1:Prop):Prop:=tbE 0 h0.T.a.m h0.T.a.s h0.T.a.g h0.T.a.p=0/\tbE 1 h0.T.b.m h0.T.b.s h0.T.b.g h0.T.b.p=0/\tbE 2 h0.T.c.m h0.T.c.s h0.T.c.g h0.T.c.p=0/\h1
def U4(h0:T3)(h1:BS)(h:Prop):Prop:=h0.a.m=h1.T.a.m/\h0.a.s=h1.T.a.s/\h0.a.g=h1.T.a.g/\h0.a.p=h1.T.a.p/\h0.b.m=h1.T.b.m/\h0.b.s=h1.T.b.s/\h0.b.g=h1.T.b.g/\h0.b.p=h1.T.b.p/\h0.c.m=h1.T.c.m/\h0.c.s=h1.T.c.s/\h0.c.g=h1.T.c.g/\h
def LX(h0:Int×Int)(h1:Int):Prop:=19=h0.1/\h1=h0.2
def atQ(b:M)(a e:Int)(S:BS)(m:Int)(D:Prop)(P:N)(i:Prop)(p j:Int)(z:M)(k:q)(y:Prop)(f:BS)(h:Int×Int)(x:Int):Prop:=ft (0<=e)<|e<=ak b/\zu b e/\cd S.l/\bS (gr (gI b e) a S.l m).1 y (sC f<|iU (gr (gI b e) a S.l m) h) (kv b) (zk S<|bS (iH b x e S.T).1 y (sC f<|iU (iH b x e S.T) h) (vY S)<|k.length<=1000000/\gg (j::P) fP/\Bq (p==19) i (Bq (p==0) (Dq (ak z>m) i D) D))
def ZW{A B:Prop}:Bq ((0:Int)==0) A B=A:=propext ⟨λh=>h.1 rfl,λh=>⟨λ_=>h,λk=>(by cases k)⟩⟩
section
variable{S:BS}
theorem akA(h:¬((S.l.length:Int)>0)):0=iX S:=by unfold iX;rw[V Y]
theorem akB(h:(S.l.length:Int)>0):cJ S.l=iX S:=by unfold iX;rw[I Y]
def ahM{m s g:Int}{p:N}(h0:0<=z)(h1:z<=2)(h:tbE z m s g p=0):p.length<=4294967296:=by grind [ahL]
variable{b:M}{h a e:Int}{o:M}{w m x y:Int}
def J9(z:x≠0)(k:jk b h a e S o w m=(x,y)):aJ=pV b h a e S o w m/\0=(jm b h a e S o w m).a/\0=(jm b h a e S o w m).b/\0=(jm b h a e S o w m).c/\(jm b h a e S o w m).l.length=0/\0=(jm b h a e S o w m).T.a.m/\0=(jm b h a e S o w m).T.a.s/\0=(jm b h a e S o w m).T.a.g/\(jm b h a e S o w m).T.a.p.length=0/\0=(jm b h a e S o w m).T.b.m/\0=(jm b h a e S o w m).T.b.s/\0=(jm b h a e S o w m).T.b.g/\(jm b h a e S o w m).T.b.p.length=0/\0=(jm b h a e S o w m).T.c.m/\0=(jm b h a e S o w m).T.c.s/\0=(jm b h a e S o w m).T.c.g/\(jm b h a e S o w m).T.c.p.length=0/\x=(jk b h a e S o w m).1/\y=(jk b h a e S o w m).2:=by unfold pV jm;rw[k,V z,V z];exact⟨rfl,rfl,rfl,rfl,rfl,rfl,rfl,rfl,rfl,rfl,rfl,rfl,rfl,rfl,rfl,rfl,rfl,rfl,rfl⟩
theorem J7(k:(vq b a e S m).1≠0):jk b h a e S o w m=vq b a e S m:=I k
theorem J8(j:(vq b a e S m).1=0)(k:(sg b a e S m).1≠0):jk b h a e S o w m=sg b a e S m:=by
 unfold jk;rw[V (fun h=>h j),I k]
theorem EJ(j:(vq b a e S m).1=0)(i:(sg b a e S m).1=0)(k:kR b a e S o w m=19\/kR b a e S o w m=0/\m<(s_ b a e S o w m).size):jk b h a e S o w m=(19,h):=by
 unfold jk;rw[V (fun h=>h j),V (fun h=>h i),I k]
theorem Hn(j:(vq b a e S m).1=0)(i:(sg b a e S m).1=0)(k:¬(kR b a e S o w m=19\/kR b a e S o w m=0/\m<(s_ b a e S o w m).size))(l:kR b a e S o w m≠0):jk b h a e S o w m=(kR b a e S o w m,oF b a e S m):=by
 unfold jk;rw[V (fun h=>h j),V (fun h=>h i),V k,I l]
def aaq(j:(vq b a e S m).1=0)(i:(sg b a e S m).1=0)(k:¬(kR b a e S o w m=19\/kR b a e S o w m=0/\m<(s_ b a e S o w m).size))(l:kR b a e S o w m=0):jk b h a e S o w m=(0,0):=by unfold jk;rw[V λh=>h j,V λh=>h i,V k,V λh=>h l]
end
def vF(b:M)(a:Int):Int:=if ik b a=ab then eY b a else 0
def Fa(b:M)(a:Int):Int:=if ik b a=ab then bP b a else 0
def uu(b:M)(a:Int):Bool:=if ik b a=ab then iK b (gO b a)else ah
def Al(b:M)(a:Int):Int:=if ik b a=ab then(r b a).1 else 0
def Am(b:M)(a:Int):Int:=if vF b a=1 then 1 else Fa b a
def Ak(b:M)(a:Int):Int:=if ik b a=ab then 0 else(r b a).2.1
def BD(b:M)(a:Int):Int:=if ik b a=ab then 0 else(r b a).2.2
structure BdP (b:M) (a:Int) (o:M) (w m:Int):Prop where
 g:ik b a=ab
 e:lu b a o w m=(0,0)
structure Rz (b:M) (a:Int) (o:M) (w m:Int):Prop extends BdP b a o w m where
 k:eY b a=2
def vg(b:M)(a:Int)(S:BS)(o:M)(w m:Int):Int×Int:=if(se b a S o w).1≠0 then se b a S o w else if m<o.size+(ve b a S o w).size then(18,a)else(0,0)
def vh(b:M)(a:Int)(S:BS)(o:M)(w:Int):BS:=jm b a (r b a).1 ((r b a).1+bP b a) S o w<|fv w
def ag7:Spec where
 ι:=M×Int×BS×M×Int×Int
 dec l H:=match l with
  | [.v<|.string b,.v<|.int .i64 a,.ag cs,.v<|.string o,.v<|.int .i64 w,.v<|.int .i64 m]=>match vm cs with
    |some S=>O ((b,a,S,o,w,m),[])
    |none=>ae
  |_=>ae
 args:=λ(b,a,S,o,w,m)=>[aD b,B a,.ag S.v,aD o,B w,B m]
 pre:=λ(b,a,S,o,w,m)=>(E<|b.size<=600)::(E<|0<=w/\w<=134217728)::(E<|(o.size:Int)<=m/\m<=1048576)::He S
 out:=λ(b,a,S,o,w,m)=>.leaf (.tu [aD<|ua b a S o w m,.ag (iP b a S o w m).v,fN<|xv b a S o w m,B<|vf b a S o w m,.ag [.v<|.int .i64 (lr b a S o w m).1,.v<|.int .i64 (lr b a S o w m).2]]) []
def aQC:ag7.dn:=by
 intro l H n i x h;simp only[ag7]at h;split at h
 .split at h
  .rename_i e;cases h;rw[Bh e];exact⟨rfl,rfl⟩
  .cases h
 .cases h
def Gq:Spec where
 ι:=M×Int×BS×M×Int×Int
 dec l H:=match l with
  | [.v<|.string b,.v<|.int .i64 a,.ag cs,.v<|.string o,.v<|.int .i64 w,.v<|.int .i64 m]=>match vm cs with
    |some S=>O ((b,a,S,o,w,m),[])
    |none=>ae
  |_=>ae
 args:=λ(b,a,S,o,w,m)=>[aD b,B a,.ag S.v,aD o,B w,B m]
 pre:=λ(b,a,S,o,w,m)=>(E<|b.size<=600)::He S
 out:=λ(b,a,S,o,w,m)=>.leaf (.tu [aD<|j9 b a S o w m,.ag (cX b a S o w m).v,fN<|lH b a S o w m,B<|kw b a S o w m,.ag [.v<|.int .i64 (ed b a S o w m).1,.v<|.int .i64 (ed b a S o w m).2]]) []
def au5:Gq.dn:=by
 intro l H n i x h;simp only[Gq]at h;split at h
 .split at h
  .rename_i e;cases h;rw[Bh e];exact⟨rfl,rfl⟩
  .cases h
 .cases h
def aJp(c n:Int):bO:=dX [(0,.one<|bi Nat λi=>(i<=n.toNat,[(0,.v<|.int .u8 c),(1,B n),(5,.o 5000),(6,cP i)],[(5000,.row 5<|.ints .u8<|au i c++au (n.toNat-i) 0)],n.toNat-i))]
def QL(b:M)(a:Int)(o:M)(w m:Int):lW:=[(0,.v<|.string b),(1,.v<|.int .i64 a),(3,.v<|.string o),(4,.v<|.int .i64 w),(5,.v<|.int .i64 m),(8,.p 1001 0 0),(13,.p 1002 0 0),(16,.p 1003 0 0),(21,.p 1004 0 0),(22,.v<|.int .i64<|fv w)]
def QM(k z:Int)(l:Bool)(n x:Int):lW:=[(17,.v<|.int .i64 k),(18,.v<|.int .i64 z),(19,.v<|.bool l),(20,.v<|.int .i64 n),(23,.v<|.int .i64 x)]
def yV(k:Nat)(e f:Int):Nat×bm:=(k,.cells 25 [.v<|.int .i64 e,.v<|.int .i64 f])
def Kx(S:BS)(e f:Int):bN:=[(1001,.cells 49 S.v),(1002,.cells 49 zB.v),yV 1003 0 0,yV 1004 e f]
def aJq(b:M)(a:Int)(S:BS)(o:M)(w m:Int):bO:=dX [
 (1002,jG True [(0,aD b),(1,B a),(3,aD o),(4,B w),(5,B m),(8,U 1001),(13,U 1002),(16,U 1003),(21,U 1004),(17,B<|vF b a),(18,B<|Fa b a),(19,fN<|uu b a),(20,B<|Al b a)]<|Kx S (Ak b a)<|BD b a),
 (1006,jG True (QL b a o w m++QM (vF b a) (Fa b a) (uu b a) (Al b a) (Am b a))<|Kx S (Ak b a)<|BD b a),
 (1013,jG True (QL b a o w m++QM (vF b a) (Fa b a) (uu b a) (Al b a) (Am b a))<|Kx S (lu b a o w m).1 (lu b a o w m).2),
 (1015,jG (BdP b a o w m) (QL b a o w m++QM (eY b a) (bP b a) (iK b<|gO b a) (r b a).1 (gC b a))<|Kx S 0 0),
 (1020,jG (Rz b a o w m) (QL b a o w m++QM 2 (bP b a) (iK b<|gO b a) (r b a).1 (gC b a))<|Kx S 0 0),
 (1023,jG (Rz b a o w m) (QL b a o w m++(QM 2 (bP b a) (iK b<|gO b a) (r b a).1 (gC b a)++ [(24,aD<|ve b a S o w),(25,U 1005)]))<|Kx S (vg b a S o w m).1 (vg b a S o w m).2++ [(1005,.cells 49 (vh b a S o w).v)])]
def Iu(h0:Nat)(h1 h:Int):N:=au h0 h1++au (h.toNat-h0) (0:Int)
def vV(h0:BS)(h1:Prop):Prop:=h0.a=h0.a/\h0.b=h0.b/\h0.c=h0.c/\h0.l=h0.l/\h0.T.a.m=h0.T.a.m/\h0.T.a.s=h0.T.a.s/\h0.T.a.g=h0.T.a.g/\h0.T.a.p=h0.T.a.p/\h0.T.b.m=h0.T.b.m/\h0.T.b.s=h0.T.b.s/\h0.T.b.g=h0.T.b.g/\h0.T.b.p=h0.T.b.p/\h0.T.c.m=h0.T.c.m/\h0.T.c.s=h0.T.c.s/\h0.T.c.g=h0.T.c.g/\h0.T.c.p=h0.T.c.p/\h1
def xV(h0 h1:BS)(h:Prop):Prop:=h0.a=h1.a/\h0.b=h1.b/\h0.c=h1.c/\h0.l=h1.l/\h0.T.a.m=h1.T.a.m/\h0.T.a.s=h1.T.a.s/\h0.T.a.g=h1.T.a.g/\h0.T.a.p=h1.T.a.p/\h0.T.b.m=h1.T.b.m/\h0.T.b.s=h1.T.b.s/\h0.T.b.g=h1.T.b.g/\h0.T.b.p=h1.T.b.p/\h0.T.c.m=h1.T.c.m/\h0.T.c.s=h1.T.c.s/\h0.T.c.g=h1.T.c.g/\h
def Lq(h0:Int)(h1:M)(h:Int)(x:BS)(y:Prop):Prop:=aw (fv h0) (vF h1 h=vF h1 h)<|aw (Fa h1 h) (uu h1 h=uu h1 h)<|aw (Al h1 h) (Am h1 h=Am h1 h)<|vV x<|vV zB y
def B_(h0:BS)(h1:Prop):Prop:=vV h0<|vV zB h1
def Ca(h0:M)(h1:Int)(h:M)(x:Int)(y z:Prop):Prop:=ja (h0=h0)<|h1=h1/\h=h/\x=x/\y/\z
def zx(h0 h1:BS):Prop:=h0.T.c.p=h1.T.c.p
def Cj(h0:BS)(h1:N)(h:Prop):Prop:=vY h0/\cd h1/\zk h0 h
def atS(b:M)(a:Int)(S:BS)(o:M)(w m:Int)(D P i p j h:Prop)(g:Int×Int)(q:M)(d:Prop)(f:M)(u W:Int)(z:BS)(k:Int×Int)(n:Prop)(c:BS)(v:Bool)(x e y:Int):Prop:=pG (ik b a) (bD b) (Ca b a o w (m=m)<|eY b a=vF b a/\e=y/\v=uu b a/\x=Al b a/\vV S (AE zB<|(0:Nat)=0/\ca (0=Ak b a/\0=BD b a))) (Ca b a o w (m=m)<|0=vF b a/\0=y/\xa (uu b a) (0=Al b a) (vV S<|AE zB<|(0:Nat)=0/\ca ((r b a).2.1=Ak b a/\(r b a).2.2=BD b a)))/\LP (vF b a==1) (Ca b a o w (m=m)<|aB w (131072:Int)=fv w/\aw (vF b a) (y=y) (uu b a=uu b a/\aw (Al b a) (1=Am b a) d)) (Ca b a o w (m=m)<|aB w (131072:Int)=fv w/\aw (vF b a) (y=y) (uu b a=uu b a/\aw (Al b a) (y=Am b a) d)) (Bq (Ak b a !=0) j (Dq (y>fv w) (Ca b a o w (m=m)<|Lq w b a S<|ca<|LX k a)<|Bq (vF b a !=2) (Dq (Wq (ak o+y)>m) (Ca b a o w (m=m)<|Lq w b a S<|ca<|18=k.1/\a=k.2) P) P)/\mr True (iy (k.1 !=0) (aJ=ua b a S o w m/\sC z (xa (xv b a S o w m) (0=vf b a S o w m)<|iU k<|lr b a S o w m)) (aL<|BdP b a o w m/\fV b a (o=o) (w=w/\m=m/\aw (fv w) (vF b a=eY b a) (y=e/\uu b a=v/\Al b a=x/\Am b a=gC b a/\B_ S (ca<|LR k))))<|BdP b a o w m->iy (eY b a==0) (aF x (x<=u)<|u<=ak b/\wX o (cU b x u)/\o++cU b x u=ua b a S o w m/\xV S z (zx S z/\p)) (Bq (eY b a==1) (Rq x (ak b)<|(0<=W/\W<256)/\(0<=e/\e<=4294967296)/\wX o f/\o++f=ua b a S o w m/\xV S z (zx S z/\v=xv b a S o w m/\ay x=vf b a S o w m/\dO (lr b a S o w m)))<|aL<|n/\fV b a (o=o) (w=w/\m=m/\aw (fv w) (eY b a=2) (aw e (Jq v)<|Jq x/\gC b a=gC b a/\B_ S (ca dE)))) (n->kv b/\(cE (x+e)/\u<=ak b)/\Cj S S.l (iy (g.1==0) (Dq (Wq (ak o+ak q)>m) (aL<|n/\fV b a (o=o) (w=w/\m=m/\aw (fv w) ((2:Int)=2) (aw e (Jq v)<|Jq x/\aw (gC b a) h (B_ S<|ca<|18=(vg b a S o w m).1/\a=(vg b a S o w m).2/\i)))) D) D<|n->bS (vg b a S o w m).1 (aJ=ua b a S o w m) (sC z<|xa (xv b a S o w m) (0=vf b a S o w m)<|iU (vg b a S o w m)<|lr b a S o w m) (wX o<|ve b a S o w) (o++ve b a S o w=ua b a S o w m/\xV c z (zx c z/\p))))))
def aeH(h0:Int)(h1:M)(y:BS)(z:M)(h x b:Int)(c:Int×Int)(d:Bool)(f e k r:Prop)(u:M)(v:BS)(w i j n a:Prop):Prop:=nS h0 (aJ=j9 h1 h0 y z h x) (sC (cX h1 h0 y z h x)<|ah=lH h1 h0 y z h x/\0=b/\ig c) (ak h1) (aJ=j9 h1 h0 y z h x/\sC (cX h1 h0 y z h x) (ah=d/\f/\e))<|Dq (h<0) (aJ=j9 h1 h0 y z h x/\sC (cX h1 h0 y z h x) (k/\r))<|Dq (h>134217728) (aJ=u/\sC v w)<|Dq (x<0) (i/\j)<|Dq (x>1048576) n a
def VP(h0:Int)(h1:M)(h:BS)(x:M)(z y w:Int)(i:Int×Int)(j:Bool)(n e k r:Prop)(u:N)(v:Prop):Prop:=aeH h0 h1 h x z y (kw h1 h0 h x z y) (ed h1 h0 h x z y) (lH h1 h0 h x z y) (0=kw h1 h0 h x z y) (ig<|ed h1 h0 h x z y) (ah=lH h1 h0 h x z y) (0=kw h1 h0 h x z y/\ig (ed h1 h0 h x z y)) (j9 h1 h0 h x z y) (cX h1 h0 h x z y) (ah=lH h1 h0 h x z y/\0=kw h1 h0 h x z y/\ig (ed h1 h0 h x z y)) (aJ=j9 h1 h0 h x z y) (sC (cX h1 h0 h x z y)<|ah=lH h1 h0 h x z y/\0=w/\ig i) (aJ=j9 h1 h0 h x z y/\sC (cX h1 h0 h x z y) (ah=j/\n/\e))<|Dq (ak x>y) (aJ=j9 h1 h0 h x z y/\sC (cX h1 h0 h x z y) (k/\r))<|fI h.a h.b h.c/\cd u/\zk h v
def V9(h0:M)(h1:Int)(h:BS)(x:M)(y z:Int)(e:Int×Int):Prop:=sC (cX h0 h1 h x y z)<|ah=lH h0 h1 h x y z/\0=kw h0 h1 h x y z/\iX h=e.1/\0=e.2
section
variable{b:M}{a:Int}{S:BS}{o:M}{w m c n:Int}
def aQK{i k:Nat}(h:i<k):(au i c++au (k-i) 0).set i c=au (i+1) c++au (k- (i+1)) (0:Int):=by rw[aiW _ _ aj,qR,Rp,show k-i=(k- (i+1))+1 by omega,D9,Rg,Rc,qQ];rfl
def Qx(g:ik b a=ab):(r b a).1=a+3/\0<=a/\a+3<=b.size/\0<=bP b a/\bP b a<=2097152/\0<=eY b a/\eY b a<=2:=by
 obtain⟨p,x,y⟩:=Cp g;obtain⟨n,e,_,z,k,_⟩:=Xc x y;have k3:eY b a≠3:=λh=>by grind [asC,ik]
 have kb:(n/2&&&3:Nat)<2^2:=Nat.and_lt_two_pow _ H;grind
theorem Z1(g:¬ik b a=ab):lu b a o w m=((r b a).2.1,(r b a).2.2):=I (by simpa using g)
theorem ZZ(g:ik b a=ab)(h:fv w<bP b a):lu b a o w m=(19,a):=by grind [lu]
theorem Z0(g:ik b a=ab)(h:¬fv w<bP b a)(k:eY b a≠2/\m<o.size+bP b a):lu b a o w m=(18,a):=by grind [lu]
theorem RZ(g:ik b a=ab)(h:¬fv w<bP b a)(k:¬(eY b a≠2/\m<o.size+bP b a))(l:(b.size:Int)- (r b a).1<gC b a):lu b a o w m=(5,(b.size:Int)):=by grind [lu]
theorem R0(g:ik b a=ab)(h:¬fv w<bP b a)(k:¬(eY b a≠2/\m<o.size+bP b a))(l:¬(b.size:Int)- (r b a).1<gC b a):lu b a o w m=(0,0):=by grind [lu]
def RY(g:ik b a=ab)(h:(lu b a o w m).1=0):bP b a<=fv w/\(eY b a≠2->o.size+bP b a<=m)/\(r b a).1+gC b a<=b.size/\lu b a o w m=(0,0):=by grind [ZZ,Z0,RZ,R0]
def aki(h:(lu b a o w m).1=0):ik b a=ab:=mV λg=>by grind [Z1,ik]
def akp{x y:Int}(h:x≠0)(k:lr b a S o w m=(x,y)):aJ=ua b a S o w m/\0=(iP b a S o w m).a/\0=(iP b a S o w m).b/\0=(iP b a S o w m).c/\(iP b a S o w m).l.length=0/\0=(iP b a S o w m).T.a.m/\0=(iP b a S o w m).T.a.s/\0=(iP b a S o w m).T.a.g/\(iP b a S o w m).T.a.p.length=0/\0=(iP b a S o w m).T.b.m/\0=(iP b a S o w m).T.b.s/\0=(iP b a S o w m).T.b.g/\(iP b a S o w m).T.b.p.length=0/\0=(iP b a S o w m).T.c.m/\0=(iP b a S o w m).T.c.s/\0=(iP b a S o w m).T.c.g/\(iP b a S o w m).T.c.p.length=0/\ah=xv b a S o w m/\0=vf b a S o w m/\x=(lr b a S o w m).1/\y=(lr b a S o w m).2:=by unfold ua iP xv vf;rw[k,V h,V h,V h,V h];exact⟨rfl,rfl,rfl,rfl,rfl,rfl,rfl,rfl,rfl,rfl,rfl,rfl,rfl,rfl,rfl,rfl,rfl,rfl,rfl,rfl,rfl⟩
theorem R3{X:BS}{B:M}{n:Int}(k:lr b a S o w m=(0,0))(hB:Bg b a S o w=B)(x:(if eY b a=2 then vh b a S o w else S)=X)(y:(r b a).1+gC b a=n):o++B=ua b a S o w m/\X.a=(iP b a S o w m).a/\X.b=(iP b a S o w m).b/\X.c=(iP b a S o w m).c/\X.l=(iP b a S o w m).l/\X.T.a.m=(iP b a S o w m).T.a.m/\X.T.a.s=(iP b a S o w m).T.a.s/\X.T.a.g=(iP b a S o w m).T.a.g/\X.T.a.p=(iP b a S o w m).T.a.p/\X.T.b.m=(iP b a S o w m).T.b.m/\X.T.b.s=(iP b a S o w m).T.b.s/\X.T.b.g=(iP b a S o w m).T.b.g/\X.T.b.p=(iP b a S o w m).T.b.p/\X.T.c.m=(iP b a S o w m).T.c.m/\X.T.c.s=(iP b a S o w m).T.c.s/\X.T.c.g=(iP b a S o w m).T.c.g/\X.T.c.p=(iP b a S o w m).T.c.p/\iK b (gO b a)=xv b a S o w m/\n=vf b a S o w m/\0=(lr b a S o w m).1/\0=(lr b a S o w m).2:=by
 have h:iP b a S o w m=if eY b a=2 then vh b a S o w else S:=by unfold iP;rw[k];exact I rfl
 grind [ua,xv,vf]
def JV(h:(lu b a o w m).1≠0):lr b a S o w m=lu b a o w m:=I h
def Nt(h:(lu b a o w m).1=0)(k:eY b a≠2):lr b a S o w m=(0,0):=by unfold lr;rw[V λn=>n h,I k]
def ZY(h:(lu b a o w m).1=0)(k:eY b a=2):lr b a S o w m=vg b a S o w m:=by unfold lr;rw[V λn=>n h,V λn=>n k];rfl
def aAB{h e:Int}(k:(jk b h a e S o w m).1=0):jk b h a e S o w m=(0,0):=by
 by_cases j:(vq b a e S m).1≠0
 .grind [J7]
 have j:=mV j;by_cases i:(sg b a e S m).1≠0
 .grind [J8]
 have i:=mV i;by_cases q:kR b a e S o w m=19\/kR b a e S o w m=0/\m<(s_ b a e S o w m).size
 .grind [EJ]
 by_cases l:kR b a e S o w m≠0
 .grind [Hn]
 exact aaq j i q<|mV l
def ako(k:(vg b a S o w m).1=0):vg b a S o w m=(0,0):=by grind [vg]
def alD{h e:Int}:((pV b h a e S o w m).size:Int)<=max m 0:=by
 unfold pV;split
 .rename_i k
  by_cases j:(vq b a e S m).1≠0
  .grind [J7]
  have j:=mV j;by_cases i:(sg b a e S m).1≠0
  .grind [J8]
  have i:=mV i;grind [EJ,Hn]
 .show((0:Nat):Int)<=_
  omega
end
section
variable{b:M}{a:Int}{S:BS}{o:M}{w m:Int}
def uG{x y:Int}(h:x≠0)(k:ed b a S o w m=(x,y)):aJ=j9 b a S o w m/\0=(cX b a S o w m).a/\0=(cX b a S o w m).b/\0=(cX b a S o w m).c/\(cX b a S o w m).l.length=0/\0=(cX b a S o w m).T.a.m/\0=(cX b a S o w m).T.a.s/\0=(cX b a S o w m).T.a.g/\(cX b a S o w m).T.a.p.length=0/\0=(cX b a S o w m).T.b.m/\0=(cX b a S o w m).T.b.s/\0=(cX b a S o w m).T.b.g/\(cX b a S o w m).T.b.p.length=0/\0=(cX b a S o w m).T.c.m/\0=(cX b a S o w m).T.c.s/\0=(cX b a S o w m).T.c.g/\(cX b a S o w m).T.c.p.length=0/\ah=lH b a S o w m/\0=kw b a S o w m/\x=(ed b a S o w m).1/\y=(ed b a S o w m).2:=by unfold j9 cX lH kw;rw[k,V h,V h,V h,V h];exact⟨rfl,rfl,rfl,rfl,rfl,rfl,rfl,rfl,rfl,rfl,rfl,rfl,rfl,rfl,rfl,rfl,rfl,rfl,rfl,rfl,rfl⟩
theorem afJ(k:ed b a S o w m=lr b a S o w m):j9 b a S o w m=ua b a S o w m/\cX b a S o w m=iP b a S o w m/\lH b a S o w m=xv b a S o w m/\kw b a S o w m=vf b a S o w m:=by
 unfold j9 cX lH kw;rw[k];by_cases h:(lr b a S o w m).1=0
 ·rw[I h,I h,I h,I h];exact⟨rfl,rfl,rfl,rfl⟩
 ·unfold ua iP xv vf
  rw[V h,V h,V h,V h,V h,V h,V h,V h];exact⟨rfl,rfl,rfl,rfl⟩
end
def ZC:=m.cons (as1 as0)<| .cons (as1 as9)<| .cons (as4 as3)<| .cons (as4 aNi)<| .cons (exg aBR)<| .cons (exg aMo)<|(CS ayA<|CS ayz<|CS ayB<|CS ayI ayy)
def aUk:=au4.gd ZC Tryz.func46 λ_ _=>⟨(Pd),J (p:=Vs uB)<|by unfold Vs aer Vk aen AE Rq Zq;simp only[yQ,d13,d23,d33,zA,zC,zD];and_intros<;>first|exact gA|rfl⟩
def aOj:=au4.gd ZC Tryz.func29 λ_ _=>⟨(Pd),J (p:=Vs uB)<|by unfold Vs aer Vk aen AE Rq Zq;simp only[yQ,d13,d23,d33,zA,zC,zD];and_intros<;>first|exact gA|rfl⟩
def aUf:=aQy.gd m.nil Tryz.func60 λ⟨c,n⟩ ⟨k,e,_⟩=>⟨(aJp c n),J (p:=aF n (n<=n)<|yb (Zq 1) n (∃(x:Nat),rY x n/\c=c/\n=n/\aZ x/\AM n=Iu x c n)<|∀(x1:Nat),rY x1 n->Dq (Zq x1<n) (o8 x1 (Iu x1 c n) (T x1<(Iu x1 c n).length)<|∃(y:Nat),v7 y n x1<|c=c/\n=n/\bE x1 y/\(Iu x1 c n).set (T x1) c=Iu y c n) (strOfNums (Iu x1 c n)=strOfNums (au n.toNat c)))<|by
 unfold v7 aF Iu AM bE o8 o qh rY yb T cl aZ Rq Wq Zq;refine⟨e.1,jj _,Y,Y,⟨0,dx _,rfl,rfl,rfl,rfl⟩,λi hi=>?_⟩;have hi:i<=n.toNat:=hi;have z:(au i c++au (n.toNat-i) (0:Int)).length=n.toNat:=c9;refine dq (λh=>?_) λh=>?_
 .rw[z]
  refine⟨Y,Y,Y,i+1,(Y:i+1<=n.toNat),?_,rfl,rfl,wr Y Y,?_⟩
  .grind
  .exact aQK Y
 .rw[show n.toNat-i=0 by omega,show i=n.toNat by omega,List.replicate_zero,zK]⟩
def G9:=m.cons aUk<| .cons aOj<| .cons aUf<|ZC
def aUc:=au3.gd G9 Tryz.func24 λ_ _=>⟨(Pd),J (p:=Vy Bw uB)<|by unfold Vy;and_intros<;>first|exact gA|rfl⟩
def aOh:=au3.gd G9 Tryz.func14 λ_ _=>⟨(Pd),J (p:=Vy Bw uB)<|by unfold Vy;and_intros<;>first|exact gA|rfl⟩
def aUb:=XF.gE au2 G9 Tryz.func48 λS ⟨y,x,z,e,k,_⟩=>⟨(aJn S),J (p:=ax8 S (WH S<|Dq ((2:Int)<3) (Rq 2 (Zq 3)<|Bq ((0:Int)==0) (L8 S<|Dq ((3:Int)<3) (tE<|Bq ((0:Int)==0) nu False)<|0=iX S)<|Dq ((3:Int)<3) (tE<|Bq ((0:Int)==0) nu False)<|0=iX S)<|0=iX S) (Dq ((2:Int)<3) (Rq 2 (Zq 3)<|Bq ((0:Int)==0) (L8 S<|Dq ((3:Int)<3) (tE<|Bq ((0:Int)==0) nu False)<|0=iX S)<|Dq ((3:Int)<3) (tE<|Bq ((0:Int)==0) nu False)<|0=iX S)<|0=iX S)<|L8 S<|Dq ((3:Int)<3) (tE<|Bq ((0:Int)==0) nu False)<|0=iX S)<|by
 unfold ax8 mr WH L8 nu vY ft Vn o cd AH tE ja aL Rq Zq;simp only[yQ,d13,d23,d33,zA,zC,zD,ZW];refine⟨y,dq (λh=>⟨x,(),?_⟩) λh=>⟨(),?_⟩,λ_ _=>?_⟩
 .grind [akB]
 .grind [akA]
 .grind⟩
def aOg:=XF.gE au2 G9 Tryz.func31 λS ⟨y,x,z,e,k,_⟩=>⟨(aJo S),J (p:=atP S<|0=iX S)<|by
 unfold atP mr WH L8 vY jL Vn o cd AH xX ja aL Rq Zq;simp only[yQ,d13,d23,d33,zA,zC,zD,ZW];refine⟨y,dq (λh=>⟨x,(),?_⟩) λh=>⟨(),?_⟩,λ_ _=>?_⟩
 .grind [akB]
 .grind [akA]
 .grind⟩
def aUg:=ag4.gE aQz G9 Tryz.func52 λS ⟨e,z,h,x,y,_⟩=>⟨(Pd),J (p:=ax9 S<|AH S<|S.T.c.p=S.T.c.p)<|by unfold ax9 cd nu zo AH tE Rq Zq;simp only[yQ,d13,d23,d33,zA,zC,zD,ZW];have k:=ahM H H h;have p1:=ahM H H x;have p2:=ahM H H y;grind⟩
def aOi:=ag6.gE aQB G9 Tryz.func61 λ⟨b,h,a,e,S,o,w,m⟩ ⟨t,y,s,g,v,d,f,_⟩=>⟨aK,J (p:=atQ b a e S m (bS (lP (jC b (ku (gI b e) a S.l m) e S.T) (lY (gI b e) a S.l m) o S.a S.b S.c w) (aJ=pV b h a e S o w m) (sC (jm b h a e S o w m)<|lP (jC b (ku (gI b e) a S.l m) e S.T) (lY (gI b e) a S.l m) o S.a S.b S.c w=(jk b h a e S o w m).1/\ku (gI b e) a S.l m=(jk b h a e S o w m).2) (3=qf [pX (jC b (ku (gI b e) a S.l m) e S.T) (lY (gI b e) a S.l m) o S.a S.b S.c w,pY (jC b (ku (gI b e) a S.l m) e S.T) (lY (gI b e) a S.l m) o S.a S.b S.c w])<|rL (jC b (ku (gI b e) a S.l m) e S.T) (lY (gI b e) a S.l m) o S.a S.b S.c w=pV b h a e S o w m/\qt (jC b (ku (gI b e) a S.l m) e S.T) (lY (gI b e) a S.l m) o S.a S.b S.c w=(jm b h a e S o w m).a/\pX (jC b (ku (gI b e) a S.l m) e S.T) (lY (gI b e) a S.l m) o S.a S.b S.c w=(jm b h a e S o w m).b/\pY (jC b (ku (gI b e) a S.l m) e S.T) (lY (gI b e) a S.l m) o S.a S.b S.c w=(jm b h a e S o w m).c/\oT (gI b e) a S.l m=(jm b h a e S o w m).l/\U4 (eC b (ku (gI b e) a S.l m) e S.T) (jm b h a e S o w m) ((eC b (ku (gI b e) a S.l m) e S.T).c.p=(jm b h a e S o w m).T.c.p/\dO (jk b h a e S o w m))) [pX (jC b (ku (gI b e) a S.l m) e S.T) (lY (gI b e) a S.l m) o S.a S.b S.c w,pY (jC b (ku (gI b e) a S.l m) e S.T) (lY (gI b e) a S.l m) o S.a S.b S.c w] (aJ=pV b h a e S o w m/\sC (jm b h a e S o w m) (LX (jk b h a e S o w m) h)) (lP (jC b (ku (gI b e) a S.l m) e S.T) (lY (gI b e) a S.l m) o S.a S.b S.c w) (qt (jC b (ku (gI b e) a S.l m) e S.T) (lY (gI b e) a S.l m) o S.a S.b S.c w) (rL (jC b (ku (gI b e) a S.l m) e S.T) (lY (gI b e) a S.l m) o S.a S.b S.c w) (jC b (ku (gI b e) a S.l m) e S.T) (aJ=pV b h a e S o w m) (jm b h a e S o w m) (jk b h a e S o w m)<|ku (gI b e) a S.l m)<|by
 unfold atQ cd LX gI vY zu ft kv dO fP ak sC iU bS U4 gg zk qf Zq;have A:(b.extract 0 e.toNat).size<=600:=by rw[r8];omega
 have B:(ly b a e S m).length<=1000000:=by
  unfold ly jC;split
  .split
   .exact dx _
   .have:=avz ((c b e).extract (Gs (c b e) (dM (c b e)<|oF b a e S m) S.T).toNat (c b e).size) (jh (c b e)<|oF b a e S m)<|AS (c b e) (dM (c b e)<|oF b a e S m) S.T
    unfold yo;omega
  .exact dx _
 refine⟨H,y.1,y.2,A,g,bV (λk=>J9 k<|J7 k) λj=>⟨t,v,d,f,bV (λk=>J9 k<|J8 j k) λi=>⟨s,B,rfl,de (λk=>J9 H<|EJ j i<|.inl k) λk=>?_⟩⟩⟩;have te:jk b h a e S o w m=(0,0)->s_ b a e S o w m=pV b h a e S o w m/\jm b h a e S o w m=⟨qt (ly b a e S m) (nL b a e S m) o S.a S.b S.c w,pX (ly b a e S m) (nL b a e S m) o S.a S.b S.c w,pY (ly b a e S m) (nL b a e S m) o S.a S.b S.c w,oT (c b e) a S.l m,eC b (oF b a e S m) e S.T⟩:=λk=>by
  unfold pV jm;rw[k,I rfl,I rfl];exact⟨rfl,rfl⟩
 refine de (λx=>dq (λq=>J9 H<|EJ j i<|.inr ⟨x,q⟩) λq=>?_) λx=>?_
 .have n:¬(kR b a e S o w m=19\/kR b a e S o w m=0/\m<(s_ b a e S o w m).size):=λz=>z.elim k λz=>q z.2
  refine bV (λl=>J9 l<|Hn j i n l) λl=>?_;have E:=aaq (h:=h) j i n l;obtain⟨r,u⟩:=te E;rw[u,E];exact⟨rfl,r,rfl,rfl,rfl,rfl,rfl,rfl,rfl,rfl,rfl,rfl,rfl,rfl,rfl,rfl,rfl,rfl,rfl,rfl⟩
 .have n:¬(kR b a e S o w m=19\/kR b a e S o w m=0/\m<(s_ b a e S o w m).size):=λz=>z.elim k λz=>x z.1
  exact bV (λl=>J9 l<|Hn j i n l) λl=>absurd l x⟩
def ajT:=m.cons aUc<| .cons aOh<| .cons aUb<| .cons aOg<| .cons aUg<| .cons aOi<|G9
def aOl:=ag7.gE aQC ajT Tryz.func32 λ⟨b,a,S,o,w,m⟩ ⟨Z,hw,ho,W,U,N,R,T,_⟩=>⟨(aJq b a S o w m),J (p:=atS b a S o w m (aL<|Rz b a o w m/\fV b a (o=o) (w=w/\m=m/\aw (fv w) ((2:Int)=2) (aw (bP b a) (Jq<|iK b<|gO b a)<|Jq (r b a).1/\aw (gC b a) (pV b a (r b a).1 (Wq<|(r b a).1+bP b a) S o w (fv w)=ve b a S o w) (B_ S<|ca<|ri (jk b a (r b a).1 (Wq<|(r b a).1+bP b a) S o w<|fv w) (vg b a S o w m)<|xV (jm b a (r b a).1 (Wq<|(r b a).1+bP b a) S o w<|fv w) (vh b a S o w)<|zx (jm b a (r b a).1 (Wq<|(r b a).1+bP b a) S o w<|fv w)<|vh b a S o w)))) (Dq (Am b a>Wq (ak b-Al b a)) (Ca b a o w (m=m)<|Lq w b a S<|ca<|DN (lu b a o w m) b)<|Ca b a o w (m=m)<|Lq w b a S<|ca<|Ak b a=(lu b a o w m).1/\BD b a=(lu b a o w m).2) (xV (jm b a (r b a).1 (Wq<|(r b a).1+bP b a) S o w<|fv w) (vh b a S o w)<|zx (jm b a (r b a).1 (Wq<|(r b a).1+bP b a) S o w<|fv w)<|vh b a S o w) (iK b (gO b a)=xv b a S o w m/\Wq ((r b a).1+bP b a)=vf b a S o w m/\dO (lr b a S o w m)) (Ca b a o w (m=m)<|Lq w b a S<|ca<|Ak b a=(lu b a o w m).1/\BD b a=(lu b a o w m).2) (pV b a (r b a).1 (Wq<|(r b a).1+bP b a) S o w (fv w)=ve b a S o w) (jk b a (r b a).1 (Wq<|(r b a).1+bP b a) S o w<|fv w) (pV b a (r b a).1 (Wq<|(r b a).1+bP b a) S o w<|fv w) (B_ S<|ca<|Ak b a=Ak b a/\BD b a=BD b a) (strOfNums<|au (bP b a).toNat<|Zq<|Yq b (r b a).1.toNat) (Wq<|(r b a).1+bP b a) (Zq<|Yq b (r b a).1.toNat) (iP b a S o w m) (lu b a o w m) (Rz b a o w m) (vh b a S o w) (iK b<|gO b a) (r b a).1 (bP b a)<|Fa b a)<|by
 unfold atS Cj cd xa LX DN fV zx aF LR vY LP mr iy eO Ca dE B_ kv dO ay wX pG ak Lq aw vV sC cE ri iU bS cU ca ja aL AE zk xV bD Rq Wq Zq Yq Jq;simp only[xo,sZ,Rs,MV,zQ];have C:min w 131072=fv w:=rfl;have mw1:fv w<=131072/\0<=fv w:=by unfold fv;omega
 refine⟨cq (λg=>⟨Y,(I g).symm,(I g).symm,(I g).symm,(I g).symm,rfl,rfl,rfl,rfl,rfl,rfl,rfl,rfl,rfl,rfl,rfl,rfl,(I g).symm,(I g).symm⟩) λg=>⟨Y,(V g).symm,(V g).symm,(V g).symm,(V g).symm,rfl,rfl,rfl,rfl,rfl,rfl,rfl,rfl,rfl,rfl,rfl,rfl,(V g).symm,(V g).symm⟩,de (λk=>⟨C,(I k).symm⟩) λk=>⟨C,(V k).symm⟩,?_,bV (λe=>akp e<|JV e) λe=>?_,λP=>⟨?_,λQ=>?_⟩⟩
 .by_cases g:ik b a=ab
  .have j:Ak b a=0:=I g
   have c:BD b a=0:=I g;have v:vF b a=eY b a:=I g;have e4:Fa b a=bP b a:=I g;have H:Al b a=(r b a).1:=I g;have K:Am b a=gC b a:=by unfold Am gC;rw[v,e4]
   obtain⟨p,t,A,f,D,B,u⟩:=Qx g;have bx:0<=gC b a:=by unfold gC;split<;>omega
   rw[j,c,v,e4,H,K,wr (n:=(b.size:Int)- (r b a).1) Y Y,wr (n:=(o.size:Int)+bP b a) Y Y];refine⟨λk=>(by simp at k),λ_=>dq (λh=>by rw[ZZ g h];exact⟨rfl,rfl⟩) λh=>bV (λk=>dq (λl=>by rw[Z0 g h ⟨k,l⟩];exact⟨rfl,rfl⟩) λl=>?_) λk=>?_⟩
   .have n:¬(eY b a≠2/\m<o.size+bP b a):=λq=>l q.2
    exact dq (λx=>by rw[RZ g h n Y];exact⟨rfl,rfl⟩) λx=>by rw[R0 g h n Y];exact⟨rfl,rfl⟩
   .have n:¬(eY b a≠2/\m<o.size+bP b a):=λq=>q.1 k
    exact dq (fun x=>by rw[RZ g h n Y];exact⟨rfl,rfl⟩) fun x=>by rw[R0 g h n Y];exact⟨rfl,rfl⟩
  ·have j:Ak b a=(r b a).2.1:=V g
   have c:BD b a=(r b a).2.2:=V g;have ne:(r b a).2.1≠0:=fun h=>g (by unfold ik;rw[h];rfl);rw[j,c,Z1 g];exact bV (fun _=>⟨rfl,rfl⟩) fun k=>absurd k ne
 ·have g:=aki e
  obtain⟨z,l,x,E⟩:=RY g e;have v:vF b a=eY b a:=I g;have e4:Fa b a=bP b a:=I g;exact⟨⟨g,E⟩,v,e4,I g,I g,by unfold Am gC;rw[v,e4],e,by rw[E]⟩
 ·have e:(lu b a o w m).1=0:=by rw[P.e]
  obtain⟨z,l,x,E⟩:=RY P.g e;obtain⟨p,t,A,f,D,B,u⟩:=Qx P.g;rw[wr (n:=(r b a).1+bP b a) Y Y,wr (n:=(r b a).1+1) Y Y];refine de (fun k=>?_) fun k=>de (fun u=>?_) fun u=>⟨⟨P,Y⟩,Y⟩
  ·have y:gC b a=bP b a:=V Y
   rw[y]at x;refine⟨Y,Y,x,by rw[r8];omega,R3 (X:=S) (Nt e Y) (I k) (V Y) (by rw[y])⟩
  ·have y:gC b a=1:=I u
   rw[y]at x;refine⟨Y,Y,⟨Y,?_⟩,⟨f,Y⟩,?_,R3 (X:=S) (Nt e Y) ?_ (V Y) (by rw[y])⟩
   ·have:=CW b (r b a).1.toNat
    omega
   ·have:(strOfNums (au (bP b a).toNat ((b.data.toList.getD (r b a).1.toNat 0).toNat:Int))).size=(bP b a).toNat:=by
     rw[show(strOfNums (au (bP b a).toNat ((b.data.toList.getD (r b a).1.toNat 0).toNat:Int))).size=((au (bP b a).toNat ((b.data.toList.getD (r b a).1.toNat 0).toNat:Int)).map fun n=>zW n.toNat).toArray.size from dR Y6 (DS _)];simp
    rw[this];omega
   ·unfold Bg
    rw[V Y,I u];rfl
 ·have e:(lu b a o w m).1=0:=by rw[Q.e]
  obtain⟨z,l,x,E⟩:=RY Q.g e;obtain⟨p,t,A,f,D,B,u⟩:=Qx Q.g;have y:gC b a=bP b a:=V (by have:=Q.k;omega);rw[y]at x;have sz:=alD (b:=b) (h:=a) (a:=(r b a).1) (e:=(r b a).1+bP b a) (S:=S) (o:=o) (w:=w) (m:=fv w);have d:vg b a S o w m=if(se b a S o w).1≠0 then se b a S o w else if m<o.size+(ve b a S o w).size then(18,a)else(0,0):=rfl;rw[wr (n:=(r b a).1+bP b a) Y Y,wr (n:=(o.size:Int)+((pV b a (r b a).1 ((r b a).1+bP b a) S o w (fv w)).size:Nat)) Y Y];have i:pV b a (r b a).1 ((r b a).1+bP b a) S o w (fv w)=ve b a S o w:=rfl;have L:jk b a (r b a).1 ((r b a).1+bP b a) S o w (fv w)=se b a S o w:=rfl;have M:jm b a (r b a).1 ((r b a).1+bP b a) S o w (fv w)=vh b a S o w:=rfl;rw[i]at sz;rw[i,L,M];refine⟨Z,⟨Y,Y⟩,W,U,N,R,T,de (fun k=>dq (fun q=>?_) fun q=>?_) fun k=>?_,fun Q=>?_⟩
  ·rw[d,V (fun n=>n k),I Y]
   exact⟨Q,rfl,rfl,rfl,rfl,rfl,rfl,rfl,rfl,rfl,rfl,rfl,rfl,rfl,rfl,rfl,rfl,rfl,rfl,rfl⟩
  ·have E0:se b a S o w=(0,(se b a S o w).2):=by rw[<-k]
   have F:(se b a S o w).2=0:=by rw[show se b a S o w=(0,0)from aAB k]
   rw[d,V (fun n=>n k),V Y];exact⟨Q,rfl,k,F,rfl,rfl,rfl,rfl,rfl,rfl,rfl,rfl,rfl,rfl,rfl,rfl,rfl,rfl,rfl,rfl⟩
  ·rw[d,I k]
   exact⟨Q,rfl,rfl,rfl,rfl,rfl,rfl,rfl,rfl,rfl,rfl,rfl,rfl,rfl,rfl,rfl,rfl,rfl,rfl,rfl⟩
  ·have s:=ZY (S:=S) e Q.k
   refine bV (fun k=>akp k s) fun k=>⟨Y,?_⟩;have G:vg b a S o w m=(0,0):=ako k;exact R3 (X:=vh b a S o w) (s.trans G) (by unfold Bg;rw[V (by have:=Q.k;omega),V (by have:=Q.k;omega)]) (I Q.k) (by rw[y])⟩
def ajU:=m.cons aOl<|ajT
def aOk:=Gq.gE au5 ajU Tryz.func15 λ⟨b,a,S,o,w,m⟩ ⟨j,v,u,z,e,r,_⟩=>⟨aK,J (p:=VP a b S o w m (kw b a S o w m) (ed b a S o w m) (lH b a S o w m) (0=kw b a S o w m) (ig<|ed b a S o w m) (ah=lH b a S o w m) (0=kw b a S o w m/\ig (ed b a S o w m)) S.l<|bS (iX S) (aJ=j9 b a S o w m) (V9 b a S o w m<|ed b a S o w m) (kv b)<|(0<=w/\w<=134217728)/\(ak o<=m/\m<=1048576)/\Cj S S.l (ua b a S o w m=j9 b a S o w m/\xV (iP b a S o w m) (cX b a S o w m) (zx (iP b a S o w m) (cX b a S o w m)/\xv b a S o w m=lH b a S o w m/\vf b a S o w m=kw b a S o w m/\iU (lr b a S o w m) (ed b a S o w m))))<|by
 unfold Cj zx vY V9 VP cd aeH nS ig kv ak sC iU bS zk xV Zq;have x:wG b a o w m->ed b a S o w m=(2,0):=λh=>I h;have y:(2:Int)≠0:=H;refine dq (λh=>uG y<|x<|.inl h) λc=>dq (λh=>uG y<|x<|.inr<|.inl h) λd=>dq (λh=>uG y<|x<|.inr<|.inr<|.inl h) λf=>dq (λh=>uG y<|x<|.inr<|.inr<|.inr<|.inl h) λi4=>dq (λh=>uG y<|x<|.inr<|.inr<|.inr<|.inr<|.inl h) λg=>dq (λh=>uG y<|x<|.inr<|.inr<|.inr<|.inr<|.inr<|.inl h) λq=>dq (λh=>uG y<|x<|.inr<|.inr<|.inr<|.inr<|.inr<|.inr h) λs=>?_;have i:¬wG b a o w m:=by unfold wG;omega
 refine⟨v,u,z,e,r,bV (λk=>uG k ?_) λk=>?_⟩
 .unfold ed;rw[V i,I k]
 .have E:ed b a S o w m=lr b a S o w m:=by unfold ed;rw[V i,V λn=>n k]
  obtain⟨g1,g2,g3,g4⟩:=afJ E;rw[g1,g2,g3,g4,E];exact⟨j,⟨Y,Y⟩,⟨Y,Y⟩,v,u,z,e,r,rfl,rfl,rfl,rfl,rfl,rfl,rfl,rfl,rfl,rfl,rfl,rfl,rfl,rfl,rfl,rfl,rfl,rfl,rfl,rfl,rfl⟩⟩
def ayK:=m.cons aOk<|ajU
def su(n:Int)(i:Nat):N:=(fM i).map λj=>n/256^j%256
def qb(n:Int):M:=strOfNums<|su n 4
def aOT:Spec:=Sp Int [.u,.z 4] λn=>([E<|0<=n/\n<4294967296],aE<|aD<|qb n)
def auj:Spec:=Sp Int [.u,.z 4] λn=>([E<|0<=n/\n<4294967296],aE<|.tu [aD<|qb n,B 0])
def auE:Spec:=Sp M [.s] λs=>([E<|s.size<=10000000],aE<|aD<|qb<|pN s)
def aHA(n:Int):bO:=dX [(0,.one<|bi Nat λi=>(i<=4,[(0,dy<|n/256^i),(5,.o 5000),(7,B 4),(8,cP i)],[(5000,.row 5<|.ints .u8<|su n i)],4-i))]
def aHN(n:Int):bO:=dX [(0,.one<|bi Nat λi=>(i<=4,[(0,dy<|n/256^i),(1,B 4),(6,aD<|strOfNums<|su n i),(7,cP i)],[],4-i))]
def asS(n:Int)(D:Prop):Prop:=Dq ((4:Int)<1) D<|Dq ((4:Int)>8) D<|(∃(x:Nat),x.le 4/\n=n/256^x/\(4:Int)=4/\aJ=strOfNums (su n x)/\aZ x)/\(∀(x1:Nat),x1.le 4->Dq (Zq x1<4) ((256:Int)≠0/\wX (strOfNums<|su n x1) (strOfNums [Q .u8<|(n/256^x1).tmod 256])/\(256:Int)≠0/\(∃(h:Nat),h.le 4/\fj 4 h<fj 4 x1/\Uq ((n/256^x1).tdiv 256)=n/256^h/\(4:Int)=4/\strOfNums (su n x1)++strOfNums [Q .u8<|(n/256^x1).tmod 256]=strOfNums (su n h)/\bE x1 h)) (Dq (n/256^x1>0) D<|strOfNums (su n x1)=qb n/\a_))
def Wv(h0:M):Prop:=oW h0/\(fU (pN h0)/\Uq (pN h0)<4294967296)/\qb (Uq<|pN h0)=qb (pN h0)
section
variable{n:Int}{s:M}
def apb(i:Nat):(su n i).length=i:=by unfold su;rw[qk,YB]
def apc(i:Nat):su n (i+1)=su n i++ [n/256^i%256]:=by unfold su;rw[aiu,yA];rfl
def apa(i:Nat):n/256^i/256=n/256^(i+1):=by rw[Rm<|wA<|Int.pow_pos H,MW]
def ac5(h:0<=n/\n<4294967296)(i:Nat):0<=n/256^i/\n/256^i<4294967296:=by have hp:(0:Int)<256^i:=Int.pow_pos H;refine⟨Js h.1 Y,?_⟩;have:n/256^i<=n:=GP _ h.1;omega
def aRo(l:N)(x:Int):strOfNums l++strOfNums [x]=strOfNums (l++ [x]):=by apply Yu;rw[ByteArray.data_append,DS,DS,DS,yA];simp
def axx:0<=pN s/\pN s<4294967296:=by unfold pN;rw[IntKind.wrap_u32];omega
end
def aCg:=aOT.gd m.nil Tryz.func55 λ(n:Int) ⟨h,_⟩=>⟨(aHA n),J (p:=ft ((0:Int)<=8)<|Zq 1*8<=281474976710656/\(8:Int)<=9223372036854775807/\(∃(y:Nat),y.le 4/\n=n/256^y/\(4:Int)=4/\aZ y/\au 0 (0:Int)=su n y)/\(∀(x1:Nat),x1.le 4->Dq (Zq x1<4) (FJ (su n x1)/\(0:Int)<=8/\(∃(x:Nat),x.le 4/\fj 4 x<fj 4 x1/\(n/256^x1).fdiv (2^aB (8:Nat) IntKind.u64.bits)=n/256^x/\(4:Int)=4/\bE x1 x/\su n x1++ [Q .u8<|n/256^x1]=su n x)) (strOfNums (su n x1)=qb n)))<|by
 unfold bE ft FJ aZ Wq Zq;refine⟨H,H,H,H,⟨0,dx _,by rw[Int.pow_zero,Int.ediv_one],rfl,rfl,rfl⟩,λi hi=>?_⟩;have hi:i<=4:=hi;have z:=ac5 h i;refine dq (λk=>⟨by rw[apb];omega,H,i+1,(Y:i+1<=4),(by show 4- (i+1)<4-i;omega),?_,rfl,wr Y Y,?_⟩) λk=>?_
 .rw[<-apa i]
  exact yD _ H
 .rw[apc,IntKind.wrap_u8]
 .rw[show i=4 by omega];rfl⟩
def aMX:=auj.gd m.nil Tryz.func33 λ(n:Int) ⟨h,_⟩=>⟨(aHN n),J (p:=asS n<|aJ=qb n/\(2:Int)=0)<|by
 unfold asS a_ bE aZ wX Wq Uq Zq;refine rK H<|rK H ⟨⟨0,dx _,by rw[Int.pow_zero,Int.ediv_one],rfl,rfl,rfl⟩,λi hi=>?_⟩;have hi:i<=4:=hi;have x:=ac5 h i;have z:=ac5 h<|i+1;have y:∀l:N,(strOfNums l).size=l.length:=λl=>by
  rw[show(strOfNums l).size=(l.map λn=>zW n.toNat).toArray.size from dR Y6<|DS _];simp
 refine dq (λk=>⟨H,by rw[y,y,apb];show i+1<=_;omega,H,i+1,(Y:i+1<=4),(by show 4- (i+1)<4-i;omega),?_,rfl,?_,wr Y Y⟩) λk=>?_
 .rw[MR x.1,apa,Rn]
  omega
 .rw[apc,Jo x.1,aRo,IntKind.wrap_u8]
  congr 3;omega
 .have e:i=4:=Y
  subst e;have:n/256^4=0:=by
   have:(256:Int)^4=4294967296:=H;rw[this];omega
  rw[this];exact rK H ⟨rfl,rfl⟩⟩
def aju:=m.cons aCg<| .cons aMX<|ayK
def aGl:=auj.gd aju Tryz.func27 λ(n:Int) ⟨h,_⟩=>⟨aK,J (p:=Dq ((4:Int)<1) (aJ=qb n/\(2:Int)=0)<|Dq ((4:Int)>8) (aJ=qb n/\(2:Int)=0)<|Dq ((4:Int)<8) ((0:Int)<=32/\bS (n.fdiv<|2^aB (32:Nat) IntKind.u64.bits) (aJ=qb n) ((2:Int)=0) (0<=n/\n<4294967296) (qb n=qb n/\a_))<|(0<=n/\n<4294967296)/\qb n=qb n/\a_)<|by unfold a_ bS;refine rK H<|rK H<|SL H ⟨H,bV (λk=>?_) λk=>⟨h,rfl,rfl⟩⟩;exfalso;apply k;have:(2:Int)^min 32 IntKind.u64.bits=4294967296:=H;rw[this,yD _ H];omega⟩
def Zg:=m.cons aGl<|aju
def aQP:=auE.gd Zg Tryz.func13 λ(s:M) ⟨h,_⟩=>⟨aK,J (p:=Wv s)<|by
 unfold Wv fU oW Uq;have:=axx (s:=s);have e:Q .u64 (pN s)=pN s:=by rw[Rn];omega
 rw[e];exact⟨Y,this,rfl⟩⟩
def aNF:=auE.gd Zg Tryz.func16 λ(s:M) ⟨h,_⟩=>⟨aK,J (p:=Wv s)<|by
 unfold Wv fU oW Uq;have:=axx (s:=s);have e:Q .u64 (pN s)=pN s:=by rw[Rn];omega
 rw[e];exact⟨Y,this,rfl⟩⟩
def ajv:=m.cons aQP<| .cons aNF<|Zg
def J'(b:M)(w m:Int):Nat->M->BS->Int->(Int×Int)×(M×Int)
 |0,o,S,p=>((0,0),(o,p))
 |k+1,o,S,p=>if(ed b p S o w m).1≠0 then(ed b p S o w m,(aJ,0))else if lH b p S o w m=ab then((0,0),(j9 b p S o w m,kw b p S o w m))else J' b w m k (j9 b p S o w m) (cX b p S o w m)<|kw b p S o w m
def C8(b:M)(a m:Int):(Int×Int)×(M×Int):=J' b (bc b a) m (b.size+1) aJ Bw<|bJ b a
def EN(b:M)(a m:Int):M:=(C8 b a m).2.1
def xG(b:M)(a m:Int):Int:=(C8 b a m).2.2
def Bx(b:M)(a m:Int):Int×Int:=
 if 0<=dj b a/\dj b a≠(EN b a m).size then(27,xG b a m)else if dN b a=ah then(0,0)else if(b.size:Int)-xG b a m<4 then(5,(b.size:Int))
 else if b.extract (xG b a m).toNat (xG b a m+4).toNat≠qb (pN<|EN b a m)then(13,xG b a m)else(0,0)
def je(b:M)(a m:Int):Int×Int:=if gP b a m=ab then(if(C8 b a m).1.1≠0 then(C8 b a m).1 else Bx b a m)else iB b a m
def rN(b:M)(a m:Int):M:=if(je b a m).1=0 then EN b a m else aJ
def rM(b:M)(a m:Int):Int:=if(je b a m).1=0 then(if dN b a=ab then xG b a m+4 else xG b a m)else 0
structure t_ where
 o:M
 S:BS
 p:Int
 l:Bool
 k:Nat
structure A_ (b:M) (a m:Int) (g:t_):Prop where
 h:gP b a m=ab
 r:fI g.S.a g.S.b g.S.c
 ls:g.S.l.length<=4294967296
 t0:tbE 0 g.S.T.a.m g.S.T.a.s g.S.T.a.g g.S.T.a.p=0
 t1:tbE 1 g.S.T.b.m g.S.T.b.s g.S.T.b.g g.S.T.b.p=0
 t2:tbE 2 g.S.T.c.m g.S.T.c.s g.S.T.c.g g.S.T.c.p=0
 oz:g.o.size<=1048576
 p0:0<=g.p
 p1:g.p<=b.size
 k1:(b.size:Int)+1-g.p<=g.k
 nl:g.l=ah->J' b (bc b a) m g.k g.o g.S g.p=C8 b a m
 la:g.l=ab->((0,0),(g.o,g.p))=C8 b a m
section
variable{b s:M}{a e p:Int}{S:BS}{o:M}{w m:Int}{T:T3}
def aLv(h:(ed b p S o w m).1=0):¬wG b p o w m/\(lr b p S o w m).1=0/\ed b p S o w m=lr b p S o w m:=by
 unfold ed at h|-;by_cases i:wG b p o w m
 .rw[I i]at h;cases h
 by_cases k:iX S≠0
 .rw[V i,I k]at h;exact absurd h k
 rw[V i,V k]at h|-;exact⟨i,h,rfl⟩
def azy(h:(lr b p S o w m).1=0):lr b p S o w m=(0,0)/\(lu b p o w m).1=0/\(eY b p=2->(se b p S o w).1=0/\o.size+(ve b p S o w).size<=m):=by
 by_cases f:(lu b p o w m).1≠0
 .rw[JV f]at h;exact absurd h f
 have f:(lu b p o w m).1=0:=mV f;by_cases k:eY b p=2
 .rw[ZY f k]at h|-
  refine⟨ako h,f,λ_=>?_⟩;unfold vg at h;by_cases j:(se b p S o w).1≠0
  .rw[I j]at h;exact absurd h j
  rw[V j]at h;by_cases q:m<o.size+(ve b p S o w).size
  .rw[I q]at h;cases h
  exact⟨mV j,Y⟩
 .exact⟨Nt f k,f,λh=>absurd h k⟩
def aRr(i:s.size<=600)(r:T.R)(h:(iH s a e T).1=0):(eC s a e T).R:=by
 by_cases b:uK s a e
 .rw[show iH s a e T=(2,0)from I b]at h;cases h
 have E:=QE (T:=T) b;have v:eC s a e T=if jh (c s e) a=0 then T else AS (c s e) (dM (c s e) a) T:=by unfold eC;rw[I h]
 rw[v];by_cases n:jh (c s e) a=0
 .rw[I n];exact r
 rw[V n];rw[E]at h;cases g:li (c s e) a
 .rw[ahm g]at h
  unfold kZ at h;cases j:lc (c s e) a<;>rw[j]at h<;>cases h
 by_cases q:dM (c s e) a=(c s e).size
 .rw[ahs g n q]at h;cases h
 by_cases k:u (c s e) (dM (c s e) a)%4=0
 .by_cases x:(wg (c s e) (dM (c s e) a) T).1=0
  .by_cases y:(zH (c s e) (dM (c s e) a) T).1=0
   .by_cases z:(Cu (c s e) (dM (c s e) a) T).1=0
    .exact(ahy i r ⟨b,g,n,q,k,x,y,z⟩).2.2.1
    .rw[ahp g n q k x y z]at h;exact absurd h z
   .rw[aho g n q k x y]at h;exact absurd h y
  .rw[ahn g n q k x]at h;exact absurd h x
 .rw[ahq g n q k]at h;cases h
def aBB{l:q}{t bf:M}{a b c W:Int}(y:fI a b c)(h:lP l t bf a b c W=0):fI (qt l t bf a b c W) (pX l t bf a b c W) (pY l t bf a b c W):=by have C:=(aaU h).1;unfold qt pX pY;rw[I h,I h,I h];exact aBd (λx z=>(Mt C.q).2 x z) y
def aGq{l:N}(x:l.length<=4294967296):(oT s a l m).length<=4294967296:=by
 unfold oT;split
 .split
  .exact x
  .unfold kr
   split
   .cases h:decide ((trE (oU s a)<|cx s a).1=0)
    .unfold trZ
     rw[V<|nD h];exact dx _
    .obtain⟨k,y,z⟩:=awB<|ow h
     have:=(awF y).2.1;rw[z];omega
   .exact x
 .exact dx _
def afH(L:b.size<=600)(d:S.R)(h:(ed b p S o w m).1=0):(cX b p S o w m).R/\ed b p S o w m=(0,0)/\((j9 b p S o w m).size:Int)<=m/\m<=1048576/\3+p<=kw b p S o w m/\kw b p S o w m<=b.size/\0<=p:=by
 obtain⟨i,F,B⟩:=aLv h;obtain⟨E,f,c⟩:=azy F;obtain⟨g1,g2,g3,g4⟩:=afJ B;have g:=aki f;obtain⟨z,l,x,_⟩:=RY g f;obtain⟨q,D,Q,X,Z,W,A⟩:=Qx g;unfold wG at i;have U:0<=gC b p:=by unfold gC;split<;>omega
 have P:∀l:N,(strOfNums l).size=l.length:=λl=>by
  rw[show(strOfNums l).size=(l.map λn=>zW n.toNat).toArray.size from dR Y6<|DS _];simp
 rw[g1,g2,g4,B,E];have H:ua b p S o w m=o++Bg b p S o w:=by unfold ua;rw[E];exact I rfl
 have J:iP b p S o w m=if eY b p=2 then vh b p S o w else S:=by unfold iP;rw[E];exact I rfl
 have G:vf b p S o w m=(r b p).1+gC b p:=by unfold vf;rw[E];exact I rfl
 rw[H,J,G];refine⟨?_,rfl,?_,Y,Y,x,D⟩
 .by_cases k:eY b p=2
  .rw[I k]
   have C:=(c k).1;have y:(jk b p (r b p).1 ((r b p).1+bP b p) S o w<|fv w).1=0:=C;have K:vh b p S o w=_:=I y;rw[K];have j:(vq b (r b p).1 ((r b p).1+bP b p) S<|fv w).1=0:=mV λj=>by rw[J7 j]at y;exact j y
   have u:(sg b (r b p).1 ((r b p).1+bP b p) S<|fv w).1=0:=mV λu=>by rw[J8 j u]at y;exact u y
   have v:kR b (r b p).1 ((r b p).1+bP b p) S o w (fv w)=0:=mV λv=>by
    by_cases q:kR b (r b p).1 ((r b p).1+bP b p) S o w (fv w)=19\/kR b (r b p).1 ((r b p).1+bP b p) S o w (fv w)=0/\fv w<(s_ b (r b p).1 ((r b p).1+bP b p) S o w<|fv w).size
    .rw[EJ j u q]at y;cases y
    .rw[Hn j u q v]at y;exact v y
   exact⟨aBB d.r v,aGq d.l,aRr L d.t u⟩
  .rw[V k];exact d
 .rw[ByteArray.size_append]
  unfold Bg;by_cases k:eY b p=0
  .rw[I k,r8]
   have:=l Y;omega
  .by_cases A:eY b p=1
   .rw[V k,I A,P,qR]
    have:=l Y;omega
   .rw[V k,V A]
    have:=(c Y).2;omega
end
def at':Spec:=Sp (M×Int×Int) [.s,.i,.i] λ(b,a,m)=>([E<|b.size<=600],aE<|.tu [aD<|rN b a m,B<|rM b a m,.ag [.v<|.int .i64 (je b a m).1,.v<|.int .i64 (je b a m).2]])
def hdC(k:Nat)(b:M)(a:Int):Nat×bm:=(k,.cells 29 [.v<|.int .i64<|bc b a,.v<|.int .i64<|dj b a,.v<|.bool<|gQ b a,.v<|.bool<|dN b a])
def aHC(b:M)(a m:Int):bO:=dX [
 (0,.one {ι:=t_,p:=A_ b a m,tm:=λg=>[(0,aD b),(1,B g.p),(2,B m),(8,U 1001),(9,U 1002),(10,U 1003),(11,aD g.o),(12,U 1004),(13,fN g.l)],hp:=λg=>[yV 1001 0 0,hdC 1002 b a,yV 1003 0 0,(1004,.cells 49 g.S.v)],μ:=λg=>g.k})]
def WO(h0:BS)(h1:t_):Prop:=h0.a=h1.S.a/\h0.b=h1.S.b/\h0.c=h1.S.c/\h0.l=h1.S.l/\h0.T.a.m=h1.S.T.a.m/\h0.T.a.s=h1.S.T.a.s/\h0.T.a.g=h1.S.T.a.g/\h0.T.a.p=h1.S.T.a.p/\h0.T.b.m=h1.S.T.b.m/\h0.T.b.s=h1.S.T.b.s/\h0.T.b.g=h1.S.T.b.g/\h0.T.b.p=h1.S.T.b.p/\h0.T.c.m=h1.S.T.c.m/\h0.T.c.s=h1.S.T.c.s/\h0.T.c.g=h1.S.T.c.g/\h0.T.c.p=h1.S.T.c.p
def ara(h0:M)(h1:Int)(x:Int×Int)(h:t_)(y:Int)(z:t_):Prop:=ca<|aw (bc h0 h1) (dj h0 h1=dj h0 h1)<|gQ h0 h1=gQ h0 h1/\dN h0 h1=dN h0 h1/\x.1=0/\x.2=0/\WO (cX h0 h.p h.S h.o (bc h0 h1) y) z
def arb(h0:Int×Int)(h1:M)(x y u:Int)(v:Int×Int)(w:Nat)(i:Prop)(j:Int)(n:Prop)(z:M)(e:Bool)(r:t_):Prop:=Bq (h0.1 !=0) (aJ=rN h1 x y/\0=u/\iU h0 v)<|∃(h:t_),A_ h1 x y h/\h.k<w/\i/\j=h.p/\n/\z=h.o/\e=h.l/\ara h1 x h0 r y h
def arc(h0:M)(h1:t_)(x h:Int):Prop:=arb (ed h0 h1.p h1.S h1.o (bc h0 x) h) h0 x h (rM h0 x h) (je h0 x h) h1.k (h0=h0) (kw h0 h1.p h1.S h1.o (bc h0 x) h) (h=h) (j9 h0 h1.p h1.S h1.o (bc h0 x) h) (lH h0 h1.p h1.S h1.o (bc h0 x) h) h1
def aeJ(h0:Bool)(h1:M)(h x:Int)(z:Int×Int)(y:t_):Prop:=Bq (!h0) (aJ=rN h1 h x/\0=rM h1 h x/\13=z.1/\y.p=z.2)<|y.o=rN h1 h x/\Wq (y.p+4)=rM h1 h x/\dO (je h1 h x)
def ark(h0:M)(h1:t_)(h x:Int):Prop:=kv h0/\fI h1.S.a h1.S.b h1.S.c/\cd h1.S.l/\tbE 0 h1.S.T.a.m h1.S.T.a.s h1.S.T.a.g h1.S.T.a.p=0/\tbE 1 h1.S.T.b.m h1.S.T.b.s h1.S.T.b.g h1.S.T.b.p=0/\tbE 2 h1.S.T.c.m h1.S.T.c.s h1.S.T.c.g h1.S.T.c.p=0/\arc h0 h1 h x
def arl(h0:M)(h1 e v:Int)(y:M)(z r u:Int)(w:Bool)(k:Int×Int)(x:Int):Prop:=∀(h:t_),A_ h0 h1 e h->Bq (!h.l) (ark h0 h h1 e) (Dq (v>=0) (Bq (v !=ak h.o) (aJ=y/\0=z/\27=r/\h.p=u)<|Bq w (h.o=y/\h.p=z/\dO k)<|Dq (Wq (x-h.p)<4) (aJ=y/\0=z/\5=r/\x=u)<|0<=h.p/\h.p<=Wq (h.p+4)/\Wq (h.p+4)<=x/\h.o.size<=10000000/\aeJ ((cU h0 h.p<|Wq<|h.p+4).toList==(qb<|pN h.o).toList) h0 h1 e k h)<|Bq w (h.o=y/\h.p=z/\dO k)<|Dq (Wq (x-h.p)<4) (aJ=y/\0=z/\5=r/\x=u)<|0<=h.p/\h.p<=Wq (h.p+4)/\Wq (h.p+4)<=x/\h.o.size<=10000000/\aeJ ((cU h0 h.p<|Wq<|h.p+4).toList==(qb<|pN h.o).toList) h0 h1 e k h)
def asz(b:M)(a m:Int)(D:Prop):Prop:=pG (gP b a m) (bD b) (sF (aJ=rN b a m) (0=rM b a m/\dO (je b a m)) (∃(h:t_),A_ b a m h/\b=b/\bJ b a=h.p/\m=m/\aJ=h.o/\ah=h.l/\ca (aw (bc b a) (dj b a=dj b a)<|gQ b a=gQ b a/\dN b a=dN b a/\ca (WO Bw h))) D)<|bS (iB b a m).1 (aJ=rN b a m) (0=rM b a m/\iU (iB b a m) (je b a m)) (∃(x:t_),A_ b a m x/\b=b/\0=x.p/\m=m/\aJ=x.o/\ah=x.l/\ca (0=bc b a/\0=dj b a/\xa (gQ b a) (ah=dN b a) (L3 (iB b a m)<|WO Bw x))) D
section
variable{b:M}{a m:Int}{g:t_}
def amD(h:¬gP b a m=ab):(iB b a m).1≠0:=by grind [iB]
def Hy{x y:Int}(h:x≠0)(k:je b a m=(x,y)):aJ=rN b a m/\0=rM b a m/\x=(je b a m).1/\y=(je b a m).2:=by grind [rN,rM]
def am1(k:je b a m=(0,0)):EN b a m=rN b a m/\(if dN b a=ab then xG b a m+4 else xG b a m)=rM b a m/\0=(je b a m).1/\0=(je b a m).2:=by grind [rN,rM]
def aCF:A_ b a m ⟨aJ,Bw,bJ b a,ah,b.size+1⟩\/¬gP b a m=ab:=by
 by_cases h:gP b a m=ab
 .have n:=@Tu b a
  exact .inl ⟨h,(H:fI 1 4 8),dx _,(H:tbE 0 (-1) 0 0 []=0),(H:tbE 1 (-1) 0 0 []=0),(H:tbE 2 (-1) 0 0 []=0),dx _,n.1,n.2,by have:=n.1;show(b.size:Int)+1-bJ b a<=((b.size+1:Nat):Int);push_cast;omega,λ_=>rfl,λk=>by cases k⟩
 .exact .inr h
def S4{k:Nat}(h:0<k){w:Int}{o:M}{S:BS}{p:Int}:J' b w m k o S p=if(ed b p S o w m).1≠0 then(ed b p S o w m,(aJ,0))else if lH b p S o w m=ab then((0,0),(j9 b p S o w m,kw b p S o w m))else J' b w m (k-1) (j9 b p S o w m) (cX b p S o w m) (kw b p S o w m):=by
 cases k with
 |zero=>omega
 |succ k=>rfl
def aB2(P:A_ b a m g)(l:g.l=ah)(h:(ed b g.p g.S g.o (bc b a) m).1≠0):je b a m=ed b g.p g.S g.o (bc b a) m:=by have k1:=P.k1;have p1:=P.p1;have e:=P.nl l;rw[S4 Y,I h]at e;unfold je;rw[I P.h,<-e,I h]
def fbN(b:M)(a m:Int)(g:t_):t_:=⟨j9 b g.p g.S g.o (bc b a) m,cX b g.p g.S g.o (bc b a) m,kw b g.p g.S g.o (bc b a) m,lH b g.p g.S g.o (bc b a) m,g.k-1⟩
def aB4(x:b.size<=600)(P:A_ b a m g)(l:g.l=ah)(h:(ed b g.p g.S g.o (bc b a) m).1=0):A_ b a m (fbN b a m g)/\g.k-1<g.k/\ed b g.p g.S g.o (bc b a) m=(0,0):=by
 have k1:=P.k1;have p1:=P.p1;have e:=P.nl l;rw[S4 Y,V λn=>n h]at e;obtain⟨R,y,v,u,w,z,i⟩:=afH x ⟨P.r,P.ls,⟨P.t0,P.t1,P.t2⟩⟩ h;refine⟨⟨P.h,R.r,R.l,R.t.1,R.t.2.1,R.t.2.2,?_,?_,z,?_,λk=>?_,λk=>?_⟩,Y,y⟩
 .show(j9 b g.p g.S g.o (bc b a) m).size<=1048576;omega
 .show 0<=kw b g.p g.S g.o (bc b a) m;omega
 .show(b.size:Int)+1-kw b g.p g.S g.o (bc b a) m<=((g.k-1:Nat):Int);omega
 .have k:lH b g.p g.S g.o (bc b a) m=ah:=k
  rw[V<|by rw[k];decide]at e;exact e
 .have k:lH b g.p g.S g.o (bc b a) m=ab:=k
  rw[I k]at e;exact e
def aB3(P:A_ b a m g)(l:g.l=ab):EN b a m=g.o/\xG b a m=g.p/\je b a m=Bx b a m:=by have e:=P.la l;refine⟨by unfold EN;rw[<-e],by unfold xG;rw[<-e],?_⟩;unfold je;rw[I P.h,<-e];grind
def Sd{x y:M}:(x.toList==y.toList)=ab↔x=y:=by rw[wx,toList_data,toList_data];grind [ByteArray.ext,Array.toList_inj]
end
def aMt:=at'.gd ajv Tryz.func6 λ⟨b,a,m⟩ ⟨j,_⟩=>⟨(aHC b a m),J (p:=asz b a m<|arl b a m (dj b a) (rN b a m) (rM b a m) (je b a m).1 (je b a m).2 (!dN b a) (je b a m)<|ak b)<|by
 unfold asz L3 xa arl ark cd sF aeJ kv arc arb ara aw WO dO pG ak iU bS cU ca bD Wq Zq;refine cq (λh=>⟨Y,?_⟩) λh=>⟨Y,bV (λk=>Hy k<|V h) λk=>absurd k (amD h)⟩;rw[sd];refine⟨⟨_,(aCF.resolve_right λn=>n h),rfl,rfl,rfl,rfl,rfl,rfl,rfl,rfl,rfl,rfl,rfl,rfl,rfl,rfl,rfl,rfl,rfl,rfl,rfl,rfl,rfl,rfl,rfl,rfl,rfl,rfl,rfl,rfl,rfl⟩,λg P=>⟨λl=>?_,λl=>?_⟩⟩
 .have l:g.l=ah:=by simpa using l
  refine⟨j,P.r,P.ls,P.t0,P.t1,P.t2,bV (λk=>Hy k<|aB2 P l k) λk=>?_⟩;obtain⟨N,d,y⟩:=aB4 j P l k;rw[y];exact⟨fbN b a m g,N,d,rfl,rfl,rfl,rfl,rfl,rfl,rfl,rfl,rfl,rfl,rfl,rfl,rfl,rfl,rfl,rfl,rfl,rfl,rfl,rfl,rfl,rfl,rfl,rfl,rfl,rfl,rfl,rfl,rfl⟩
 .have l:g.l=ab:=by simpa using l
  obtain⟨x,e,u⟩:=aB3 P l;have p0:=P.p0;have p1:=P.p1;have oz:=P.oz;have f:0<=dj b a/\dj b a≠g.o.size->je b a m=(27,g.p):=λc=>by rw[u];unfold Bx;rw[x,e,I c]
  have s:¬(0<=dj b a/\dj b a≠g.o.size)->dN b a=ah->je b a m=(0,0):=λc k=>by rw[u];unfold Bx;rw[x,e,V c,I k]
  have t:¬(0<=dj b a/\dj b a≠g.o.size)->dN b a=ab->(b.size:Int)-g.p<4->je b a m=(5,(b.size:Int)):=λc k q=>by rw[u];unfold Bx;rw[x,e,V c,V<|by rw[k];decide,I q]
  have A:¬(0<=dj b a/\dj b a≠g.o.size)->dN b a=ab->¬(b.size:Int)-g.p<4->b.extract g.p.toNat (g.p+4).toNat≠qb (pN g.o)->je b a m=(13,g.p):=λc k q n=>by rw[u];unfold Bx;rw[x,e,V c,V<|by rw[k];decide,V q,I n]
  have B:¬(0<=dj b a/\dj b a≠g.o.size)->dN b a=ab->¬(b.size:Int)-g.p<4->b.extract g.p.toNat (g.p+4).toNat=qb (pN g.o)->je b a m=(0,0):=λc k q n=>by rw[u];unfold Bx;rw[x,e,V c,V<|by rw[k];decide,V q,V λz=>z n]
  rw[wr (n:=(b.size:Int)-g.p) Y Y,wr (n:=g.p+4) Y Y];refine dq (λz=>bV (λq=>Hy H<|f ⟨z,q⟩) λq=>?_) λz=>?_
  all_goals
   have c:¬(0<=dj b a/\dj b a≠g.o.size):=Y;refine⟨λk=>?_,λk=>dq (λq=>Hy H<|t c (by simpa using k) q) λq=>⟨p0,Y,Y,Y,λn=>?_,λn=>?_⟩⟩
   .have k:dN b a=ah:=by simpa using k
    obtain⟨w,v,i⟩:=am1<|s c k;rw[k,V H]at v;exact⟨x▸w,e▸v,i⟩
   ·refine Hy H (A c (by simpa using k) q fun z=>?_)
    rw[Sd.2 z]at n;cases n
   ·have k:dN b a=ab:=by simpa using k
    obtain⟨w,v,i⟩:=am1 (B c k q (Sd.1 (by simpa using n)));rw[I k]at v;exact⟨x▸w,e▸v,i⟩⟩
def Ni:=m.cons aMt<|ajv
structure CtA (b:M) (a e:Int) (S:BS) (m:Int):Prop where
 l:(vq b a e S m).1=0
structure CtB (b:M) (a e:Int) (S:BS) (m:Int):Prop extends CtA b a e S m where
 u:(sg b a e S m).1=0
structure CtC (b:M) (a e:Int) (S:BS) (o:M) (w m:Int):Prop extends CtB b a e S m where
 n:¬(kR b a e S o w m=19\/kR b a e S o w m=0/\m<(s_ b a e S o w m).size)
structure G4 (b:M) (a e:Int) (S:BS) (o:M) (w m:Int):Prop extends CtC b a e S o w m where
 x:kR b a e S o w m=0
def EI(b:M)(a e:Int)(S:BS)(m:Int):T3:=eC b (oF b a e S m) e S.T
def NN(b:M)(a e:Int)(S:BS)(m:Int):N:=oT (c b e) a S.l m
def NM(b:M)(a e:Int)(S:BS)(o:M)(w m:Int):Int:=qt (ly b a e S m) (nL b a e S m) o S.a S.b S.c w
def Hk(b:M)(a e:Int)(S:BS)(o:M)(w m:Int):Int:=pX (ly b a e S m) (nL b a e S m) o S.a S.b S.c w
def Hl(b:M)(a e:Int)(S:BS)(o:M)(w m:Int):Int:=pY (ly b a e S m) (nL b a e S m) o S.a S.b S.c w
def atU:Spec:=Sp (Int×Int) [.i,.i] λ(e,a)=>([E<|False],aE<|.tu [])
def azK:Sound ar 50 atU.iY:=atU.sound ax Sp.dn λ(e,a) h=>(h _<|.head _).elim
def ag5:Spec where
 ι:=M×Int×Int×Int×BS×M×Int×Int
 dec l H:=match l with
  | [.v<|.string b,.v<|.int .i64 h,.v<|.int .i64 a,.v<|.int .i64 e,.ag cs,.v<|.string o,.v<|.int .i64 w,.v<|.int .i64 m]=>match vm cs with
    |some S=>O ((b,h,a,e,S,o,w,m),[])
    |none=>ae
  |_=>ae
 args:=λ(b,h,a,e,S,o,w,m)=>[aD b,B h,B a,B e,.ag S.v,aD o,B w,B m]
 pre:=λ(b,h,a,e,S,o,w,m)=>(E<|b.size<=600)::(E<|0<=e/\e<=b.size)::(E<|(jk b h a e S o w m).1=0)::He S
 out:=λ(b,h,a,e,S,o,w,m)=>.leaf (.tu [aD<|pV b h a e S o w m,.ag (jm b h a e S o w m).v]) []
def aQA:ag5.dn:=by
 intro l H n i x h;simp only[ag5]at h;split at h
 .split at h
  .rename_i e;cases h;rw[Bh e];exact⟨rfl,rfl⟩
  .cases h
 .cases h
def XY(b:M)(h a e:Int)(S:BS)(o:M)(w m:Int):lW:=[(1,.v<|.int .i64 h),(5,.v<|.string o),(6,.v<|.int .i64 w),(7,.v<|.int .i64 m),(12,.p 1001 0 0),(17,.p 1002 0 0),(18,.v<|.string<|nL b a e S m),(19,.bZ<|.ints .i64<|NN b a e S m),(20,.v<|.int .i64<|oF b a e S m),(21,.p 1003 0 0)]
def TN(S:BS)(E:Int×Int):bN:=[(1001,.cells 49 S.v),(1002,.cells 49 zB.v),yV 1003 E.1 E.2]
def ahR(b:M)(a e:Int)(S:BS)(m:Int):lW:=[(22,.bZ<|.cH 3<|ly b a e S m),(23,.p 1004 0 0)]
def aci(b:M)(a e:Int)(S:BS)(m:Int):bN:=[(1004,.cells 47 (EI b a e S m).v)]
def awo(b:M)(a e:Int)(S:BS)(o:M)(w m:Int):lW:=[(24,.v<|.string<|s_ b a e S o w m),(25,.p 1005 0 0),(26,.v<|.int .i64<|kR b a e S o w m)]
def aol(b:M)(a e:Int)(S:BS)(o:M)(w m:Int):bN:=[(1005,wb [NM b a e S o w m,Hk b a e S o w m,Hl b a e S o w m])]
def oZs(b:M)(h a e:Int)(S:BS)(o:M)(w m:Int):bO:=dX [
 (1004,jG (CtA b a e S m) ((0,aD b)::(3,B e)::XY b h a e S o w m)<|TN S<|vq b a e S m),
 (1007,jG (CtB b a e S m) (XY b h a e S o w m++ahR b a e S m)<|TN S (sg b a e S m)++aci b a e S m),
 (1010,jG (CtC b a e S o w m) (XY b h a e S o w m++(ahR b a e S m++awo b a e S o w m))<|TN S (sg b a e S m)++(aci b a e S m++aol b a e S o w m)),
 (1012,jG (G4 b a e S o w m) (XY b h a e S o w m++(ahR b a e S m++awo b a e S o w m))<|TN S (sg b a e S m)++(aci b a e S m++aol b a e S o w m))]
def U5(h0:Int×Int)(h1:T3)(h:Prop):Prop:=Jq h0.1/\Jq h0.2/\Jq h1.a.m/\Jq h1.a.s/\Jq h1.a.g/\Jq h1.a.p/\Jq h1.b.m/\Jq h1.b.s/\Jq h1.b.g/\Jq h1.b.p/\Jq h1.c.m/\Jq h1.c.s/\Jq h1.c.g/\Jq h1.c.p/\h
def FV(h0:Int)(h1:M)(k h:Int)(x:M)(y z:Int)(e:BS)(r:Prop):Prop:=h0=h0/\h1=h1/\k=k/\h=h/\Jq (nL x y z e h)/\Jq (NN x y z e h)/\Jq (oF x y z e h)/\r
def VO(h0:M)(h1 x:Int)(h:BS)(y:Int)(z:M)(e:Int):Prop:=gg [qt (ly h0 h1 x h y) (nL h0 h1 x h y) z h.a h.b h.c e,pX (ly h0 h1 x h y) (nL h0 h1 x h y) z h.a h.b h.c e,pY (ly h0 h1 x h y) (nL h0 h1 x h y) z h.a h.b h.c e] fP
def aeO(h0:M)(h1 x:Int)(h:BS)(y:Int)(z:M)(e:Int):N:=[qt (ly h0 h1 x h y) (nL h0 h1 x h y) z h.a h.b h.c e,pX (ly h0 h1 x h y) (nL h0 h1 x h y) z h.a h.b h.c e,pY (ly h0 h1 x h y) (nL h0 h1 x h y) z h.a h.b h.c e]
def P0(h0:M)(h1 x:Int)(h:BS)(y:Int)(z:M)(e:Int):Prop:=Jq (ly h0 h1 x h y)/\rL (ly h0 h1 x h y) (nL h0 h1 x h y) z h.a h.b h.c e=s_ h0 h1 x h z e y/\lP (ly h0 h1 x h y) (nL h0 h1 x h y) z h.a h.b h.c e=kR h0 h1 x h z e y/\vV h (vV zB<|U5 (sg h0 h1 x h y) (EI h0 h1 x h y)<|aeO h0 h1 x h y z e= [NM h0 h1 x h z e y,Hk h0 h1 x h z e y,Hl h0 h1 x h z e y])
def P1(h0:M)(h1 h:Int)(y:BS)(x z:Int)(e:M)(k:Int):Prop:=CtA h0 h1 h y x/\h0=h0/\h=h/\z=z/\e=e/\k=k/\x=x/\lY (h0.extract 0 h.toNat) h1 y.l x=nL h0 h1 h y x/\oT (h0.extract 0 h.toNat) h1 y.l x=NN h0 h1 h y x/\ku (h0.extract 0 h.toNat) h1 y.l x=oF h0 h1 h y x/\vV y (AE zB<|(0:Nat)=0/\iU (gr (h0.extract 0 h.toNat) h1 y.l x) (vq h0 h1 h y x))
def ae3(h0:BS)(h1:M)(x h y:Int)(z e:T3):Prop:=B_ h0<|ri (iH h1 (oF h1 x h h0 y) h h0.T) (sg h1 x h h0 y)<|AG (eC h1 (oF h1 x h h0 y) h h0.T) (EI h1 x h h0 y)<|z.c.p=e.c.p
def P9(h0:M)(h1 h:Int)(x:BS)(y z:Int)(e:M)(k:Int):Prop:=aL<|CtB h0 h1 h x y/\FV z e k y h0 h1 h x (jC h0 (oF h0 h1 h x y) h x.T=ly h0 h1 h x y/\ae3 x h0 h1 h y (eC h0 (oF h0 h1 h x y) h x.T) (EI h0 h1 h x y))
def Wg(h0:M)(h1 x:Int)(h:BS)(y:Int)(z:M)(e:Int):Prop:=Jq (ly h0 h1 x h y)/\Jq (s_ h0 h1 x h z e y)/\Jq (kR h0 h1 x h z e y)/\B_ h (U5 (sg h0 h1 x h y) (EI h0 h1 x h y)<|Jq [NM h0 h1 x h z e y,Hk h0 h1 x h z e y,Hl h0 h1 x h z e y])
def aya(b:M)(h a e:Int)(S:BS)(o:M)(w m:Int)(D P i:Prop)(p:Int)(j:BS):Prop:=ft (0<=e)<|e<=ak b/\zu b e/\cd S.l/\iy ((gr (gI b e) a S.l m).1 !=0) (False/\aL (P1 b a e S m h o w)) (aL<|P1 b a e S m h o w) (CtA b a e S m->kv b/\zk S (iy ((iH b (oF b a e S m) e S.T).1 !=0) (False/\P9 b a e S m h o w) (P9 b a e S m h o w)<|CtB b a e S m->vY S/\(ly b a e S m).length<=1000000/\VO b a e S m o w/\iy (p==19) D (Bq (p==0) (Dq (ak (rL (ly b a e S m) (nL b a e S m) o S.a S.b S.c w)>m) D P) P) (CtC b a e S o w m->iy (kR b a e S o w m !=0) (False/\i) i (G4 b a e S o w m->3=qf [Hk b a e S o w m,Hl b a e S o w m]/\s_ b a e S o w m=pV b h a e S o w m/\NM b a e S o w m=j.a/\Hk b a e S o w m=j.b/\Hl b a e S o w m=j.c/\NN b a e S m=j.l/\U4 (EI b a e S m) j ((EI b a e S m).c.p=j.T.c.p)))))
def ax'(b:M)(h a e:Int)(S:BS)(o:M)(w m:Int):Prop:=aya b h a e S o w m (False/\aL (CtC b a e S o w m/\FV h o w m b a e S (P0 b a e S m o w))) (aL<|CtC b a e S o w m/\FV h o w m b a e S (P0 b a e S m o w)) (aL<|G4 b a e S o w m/\FV h o w m b a e S (Wg b a e S m o w)) (lP (ly b a e S m) (nL b a e S m) o S.a S.b S.c w)<|jm b h a e S o w m
section
variable{b:M}{h a e:Int}{S:BS}{o:M}{w m:Int}
def aAA(k:(jk b h a e S o w m).1=0):G4 b a e S o w m:=by
 have j:(vq b a e S m).1=0:=mV λj=>by rw[J7 j]at k;exact j k
 have u:(sg b a e S m).1=0:=mV λu=>by rw[J8 j u]at k;exact u k
 have n:¬(kR b a e S o w m=19\/kR b a e S o w m=0/\m<(s_ b a e S o w m).size):=λn=>by rw[EJ j u n]at k;cases k
 exact⟨⟨⟨⟨j⟩,u⟩,n⟩,mV λv=>by rw[Hn j u n v]at k;exact v k⟩
def alC:(ly b a e S m).length<=1000000:=by
 unfold ly jC;split
 .split
  .exact dx _
  .have:=avz ((c b e).extract (Gs (c b e) (dM (c b e)<|oF b a e S m) S.T).toNat (c b e).size) (jh (c b e)<|oF b a e S m)<|AS (c b e) (dM (c b e)<|oF b a e S m) S.T
   unfold yo;omega
 .exact dx _
end
def ajV:=m.cons azK<|Ni
def aUj:=ag5.gE aQA ajV Tryz.func54 λ⟨b,h,a,e,S,o,w,m⟩ ⟨s,r,y,g,f,v,i,j,_⟩=>⟨(oZs b h a e S o w m),J (p:=ax' b h a e S o w m)<|by
 have D:=aAA y;unfold ax' aya cd Wg gI vY P9 ae3 iy eO zu ft B_ P1 P0 aeO VO FV vV kv aL fP ak ri iU U5 U4 gg AG AE zk qf Zq Jq;simp only[xo,sZ,Rs,MV,zQ,false_and];have t:(b.extract 0 e.toNat).size<=600:=by rw[r8];omega
 have A:kR b a e S o w m≠19:=λz=>D.n<|.inl z;have c:pV b h a e S o w m=s_ b a e S o w m:=I y;have d:jm b h a e S o w m=⟨NM b a e S o w m,Hk b a e S o w m,Hl b a e S o w m,NN b a e S m,EI b a e S m⟩:=I y;rw[c,d];refine⟨H,r.1,r.2,t,f,bV (λk=>absurd D.l k) λ_=>?_,λ_=>⟨s,v,i,j,bV (λk=>absurd D.u k) λ_=>?_,λ_=>⟨g,alC,rfl,de (λk=>absurd k A) λ_=>de (λ_=>dq (λq=>absurd (.inr ⟨D.x,q⟩) D.n) λ_=>?_) λk=>absurd D.x k,λ_=>⟨bV (λk=>absurd D.x k) λ_=>?_,λ_=>?_⟩⟩⟩⟩
 all_goals and_intros<;>first|exact gA|exact D|exact D.toCtC|exact D.toCtB|exact D.toCtA|rfl⟩
def ZF:List (Nat×(List SV->Option (lq×SV))):=(50,λl=>match l with
 | [.v<|.int .i64 e,.v<|.int .i64 a]=>O (⟨True,inferInstance⟩,.fm 89<|.ag [.v<|.int .i64 e,.v<|.int .i64 a])
 |_=>ae):: []
def ax_(b:M)(h a e:Int)(S:BS)(o:M)(w m:Int)(D:Prop)(P:Int)(i:Prop)(p:Int×Int):Prop:=ft (0<=e)<|e<=ak b/\zu b e/\cd S.l/\iy ((gr (gI b e) a S.l m).1 !=0) ((True/\True)/\iU (gr (gI b e) a S.l m) p) (aL<|P1 b a e S m h o w) (CtA b a e S m->kv b/\zk S (iy ((iH b (oF b a e S m) e S.T).1 !=0) ((True/\True)/\iU (iH b (oF b a e S m) e S.T) p) (P9 b a e S m h o w)<|CtB b a e S m->vY S/\(ly b a e S m).length<=1000000/\VO b a e S m o w/\iy (P==19) i (Bq (P==0) (Dq (ak (rL (ly b a e S m) (nL b a e S m) o S.a S.b S.c w)>m) i D) D) (CtC b a e S o w m->iy (kR b a e S o w m !=0) ((True/\True)/\kR b a e S o w m=p.1/\oF b a e S m=p.2) (aL<|G4 b a e S o w m/\FV h o w m b a e S (Wg b a e S m o w)) (G4 b a e S o w m->3=qf [Hk b a e S o w m,Hl b a e S o w m]/\False))))
def ajh(b:M)(h a e:Int)(S:BS)(o:M)(w m:Int):Prop:=ax_ b h a e S o w m (aL<|CtC b a e S o w m/\FV h o w m b a e S (P0 b a e S m o w)) (lP (ly b a e S m) (nL b a e S m) o S.a S.b S.c w) ((True/\True)/\LX (jk b h a e S o w m) h)<|jk b h a e S o w m
def aUh(b:M)(h a e:Int)(S:BS)(o:M)(w m:Int):ajh b h a e S o w m=Yf ar (oC<|sa Ni) (En ZF) (oZs b h a e S o w m) Tryz.f54 [.v<|.string b,.v<|.int .i64 h,.v<|.int .i64 a,.v<|.int .i64 e,.ag S.v,.v<|.string o,.v<|.int .i64 w,.v<|.int .i64 m] (.fm 89<|.ag [.v<|.int .i64 (jk b h a e S o w m).1,.v<|.int .i64 (jk b h a e S o w m).2]):=ax
def ajg(e a:Int):Prop:=True/\e=e/\a=a
def aUd(e a:Int):ajg e a=Yf ar (oC<|sa Ni) (En []) (λ_=>ae) Tryz.f50 [.v<|.int .i64 e,.v<|.int .i64 a] (.fm 89<|.ag [.v<|.int .i64 e,.v<|.int .i64 a]):=ax
section
variable{b:M}{h a e:Int}{S:BS}{o:M}{w m:Int}
def aUe{y:Int}:ajg z y:=by unfold ajg;exact⟨gA,rfl,rfl⟩
def aUi(f:b.size<=600)(r:0<=e/\e<=b.size)(i:(jk b h a e S o w m).1≠0)(d:fI S.a S.b S.c)(j:S.l.length<=4294967296)(h0:tbE 0 S.T.a.m S.T.a.s S.T.a.g S.T.a.p=0)(h1:tbE 1 S.T.b.m S.T.b.s S.T.b.g S.T.b.p=0)(v:tbE 2 S.T.c.m S.T.c.s S.T.c.g S.T.c.p=0):ajh b h a e S o w m:=by
 unfold ajh ax_ cd LX Wg gI vY P9 ae3 iy eO zu ft B_ P1 P0 aeO VO FV vV kv aL fP ak ri iU U5 gg AG AE zk qf Zq Jq;simp only[xo,sZ,Rs,MV,zQ,false_and];have t:(b.extract 0 e.toNat).size<=600:=by rw[r8];omega
 refine⟨H,r.1,r.2,t,j,bV (λk=>?_) λk=>?_,λA=>⟨f,h0,h1,v,bV (λk=>?_) λk=>?_,λB=>⟨d,alC,rfl,de (λk=>?_) λk=>de (λy=>dq (λq=>?_) λq=>?_) λy=>?_,λC=>⟨bV (λk=>?_) λk=>?_,λD=>?_⟩⟩⟩⟩
 .rw[J7 k];exact⟨rfl,rfl⟩
 .have X:CtA b a e S m:=⟨k⟩
  and_intros<;>first|exact gA|exact X|rfl
 .rw[J8 A.l k];exact⟨rfl,rfl⟩
 .have X:CtB b a e S m:=⟨A,k⟩
  and_intros<;>first|exact gA|exact X|rfl
 .rw[EJ B.l B.u<|.inl k];exact⟨rfl,rfl⟩
 .rw[EJ B.l B.u<|.inr ⟨y,q⟩];exact⟨rfl,rfl⟩
 .have X:CtC b a e S o w m:=⟨B,λz=>z.elim k λz=>q z.2⟩
  and_intros<;>first|exact gA|exact X|rfl
 .have X:CtC b a e S o w m:=⟨B,λz=>z.elim k λz=>y z.1⟩
  and_intros<;>first|exact gA|exact X|rfl
 .rw[Hn C.l C.u C.n k];exact⟨rfl,rfl⟩
 .have X:G4 b a e S o w m:=⟨C,k⟩
  and_intros<;>first|exact gA|exact X|rfl
 .exact absurd (by rw[aaq D.l D.u D.n D.x]) i
end
def RB(b:M)(h a e:Int)(S:BS)(o:M)(w m:Int):Prop:=
 (jk b h a e S o w m).1≠0/\b.size<=600/\(0<=e/\e<=b.size)/\fI S.a S.b S.c/\S.l.length<=4294967296/\tbE 0 S.T.a.m S.T.a.s S.T.a.g S.T.a.p=0/\tbE 1 S.T.b.m S.T.b.s S.T.b.g S.T.b.p=0/\tbE 2 S.T.c.m S.T.c.s S.T.c.g S.T.c.p=0
instance(b:M)(h a e:Int)(S:BS)(o:M)(w m:Int):Decidable (RB b h a e S o w m):=by unfold RB;infer_instance
structure BdI (b:M) (a:Int) (S:BS) (o:M) (w m:Int):Prop where
 i:¬wG b a o w m
 s:iX S=0
structure G3 (b:M) (a:Int) (S:BS) (o:M) (w m:Int):Prop extends BdI b a S o w m where
 g:ik b a=ab
 z:¬fv w<bP b a
 k:¬(eY b a≠2/\m<o.size+bP b a)
def PZs:List (Nat×(List SV->Option (lq×SV))):=(54,λl=>match l with
 | [.v<|.string b,.v<|.int .i64 h,.v<|.int .i64 a,.v<|.int .i64 e,.ag cs,.v<|.string o,.v<|.int .i64 w,.v<|.int .i64 m]=>match vm cs with
   |some S=>O (⟨RB b h a e S o w m,inferInstance⟩,.fm 89<|.ag [.v<|.int .i64 (jk b h a e S o w m).1,.v<|.int .i64 (jk b h a e S o w m).2])
   |none=>ae
 |_=>ae)::ZF
def Ev(g:M)(S:BS)(l:Bool)(n x h:Int):bN:=[(0,.cells 9 [.v<|.string g]),(1,.cells 49 S.v),(2,.cells 4 [.v<|.bool l]),(3,.cells 3 [.v<|.int .i64 n]),(4,.cells 25 [.v<|.int .i64 x,.v<|.int .i64 h])]
def R1:bL:=[.p 0 0 0,.p 1 0 0,.p 2 0 0,.p 3 0 0,.p 4 0 0]
def Xl:Spec where
 ι:=M×BS×Bool×Int×Int×Int
 own:=ab
 dec l H:=match l with
  | [.p l0 0 0,.p l1 0 0,.p l2 0 0,.p l3 0 0,.p y 0 0]=>match H l0 with
    |some (.cells 9 [.v<|.string g])=>match H l1 with
     |some (.cells 49 cs)=>match vm cs with
      |some S=>match H l2 with
       |some (.cells 4 [.v<|.bool l])=>match H l3 with
        |some (.cells 3 [.v<|.int .i64 n])=>match H y with
         |some (.cells 25 [.v<|.int .i64 x,.v<|.int .i64 h])=>O ((g,S,l,n,x,h),[l0,l1,l2,l3,y])
         |_=>ae
        |_=>ae
       |_=>ae
      |none=>ae
     |_=>ae
    |_=>ae
  |_=>ae
 args:=λ_=>R1
 hp:=λ(g,S,l,n,x,h)=>Ev g S l n x h
 out:=λ(g,S,l,n,x,h)=>.leaf (.tu [])<|Ev g S l n x h
def aOo:Xl.dn:=by
 intro l H n i x h;simp only[Xl]at h
 repeat' split at h
 all_goals first|(cases h;done)|skip
 cases h;have q:=Bh ‹vm _=O _›;subst q;refine⟨rfl,?_⟩;simp only[dK,iF,iN,gN, *];rfl
def Xm:Spec where
 ι:=Int×Int×M×BS×Bool×Int×Int×Int
 own:=ab
 dec l H:=match l with
  | [.fm 89<|.ag [.v<|.int .i64 e,.v<|.int .i64 a],.p l0 0 0,.p l1 0 0,.p l2 0 0,.p l3 0 0,.p y 0 0]=>match H l0 with
    |some (.cells 9 [.v<|.string g])=>match H l1 with
     |some (.cells 49 cs)=>match vm cs with
      |some S=>match H l2 with
       |some (.cells 4 [.v<|.bool l])=>match H l3 with
        |some (.cells 3 [.v<|.int .i64 n])=>match H y with
         |some (.cells 25 [.v<|.int .i64 x,.v<|.int .i64 h])=>O ((e,a,g,S,l,n,x,h),[l0,l1,l2,l3,y])
         |_=>ae
        |_=>ae
       |_=>ae
      |none=>ae
     |_=>ae
    |_=>ae
  |_=>ae
 args:=λ(e,a,g,S,l,n,x,h)=>.fm 89 (.ag [B e,B a])::R1
 hp:=λ(e,a,g,S,l,n,x,h)=>Ev g S l n x h
 out:=λ(e,a,g,S,l,n,x,h)=>.leaf (.tu [])<|Ev aJ zB ah 0 e a
def aOp:Xm.dn:=by
 intro l H n i x h;simp only[Xm]at h
 repeat' split at h
 all_goals first|(cases h;done)|skip
 cases h;have q:=Bh ‹vm _=O _›;subst q;refine⟨rfl,?_⟩;simp only[dK,iF,iN,gN, *];rfl
def DBd:List (Nat×DC):=(49,DC.of Xl Xm):: []
def bdT(b:M)(a:Int)(o:M)(w m:Int):lW:=[(0,.v<|.string b),(1,.v<|.int .i64 a),(3,.v<|.string o),(4,.v<|.int .i64 w),(5,.v<|.int .i64 m),(8,.p 505 0 0),(12,.p 500 0 0),(13,.p 501 0 0),(14,.p 502 0 0),(15,.p 503 0 0),(16,.p 504 0 0)]
def akj(S:BS)(l:Bool):bN:=[(500,.cells 9 [.v<|.string aJ]),(501,.cells 49 zB.v),(502,.cells 4 [.v<|.bool l]),(503,.cells 3 [.v<|.int .i64 0]),(504,.cells 25 [.v<|.int .i64 0,.v<|.int .i64 0]),(505,.cells 49 S.v)]
def oBd(b:M)(a:Int)(S:BS)(o:M)(w m:Int):bO:=dX [
 (1007,jG (BdI b a S o w m) ((66,.fn (.func 49) [] [U 500,U 501,U 502,U 503,U 504])::bdT b a o w m)<|akj S ah),
 (1021,jG (G3 b a S o w m) ((18,U 1001)::(19,B<|eY b a)::(20,B<|bP b a)::(21,B<|fv w)::(22,B<|gC b a)::bdT b a o w m)<|(1001,.cells 85<|Ho b<|r b a)::akj S (iK b<|gO b a))]
def Lx(h0:M)(h1:Int)(h:BS)(x:M)(y z:Int)(k r:BS)(u:Int)(v e:Prop):Prop:=xV zB (cX h0 h1 h x y z)<|k.T.c.p=r.T.c.p/\ah=lH h0 h1 h x y z/\0=u/\v/\e
def afe(h0 h1:M)(u:Int×Int×Int)(h x:Int)(y:BS)(z v w i e:Int)(k r:Prop):Prop:=Dq (Wq (ak h0+ub h1 u)>h) ((True/\True)/\aJ=j9 h1 x y h0 z h/\Lx h1 x y h0 z h zB (cX h1 x y h0 z h) (kw h1 x y h0 z h) (18=v) (x=w))<|aL<|G3 h1 x y h0 z h/\i=e/\k/\r
def akm(b:M)(a:Int)(S:BS)(o:M)(w m:Int)(D P i p:Prop)(j:M)(h:BS)(s:Int×Int)(t:M)(d:Int)(g:M)(f:Int)(z W:Prop)(e k:Int)(x:BS)(y:Int)(u:Int×Int)(n:Bool)(v q:Int):Prop:=VP a b S o w m y u n (0=y) (ig u) (ah=n) (0=y/\ig u) S.l<|bS (iX S) z (V9 b a S o w m u) (aL<|BdI b a S o w m/\fV b a (o=o) (w=w/\m=m/\aJ=aJ/\AE zB ((0:Nat)=0/\o5/\ca (a_/\AH S (S.T.c.p=S.T.c.p)))))<|eO<|BdI b a S o w m->DH b a/\fQ b/\Bq ((mH b<|l7 b a).2.1 !=0) ((True/\True)/\z/\Lx b a S o w m zB x y ((mH b<|l7 b a).2.1=e) ((mH b<|l7 b a).2.2=k)) (Dq (ub b (l7 b a)>aB w (131072:Int)) ((True/\True)/\z/\Lx b a S o w m zB x y (19=e) (a=k))<|iy (v==1) (afe o b (l7 b a) m a S w e k v (eY b a) W<|aB w (131072:Int)=fv w/\1=gC b a/\i) (Bq (v==0) (afe o b (l7 b a) m a S w e k v (eY b a) W D)<|aL<|G3 b a S o w m/\v=eY b a/\W/\D)<|G3 b a S o w m->Im b (r b a)/\fQ b/\Bq (f !=0) ((True/\True)/\z/\Lx b a S o w m zB x y (f=e) (gf b q (r b a).2.1 (r b a).2.2 (gC b a)=k)) (Bq (eY b a==0) (wX o g/\Cj S S.l (o++g=j9 b a S o w m/\P))<|Bq (eY b a==1) (aF (bP b a) (bP b a<=4294967296)<|g.size=1/\wX o t/\Cj S S.l (o++t=j9 b a S o w m/\P))<|Cq (RB b a q d S o w (fv w)/\True) (z/\xV zB x (zx zB x/\xa n (0=y) (iU s u)))<|kv b/\(0<=d/\d<=ak b)/\s.1=0/\Cj S S.l (Dq (Wq (ak o+ak j)>m) ((True/\True)/\z/\Lx b a S o w m zB x y (18=e) (a=k))<|wX o j/\o++j=j9 b a S o w m/\xV h x (zx h x/\p))))
def Z2(b:M)(a:Int)(S:BS)(o:M)(w m:Int):Prop:=akm b a S o w m (aB w (131072:Int)=fv w/\ub b (l7 b a)=gC b a/\fV b a (o=o) (w=w/\m=m/\AF b (mH b<|l7 b a) (r b a) (aJ=aJ/\vV zB (iK b (l7 b a)=iK b (gO b a)/\ca (a_/\AH S (S.T.c.p=S.T.c.p)))))) (xV S (cX b a S o w m)<|zx S (cX b a S o w m)/\iK b (gO b a)=lH b a S o w m/\ee b (r b a).1 (r b a).2.1 (gC b a)=kw b a S o w m/\dO (ed b a S o w m)) (fV b a (o=o)<|w=w/\m=m/\AF b (mH b<|l7 b a) (r b a) (aJ=aJ/\vV zB (iK b (l7 b a)=iK b (gO b a)/\ca (a_/\AH S (S.T.c.p=S.T.c.p))))) (iK b (gO b a)=lH b a S o w m/\ee b (r b a).1 (r b a).2.1 (gC b a)=kw b a S o w m/\dO (ed b a S o w m)) (pV b a (r b a).1 (ee b (r b a).1 (r b a).2.1<|gC b a) S o w<|fv w) (jm b a (r b a).1 (ee b (r b a).1 (r b a).2.1<|gC b a) S o w<|fv w) (jk b a (r b a).1 (ee b (r b a).1 (r b a).2.1<|gC b a) S o w<|fv w) (IH (ch b (r b a).1 (r b a).2.1<|gC b a)<|bP b a) (ee b (r b a).1 (r b a).2.1<|gC b a) (ch b (r b a).1 (r b a).2.1<|gC b a) (dI b (r b a).1 (r b a).2.1<|gC b a) (aJ=j9 b a S o w m) (ub b (l7 b a)=bP b a) (ed b a S o w m).1 (ed b a S o w m).2 (cX b a S o w m) (kw b a S o w m) (ed b a S o w m) (lH b a S o w m) (wH b<|l7 b a) (r b a).1
def akk(g:M)(S:BS)(l:Bool)(n x h:Int):Prop:=
 g=g/\
 S.a=S.a/\
 S.b=S.b/\
 S.c=S.c/\
 S.l=S.l/\
 S.T.a.m=S.T.a.m/\
 S.T.a.s=S.T.a.s/\
 S.T.a.g=S.T.a.g/\
 S.T.a.p=S.T.a.p/\
 S.T.b.m=S.T.b.m/\
 S.T.b.s=S.T.b.s/\S.T.b.g=S.T.b.g/\S.T.b.p=S.T.b.p/\S.T.c.m=S.T.c.m/\S.T.c.s=S.T.c.s/\S.T.c.g=S.T.c.g/\S.T.c.p=S.T.c.p/\l=l/\n=n/\x=x/\h=h
def akl(e a:Int)(g:M)(S:BS)(l:Bool)(n x h:Int):Prop:=
 aJ=aJ/\
 (0:Int)=zB.a/\
 (0:Int)=zB.b/\
 (0:Int)=zB.c/\
 (0:Nat)=(0:Nat)/\
 (0:Int)=zB.T.a.m/\
 (0:Int)=zB.T.a.s/\
 (0:Int)=zB.T.a.g/\
 (0:Nat)=(0:Nat)/\
 (0:Int)=zB.T.b.m/\
 (0:Int)=zB.T.b.s/\
 (0:Int)=zB.T.b.g/\
 (0:Nat)=(0:Nat)/\(0:Int)=zB.T.c.m/\(0:Int)=zB.T.c.s/\(0:Int)=zB.T.c.g/\(0:Nat)=(0:Nat)/\ah=ah/\(0:Int)=(0:Int)/\e=e/\a=a
def ajX:yH ar ZF:=.cons ⟨ax,λargs q v h x w us=>by
 dsimp only at h;split at h
 .rename_i e a
  cases h;exact avn Ni mixed yH.nil Tryz.func50 (Eq.mp (aUd e a) aUe) w us
 .cases h⟩ yH.nil
def ayW:yH ar PZs:=.cons ⟨ax,λargs q v h d w us=>by
 dsimp only at h;split at h
 .rename_i b c a e cs o g m
  split at h
  .rename_i S x
   have f:=Bh x;subst f;cases h;obtain⟨y,z,k,r,u,i,j,n⟩:=d;exact avn Ni mixed ajX Tryz.func54 (Eq.mp (aUh b c a e S o g m)<|aUi z k y r u i j n) w us
  .cases h
 .cases h⟩ ajX
def G_:=m.cons aUj<|ajV
def azA(g:M)(S:BS)(l:Bool)(n x h:Int):akk g S l n x h:=by and_intros<;>rfl
def azB(e a:Int)(g:M)(S:BS)(l:Bool)(n x h:Int):akl e a g S l n x h:=by and_intros<;>rfl
def azC:rI ar 49 (DC.of Xl Xm):=by
 refine rI.of ax aOo ?_ aOp ?_
 .rintro⟨g,S,l,n,x,h⟩ _ w us
  exact(au9 G_ mixed Tryz.func49 (ax:akk g S l n x h=QX ar (oC<|sa G_) (λ_=>ae) Tryz.f49 (.v .nilIface) R1 (Ev g S l n x h) (.leaf (.tu [])<|Ev g S l n x h)) (azA g S l n x h) w us aLZ).aMi
 .rintro⟨e,a,g,S,l,n,x,h⟩ _ w pv us
  exact au9 G_ mixed Tryz.func49 (ax:akl e a g S l n x h=QX ar (oC<|sa G_) (λ_=>ae) Tryz.f49 (.fm 89<|.ag [.v<|.int .i64 e,.v<|.int .i64 a]) R1 (Ev g S l n x h) (.leaf (.tu [])<|Ev aJ zB ah 0 e a)) (azB e a g S l n x h) w us<|aLY
def ayj:A7 ar DBd:=.cons azC A7.nil
section
variable{b:M}{a:Int}{S:BS}{o:M}{w m:Int}
def IC{x y:Int}(h:x≠0)(k:ed b a S o w m=(x,y)):aJ=j9 b a S o w m/\zB.a=(cX b a S o w m).a/\zB.b=(cX b a S o w m).b/\zB.c=(cX b a S o w m).c/\zB.l=(cX b a S o w m).l/\zB.T.a.m=(cX b a S o w m).T.a.m/\zB.T.a.s=(cX b a S o w m).T.a.s/\zB.T.a.g=(cX b a S o w m).T.a.g/\zB.T.a.p=(cX b a S o w m).T.a.p/\zB.T.b.m=(cX b a S o w m).T.b.m/\zB.T.b.s=(cX b a S o w m).T.b.s/\zB.T.b.g=(cX b a S o w m).T.b.g/\zB.T.b.p=(cX b a S o w m).T.b.p/\zB.T.c.m=(cX b a S o w m).T.c.m/\zB.T.c.s=(cX b a S o w m).T.c.s/\zB.T.c.g=(cX b a S o w m).T.c.g/\zB.T.c.p=(cX b a S o w m).T.c.p/\ah=lH b a S o w m/\0=kw b a S o w m/\x=(ed b a S o w m).1/\y=(ed b a S o w m).2:=by grind [j9,cX,lH,kw]
def afI{X:BS}{B:M}{n:Int}(E:ed b a S o w m=lr b a S o w m)(k:lr b a S o w m=(0,0))(hB:Bg b a S o w=B)(h:(if eY b a=2 then vh b a S o w else S)=X)(x:(r b a).1+gC b a=n):o++B=j9 b a S o w m/\X.a=(cX b a S o w m).a/\X.b=(cX b a S o w m).b/\X.c=(cX b a S o w m).c/\X.l=(cX b a S o w m).l/\X.T.a.m=(cX b a S o w m).T.a.m/\X.T.a.s=(cX b a S o w m).T.a.s/\X.T.a.g=(cX b a S o w m).T.a.g/\X.T.a.p=(cX b a S o w m).T.a.p/\X.T.b.m=(cX b a S o w m).T.b.m/\X.T.b.s=(cX b a S o w m).T.b.s/\X.T.b.g=(cX b a S o w m).T.b.g/\X.T.b.p=(cX b a S o w m).T.b.p/\X.T.c.m=(cX b a S o w m).T.c.m/\X.T.c.s=(cX b a S o w m).T.c.s/\X.T.c.g=(cX b a S o w m).T.c.g/\X.T.c.p=(cX b a S o w m).T.c.p/\iK b (gO b a)=lH b a S o w m/\n=kw b a S o w m/\0=(ed b a S o w m).1/\0=(ed b a S o w m).2:=by grind [afJ,R3]
def azz(I:BdI b a S o w m):ed b a S o w m=lr b a S o w m:=by unfold ed;rw[V I.i,V λn=>n I.s]
def azE(hs:b.size<=600)(D:fI S.a S.b S.c)(B:S.l.length<=4294967296)(h0:tbE 0 S.T.a.m S.T.a.s S.T.a.g S.T.a.p=0)(h1:tbE 1 S.T.b.m S.T.b.s S.T.b.g S.T.b.p=0)(t:tbE 2 S.T.c.m S.T.c.s S.T.c.g S.T.c.p=0):Z2 b a S o w m:=by
 unfold Z2 akm Cj xa afe fV zx fQ aF l7 a_ vY iy eO V9 DH o5 VP cd aeH vV nS Lx ig kv AH dO aL Im wX ak sC iU bS ca AF AE zk xV Wq Zq;simp only[xo,sZ,Rs,MV,zQ,false_and];have y:wG b a o w m->ed b a S o w m=(2,0):=λh=>I h;have v:(2:Int)≠0:=H;refine dq (λh=>uG v<|y<|.inl h) λi1=>dq (λh=>uG v<|y<|.inr<|.inl h) λi2=>dq (λh=>uG v<|y<|.inr<|.inr<|.inl h) λi3=>dq (λh=>uG v<|y<|.inr<|.inr<|.inr<|.inl h) λi4=>dq (λh=>uG v<|y<|.inr<|.inr<|.inr<|.inr<|.inl h) λi5=>dq (λh=>uG v<|y<|.inr<|.inr<|.inr<|.inr<|.inr<|.inl h) λi6=>dq (λh=>uG v<|y<|.inr<|.inr<|.inr<|.inr<|.inr<|.inr h) λi7=>?_;have P:¬wG b a o w m:=by unfold wG;omega
 refine⟨D,B,h0,h1,t,bV (λk=>uG k<|by unfold ed;rw[V P,I k]) λk=>⟨?_,λJ=>?_⟩⟩
 .have X:BdI b a S o w m:=⟨P,k⟩
  and_intros<;>first|exact X|rfl
 .have E:=azz J
  have C:mH b (d_ b a,dS b a,0)=r b a:=rfl;have K:wH b (d_ b a,dS b a,0)=eY b a:=rfl;have Z:ub b (d_ b a,dS b a,0)=bP b a:=rfl;have W:min w 131072=fv w:=rfl;rw[C,K,Z,W];refine⟨KY b a,Y,bV (λe=>?_) λe=>?_⟩
  .have g:¬ik b a=ab:=λg=>by unfold ik at g;rw[wx]at g;exact e g
   have F:=Z1 (o:=o) (w:=w) (m:=m) g;exact IC e<|E.trans<|(JV<|by rw[F];exact e).trans F
  .have g:ik b a=ab:=by unfold ik;rw[e];rfl
   obtain⟨p,a0,a3,z0,z1,k0,k1⟩:=Qx g;rw[wr (n:=(o.size:Int)+bP b a) Y Y];refine dq (λz=>?_) λz=>⟨?_,λA=>?_⟩
   .have F:=ZZ (o:=o) (m:=m) g z
    exact IC H<|E.trans<|(JV<|by rw[F];exact(H:(19:Int)≠0)).trans F
   .have G:eY b a≠2->m<o.size+bP b a->ed b a S o w m=(18,a):=λn q=>by
     have F:=Z0 (o:=o) (m:=m) g z ⟨n,q⟩;exact E.trans<|(JV<|by rw[F];exact(H:(18:Int)≠0)).trans F
    refine de (λj=>dq (λq=>IC H<|G Y q) λq=>?_) λj=>de (λj0=>dq (λq=>IC H<|G Y q) λq=>?_) λj0=>?_
    .have X:G3 b a S o w m:=⟨J,g,z,λn=>q n.2⟩
     have d:1=gC b a:=(I j).symm;and_intros<;>first|exact X|exact d|rfl
    .have X:G3 b a S o w m:=⟨J,g,z,λn=>q n.2⟩
     have d:bP b a=gC b a:=(V Y).symm;and_intros<;>first|exact X|exact d|rfl
    .have X:G3 b a S o w m:=⟨J,g,z,λn=>n.1 Y⟩
     have d:bP b a=gC b a:=(V Y).symm;and_intros<;>first|exact X|exact d|rfl
   .have C1:(r b a).2.1=0:=by unfold ik at g;simpa using g
    have P:=A.i;unfold wG at P;have bx:0<=gC b a:=by unfold gC;split<;>omega
    have C0:r b a=(a+3,0,0):=asD a0 a3 Y;refine⟨by rw[C0];unfold fu vL;simp;omega,Y,?_⟩;rw[C1];by_cases L:(b.size:Int)- (r b a).1<gC b a
    .obtain⟨y1,y2,_⟩:=Hf (f:=(r b a).2.2) bx L
     rw[y1,y2];have F:=RZ (o:=o) (m:=m) g z A.k L;exact bV (λ_=>IC H<|E.trans<|(JV<|by rw[F];exact(H:(5:Int)≠0)).trans F) λe=>by cases e
    .obtain⟨y1,y2,y3,y4⟩:=EC (f:=(r b a).2.2) bx (Y:gC b a<=(b.size:Int)- (r b a).1)
     rw[y1,y3,y4];have F:=R0 (o:=o) (m:=m) g z A.k L;have U:(lu b a o w m).1=0:=by rw[F]
     refine bV (λe=>absurd rfl e) λ_=>de (λj=>?_) λj=>de (λj1=>?_) λj1=>?_
     .have d:gC b a=bP b a:=V Y
      exact⟨by rw[r8];omega,D,B,h0,h1,t,afI (X:=S) E (Nt U Y) (by unfold Bg;rw[I j,d]) (V Y) rfl⟩
     .have d:gC b a=1:=I j1
      have re:=asn (s:=b) (x:=(r b a).1) (n:=bP b a) Y Y;rw[d];refine⟨z0,Y,by rw[r8];omega,?_,D,B,h0,h1,t,afI (X:=S) E (Nt U Y) ?_ (V Y)<|by rw[d]⟩
      .rw[re,show(strOfNums<|au (bP b a).toNat<|u b (r b a).1).size=((au (bP b a).toNat<|u b (r b a).1).map fun n=>zW n.toNat).toArray.size from dR Y6 (DS _)]
       simp;omega
      ·rw[re]
       unfold Bg;rw[V j,I j1]
     ·have k2:eY b a=2:=Y
      have d:gC b a=bP b a:=V Y;have Q:=ZY (S:=S) U k2;have N:jk b a (r b a).1 ((r b a).1+gC b a) S o w (fv w)=se b a S o w:=by rw[d];rfl
      have hG:pV b a (r b a).1 ((r b a).1+gC b a) S o w (fv w)=ve b a S o w:=by rw[d];rfl
      have hZ:jm b a (r b a).1 ((r b a).1+gC b a) S o w (fv w)=vh b a S o w:=by rw[d];rfl
      have mw1:fv w<=131072/\0<=fv w:=by unfold fv;omega
      have sz:=alD (b:=b) (h:=a) (a:=(r b a).1) (e:=(r b a).1+gC b a) (S:=S) (o:=o) (w:=w) (m:=fv w);rw[hG]at sz;have hW:vg b a S o w m=if(se b a S o w).1≠0 then se b a S o w else if m<o.size+(ve b a S o w).size then(18,a)else(0,0):=rfl;refine cq (fun c=>?_) fun c=>?_
      ·have c1:(se b a S o w).1≠0:=N▸c.1
       rw[N];exact IC c1 (E.trans (Q.trans (hW.trans (I c1))))
      ·have R:(se b a S o w).1=0:=mV fun n=>c ⟨N.symm▸n,hs,⟨Y,Y⟩,D,B,h0,h1,t⟩
       rw[N,hG,hZ,wr (n:=(o.size:Int)+((ve b a S o w).size:Nat)) Y Y];refine⟨hs,⟨Y,Y⟩,R,D,B,h0,h1,t,dq (fun q=>IC H (E.trans (Q.trans (hW.trans ?_)))) fun q=>⟨Y,afI (X:=vh b a S o w) E (Q.trans (hW.trans ?_)) ?_ (I k2) rfl⟩⟩
       ·rw[V (fun n=>n R),I Y]
       ·rw[V (fun n=>n R),V Y]
       ·unfold Bg
        rw[V Y,V Y]
end
def azD:Sound ar 26 Gq.iY:=Gq.sound ax au5 λ(b,a,S,o,w,m) h=>
 ag_ G_ ayW ayj mixed Tryz.func26 (ax:Z2 b a S o w m=MC ar (oC<|sa G_) (En PZs) (oBd b a S o w m) (JC DBd) Tryz.f26 (Gq.args (b,a,S,o,w,m)) (Gq.hp (b,a,S,o,w,m)) (Gq.out (b,a,S,o,w,m)))<|azE (h _<|.head _) (h _<|.tail _<|.head _) (h _<|.tail _<|.tail _<|.head _) (h _<|.tail _<|.tail _<|.tail _<|.head _) (h _<|.tail _<|.tail _<|.tail _<|.tail _<|.head _)<|h _<|.tail _<|.tail _<|.tail _<|.tail _<|.tail _<|.head _
def ZD:=m.cons azD<|G_
end Go.Proofs.YtegnkfbnmepmpaaGreatDoor

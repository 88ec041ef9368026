/-
  Texts joined: Xht, Xi, Xj, Xjt, Xk, RaF, Ra, Rat, Rb, HbF, Hb, Hbt, Hc, ReF, Re. Conditions: each theorem's own.
-/
import Derived.Test.YtegnkfbnmepmpaaGreatDoorK4
set_option maxRecDepth 100000
set_option linter.all false
open And renaming intro->fY
open BitVec renaming ofInt->lk
open Bool renaming false->ah,true->ab
open ByteArray renaming empty->aJ,size->kD
open Go.BinOp renaming and->CL
open Go.IntKind renaming bits->cZ,i64->bW,u64->fh,wrap->Q
open Go.Proofs.Tryz renaming prog->ar
open Int renaming fdiv->kQ,tdiv->fi,tmod->kf,toNat->X
open List renaming drop_take->ai7,getD->eU
open Min renaming min->aB
open Nat renaming beq->ap,pow_mul->M3,sub->fj
open Option renaming map->gN,none->ae,some->O
namespace Go.Proofs.YtegnkfbnmepmpaaGreatDoor
open Go Go.RowKit
variable(n l:Int){t:M}{w:Nat}{x:Int}{y:Nat}{z v:Int}
def MU:=@Int.add_zero
def A5:=@Int.zero_add
def Yu:=@ByteArray.ext
def dH:=@decide_eq_false_iff_not
def zQ:=@true_implies
def Jl:=@Bool.true_eq_false
def Jn:=@false_implies
def MV:=@forall_const
def Jo:=@Int.tmod_eq_emod_of_nonneg
def Jp:=@Bool.true_and
def YN:=@Go.ByteArray.toList_eq
def GO:=@Bool.and_false
def Ec:=@UInt8.toNat_lt
def YO:=@Bool.false_and
def aTt:Prop:=
 Q .u64 (n*l)=mU n l
def aTQ:Prop:=
 0<=l/\
 0<=Q .u64 (64-l)/\
 bits .or .u64 (Q .u64<|n*2^min (l.toNat) (cZ .u64))
 (kQ n<|2^min (X<|Q .u64<|64-l) (cZ .u64))=
 rU n l
def axq(D P:Int):Prop:=aF P (0<=D)<|bits .or .u64 (Q .u64<|n*o9 P .u64) (n.fdiv<|o9 D .u64)=rU n l
def axp:Prop:=axq n l (Q .u64<|64-bits .and .u64 (Q .u64 l) 63)<|bits .and .u64 (Q .u64 l) 63
def aTF:Prop:=
 (0:Int)<=31/\
 (0:Int)<=33/\
 Q .u64
 (bits .or .u64
 (Q .u64<|Q .u64 (n+Q .u64 (l*14029467366897019727))*2^min (X 31) (cZ .u64))
 (kQ (Q .u64<|n+Q .u64 (l*14029467366897019727))<|2^min (X 33) (cZ .u64))*
 11400714785074694791)=
 pL n l
def aTL:Prop:=
 Q .u64 (Q .u64 (n+11400714785074694791)+14029467366897019727)=(fg n).a/\
 Q .u64 (n+14029467366897019727)=(fg n).b/\n=(fg n).c/\Q .u64 (n-11400714785074694791)=(fg n).d
def cl(h0 h1 h:Nat):Prop:=h0.sub h1<h0.sub h
def oX(h0:M)(h1:Int):=h0.data.toList.getD (Wq h1).toNat 0
def Lz(h0 h1:Int)(y z h x:Prop)(e k:Int)(r u:Prop):Prop:=Dq (h0<1) (0=h1/\y/\z)<|Dq (h0>8) (h/\x)<|nS e h x k r u
def qh(h0:Int)(h1 h:Nat):Prop:=cl h0.toNat h1 h
def sI:Prop:=(2:Int)=0/\a_
def aT6:Prop:=
 (0:Int)<=31/\(31:Int)<=63/\mU (rU (Q .u64<|n+mU l 14029467366897019727) 31) 11400714785074694791=pL n l
def aT9:Prop:=
 Q .u64 (Q .u64 (n+11400714785074694791)+14029467366897019727)=(fg n).a/\
 Q .u64 (n+14029467366897019727)=(fg n).b/\n=(fg n).c/\Q .u64 (n-11400714785074694791)=(fg n).d
def aT1:Prop:=
 Q .u64 (mU (bits .xor .u64 n<|pL 0 l) 11400714785074694791+9650029242287828579)=CA n l
def le_succ{l:List UInt8}{i:Nat}(h:i<l.length):lT (l.take<|i+1)=lT (l.take i)+(l.getD i 0).toNat*2^(8*i):=by grind [List.take_succ_eq_append_getElem,apg,lT,M3]
def KN(l:List UInt8)(i:Nat):lT (l.take i)<2^(8*i):=by have h:=Ue<|l.take i;have x:256^(l.take i).length<=256^i:=nF Y c9;grind [M3]
def N3{s:M}{a:Int}{i:Nat}(h0:0<=a)(h:a+i<s.size):bh s a ((i+1:Nat))=bh s a i+(((s.data.toList.getD (a+i).toNat 0).toNat*2^(8*i):Nat)):=by have y:s.data.toList.length=s.size:=rfl;have x:(s.data.toList.drop a.toNat).length=s.size-a.toNat:=aj;have e:=le_succ (i:=i) (by rw[x];lia);have g:(s.data.toList.drop a.toNat).getD i 0=s.data.toList.getD (a+i).toNat 0:=c9;grind [bh]
theorem S6{s:M}{a:Int}{i:Nat}(h0:0<=a)(h:a<s.size):bh s a ((i+1:Nat):Int)=((s.data.toList.getD a.toNat 0).toNat:Int)+256*bh s (a+1) i:=by
 have y:s.data.toList.length=s.size:=rfl;have x:s.data.toList.drop a.toNat=s.data.toList[a.toNat]'Y::s.data.toList.drop (a.toNat+1):=zJ Y;have e:s.data.toList.getD a.toNat 0=s.data.toList[a.toNat]'Y:=c9;unfold bh;rw[yz,yz,x,aiy,e,show(a+1).toNat=a.toNat+1 by omega];rfl
def S7(s:M)(a z):0<=bh s a z:=Int.natCast_nonneg _
theorem aB9{s:M}{a:Int}{i:Nat}(h:i<=8):bh s a i<18446744073709551616:=by
 have x:=KN (s.data.toList.drop a.toNat) i;have y:(2:Nat)^(8*i)<=2^64:=nF Y Y;grind [bh]
theorem S8(s:M)(a:Int):bh s a 0=0:=rfl
def azf:∀k:Fin 64,bits .and .u64 ((k.val)) 63=((k.val)):=by decide+kernel
def adW:11400714785074694791=FB:=by rfl
def aqD:14029467366897019727=Ld:=by rfl
def aqE:1609587929392839161=pXC:=by rfl
def adX:9650029242287828579=pXD:=by rfl
def aqF:2870177450012600261=pF:=by rfl
def aTs:=aQs.gd m.nil Tryz.func204 λ⟨x,y⟩ _=>⟨aK,J (p:=aTt x y)<|by rfl⟩
def aTP:=aQx.gd m.nil Tryz.func202 λ⟨x,n⟩ ⟨h,y,_⟩=>⟨aK,J (p:=aTQ x n)<|by refine⟨h,?_,rfl⟩;grind [fW]⟩
def aTC:=aQv.gd m.nil Tryz.func237 λ⟨x,n⟩ ⟨h,y,_⟩=>⟨aK,J (p:=axp x n)<|by
 have e:bits .and .u64 (Q .u64 n) 63=n:=by
  rw[fW h Y];have:=azf ⟨n.toNat,Y⟩;grind
 unfold axp axq o9 aF;rw[e];refine⟨h,?_,rfl⟩;grind [fW]⟩
def aTE:=auY.gd m.nil Tryz.func235 λ⟨a,x⟩ _=>⟨aK,J (p:=aTF a x)<|by refine⟨H,H,?_⟩;rfl⟩
def aTK:=au0.gd m.nil Tryz.func177 λ(s:Int) _=>⟨aK,J (p:=aTL s)<|⟨rfl,rfl,rfl,rfl⟩⟩
def aTA:=auX.gd m.nil Tryz.func215 λ⟨s,a,z⟩ ⟨l,A,f,B,C,_⟩=>⟨(aHJ s a z),J (p:=Lz z (bh s a z) (0=a+z) sI (0=bh s a z) (0=a+z/\sI) a (aO s) (0=bh s a z/\0=a+z/\sI)<|Dq (z>Wq (aO s-a)) (0=bh s a z/\0=a+z/\(5:Int)=0/\aO s=0)<|(∃j,(z-Zq j).NonNeg/\fV s a (z=z) (0=bh s a (Zq j)/\z=z/\0=Zq j/\dE))/\(∀x1,(z-Zq x1).NonNeg->Dq (Zq x1<z) (cE (a+Zq x1)/\Wq (a+Zq x1)<aO s/\cE (8*Zq x1)/\(∃x,(z-Zq x).NonNeg/\qh z x x1/\fV s a (z=z) (bits .or .u64 (bh s a<|Zq x1) (Q .u64<|zt (oX s<|a+Zq x1)*o9 (Wq<|8*Zq x1) .u64)=bh s a (Zq x)/\z=z/\ay (Zq x1)=Zq x/\dE))) (bh s a (Zq x1)=bh s a z/\Wq (a+z)=a+z/\dE)))<|by
 unfold sI fV o9 a_ zt qh dE Lz nS aO cl ay cE oX Dq Wq Zq;have y:decide (z<1)=ah:=by simp;omega
 have r:decide (z>8)=ah:=by simp;omega
 have u:decide (a<0)=ah:=by simp;omega
 have v:decide (a>(s.size))=ah:=by simp;omega
 have w:decide (z>Q .i64 ((s.size)-a))=ah:=by rw[wr Y Y];simp;omega
 rw[y,r,u,v,w];refine⟨λh=>(by cases h),λ_=>⟨λh=>(by cases h),λ_=>⟨λh=>(by cases h),λ_=>⟨λh=>(by cases h),λ_=>⟨λh=>(by cases h),λ_=>⟨⟨0,show((0:Nat))<=z by omega,rfl,rfl,rfl,rfl,rfl,rfl,rfl,rfl⟩,λi hi=>⟨λd=>?_,λc=>?_⟩⟩⟩⟩⟩⟩⟩
 .have d:i<z:=by simpa using d
  rw[wr Y Y,wr (n:=8*i) Y Y];refine⟨Y,Y,Y,i+1,show((i+1:Nat))<=z by omega,by show z.toNat- (i+1)<z.toNat-i;omega,rfl,rfl,rfl,?_,rfl,by rw[wr Y Y];simp,rfl,rfl⟩;have b:(s.data.toList.getD (a+i).toNat 0).toNat<256:=(s.data.toList.getD (a+i).toNat 0).toNat_lt;rw[N3 f Y,show(8*(i:Int)).toNat=8*i by omega,XG b Y];have g:=KN (s.data.toList.drop a.toNat) i;have o:bh s a i=((lT ((s.data.toList.drop a.toNat).take i))):=rfl;have t:(s.data.toList.getD (a+i).toNat 0).toNat*2^(8*i)<=255*2^56:=Nat.mul_le_mul Y<|nF Y Y;have q:2^(8*i)<=2^56:=nF Y Y;rw[Lc]at t q;rw[o,K8 _ _ Y Y];have:=UN (k:=8*i) (hi:=0) g b aj;rw[rA]at this;rw[this];push_cast;rfl
 .have c:¬i<z:=by simpa using c
  have hi:i<=z:=hi;have e:i=z:=Y;rw[e,wr Y Y];exact⟨rfl,rfl,rfl,rfl⟩⟩
def aT4:=auX.gd m.nil Tryz.func44 λ⟨s,a,z⟩ ⟨t,l,A,C,D,_⟩=>⟨(aH7 s a z),J (p:=Lz z (bh s a z) (0=a+z) sI (0=bh s a z) (0=a+z/\sI) a (aO s) (0=bh s a z/\0=a+z/\sI)<|Dq (Wq (aO s-a)<z) (0=bh s a z/\0=a+z/\(5:Int)=0/\aO s=0)<|(∃y,(z-Zq y).NonNeg/\fV s a (z=z) (0=bh s (a+(z-Zq y)) (Zq y)/\bF z=z-1-Zq y/\dE))/\(∀x1,(z-Zq x1).NonNeg->Dq (z-1-Zq x1>=0) (cE (a+(z-1-Zq x1))/\Wq (a+(z-1-Zq x1))<aO s/\(∃x,(z-Zq x).NonNeg/\qh z x x1/\fV s a (z=z) (Q .u64 (Q .u64 (bh s (a+(z-Zq x1)) (Zq x1)*256)+zt (oX s<|a+(z-1-Zq x1)))=bh s (a+(z-Zq x)) (Zq x)/\bF (z-1-Zq x1)=z-1-Zq x/\dE))) (bh s (a+(z-Zq x1)) (Zq x1)=bh s a z/\Wq (a+z)=a+z/\dE)))<|by
 unfold sI fV a_ zt qh dE bF Lz nS aO cl cE oX Dq Wq Zq;have k:decide (z<1)=ah:=by simp;omega
 have r:decide (z>8)=ah:=by simp;omega
 have u:decide (a<0)=ah:=by simp;omega
 have v:decide (a>(s.size))=ah:=by simp;omega
 have w:decide (Q .i64 ((s.size)-a)<z)=ah:=by rw[wr Y Y];simp;omega
 rw[k,r,u,v,w];refine⟨λh=>(by cases h),λ_=>⟨λh=>(by cases h),λ_=>⟨λh=>(by cases h),λ_=>⟨λh=>(by cases h),λ_=>⟨λh=>(by cases h),λ_=>⟨⟨0,show((0:Nat))<=z by omega,rfl,rfl,rfl,rfl,by rw[wr Y Y];simp,rfl,rfl⟩,λi E=>⟨λb=>?_,λj=>?_⟩⟩⟩⟩⟩⟩⟩
 .have b:i<z:=by simp at b;omega
  rw[wr (n:=a+(z-1- i)) Y Y];refine⟨Y,Y,i+1,show((i+1:Nat))<=z by omega,by show z.toNat- (i+1)<z.toNat-i;omega,rfl,rfl,rfl,?_,by rw[wr Y Y];push_cast;omega,rfl,rfl⟩;have f:(s.data.toList.getD (a+(z-1- i)).toNat 0).toNat<256:=(s.data.toList.getD (a+(z-1- i)).toNat 0).toNat_lt;have c:a+(z- ((i+1:Nat)))=a+(z-1- i):=by push_cast;omega
  have d:a+(z-1- i)+1=a+(z- i):=Y;rw[c,S6 Y Y,d];have g:=KN (s.data.toList.drop (a+(z- i)).toNat) i;have o:bh s (a+(z- i)) i=((lT ((s.data.toList.drop (a+(z- i)).toNat).take i))):=rfl;have q:2^(8*i)<=2^56:=nF Y Y;rw[Lc]at q;rw[o];generalize lT ((s.data.toList.drop (a+(z- i)).toNat).take i)=N at g|-;generalize (s.data.toList.getD (a+(z-1- i)).toNat 0).toNat=B at f|-;rw[fW (n:=N*256) Y Y,fW (n:=B) Y Y,fW Y Y];omega
 .have j:¬i<z:=by simp at j;omega
  have E:i<=z:=E;have e:i=z:=Y;rw[e,wr Y Y,show a+(z-z)=a by omega];exact⟨rfl,rfl,rfl,rfl⟩⟩
def Ng:=m.cons aTs<| .cons aTP<| .cons aTC<| .cons aTE<| .cons aTA<| .cons aT4<| .cons aTK<|m.nil
def aT5:=auY.gd Ng Tryz.func200 λ⟨a,x⟩ _=>⟨aK,J (p:=aT6 a x)<|⟨H,H,rfl⟩⟩
def aTf:=aQp.gd Ng Tryz.func236 λ⟨s,z⟩ ⟨h,x,e,y,_⟩=>⟨aK,J (p:=1<=z/\z<=8/\(0:Int)<=0/\0+z<=(s.size)/\s.size<=140737488355328/\bh s 0 z=bh s 0 z)<|⟨h,x,H,Y,y,rfl⟩⟩
def aTX:=aQu.gd Ng Tryz.func201 λ⟨s,a,z⟩ ⟨h,x,y,e,k,_⟩=>⟨aK,J (p:=1<=z/\z<=8/\0<=a/\a+z<=(s.size)/\s.size<=140737488355328/\bh s a z=bh s a z)<|⟨h,x,y,e,k,rfl⟩⟩
def aT8:=au0.gd Ng Tryz.func145 λ(s:Int) _=>⟨aK,J (p:=aT9 s)<|⟨rfl,rfl,rfl,rfl⟩⟩
def ajQ:=m.cons aT5<| .cons aTf<| .cons aTX<| .cons aT8<|Ng
def aT0:=aQr.gd ajQ Tryz.func203 λ⟨h,x⟩ _=>⟨aK,J (p:=aT1 h x)<|by rfl⟩
def G8:=m.cons aT0<|ajQ
def au1:=Sp (Int×Int×Int×Int×M) [.g [.u,.u,.u,.u],.s] λ(a,b,c,d,s)=>([E<|32<=s.size,E<|s.size<=140737488355328],aE<|.ag [.v<|.int .u64 (l_ (L4.mk a b c d) s).a,.v<|.int .u64 (l_ (L4.mk a b c d) s).b,.v<|.int .u64 (l_ (L4.mk a b c d) s).c,.v<|.int .u64 (l_ (L4.mk a b c d) s).d])
def aQq:=Sp (Int×Int×Int×Int) [.g [.u,.u,.u,.u]] λ(a,b,c,d)=>([],aE<|dy<|qj<|L4.mk a b c d)
def aQn:=Sp (Int×M) [.u,.s] λ(h,r)=>([E<|r.size<=140737488355328],aE<|dy<|yt h r)
def aQt:=Sp Int [.u] λq=>([],aE<|.ag [.v<|.int .u64 (fg q).a,.v<|.int .u64 (fg q).b,.v<|.int .u64 (fg q).c,.v<|.int .u64 (fg q).d,B 0,aD aJ,dy q])
def XD:Spec where
 ι:=M×Int×Int×Int×Int×Int×M×Int
 dec l H:=match l with
  | [.p l0 0 0,.v<|.string s]=>match H l0 with
    |some (.cells 194 [.v<|.int .u64 a,.v<|.int .u64 b,.v<|.int .u64 c,.v<|.int .u64 d,.v<|.int .i64 n,.v<|.string t,.v<|.int .u64 q])=>O ((s,a,b,c,d,n,t,q),[l0])
    |_=>ae
  |_=>ae
 args:=λ(s,a,b,c,d,n,t,q)=>[U 0,aD s]
 hp:=λ(s,a,b,c,d,n,t,q)=>[(0,.cells 194 [dy a,dy b,dy c,dy d,B n,aD t,dy q])]
 pre:=λ(s,a,b,c,d,n,t,q)=>[E<|a=(fg q).a,E<|b=(fg q).b,E<|c=(fg q).c,E<|d=(fg q).d,E<|n=0,E<|t=aJ,E<|s.size<=140737488355328]
 out:=λ(s,a,b,c,d,n,t,q)=>.leaf (.tu []) [(0,.cells 194 [.v<|.int .u64 (kP q s<|xN s).a,.v<|.int .u64 (kP q s<|xN s).b,.v<|.int .u64 (kP q s<|xN s).c,.v<|.int .u64 (kP q s<|xN s).d,B (s.size),aD<|GA s,dy q])]
def aQm:XD.dn:=by
 intro l H n i x h;simp[XD]at h
 repeat' split at h
 all_goals first|(cases h;done)|(cases h;exact⟨C⟩)|(cases h;refine⟨rfl,?_⟩;simp[dK,iF,iN,gN, *];rfl)
def ag3:Spec where
 ι:=Int×Int×Int×Int×Int×M×Int
 dec l H:=match l with
  | [.p l0 0 0]=>match H l0 with
    |some (.cells 194 [.v<|.int .u64 a,.v<|.int .u64 b,.v<|.int .u64 c,.v<|.int .u64 d,.v<|.int .i64 n,.v<|.string t,.v<|.int .u64 q])=>O ((a,b,c,d,n,t,q),[l0])
    |_=>ae
  |_=>ae
 args:=λ(a,b,c,d,n,t,q)=>[U 0]
 hp:=λ(a,b,c,d,n,t,q)=>[(0,.cells 194 [dy a,dy b,dy c,dy d,B n,aD t,dy q])]
 pre:=λ(a,b,c,d,n,t,q)=>[E<|0<=n,E<|n<=140737488355328,E<|t.size<=140737488355328]
 out:=λ(a,b,c,d,n,t,q)=>.leaf (dy<|yt (u6<|cond (decide (32<=n)) (qj<|L4.mk a b c d) (u6<|q+pF)+u6 n) t) [(0,.cells 194 [dy a,dy b,dy c,dy d,B n,aD t,dy q])]
def aQw:ag3.dn:=by
 intro l H n i x h;simp[ag3]at h
 repeat' split at h
 all_goals first|(cases h;done)|(cases h;exact⟨C⟩)|(cases h;refine⟨rfl,?_⟩;simp[dK,iF,iN,gN, *];rfl)
def aQo:=Sp (Int×Int×Int×Int×Int×M×Int) [.g [.u,.u,.u,.u],.i,.s,.u] λ(a,b,c,d,n,t,q)=>([E<|0<=n,E<|n<=140737488355328,E<|t.size<=140737488355328],aE<|dy<|yt (u6<|cond (decide (32<=n)) (qj<|L4.mk a b c d) (u6<|q+pF)+u6 n) t)
def auZ:=Sp (M×Int) [.s,.u] λ(s,q)=>([E<|s.size<=140737488355328],aE<|dy<|yu s q)
def auW:=Sp M [.s] λs=>([E<|s.size<=140737488355328],aE<|dy<|yu s 0)
def auV:=Sp M [.s] λs=>([E<|s.size<=140737488355328],aE<|.v<|.int .u32<|pN s)
def z4:bL:=[.v<|.int .u64 0,.v<|.int .u64 0,.v<|.int .u64 0,.v<|.int .u64 0]
def aJl(c d:Int)(s:M):bO:=dX [(0,.rr 5),(1006,.one<|bi Unit λ_=>(True,[(2,U 1001),(4,U 1002)],[(1001,.cells 252 [.v<|.int .u64 (l_ (L4.mk n l c d) s).a,.v<|.int .u64 (l_ (L4.mk n l c d) s).b,.v<|.int .u64 (l_ (L4.mk n l c d) s).c,.v<|.int .u64 (l_ (L4.mk n l c d) s).d]),(1002,.cells 252 z4)],0))]
def aJm(c d:Int)(s:M):bO:=dX [(0,.rr 5),(1005,.one<|bi Unit λ_=>(True,[(2,U 1001),(4,U 1002)],[(1001,.cells 189 [.v<|.int .u64 (l_ (L4.mk n l c d) s).a,.v<|.int .u64 (l_ (L4.mk n l c d) s).b,.v<|.int .u64 (l_ (L4.mk n l c d) s).c,.v<|.int .u64 (l_ (L4.mk n l c d) s).d]),(1002,.cells 189 z4)],0))]
def aJj(c d:Int):bO:=dX [(0,.rr 5),(1007,.one<|bi Unit λ_=>(True,[(1,U 1001),(3,dy<|MG<|L4.mk n l c d)],[(1001,.cells 252 [dy n,dy l,dy c,dy d])],0)),(1,.rr 5)]
def AX(m:Nat)(g:Nat×Int×M):Prop:=jE g.1 g.2.1 g.2.2=n/\g.2.2.size<g.1/\g.2.2.size<=m
def aJh(r:M):bO:=dX [
 (0,.one<|bi (Nat×Int×M) λg=>(AX (jE (r.size+1) n r) 140737488355328 g,[(0,dy g.2.1),(1,aD g.2.2)],[],g.1)),
 (1011,.one<|bi Unit λ_=>(True,[(0,dy<|jE (r.size+1) n r)],[],0))]
def aJg(s:M)(q:Int):bO:=dX [
 (0,.one<|bi Nat λi=>(i<=xN s,[(0,U 0),(1,aD<|s.extract (32*i) s.size),(4,U 1001)],[(0,.cells 194 [.v<|.int .u64 (fg q).a,.v<|.int .u64 (fg q).b,.v<|.int .u64 (fg q).c,.v<|.int .u64 (fg q).d,B (s.size),aD aJ,dy q]),(1001,.cells 252 [.v<|.int .u64 (kP q s i).a,.v<|.int .u64 (kP q s i).b,.v<|.int .u64 (kP q s i).c,.v<|.int .u64 (kP q s i).d])],xN s-i))]
def aJk(s:M)(q:Int):bO:=dX [
 (0,.one<|bi Nat λi=>(i<=xN s,[(0,aD<|s.extract (32*i) s.size),(1,dy q),(5,U 1001),(6,B (s.size))],[(1001,.cells 189 [.v<|.int .u64 (kP q s i).a,.v<|.int .u64 (kP q s i).b,.v<|.int .u64 (kP q s i).c,.v<|.int .u64 (kP q s i).d])],xN s-i))]
def aJi(c d b:Int)(t:M)(q h:Int):bO:=dX [
 (0,.rr 5),
 (1008,.one<|bi Unit λ_=>(True,[(1,B b),(2,aD t),(9,dy<|cond (decide (32<=b)) (qj<|L4.mk n l c d)<|u6<|q+pF)],[],0)),
 (1,.one<|bi (Nat×Int×M) λg=>(AX (jE (t.size+1) h t) 140737488355328 g,[(9,dy g.2.1),(2,aD g.2.2)],[],g.1)),
 (1012,.one<|bi (Nat×Int×M) λg=>(AX (jE (t.size+1) h t) 7 g,[(9,dy g.2.1),(2,aD g.2.2)],[],0)),
 (1015,.one<|bi (Nat×Int×M) λg=>(AX (jE (t.size+1) h t) 3 g,[(9,dy g.2.1),(2,aD g.2.2)],[],0)),
 (2,.one<|bi ((Nat×Int×M)×M×Nat) λg=>(AX (jE (t.size+1) h t) 3 g.1/\(g.2.2<=g.2.1.size/\g.2.1.size<=3/\g.1.2.2=g.2.1.extract g.2.2 g.2.1.size),[(9,dy g.1.2.1),(2,aD g.2.1),(11,B (g.2.2))],[],g.2.1.size-g.2.2)),
 (1019,.one<|bi Unit λ_=>(True,[(9,dy<|jE (t.size+1) h t)],[],0))]
def oW(h0:M):Prop:=h0.size<=140737488355328
def U8(h0:L4):Prop:=mr True<|aw h0.a (h0.b=h0.b)<|h0.c=h0.c/\h0.d=h0.d
def B7(h0:Int)(h1 h:Prop)(x y:Int)(z e:Prop):Prop:=Dq (Wq h0<4) (cE h0/\h1/\h)<|ja (x=y)<|z/\e
def oY(h0:Int):Int:=Wq<|Wq h0+1
def jK:Int:=Wq<|Wq (Wq (0+1)+1)+1
def xY(h0:Int):Int:=Wq<|Wq (Wq h0+1)+1
def xZ(h0:M):Prop:=Zq h0.size<=Zq h0.size
def Vu(h0:Int)(h1:L4)(h x y:Int):Prop:=ja (h0=h1.a)<|h=h1.b/\x=h1.c/\y=h1.d/\ca ((0:Int)=0/\(0:Int)=0)
def ya:Prop:=cE<|Wq (0+1)+1
def LB(h0:M)(h1:Int):Prop:=8<=aO (cU h0 (Wq h1)<|aO h0)
def P3(h0:Int)(h1:M)(h:Int):Int:=pL h0<|bh (cU h1 (Wq h)<|aO h1) 0 8
def b8:Int:=Wq<|0+1
def Is:Prop:=xY (Wq (0+1)+1)<Zq 4
def zq(h0:Prop):Prop:=(1:Int)<=8/\(8:Int)<=8/\h0
def LL(h0:M)(h1:Int):Prop:=oW<|cU h0 (Wq h1)<|aO h0
def Cb(h0:Prop):Prop:=cE (oY (0+1)+1)/\jK<Zq 4/\h0
def ej:Int:=oY<|0+1
def vX:Prop:=cE<|0+1
def Cf(h0:Prop):Prop:=cE (jK+1)/\Is/\h0
def nu:Prop:=False/\False
def arq(h0:Int)(h1:M)(h:Prop):Prop:=Wq h0<=aO h1/\xZ h1/\zq h
def LW(h0:Int)(h1:M)(h:Prop):Prop:=cE h0/\arq h0 h1 h
def Cg(h0:Prop):Prop:=vX/\b8<Zq 4/\h0
def Ch(h0:Prop):Prop:=ya/\ej<Zq 4/\h0
def axs(c d:Int)(s:M)(D P i:Prop)(p:Int)(j:L4)(h:Int):Prop:=Dq ((0:Int)<4) (ft (0<Zq 4)<|LW (8*0) s<|LB s (8*0)/\LL s (8*0)/\ft (0<Zq 4) (B7 (0+1) (b8<Zq 4) (LW (8*b8) s<|LB s (8*b8)/\LL s (8*b8)/\Cg (B7 (b8+1) (ej<Zq 4) (LW (8*ej) s<|LB s (8*ej)/\LL s (8*ej)/\Ch (B7 (ej+1) (jK<Zq 4) (LW (8*jK) s<|LB s (8*jK)/\LL s (8*jK)/\Cb (B7 (jK+1) Is (False/\LW (8*xY (b8+1)) s (LB s (8*xY (b8+1))/\LL s (8*xY (b8+1))/\False/\Cf nu)) h p P<|i/\P3 d s (8*jK)=j.d/\ca dE)) h p P<|i/\d=j.d/\ca dE)) h p P D)) h p (l=j.b) D)) (Vu n j l c d)/\U8 j
def axy(c d:Int)(s:M)(D P i:Prop)(p j:Int)(h:L4):Prop:=Dq ((0:Int)<4) (ft (0<Zq 4)<|zq<|cE (8*0)/\Wq (8*0)+8<=aO s/\oW s/\ft (0<Zq 4) (B7 (0+1) (b8<Zq 4) (zq<|cE (8*b8)/\Wq (8*b8)+8<=aO s/\oW s/\Cg (B7 (b8+1) (ej<Zq 4) (zq<|cE (8*ej)/\Wq (8*ej)+8<=aO s/\oW s/\Ch (B7 (ej+1) (jK<Zq 4) (zq<|cE (8*jK)/\Wq (8*jK)+8<=aO s/\oW s/\Cb (B7 (jK+1) Is (False/\zq (cE (8*xY (b8+1))/\Wq (8*xY (b8+1))+8<=aO s/\oW s/\False/\Cf nu)) p j P<|i/\pL d (bh s (Wq<|8*jK) 8)=h.d/\ca dE)) p j P<|i/\d=h.d/\ca dE)) p j P D)) p j (l=h.b) D)) (Vu n h l c d)/\U8 h
def b5(h0:Int):Nat:=(Wq h0).toNat
def FH(h0 h1:Int):Int:=Q .u64<|Q .u64 (bits .xor .u64 h0 h1*11400714785074694791)+9650029242287828579
def jL(h0:Prop):Prop:=False/\False/\h0
def mq(h0:N)(h1:Int):Int:=(1::h0).getD (b5 h1) 0
def axl(P i p j h:Int)(z:Prop)(e k r f:Int)(u:N)(x y:Int):Prop:=Dq (0<Zq 4) (ft (0<Zq 4)<|bY<4/\ft (0<Zq 4) (aF e (e<=63)<|Dq (b8<Zq 4) (Cg<|b5 (0+1)<4/\Cg (aF k (k<=63)<|Dq (ej<Zq 4) (Ch<|b5 (b8+1)<4/\Ch (aF r (r<=63)<|Dq (jK<Zq 4) (Cb<|b5 (ej+1)<4/\Cb (aF f (f<=63)<|Dq (xY (b8+1)<Zq 4) (Cf<|b5 (jK+1)<4/\Cf (jL nu))<|ja (Q .u64 (P+rU n f)=x) z))<|ja (P=x) z))<|ja (p=x) z))<|ja (h=x) z)) (ja (0=x) z)/\mr True (Dq ((0:Int)<4) (ft (0<Zq 4)<|Dq (b8<4) (Cg<|Dq (ej<4) (Ch<|Dq (jK<4) (Cb<|Dq (xY (b8+1)<4) (Cf False)<|FH l (pL 0<|u.getD (b5<|ej+1) 0)=y)<|l=y)<|i=y)<|j=y)<|x=y)
def aq7(h0:Int):Int:=Q .u64<|Q .u64 (h0*11400714785074694791)+9650029242287828579
def Vi(h0:Int)(h1:Nat)(x:Int)(y:M):Prop:=∃(h:Nat×Int×M),(jE h.1 h.2.1 h.2.2=h0/\h.2.2.size<h.1/\oW h.2.2)/\h.1<h1/\x=h.2.1/\y=h.2.2
def FW(h0:Nat×Int×M):Prop:=h0.2.2.size<h0.1
def Wh(h0:Nat×Int×M):Int:=rU (bits .xor .u64 h0.2.1<|pL 0<|bh h0.2.2 0 8) 27
def Ww(h0:Nat×Int×M)(h1:Prop):Prop:=oW h0.2.2/\(0:Int)<=23/\(23:Int)<=63/\(0:Int)<=4/\4<=aO h0.2.2/\xZ h0.2.2/\h1
def Wz(h0:Nat×Int×M)(h1:Prop):Prop:=oW h0.2.2/\(0:Int)<=27/\(27:Int)<=63/\(0:Int)<=8/\8<=aO h0.2.2/\xZ h0.2.2/\h1
def IA(h0:Nat×Int×M):Prop:=FW h0/\oW h0.2.2
def axe(r:M)(D i:Int):Prop:=((∃x,(jE x.1 x.2.1 x.2.2=i/\IA x)/\n=x.2.1/\r=x.2.2)/\(∀x1,jE x1.1 x1.2.1 x1.2.2=i/\IA x1->Dq (aO x1.2.2>=8) (zq<|8<=aO x1.2.2/\Wz x1 (Vi i x1.1 (aq7<|Wh x1)<|x1.2.2.extract (X 8) (aO x1.2.2).toNat)) (Dq (aO x1.2.2>=4) ((1:Int)<=4/\(4:Int)<=8/\4<=aO x1.2.2/\Ww x1 (Vi i x1.1 (Q .u64<|Q .u64 (rU (bits .xor .u64 x1.2.1<|Q .u64<|bh x1.2.2 0 4*11400714785074694791) 23*14029467366897019727)+1609587929392839161)<|x1.2.2.extract (X 4) (aO x1.2.2).toNat))<|Dq (aO x1.2.2>0) (ft (0<aO x1.2.2)<|(0:Int)<=11/\(11:Int)<=63/\(0:Int)<=1/\1<=aO x1.2.2/\xZ x1.2.2/\Vi i x1.1 (Q .u64<|rU (bits .xor .u64 x1.2.1<|Q .u64<|zt (x1.2.2.data.toList.getD bY 0)*2870177450012600261) 11*11400714785074694791) (x1.2.2.extract (X 1) (aO x1.2.2).toNat))<|aL<|True/\x1.2.1=i)))/\mr True ((0:Int)<=33/\(0:Int)<=29/\(0:Int)<=32/\bits .xor .u64 D (D.fdiv<|gH (X 32) IntKind.u64.bits)=yt n r)
def aTv:Prop:=
 (fg n).a=(fg n).a/\(fg n).b=(fg n).b/\(fg n).c=(fg n).c/\(fg n).d=(fg n).d/\(0:Int)=0/\aJ=aJ/\n=n
def DP(h0:Nat×Int×M)(h1:M)(h x y z e k:Int):Prop:=jE h0.1 h0.2.1 h0.2.2=jE (h1.size+1) (u6<|(bif decide (32<=h)then qj (L4.mk x y z e)else u6<|k+pF)+u6 h) h1
def Vo(h0:(Nat×Int×M)×M×Nat)(h1:M)(h x y z e k:Int):Prop:=(jE h0.1.1 h0.1.2.1 h0.1.2.2=jE (h1.size+1) (u6<|(bif decide (32<=h)then qj (L4.mk x y z e)else u6<|k+pF)+u6 h) h1/\h0.1.2.2.size<h0.1.1/\h0.1.2.2.size<=3)/\h0.2.2<=h0.2.1.size/\h0.2.1.size<=3/\h0.1.2.2=h0.2.1.extract h0.2.2 h0.2.1.size
def Wb(h0:Int)(h1:M)(h x y:Int)(z:L4)(e:Int):Prop:=ja (h0=h0)<|h1=h1/\CA (CA h x) y=(bif decide (32<=h0)then qj z else u6 e)
def axf(c d b:Int)(t:M)(q D i p j h v:Int):Prop:=Dq (b>=32) (ft (0<Zq 4)<|(0:Int)<=1/\(1:Int)<=63/\(0:Int)<=1/\1<Zq 4/\(0:Int)<=7/\(7:Int)<=63/\(0:Int)<=2/\2<Zq 4/\(0:Int)<=12/\(12:Int)<=63/\(0:Int)<=3/\3<Zq 4/\(0:Int)<=18/\(18:Int)<=63/\Dq ((0:Int)<4) (ft (0<Zq 4)<|Dq (b8<4) (Cg<|Dq (ej<4) (Ch<|Dq (jK<4) (Cb<|Dq (xY (b8+1)<4) (Cf<|jL False)<|Wb b t (CA p l) c d (L4.mk n l c d)<|q+pF)<|Wb b t p l c (L4.mk n l c d)<|q+pF)<|Wb b t j n l (L4.mk n l c d)<|q+pF)<|ja (b=b)<|t=t/\p=v) (ja (b=b)<|t=t/\j=v)) (ja (b=b)<|t=t/\Q .u64 (q+2870177450012600261)=v)/\mr True (((∃f,(DP f t b n l c d q/\IA f)/\Q .u64 (v+Q .u64 b)=f.2.1/\t=f.2.2)/\(∀x8,DP x8 t b n l c d q/\IA x8->Dq (aO x8.2.2>=8) (zq<|ft (0+8<=aO x8.2.2)<|Wz x8<|∃u,(DP u t b n l c d q/\IA u)/\u.1<x8.1/\Q .u64 (mU (Wh x8) 11400714785074694791+9650029242287828579)=u.2.1/\x8.2.2.extract (X 8) (aO x8.2.2).toNat=u.2.2) (∃z,(DP z t b n l c d q/\FW z/\z.2.2.size<=7)/\x8.2.1=z.2.1/\x8.2.2=z.2.2)))/\(∀e,DP e t b n l c d q/\FW e/\e.2.2.size<=7->Dq (aO e.2.2>=4) ((1:Int)<=4/\(4:Int)<=8/\ft (0+4<=aO e.2.2) (Ww e<|∃k,(DP k t b n l c d q/\FW k/\k.2.2.size<=3)/\Q .u64 (mU (rU (bits .xor .u64 e.2.1<|mU (bh e.2.2 0 4) 11400714785074694791) 23) 14029467366897019727+1609587929392839161)=k.2.1/\e.2.2.extract (X 4) (aO e.2.2).toNat=k.2.2)) (∃r,(DP r t b n l c d q/\FW r/\r.2.2.size<=3)/\e.2.1=r.2.1/\e.2.2=r.2.2)/\(∀L,DP L t b n l c d q/\FW L/\L.2.2.size<=3->((∃w,Vo w t b n l c d q/\L.2.1=w.1.2.1/\L.2.2=w.2.1/\0=Zq w.2.2)/\(∀x,Vo x t b n l c d q->Dq (Zq x.2.2<aO x.2.1) (aF (Zq x.2.2) (Zq x.2.2<aO x.2.1)<|(0:Int)<=11/\(11:Int)<=63/\(∃y,Vo y t b n l c d q/\y.2.1.size.sub y.2.2<x.2.1.size.sub x.2.2/\mU (rU (bits .xor .u64 x.1.2.1<|mU (zt<|vS x.2.1.data<|Zq x.2.2) 2870177450012600261) 11) 11400714785074694791=y.1.2.1/\x.2.1=y.2.1/\ay (Zq x.2.2)=Zq y.2.2)) (aL<|True/\x.1.2.1=i)))/\mr True ((0:Int)<=33/\(0:Int)<=29/\(0:Int)<=32/\bits .xor .u64 D (D.fdiv<|gH (X 32) IntKind.u64.bits)=yt h t))))
def aeB(h0 h1:L4):Prop:=h0.a=h1.a/\h0.b=h1.b/\h0.c=h1.c/\h0.d=h1.d
def VR(h0:M)(h1 h:Nat):Prop:=(h0.extract (32*h1) h0.size).extract (X 32) (aO<|h0.extract (32*h1) h0.size).toNat=h0.extract (32*h) h0.size
def rk(h0:M)(h1:Nat):M:=h0.extract (32*h1) h0.size
def axc(s:M)(q:Int)(D:L4):Prop:=ByteArray.empty.size+s.size<=9223372036854775807/\(∃x,x.le (xN s)/\aJ++s=rk s x/\aw (fg q).a ((fg q).b=(fg q).b) (aw (fg q).c ((fg q).d=(fg q).d)<|Wq (0+aO s)=aO s/\aJ=aJ/\q=q/\aeB (fg q) (kP q s x)))/\(∀x1,x1.le (xN s)->Dq (aO (rk s x1)>=32) (ft ((0:Int)<=32)<|32<=aO (rk s x1)/\32<=((rk s x1).extract bY<|X 32).size/\oW ((rk s x1).extract bY<|X 32)/\(0:Int)<=32/\32<=aO (rk s x1)/\xZ (rk s x1)/\(∃h,h.le (xN s)/\cl (xN s) h x1/\VR s x1 h/\aw (fg q).a ((fg q).b=(fg q).b) (aw (fg q).c ((fg q).d=(fg q).d)<|aw (aO s) (aJ=aJ)<|q=q/\aeB (l_ (kP q s x1)<|(rk s x1).extract bY<|X 32) (kP q s h)))) ((kP q s x1).a=D.a/\(kP q s x1).b=D.b/\(kP q s x1).c=D.c/\(kP q s x1).d=D.d/\aw (aO s) (rk s x1=GA s) (q=q)))
def ait(s:M)(q:Int):Prop:=axc s q<|kP q s<|xN s
def aTN(a b c d n:Int)(t:M)(q:Int):Prop:=
 (decide (n>=32)=ab->
 t.size<=140737488355328/\
 yt (Q .u64<|qj {a:=a,b:=b,c:=c,d:=d}+Q .u64 n) t=
 yt (u6<|(bif decide (32<=n)then qj {a:=a,b:=b,c:=c,d:=d}else u6<|q+pF)+u6 n) t/\
 a=a/\b=b/\c=c/\d=d/\n=n/\t=t/\q=q)/\
 (decide (n>=32)=ah->
 t.size<=140737488355328/\
 yt (Q .u64<|Q .u64 (q+2870177450012600261)+Q .u64 n) t=
 yt (u6<|(bif decide (32<=n)then qj {a:=a,b:=b,c:=c,d:=d}else u6<|q+pF)+u6 n) t/\
 a=a/\b=b/\c=c/\d=d/\n=n/\t=t/\q=q)
def aei(h0:M)(h1 h:L4):Prop:=aw (Zq h0.size) (h1.a=h.a)<|h1.b=h.b/\h1.c=h.c/\h1.d=h.d
def aTI(s:M)(q:Int):Prop:=
 (fg q).a=(fg q).a/\
 (fg q).b=(fg q).b/\
 (fg q).c=(fg q).c/\
 (fg q).d=(fg q).d/\
 (0:Int)=0/\
 aJ=aJ/\
 s.size<=140737488355328/\
 0<=(s.size:Int)/\
 (s.size:Int)<=140737488355328/\
 kD (GA s)<=140737488355328/\
 yt
 (u6
<|(bif decide (32<=(s.size:Int))then qj {a:=(kP q s<|xN s).a,b:=(kP q s<|xN s).b,c:=(kP q s<|xN s).c,d:=(kP q s<|xN s).d}
 else u6<|q+pF)+
 u6 (s.size))
 (GA s)=
 yu s q
def aT3(s:M):Prop:=
 s.size<=140737488355328/\yu s 0=yu s 0
def aTx(s:M):Prop:=
 s.size<=140737488355328/\yu s 0=yu s 0
def aTZ(s:M):Prop:=
 s.size<=140737488355328/\(4294967296:Int)≠0/\Q .u32 (kf (yu s 0) 4294967296)=pN s
def aTl(s:M):Prop:=
 s.size<=140737488355328/\Q .u32 (yu s 0)=pN s
theorem C6(s:M)(a b:Nat):(s.extract a b).data.toList=(s.data.toList.drop a).take (b-a):=aj
theorem uj(s:M)(a b:Nat):(s.extract a b).size=min b s.size-a:=r8
theorem aa0{s:M}{i n:Nat}{a z:Int}(h0:0<=a)(x:0<=z)(h:i+a.toNat+z.toNat<=n):bh (s.extract i n) a z=bh s (i+a) z:=by grind [bh,C6,ai7,List.drop_drop]
def Ym:Q .i64 (0+1)=1:=H
def Yn:Q .i64 (1+1)=2:=H
def Yo:Q .i64 (2+1)=3:=H
def Yp:Q .i64 (3+1)=4:=H
def xe0:Q .i64 (8*0)=0:=H
def xe1:Q .i64 (8*1)=8:=H
def xe2:Q .i64 (8*2)=16:=H
def xe3:Q .i64 (8*3)=24:=H
def SD:decide ((0:Int)<4)=ab:=H
def d14:decide ((1:Int)<4)=ab:=H
def d24:decide ((2:Int)<4)=ab:=H
def d34:decide ((3:Int)<4)=ab:=H
def d44:decide ((4:Int)<4)=ah:=H
theorem fx{s:M}(i:Nat)(h:i+8<=s.size):bh (s.extract i (X (s.size:Int))) 0 8=bh s i 8:=by
 rw[yz,aa0 H H Y,MU]
def aKa(x y):Q .u64 (bits .or .u64 x y)=bits .or .u64 x y:=by have:bits .or .u64 x y=IntKind.u64.wrap ((lk 64 x|||lk 64 y).toNat):=rfl;rw[this];rw[fW (n:=(((lk 64 x|||lk 64 y).toNat))) Y Y,fW Y Y]
def aLa(x n):Q .u64 (0+rU x n)=rU x n:=by unfold rU;rw[A5,aKa]
theorem g0:eU [(1:Int),7,12,18] (X 0) 0=1:=H
def g1:eU [(1:Int),7,12,18] (X 1) 0=7:=H
def g2:eU [(1:Int),7,12,18] (X 2) 0=12:=H
def g3:eU [(1:Int),7,12,18] (X 3) 0=18:=H
def c4:(((4:Nat):Int))=4:=rfl
theorem l0(a b c d:Int):eU [a,b,c,d] (X 0) 0=a:=rfl
def l1(c d:Int):eU [n,l,c,d] (X 1) 0=l:=rfl
def l2(c d:Int):eU [n,l,c,d] (X 2) 0=c:=rfl
def l3(c d:Int):eU [n,l,c,d] (X 3) 0=d:=rfl
section
variable{k:Nat}{h:Int}{r:M}
def aS9(x:8<=r.size):jE (k+1) h r=jE k (x8 h<|bh r 0 8) (r.extract 8 r.size):=by grind [jE]
def aS8(y:r.size<8)(x:4<=r.size):jE (k+1) h r=jE k (x4 h<|bh r 0 4) (r.extract 4 r.size):=by grind [jE]
def aS7(x:r.size<4)(h1:0<r.size):jE (k+1) h r=jE k (x1 h<|bh r 0 1) (r.extract 1 r.size):=by grind [jE]
def axd(h0:r.size=0):jE k h r=h:=by
 cases k with
 |zero=>rfl
 |succ k=>grind [jE]
def amy(h0:0<r.size):Q .u64 (((r.data.toList.getD (X 0) 0).toNat))=bh r 0 1:=by have x:=(r.data.toList.getD (X 0) 0).toNat_lt;have e:=S6 (s:=r) (a:=0) (i:=0) H Y;grind [fW,S8]
def axi{F:Int}{m:Nat}(hp:AX F m (k,h,r))(x:8<=r.size):∃k',k=k'+1/\AX F m (k',x8 h<|bh r 0 8,r.extract 8 r.size):=by
 let⟨p1,p2,p3⟩:=hp;dsimp only at p1 p2 p3;cases k with
 |zero=>lia
 |succ k=>
  rw[aS9 x]at p1;have e:=uj r 8 r.size;exact⟨k,rfl,p1,by dsimp only;lia,by dsimp only;lia⟩
def axh{F:Int}{m:Nat}(hp:AX F m (k,h,r))(y:r.size<8)(x:4<=r.size):∃k',k=k'+1/\AX F m (k',x4 h<|bh r 0 4,r.extract 4 r.size)/\(r.extract 4 r.size).size<=3:=by
 let⟨p1,p2,p3⟩:=hp;dsimp only at p1 p2 p3;cases k with
 |zero=>lia
 |succ k=>
  rw[aS8 y x]at p1;have e:=uj r 4 r.size;exact⟨k,rfl,⟨p1,by dsimp only;lia,by dsimp only;lia⟩,Y⟩
def axg{F:Int}{m:Nat}(hp:AX F m (k,h,r))(x:r.size<4)(h1:0<r.size):∃k',k=k'+1/\AX F m (k',x1 h<|bh r 0 1,r.extract 1 r.size):=by
 let⟨p1,p2,p3⟩:=hp;dsimp only at p1 p2 p3;cases k with
 |zero=>lia
 |succ k=>
  rw[aS7 x h1]at p1;have e:=uj r 1 r.size;exact⟨k,rfl,p1,by dsimp only;lia,by dsimp only;lia⟩
end
def Te{v:Bool}(h:decide (x>=32)=v):decide (32<=x)=v:=h
def aBS:(t.extract w t.size).extract 1 (t.extract w t.size).size=t.extract (w+1) t.size:=by have e:=uj t w t.size;apply Yu;apply Array.ext';grind [C6,ai7,List.drop_drop]
def aBP:(t.extract w t.size).data.toList.getD (X 0) 0=t.data.toList.getD w 0:=by rw[C6];have h:t.data.toList.length=t.size:=rfl;grind
def aaT(r:M):r.extract 0 r.size=r:=by simp_all
def axm(hi:w<=xN t):((t.extract (32*w) t.size).size=t.size-32*w)/\32*w<=t.size:=by grind [xN,uj]
def amo:(t.extract (32*w) t.size).extract 32 (t.extract (32*w) t.size).size=t.extract (32*(w+1)) t.size:=by have e:=uj t (32*w) t.size;apply Yu;apply Array.ext';grind [C6,ai7,List.drop_drop]
def aRP(l:L4)(r:M)(h:32<=r.size):l_ l (r.extract 0 32)=l_ l r:=by grind [l_,aa0]
def aBu(s:M):aJ++s=s:=by simp_all
def aS3(s:M)(q:Int)(h:s.size<=140737488355328):ait s q:=by
 unfold ait axc aw bY ft rk VR aeB aO cl xZ oW Dq Wq Zq;refine⟨by show 0+s.size<=_;lia,⟨0,dx _,by rw[aBu];exact(aaT s).symm,rfl,rfl,rfl,rfl,by rw[wr Y Y];lia,C⟩,λi r=>⟨λx=>?_,λx=>?_⟩⟩
 all_goals let⟨z,e⟩:=axm r
 .have x:32<=(s.extract (32*i) s.size).size:=by simp[dJ]at x;lia
  have y:i<xN s:=by grind [xN]
  have k:((s.extract (32*i) s.size).extract 0 32).size=32:=by rw[uj];lia
  have et:l_ (kP q s i) ((s.extract (32*i) s.size).extract 0 32)=kP q s (i+1):=by rw[aRP _ _ x];rfl
  refine⟨H,H,Y,by show 32<=((s.extract (32*i) s.size).extract 0 32).size;lia,by show((s.extract (32*i) s.size).extract 0 32).size<=_;lia,H,Y,jj _,i+1,y,by show xN s- (i+1)<xN s-i;lia,by rw[yz];exact amo,rfl,rfl,rfl,rfl,rfl,rfl,rfl,?_,?_,?_,?_⟩
  .grind
  .grind
  .grind
  .grind
 .have x:(s.extract (32*i) s.size).size<32:=by simp[dH]at x;lia
  have y:i=xN s:=by grind [xN]
  subst y;exact⟨rfl,rfl,rfl,rfl,rfl,rfl,rfl⟩
def aTB(s:M):(GA s).size<=s.size:=by grind [GA,uj]
def aTW(x y):0<=bits .xor .u64 x y:=by have:bits .xor .u64 x y=IntKind.u64.wrap ((lk 64 x^^^lk 64 y).toNat):=rfl;rw[this];rw[fW Y Y];lia
def aTG(s:M)(q:Int):0<=yu s q:=by unfold yu yt xF3 GB;exact aTW _ _
def aTO:=au1.gd G8 Tryz.func178 λ⟨a,b,c,d,s⟩ ⟨n,f,_⟩=>⟨(aJl a b c d s),J (p:=axs a b c d s (c=(l_ (L4.mk a b c d) s).c/\d=(l_ (L4.mk a b c d) s).d/\ca dE) (P3 b s (8*b8)=(l_ (L4.mk a b c d) s).b) (P3 c s (8*ej)=(l_ (L4.mk a b c d) s).c) (l_ (L4.mk a b c d) s).a (l_ (L4.mk a b c d) s)<|P3 a s<|8*0)<|by
 unfold axs Ch Cg LW arq nu Cf vX ej Cb LL zq ft Is b8 P3 dE LB aO ya Vu xZ xY jK oY B7 cE U8 aw mr cU ca ja aL oW Dq Wq Zq;rw[Ym,Yn,Yo,Yp,xe0,xe1,xe2,xe3,SD,d14,d24,d34,d44];have r:=fx (s:=s) 0 Y;have u:=fx (s:=s) 8 Y;have h:=fx (s:=s) 16 Y;have x:=fx 24 Y;have i:(s.extract (X 0)<|X (s.size)).size=s.size:=by rw[uj];simp
 have j:(s.extract (X 8)<|X (s.size)).size=s.size-8:=by rw[uj];simp
 have e:(s.extract (X 16)<|X (s.size)).size=s.size-16:=by rw[uj];simp
 have k:(s.extract (X 24)<|X (s.size)).size=s.size-24:=by rw[uj];simp
 rw[i,j,e,k];have v:bh (s.extract (X 0)<|X (s.size)) 0 8=bh s 0 8:=r;have w:bh (s.extract (X 8)<|X (s.size)) 0 8=bh s 8 8:=u;have y:bh (s.extract (X 16)<|X (s.size)) 0 8=bh s 16 8:=h;have z:bh (s.extract (X 24)<|X (s.size)) 0 8=bh s 24 8:=x;rw[v,w,y,z];simp only[zQ,rz,Jl,Jn,sZ,xo]
 (repeat' (refine fY ?_ ?_))<;>first|omega|exact⟨(),rfl,rfl,rfl,rfl⟩|exact λ_=>trivial|rfl⟩
def aT_:=au1.gd G8 Tryz.func146 λ⟨a,b,c,d,s⟩ ⟨h,x,_⟩=>⟨(aJm a b c d s),J (p:=axy a b c d s (c=(l_ (L4.mk a b c d) s).c/\d=(l_ (L4.mk a b c d) s).d/\ca dE) (pL b (bh s (Wq<|8*b8) 8)=(l_ (L4.mk a b c d) s).b) (pL c (bh s (Wq<|8*ej) 8)=(l_ (L4.mk a b c d) s).c) (pL a<|bh s (Wq<|8*0) 8) (l_ (L4.mk a b c d) s).a<|l_ (L4.mk a b c d) s)<|by
 unfold axy Ch Cg nu Cf vX ej Cb zq ft Is b8 dE aO ya Vu xY jK oY B7 cE U8 aw mr ca ja aL oW Dq Wq Zq;rw[Ym,Yn,Yo,Yp,xe0,xe1,xe2,xe3,SD,d14,d24,d34,d44];simp only[zQ,rz,Jl,Jn,sZ,xo]
 (repeat' (apply fY ?_ ?_))<;>first|omega|exact⟨(),rfl,rfl,rfl,rfl⟩|exact λ_=>trivial|rfl⟩
def aTq:=aQq.gd G8 Tryz.func179 λ⟨a,b,c,d⟩ _=>⟨(aJj a b c d),J (p:=axl d (FH (FH (FH (MG<|L4.mk a b c d)<|pL 0<|[a,b,c,d].getD bY 0)<|pL 0<|[a,b,c,d].getD (b5<|0+1) 0)<|pL 0<|[a,b,c,d].getD (b5<|b8+1) 0) (Q .u64<|Q .u64 (Q .u64 (0+rU a ([1,7,12,18].getD bY 0))+rU b (mq [7,12,18]<|0+1))+rU c (mq [7,12,18]<|b8+1)) (FH (FH (MG<|L4.mk a b c d)<|pL 0<|[a,b,c,d].getD bY 0)<|pL 0<|[a,b,c,d].getD (b5<|0+1) 0) (Q .u64<|Q .u64 (0+rU a ([1,7,12,18].getD bY 0))+rU b (mq [7,12,18]<|0+1)) (FH (MG<|L4.mk a b c d)<|pL 0<|[a,b,c,d].getD bY 0) (Q .u64<|0+rU a ([1,7,12,18].getD bY 0)) (a=a/\b=b/\c=c/\d=d) ([1,7,12,18].getD bY 0) (mq [7,12,18]<|0+1) (mq [7,12,18]<|b8+1) (mq [7,12,18]<|ej+1) [a,b,c,d] (MG<|L4.mk a b c d)<|qj<|L4.mk a b c d)<|by
 unfold axl mr Ch Cg nu Cf aF vX ej bY Cb ft Is b8 ya mq jL xY jK oY FH cE b5 ja aL Dq Wq Zq;rw[Ym,Yn,Yo,Yp,c4,SD,d14,d24,d34,d44,g0,g1,g2,g3,aLa,adW,adX];simp only[zQ,rz,Jl,Jn,sZ,xo,MV,l0,l1,l2,l3]
 (repeat' (apply fY ?_ ?_))<;>first|omega|exact⟨(),rfl⟩|rfl|decide⟩
def aS_:=aQn.gd G8 Tryz.func180 λ⟨h,r⟩ ⟨v,_⟩=>⟨(aJh h r),J (p:=axe h r (Q .u64<|bits .xor .u64 (Q .u64<|bits .xor .u64 (jE (r.size+1) h r) ((jE (r.size+1) h r).fdiv<|gH (X 33) IntKind.u64.bits)*14029467366897019727) ((Q .u64<|bits .xor .u64 (jE (r.size+1) h r) ((jE (r.size+1) h r).fdiv<|gH (X 33) IntKind.u64.bits)*14029467366897019727).fdiv<|gH (X 29) IntKind.u64.bits)*1609587929392839161)<|jE (r.size+1) h r)<|by
 unfold axe mr IA Wz Ww Wh bY zt zq ft FW aO gH xZ aL Vi aq7 oW Dq Zq;rw[adW,aqD,aqE,adX,aqF];refine⟨⟨⟨(r.size+1,h,r),⟨rfl,CF _,v⟩,rfl,rfl⟩,λg i=>⟨λx=>?_,λx=>⟨λc4=>?_,λc4=>⟨λj=>?_,λj=>?_⟩⟩⟩⟩,λ_ _=>⟨H,H,H,rfl⟩⟩
 all_goals obtain⟨k,w,y⟩:=g
 all_goals have e:y.size<=140737488355328:=i.2.2
 all_goals dsimp only at*
 .have x:8<=y.size:=by simp only[dJ]at x;omega
  obtain⟨a,rfl,z⟩:=axi i x;exact⟨H,H,Y,e,H,H,H,Y,jj _,_,z,CF _,rfl,rfl⟩
 .have x:y.size<8:=by simp only[dH]at x;omega
  have c4:4<=y.size:=c9;obtain⟨a,rfl,z,_⟩:=axh i x c4;exact⟨H,H,Y,e,H,H,H,Y,jj _,_,z,CF _,rfl,rfl⟩
 .have c4:y.size<4:=by simp only[dH]at c4;omega
  have u:0<y.size:=c9;obtain⟨a,rfl,z⟩:=axg i c4 u;rw[amy u];exact⟨H,Y,H,H,H,Y,jj _,_,z,CF _,rfl,rfl⟩
 .have j:y.size=0:=by simp only[dH]at j;omega
  exact⟨(),trivial,by rw[<-i.1];exact(axd j).symm⟩⟩
def aTu:=aQt.gd G8 Tryz.func128 λq _=>⟨aK,J (p:=aTv q)<|⟨rfl,rfl,rfl,rfl,rfl,rfl,rfl⟩⟩
def aTc:=aQo.gd G8 Tryz.func147 λ⟨a,b,c,d,n,t,q⟩ ⟨A,B,l,_⟩=>⟨(aJi a b c d n t q<|u6<|cond (decide (32<=n)) (qj<|L4.mk a b c d) (u6<|q+pF)+u6 n),J (p:=axf a b c d n t q (mU (bits .xor .u64 (mU (bits .xor .u64 (jE (t.size+1) (u6<|(bif decide (32<=n)then qj (L4.mk a b c d)else u6<|q+pF)+u6 n) t)<|(jE (t.size+1) (u6<|(bif decide (32<=n)then qj (L4.mk a b c d)else u6<|q+pF)+u6 n) t).fdiv<|gH (X 33) IntKind.u64.bits) 14029467366897019727)<|(mU (bits .xor .u64 (jE (t.size+1) (u6<|(bif decide (32<=n)then qj (L4.mk a b c d)else u6<|q+pF)+u6 n) t)<|(jE (t.size+1) (u6<|(bif decide (32<=n)then qj (L4.mk a b c d)else u6<|q+pF)+u6 n) t).fdiv<|gH (X 33) IntKind.u64.bits) 14029467366897019727).fdiv<|gH (X 29) IntKind.u64.bits) 1609587929392839161) (jE (t.size+1) (u6<|(bif decide (32<=n)then qj (L4.mk a b c d)else u6<|q+pF)+u6 n) t) (CA (Q .u64<|Q .u64 (Q .u64 (rU a 1+rU b 7)+rU c 12)+rU d 18) a) (Q .u64<|Q .u64 (Q .u64 (rU a 1+rU b 7)+rU c 12)+rU d 18) (u6<|(bif decide (32<=n)then qj (L4.mk a b c d)else u6<|q+pF)+u6 n)<|bif decide (32<=n)then qj (L4.mk a b c d)else u6<|q+pF)<|by
 unfold axf DP mr IA Wz Ch Cg Ww Cf Wh aF vX ej Wb Cb zt zq ft Is b8 FW aO ya jL gH Vo xZ ay xY jK oY cE vS ja aL oW Dq Wq Zq;rw[adW,aqD,aqE,adX,aqF];refine⟨⟨λw=>?_,λw=>⟨(),trivial,rfl,rfl,by rw[Te w];rfl⟩⟩,λ_ _=>⟨⟨⟨(t.size+1,_,t),⟨rfl,CF _,l⟩,rfl,rfl⟩,λg C=>⟨λu=>?_,λu=>?_⟩⟩,λg C=>⟨⟨λc4=>?_,λc4=>?_⟩,λg C=>⟨⟨?_,λg C=>⟨λD=>?_,λD=>?_⟩⟩,λ_ _=>⟨H,H,H,rfl⟩⟩⟩⟩⟩
 .have e:=Te w
  rw[Ym,Yn,Yo,Yp,SD,d14,d24,d34,d44,e];simp only[zQ,rz,Jl,Jn,sZ,xo]
  (repeat' (refine fY ?_ ?_))<;>first|omega|exact⟨(),rfl,rfl,rfl⟩|exact⟨(),rfl⟩|exact λ_=>trivial|rfl
 .obtain⟨k,x,h⟩:=g
  have f:h.size<=140737488355328:=C.2.2;dsimp only at u|-;have o:8<=h.size:=by simp only[dJ]at u;omega
  obtain⟨F,rfl,y⟩:=axi C o;exact⟨H,H,H,Y,f,H,H,H,Y,jj _,_,y,CF _,rfl,rfl⟩
 .obtain⟨k,x,h⟩:=g
  dsimp only at u|-;have o:h.size<8:=by simp only[dH]at u;omega
  exact⟨(k,x,h),⟨C.1,C.2.1,by dsimp only;omega⟩,rfl,rfl⟩
 .obtain⟨k,x,h⟩:=g
  have f:h.size<=7:=C.2.2;dsimp only at c4|-;have m:4<=h.size:=by simp only[dJ]at c4;omega
  obtain⟨F,rfl,y,z⟩:=axh C Y m;exact⟨H,H,H,Y,Y,H,H,H,Y,jj _,_,⟨y.1,y.2.1,z⟩,rfl,rfl⟩
 .obtain⟨k,x,h⟩:=g
  dsimp only at c4|-;have m:h.size<4:=by simp only[dH]at c4;omega
  exact⟨(k,x,h),⟨C.1,C.2.1,by dsimp only;omega⟩,rfl,rfl⟩
 .obtain⟨k,x,h⟩:=g
  exact⟨((k,x,h),h,0),⟨C,dx _,C.2.2,(aaT h).symm⟩,rfl,rfl,rfl⟩
 .obtain⟨⟨k,x,h⟩,r,i⟩:=g
  obtain⟨C,E,z,v⟩:=C;dsimp only at D E z v|-;subst v;have s:i<r.size:=by simp only[dJ]at D;omega
  have e:=uj r i r.size;obtain⟨F,rfl,y⟩:=axg C Y Y;rw[aBS]at y;have j:=amy (r:=r.extract i r.size) Y;rw[aBP]at j;refine⟨Y,Y,H,H,((F,x1 x<|bh (r.extract i r.size) 0 1,r.extract (i+1) r.size),r,i+1),⟨y,s,z,rfl⟩,?_,?_,rfl,?_⟩
  .show r.size- (i+1)<r.size-i
   omega
  .rw[yz,j]
   rfl
  .rw[wr Y Y];rfl
 .obtain⟨⟨k,x,h⟩,r,i⟩:=g
  obtain⟨C,E,z,v⟩:=C;dsimp only at D E z v|-;subst v;have s:i=r.size:=by simp only[dH]at D;omega
  have e:=uj r i r.size;exact⟨(),trivial,by rw[<-C.1];exact(axd<|by dsimp only;omega).symm⟩⟩
def Nh:=m.cons aTO<| .cons aT_<| .cons aTq<| .cons aS_<| .cons aTu<| .cons aTc<|G8
def aS2:Sound ar 129 XD.iY:=XD.sound ax aQm λ(s,a,b,c,d,n,t,q) h=>by have y:=h _<|.head _;have z:=h _<|.tail _<|.head _;have e:=h _<|.tail _<|.tail _<|.head _;have k:=h _<|.tail _<|.tail _<|.tail _<|.head _;have r:=h _<|.tail _<|.tail _<|.tail _<|.tail _<|.head _;have u:=h _<|.tail _<|.tail _<|.tail _<|.tail _<|.tail _<|.head _;have w:=h _<|.tail _<|.tail _<|.tail _<|.tail _<|.tail _<|.tail _<|.head _;have x:=Mn Nh mixed Tryz.func129 (ax:ait s q=Gx ar (oC<|sa Nh) (aJg s q) Tryz.f129 [.p 0 0 0,.v<|.string s] [(0,.cells 194 [.v<|.int .u64 (fg q).a,.v<|.int .u64 (fg q).b,.v<|.int .u64 (fg q).c,.v<|.int .u64 (fg q).d,.v<|.int .i64 0,.v<|.string aJ,.v<|.int .u64 q])] (.leaf (.tu [])<|[(0,.cells 194 [.v<|.int .u64 (kP q s<|xN s).a,.v<|.int .u64 (kP q s<|xN s).b,.v<|.int .u64 (kP q s<|xN s).c,.v<|.int .u64 (kP q s<|xN s).d,.v<|.int .i64 (s.size),.v<|.string<|GA s,.v<|.int .u64 q])]))<|aS3 s q w;subst y z e k r u;exact x
def aTM:=ag3.gE aQw Nh Tryz.func130 λ⟨a,b,c,d,n,t,q⟩ ⟨y,z,x,_⟩=>⟨aK,J (p:=aTN a b c d n t q)<|by
 refine⟨λh=>⟨x,?_,rfl,rfl,rfl,rfl,rfl,rfl,rfl⟩,λh=>⟨x,?_,rfl,rfl,rfl,rfl,rfl,rfl,rfl⟩⟩
 .rw[Te h];rfl
 .rw[Te h];rfl⟩
def aT7:=auZ.gd Nh Tryz.func93 λ⟨s,q⟩ ⟨h,_⟩=>⟨(aJk s q),J (p:=(∃e,e.le (xN s)/\s=rk s e/\q=q/\aei s (fg q) (kP q s e))/\(∀x1,x1.le (xN s)->Dq (aO (rk s x1)>=32) (32<=(rk s x1).size/\oW (rk s x1)/\(0:Int)<=32/\32<=aO (rk s x1)/\xZ (rk s x1)/\(∃y,y.le (xN s)/\cl (xN s) y x1/\VR s x1 y/\q=q/\aei s (l_ (kP q s x1)<|rk s x1) (kP q s y))) (aF (aO s) (aO s<=140737488355328)<|oW (rk s x1)/\yt (u6<|(bif decide (32<=aO s)then qj (kP q s x1)else u6<|q+pF)+u6 (aO s)) (rk s x1)=yu s q)))<|by
 unfold aF rk VR aO cl xZ aei aw oW Dq Zq;refine⟨⟨0,dx _,(aaT s).symm,rfl,rfl,rfl,rfl,rfl,rfl⟩,λi u=>⟨λx=>?_,λx=>?_⟩⟩
 all_goals obtain⟨k,r⟩:=axm u
 .have x:32<=(s.extract (32*i) s.size).size:=by simp only[dJ]at x;omega
  have z:i<xN s:=by grind [xN]
  exact⟨x,Y,H,Y,jj _,i+1,z,by show xN s- (i+1)<xN s-i;omega,by rw[yz];exact amo,rfl,rfl,rfl,rfl,rfl,rfl⟩
 .have x:(s.extract (32*i) s.size).size<32:=by simp only[dH]at x;omega
  have z:i=xN s:=by grind [xN]
  subst z;exact⟨Y,Y,Y,rfl⟩⟩
def ZA:=m.cons aS2<| .cons aTM<| .cons aT7<|Nh
def aTH:=auZ.gd ZA Tryz.func82 λ⟨s,q⟩ ⟨h,_⟩=>⟨aK,J (p:=aTI s q)<|by have:=aTB s;exact⟨rfl,rfl,rfl,rfl,rfl,rfl,h,Y,Y,Y,rfl⟩⟩
def aT2:=auW.gd ZA Tryz.func62 λs ⟨h,_⟩=>⟨aK,J (p:=aT3 s)<|⟨h,rfl⟩⟩
def ZB:=m.cons aTH<| .cons aT2<|ZA
def aTw:=auW.gd ZB Tryz.func56 λs ⟨h,_⟩=>⟨aK,J (p:=aTx s)<|⟨h,rfl⟩⟩
def aTY:=auV.gd ZB Tryz.func34 λ(s:M) ⟨h,_⟩=>⟨aK,J (p:=aTZ s)<|by refine⟨h,H,?_⟩;have x:=aTG s 0;unfold pN;rw[Jo x];simp[Q,cZ]⟩
def ajR:=m.cons aTw<| .cons aTY<|ZB
def aTk:=auV.gd ajR Tryz.func28 λs ⟨h,_⟩=>⟨aK,J (p:=aTl s)<|⟨h,rfl⟩⟩
def ajS:=m.cons aTk<|ajR
def u(s:M)(i:Int):Int:=((s.data.toList.getD i.toNat 0).toNat)
def jM(s:M)(a:Int):Int:=u s<|a+4
def eQ(s:M)(a:Int):=kf (fi (jM s a) 32) 2==1
def qG(s:M)(a:Int):=kf (fi (jM s a) 4) 2==1
def fD(s:M)(a:Int):Int:=cond (eQ s a) (a+5)<|a+6
def dP(s:M)(a:Int):Int:=[0,1,2,4].getD (kf (jM s a) 4).toNat 0
def Gj(s:M)(a:Int):Int:=[0,2,4,8].getD (fi (jM s a) 64).toNat 0
def gu(s:M)(a:Int):Int:=cond (fi (jM s a) 64==0&&eQ s a) 1<|Gj s a
def tN(s:M)(a:Int)(i:Nat):Prop:=∀j,j<i->u s (a+j)=u xT j
def AO(s:M)(a:Int)(i:Nat):Prop:=∀j,j<i->u s (fD s a+j)=0
def Gi(s:M)(a:Int):Prop:=(0<=a/\a+5<=s.size)/\tN s a 4/\(kf (fi (jM s a) 8) 2==1)=ah
def xb(s:M)(a:Int):Prop:=Gi s a/\fD s a+dP s a+gu s a<=s.size
def Ck(s:M)(a:Int):Prop:=xb s a/\AO s a (dP s a).toNat/\(eQ s a=ah->uN (u s<|a+5)<=134217728)
def AN(s:M)(a:Int):Int:=bh s (fD s a+dP s a)<|gu s a
def kY(s:M)(a:Int):Int:=cond (gu s a==2) (AN s a+256)<|AN s a
def yg(s:M)(a:Int):Int:=cond (decide (0<gu s a)) (kY s a)<|-1
def aLd(s:M)(a:Int):Prop:=(0<=a/\a<=s.size)/\tN s a (min 4 ((s.size)-a).toNat)
def Qj(s:M)(a:Int):Prop:=Ck s a/\(0<gu s a->(eQ s a=ab->kY s a<=134217728)/\kY s a<=1099511627776)
def aPC:=Sp (Int×Int) [.i,.i] λ(e,a)=>([],aE<|.tu [.ag [B 0,B 0,fN ah,fN ah],B 0,.ag [B e,B a]])
def Mk:bm:=.cells 29 [.v<|.int .i64 0,.v<|.int .i64 0,.v<|.bool ah,.v<|.bool ah]
def yl:bm:=.cells 25 [.v<|.int .i64 0,.v<|.int .i64 0]
def L_(s:M)(a:Int):lW:=[(0,.v<|.string s),(1,.v<|.int .i64 a),(4,.p 1001 0 0),(5,.v<|.int .i64 0),(6,.p 1002 0 0)]
def L9(s:M)(a:Int):bN:=[(1001,Mk),(1002,yl),(1003,.cells 29 [.v<|.int .i64 0,.v<|.int .i64<|-1,.v<|.bool<|eQ s a,.v<|.bool<|qG s a])]
def DQ(p:Prop)(h:lW)(hp:bN):xu:=.one<|bi Unit λ_=>(p,h,hp,0)
def WR(s:M)(a:Int):lW:=(9,.v<|.bool<|eQ s a)::(10,.p 1003 0 0)::(11,.v<|.int .i64<|fD s a)::(12,.v<|.int .i64<|dP s a)::(13,.v<|.int .i64<|gu s a)::L_ s a
def arC(s:M)(a:Int):lW:=[(0,.v<|.string s),(1,.v<|.int .i64<|a+5),(4,.p 1001 0 0),(5,.v<|.int .i64 0),(6,.p 1002 0 0),(9,.v<|.bool<|eQ s a),(10,.p 1003 0 0)]
def oRa(s:M)(a:Int):bO:=dX [
 (0,.one<|bi Nat λi=>(i<=4/\(0<=a/\a<=s.size)/\tN s a i/\a+i<=s.size,(7,cP i)::L_ s a,[(1001,Mk),(1002,yl)],4-i)),
 (1008,DQ (aLd s a) (L_ s a) [(1001,Mk),(1002,yl)]),
 (1011,DQ ((0<=a/\a+5<=s.size)/\tN s a 4) ((8,B<|jM s a)::L_ s a) [(1001,Mk),(1002,yl)]),
 (1014,DQ (Gi s a) ((8,B<|jM s a)::(9,fN<|eQ s a)::L_ s a) [(1001,Mk),(1002,yl)]),
 (1018,DQ (Gi s a) ((8,B<|jM s a)::(9,fN<|eQ s a)::(10,U 1003)::(11,B<|fD s a)::L_ s a)<|L9 s a),
 (1022,DQ (Gi s a) (WR s a)<|L9 s a),
 (1,.one<|bi Nat λi=>(xb s a/\i<=dP s a/\AO s a i,(14,cP i)::WR s a,L9 s a,4-i)),
 (1029,DQ (xb s a/\AO s a (dP s a).toNat) (WR s a)<|L9 s a),
 (1031,DQ (Ck s a) (WR s a)<|L9 s a),
 (1036,DQ (Ck s a/\0<gu s a) ((15,dy<|kY s a)::(16,B<|fD s a+dP s a+gu s a)::(11,B<|fD s a+dP s a)::arC s a)<|L9 s a),
 (1041,DQ (Qj s a) ((11,B<|fD s a+dP s a+gu s a)::arC s a) [(1001,Mk),(1002,yl),(1003,.cells 29 [B 0,B<|yg s a,fN<|eQ s a,fN<|qG s a])])]
def arD:Prop:=(8:Int)≠0/\aF (Q .u64<|Wq<|10+Wq (n.tdiv 8)) ((8:Int)≠0) ((8:Int)≠0/\Wq (l+Wq (n.tmod 8*Wq (l.tdiv 8)))=uN n)
def afC:Prop:=arD n<|jd (Q .u64<|Wq<|10+Wq (n.tdiv 8)) .i64
def arz:Prop:=
 (0:Int)=0/\(0:Int)=0/\ah=ah/\ah=ah/\(0:Int)=0/\n=n/\l=l
def ig(h0:Int×Int):Prop:=2=h0.1/\0=h0.2
def zp(h0:N)(h1:Int):Int:=(0::h0).getD (b5 h1) 0
def pH(h0:UInt8):Int:=Wq<|Zq h0.toNat
def Wn(h0:Nat)(h1:Int)(h:M):Prop:=h0<=4/\(0<=h1/\h1<=aO h)/\tN h h1 h0/\h1+Zq h0<=aO h
def afi(h0:Int)(h1:M)(h:Prop):Prop:=((0<=h0/\h0+5<=aO h1)/\tN h1 h0 4/\(((jM h1 h0).tdiv 8).tmod 2==1)=ah)/\eQ h1 h0=eQ h1 h0/\h
def WI(h0:M)(h1:Int)(h:Nat):Prop:=xb h0 h1/\Zq h<=dP h0 h1/\AO h0 h1 h
def WK(h0:M)(h1:Int)(h:Prop):Prop:=eQ h0 h1=eQ h0 h1/\Dz o5 (ca<|a_/\h)
def arB(s:M)(a:Int)(D P i p j h A B H f q W E t n F:Prop)(G:Int)(d:Prop)(b:Int)(g:Prop)(l c v w z e k:Int)(u:Bool)(x y:Int):Prop:=Dq (a<0) (oV s a<|ig<|cR s a)<|Dq (a>y) (oV s a<|ig<|cR s a)<|((∃C,Wn C a s/\0=Zq C/\n)/\(∀x1,Wn x1 a s->Dq (Zq x1<4) (Dq (Wq (a+Zq x1)<y) (cE (a+Zq x1)/\Wq (a+Zq x1)<y/\aF (Zq x1) (Zq x1<aO (F' [253])) (Bq (Zq (oX s<|a+Zq x1).toNat !=Zq (vS (F' [253]).data<|Zq x1).toNat) (oV s a<|14=v/\a=w)<|∃o,Wn o a s/\fj 4 o<fj 4 x1/\ay (Zq x1)=Zq o/\n)) B) B))/\eO (E->Dq (Wq (y-a)<5) t ((cE (a+4)/\Wq (a+4)<y/\aL (((0<=a/\x<=y)/\tN s a 4)/\pH (oX s<|a+4)=e/\n))/\eO ((0<=a/\x<=y)/\tN s a 4->(8:Int)≠0/\(2:Int)≠0/\Bq ((Wq<|e.tdiv 8).tmod 2==1) (oV s a<|15=v/\Wq (a+4)=w) (((32:Int)≠0/\(2:Int)≠0/\aL (f/\aw e (((Wq<|e.tdiv 32).tmod 2==1)=u) n))/\eO (f->(4:Int)≠0/\(2:Int)≠0/\iy (!u) (aL<|f/\aw e g (oY x=k/\A)) (aL<|f/\aw e g (Wq x=k/\A)) (f->(4:Int)≠0/\aF (e.tmod 4) (e.tmod 4<Zq 4) ((e.tmod 4).toNat<4/\(64:Int)≠0/\cE c/\Wq c<Zq 4/\b5 c<4/\((64:Int)≠0/\Bq (Wq c==0) (Bq u (aL<|afi a s<|aw k F<|1=z/\H) p) p)/\eO (f->Dq (Wq (y-k)<Wq (dP s a+z)) t (((∃S,WI s a S/\0=Zq S/\j)/\(∀r,WI s a r->Dq (Zq r<dP s a) (cE (k+Zq r)/\Wq (k+Zq r)<y/\Bq (Zq (oX s<|k+Zq r).toNat !=0) (oV s a<|16=v/\k=w) (∃m,WI s a m/\fj 4 m<fj 4 r/\ay (Zq r)=Zq m/\j)) (aL<|(xb s a/\AO s a (dP s a).toNat)/\j)))/\eO (xb s a/\AO s a (dP s a).toNat->iy (!u) (cE x/\Wq x<y/\cE (Zq (oX s x).toNat)/\pH (oX s x)<=255/\Dq (uN (pH<|oX s x)>134217728) (oV s a<|17=v/\Wq x=w) P) P (W->Dq (z>0) (1<=z/\z<=8/\cE l/\b+z<=y/\oW s/\iy (z==2) (aL<|d/\Q .u64 (bh s b z+256)=kY s a/\i) (aL<|d/\bh s b z=kY s a/\i) (d->Bq u (Dq (kY s a>134217728) (oV s a<|17=v/\l=w) D) D)) (aL<|q/\b=G/\s=s/\Wq x=x/\a_/\WK s a (fH=yg s a/\g/\qG s a=qG s a))/\eO (q->Bq (!u) (aF x (x<y)<|cE (Zq (vS s.data x).toNat)/\pH (vS s.data x)<=255/\uN (pH<|vS s.data x)=bc s a/\h) (yg s a=bc s a/\h)))))))))))))
def arA(s:M)(a:Int):Prop:=arB s a (Dq (kY s a>1099511627776) (oV s a<|2=(cR s a).1/\fD s a+dP s a=(cR s a).2)<|aL<|(Ck s a/\(0<gu s a->(eQ s a=ab->kY s a<=134217728)/\kY s a<=1099511627776))/\aw (fD s a+dP s a+gu s a) (s=s) (aw (a+5) a_<|WK s a<|Wq (kY s a)=yg s a/\eQ s a=eQ s a/\qG s a=qG s a)) (aL<|(xb s a/\AO s a (dP s a).toNat/\(eQ s a=ah->uN (u s<|a+5)<=134217728))/\eQ s a=eQ s a/\aw (fD s a) (dP s a=dP s a) (aw (gu s a) (s=s)<|a=a/\ca (a_/\o5/\o5/\ca (a_/\aw fH (eQ s a=eQ s a) (qG s a=qG s a))))) (Wq (fD s a+dP s a)+gu s a=fD s a+dP s a+gu s a/\Wq (fD s a+dP s a)=fD s a+dP s a/\s=s/\Wq (a+5)=a+5/\a_/\WK s a (aw fH (eQ s a=eQ s a)<|qG s a=qG s a)) (aL<|afi a s<|aw (fD s a) (sG.getD ((jM s a).tmod 4).toNat 0=dP s a)<|zp [2,4,8] ((jM s a).tdiv 64)=gu s a/\s=s/\a=a/\ca (a_/\o5/\o5/\ca (a_/\aw fH (eQ s a=eQ s a) (qG s a=qG s a)))) (eQ s a=eQ s a/\aw (fD s a) (dP s a=dP s a) (aw (gu s a) (s=s)<|a=a/\ca (a_/\o5/\o5/\ca (a_/\aw fH (eQ s a=eQ s a) (qG s a=qG s a))))) (yg s a=dj s a/\eQ s a=gQ s a/\qG s a=dN s a/\fD s a+dP s a+gu s a=bJ s a/\dO (cR s a)) (s=s/\a=a/\ca (a_/\o5/\o5/\ca (a_/\aw fH (eQ s a=eQ s a) (((Wq<|(jM s a).tdiv 4).tmod 2==1)=qG s a)))) (aL<|((0<=a/\a<=aO s)/\tN s a (aB 4 (aO s-a).toNat))/\s=s/\a=a/\ca (a_/\o5/\o5/\dE)) (s=s/\a=a/\ca (a_/\o5/\o5/\ca (a_/\aw fH (eQ s a=eQ s a) (qG s a=qG s a)))) ((0<=a/\a+5<=aO s)/\tN s a 4/\(((jM s a).tdiv 8).tmod 2==1)=ah) (Ck s a/\(0<gu s a->(eQ s a=ab->kY s a<=134217728)/\kY s a<=1099511627776)) (xb s a/\AO s a (dP s a).toNat/\(eQ s a=ah->uN (u s<|a+5)<=134217728)) ((0<=a/\a<=aO s)/\tN s a (aB 4 (aO s-a).toNat)) (oV s a<|5=(cR s a).1/\aO s=(cR s a).2) (s=s/\a=a/\ca (a_/\o5/\o5/\dE)) (sG.getD ((jM s a).tmod 4).toNat 0=dP s a) (fD s a+dP s a+gu s a) (Ck s a/\0<gu s a) (Wq<|fD s a+dP s a) (eQ s a=eQ s a) (fD s a+dP s a) ((jM s a).tdiv 64) (cR s a).1 (cR s a).2 (gu s a) (jM s a) (fD s a) (eQ s a) (a+5)<|aO s
theorem N2{s:M}{p:Int}(h0:0<=p)(h:p<s.size):bh s p 1=u s p:=by
 have e:=S6 (i:=0) h0 h;grind [S8,u]
def adH(h0:0<=x)(h:0<=z):fo (t.extract x.toNat (x+z).toNat)=bh t x z:=by grind [fo,bh,C6]
def Bi(s:M)(p:Int):0<=u s p/\u s p<256:=by have:=(s.data.toList.getD p.toNat 0).toNat_lt;grind [u]
def aB_{s:M}{p:Int}(h0:0<=p)(n:Nat)(h:p+n<=s.size):bh s p n=0↔∀j,j<n->u s (p+j)=0:=by
 induction n with
 |zero=>exact⟨λ_ j y=>absurd y Y,λ_=>rfl⟩
 |succ n z=>
  have z:=z Y;have e:=N3 (s:=s) (i:=n) h0 Y;have a:0<2^(8*n):=Nat.pow_pos Y;have v:=S7 s p n;rw[e];constructor
  .intro h j y
   have k:(s.data.toList.getD (p+n).toNat 0).toNat*2^(8*n)=0:=Y;rcases uQ j n with r|r
   .grind
   .have:j=n:=Y
    subst this;rcases Nat.mul_eq_zero.1 k with x|x
    .unfold u;rw[x];rfl
    .omega
  .grind [u]
def aLu:∀k:Fin 256,((aN ((k.val)) 32 !=0)=(kf (fi ((k.val):Int) 32) 2==1)/\(aN ((k.val)) 4 !=0)=(kf (fi ((k.val):Int) 4) 2==1))/\
  ((aN ((k.val)) 8 !=0)=(kf (fi ((k.val):Int) 8) 2==1)/\aN ((k.val)) 3=kf ((k.val):Int) 4)/\
  (((k.val))/64=fi ((k.val):Int) 64/\(0<=kf ((k.val:Nat):Int) 4/\kf ((k.val:Nat):Int) 4<4))/\
  (0<=fi ((k.val:Nat):Int) 64/\fi ((k.val:Nat):Int) 64<4)/\0<=fi ((k.val:Nat):Int) 32/\fi ((k.val:Nat):Int) 32<256/\0<=fi ((k.val:Nat):Int) 4/\fi ((k.val:Nat):Int) 4<256/\0<=fi ((k.val:Nat):Int) 8/\fi ((k.val:Nat):Int) 8<256:=by decide+kernel
theorem Cl{D:Int}(h0:0<=D)(h:D<256):((aN D 32 !=0)=(kf (fi D 32) 2==1)/\(aN D 4 !=0)=(kf (fi D 4) 2==1))/\
  ((aN D 8 !=0)=(kf (fi D 8) 2==1)/\aN D 3=kf D 4)/\
  (D/64=fi D 64/\(0<=kf D 4/\kf D 4<4))/\
  (0<=fi D 64/\fi D 64<4)/\0<=fi D 32/\fi D 32<256/\0<=fi D 4/\fi D 4<256/\0<=fi D 8/\fi D 8<256:=by
 have:=aLu ⟨D.toNat,Y⟩;grind [Int.toNat_of_nonneg]
theorem amB{s:M}{p f n:Int}(h0:0<=n)(h:p+n<=s.size):pZ s (p,0,f) n=(p+n,0,f):=by grind [pZ,EC,gv]
theorem aCa{s:M}{p f n:Int}(h0:0<n)(h:(s.size:Int)<p+n):pZ s (p,0,f) n=(p,5,(s.size:Int)):=by
 unfold pZ;rw[oc (show n≠0 by omega)];grind [Hf,gv]
theorem avT{s:M}{p e f n:Int}(h:e≠0):gv s (p,e,f) n=(p,e,f):=by grind [Nw,gv]
theorem amA{s:M}{p e f n:Int}(h:e≠0):pZ s (p,e,f) n=(p,e,f):=by grind [pZ,avT]
theorem XL{s:M}{p f n:Int}(h0:0<=n)(h:p+n<=s.size):gv s (p,0,f) n=(p+n,0,f):=by grind [EC,gv]
theorem XM{s:M}{p f n:Int}(h0:0<=n)(h:(s.size:Int)<p+n):gv s (p,0,f) n=(p,5,(s.size:Int)):=by grind [Hf,gv]
theorem UP{s:M}{p f n:Int}(hp:0<=p)(h0:0<=n)(h:p+n<=s.size):vQ s (p,0,f) n=bh s p n:=by
 unfold vQ;rw[show ch s (p,(0:Int),f).1 (p,(0:Int),f).2.1 n=s.extract p.toNat (p+n).toNat from(EC (f:=f) h0 Y).2.2.2];exact adH hp h0
theorem aCb{s:M}{p f n:Int}(hp:0<=p)(h0:0<=n)(h:p+n<=s.size):vx s (p,0,f) n=bh s p n:=by
 unfold vx;cases x:n==0
 ·grind [UP]
 ·rw[xw x];exact(S8 s p).symm
section
variable{s:M}{a:Int}
theorem Qm(h0:0<=a)(h1:a<=s.size):d_ s a=a/\dS s a=0:=by grind [d_,dS,lc]
theorem Qo(h0:0<=a)(h1:a<=s.size):Km s a=(a,0,0):=by grind [Qm,Km]
theorem Qn(h0:0<=a)(h1:a+4<=s.size):lB s a=(a+4,0,0):=by grind [lB,Qo,XL]
theorem Mf(h0:0<=a)(h1:a+5<=s.size):kT s a=(a+5,0,0):=by grind [kT,Qn,XL]
theorem ID(h0:0<=a)(h1:a+5<=s.size):jX s a=jM s a:=by grind [jX,jM,Qn,UP,N2]
theorem tM:0<=jM s a/\jM s a<256:=Bi _ _
theorem Md(h0:0<=a)(h1:a+5<=s.size):jo s a=eQ s a:=by grind [jo,eQ,ID,Cl,tM]
def aLm(h0:0<=a)(h1:a+5<=s.size):oj s a=qG s a:=by unfold oj qG;rw[ID h0 h1];exact(Cl tM.1 tM.2).1.2
theorem arN(h0:0<=a)(h1:a+5<=s.size):Kn s a=dP s a:=by
 unfold Kn dP;rw[ID h0 h1,(Cl tM.1 tM.2).2.1.2]
theorem aLk(h0:0<=a)(h1:a+5<=s.size):BC s a=Gj s a:=by grind [BC,Gj,ID]
def i4(h0:0<=x)(h:x<4):x=0\/x=1\/x=2\/x=3:=Y
theorem aLo:(Gj s a==0)=(fi (jM s a) 64==0):=by grind [Cl,tM,Gj]
theorem afG(h0:0<=a)(h1:a+5<=s.size):pq s a=gu s a:=by grind [pq,gu,aLk,Md,aLo]
def aLn:(gu s a==2)=(fi (jM s a) 64==1):=by grind [gu,Gj]
def Ma:0<=dP s a/\dP s a<=4:=by have:=(Cl (tM (s:=s) (a:=a)).1 tM.2).2.2.1.2;unfold dP;rcases i4 this.1 this.2 with h|h|h|h<;>rw[h]<;>decide
def Mc:0<=gu s a/\gu s a<=8:=by grind [gu,Gj]
theorem IB:fD s a=a+5/\eQ s a=ab\/fD s a=a+6/\eQ s a=ah:=by grind [fD]
theorem rc3(h0:0<=a)(h1:a+5<=s.size)(h:fD s a<=s.size):mL s a=(fD s a,0,0):=by grind [mL,Md,Mf,IB,XL]
def aLD(h0:0<=a)(h1:a+5<=s.size)(x:(s.size)<fD s a+dP s a+gu s a):(mY s a).2=(5,(s.size:Int)):=by
 have y:=Ma (s:=s) (a:=a);have h:mY s a=pZ s (pZ s (mL s a)<|dP s a) (gu s a):=by grind [mY,kU,arN,afG]
 grind [IB,mL,Md,Mf,XM,amA,rc3,aCa,amB]
def WT(h0:0<=a)(h1:a+5<=s.size)(h:fD s a+dP s a+gu s a<=s.size):kU s a=(fD s a+dP s a,0,0)/\mY s a=(fD s a+dP s a+gu s a,0,0)/\xL s a=bh s (fD s a) (dP s a)/\Dd s a=AN s a:=by have x:=Ma (s:=s) (a:=a);have y:=Mc (s:=s) (a:=a);grind [IB,rc3,kU,arN,amB,mY,afG,xL,aCb,Dd,AN]
theorem arP(h0:0<=a)(h1:a+5<=s.size)(h:fD s a+dP s a+gu s a<=s.size):mh s a=kY s a:=by
 unfold mh kY;rw[(WT h0 h1 h).2.2.2,aLn,ID h0 h1,(Cl tM.1 tM.2).2.2.1.1]
theorem arQ(h0:0<=a)(h1:a+6<=s.size)(h:eQ s a=ah):ml s a=uN (u s (a+5)):=by grind [ml,Md,Mf,UP,N2]
def Qk(h0:0<=a)(h1:a+5<=s.size)(h:fD s a+dP s a+gu s a<=s.size):xL s a=0↔AO s a (dP s a).toNat:=by
 have y:=Ma (s:=s) (a:=a);have z:=Mc (s:=s) (a:=a);have x:0<=fD s a:=by grind [IB]
 rw[(WT h0 h1 h).2.2.1];have:=aB_ (s:=s) x (dP s a).toNat Y;exact this
theorem afD(h0:0<=a)(h1:a<=s.size):s9 s a=ab↔tN s a (min 4 ((s.size:Int)-a).toNat):=by
 have n:s.data.toList.length=s.size:=rfl;have z:xT.size=4:=rfl;have e:(EP s a).data.toList=(s.data.toList.drop a.toNat).take ((min (s.size:Int) (a+4)).toNat-a.toNat):=by unfold EP;rw[C6]
 have w:(min (s.size:Int) (a+4)).toNat-a.toNat=min 4 ((s.size:Int)-a).toNat:=Y;rw[w]at e;have k:(EP s a).size=min 4 ((s.size:Int)-a).toNat:=by
  unfold EP;rw[uj];omega
 unfold s9 BK;rw[jS (show(EP s a).size<=xT.size by rw[k,z];omega),Jp,k];generalize i:min 4 ((s.size:Int)-a).toNat=N at*;have v:N<=4:=Y;have r:((xT.extract 0 N).toList==(EP s a).toList)=ab↔(xT.extract 0 N).data.toList=(EP s a).data.toList:=by
  rw[wx];rw[YN,YN]
 rw[r,C6,e,Nat.sub_zero,I_];have b:xT.data.toList.length=4:=rfl;constructor
 ·intro h j y
  have x:=dR (fun l=>(l.getD j 0).toNat) h;simp only[jR,GH,Yw,I y]at x;unfold u;simp only[jR];rw[show(a+(j:Nat)).toNat=a.toNat+j by omega,yz,<-x]
 ·intro h
  apply D8;intro j;rw[GH,GH];by_cases y:j<N
  ·rw[I y,I y,Yw]
   have x:=h j y;unfold u at x;simp only[jR]at x;rw[show(a+(j:Nat)).toNat=a.toNat+j by omega,yz,kB (show a.toNat+j<s.data.toList.length by omega),kB (show j<xT.data.toList.length by omega)]at x;rw[kB (show a.toNat+j<s.data.toList.length by omega),kB (show j<xT.data.toList.length by omega)];simp only[CG]at x;exact dR O (UInt8.toNat_inj.1 Y)
  ·rw[V y,V y]
abbrev A8(s:M)(a e f:Int):Prop:=0=bc s a/\0=dj s a/\ah=gQ s a/\ah=dN s a/\0=bJ s a/\e=(cR s a).1/\f=(cR s a).2
def afF(h:lc s a=ab):A8 s a 2 0:=by apply wO (E9 ?_ H) H;grind [dS,oL]
def arE(h0:0<=a)(h1:a<=s.size)(h:¬tN s a (min 4 ((s.size)-a).toNat)):A8 s a 14 a:=by apply wO (E9 ?_ H) H;let⟨x,y⟩:=Qm h0 h1;grind [afD,oL]
def arK(h0:0<=a)(h1:a<=s.size)(k:(s.size)<a+5)(h:tN s a (min 4 ((s.size)-a).toNat)):A8 s a 5 (s.size):=by
 apply wO ?_ H;let⟨u,v⟩:=Qm h0 h1;have r:=(afD h0 h1).2 h;rcases Int.lt_or_le (s.size) (a+4)with x|x
 .grind [lB,Qo,XM,E9,oL]
 .have z:=Qn h0 x
  have y:kT s a=(a+4,5,(s.size:Int)):=by grind [kT,XM]
  have e:mL s a=(a+4,5,(s.size:Int)):=by
   unfold mL;rw[y];cases jo s a
   .rfl
   .rfl
  grind [mY,kU,amA,De,oL,vD]
def arO(h0:0<=a)(h1:a+4<=s.size)(h:tN s a 4):s9 s a=ab:=by grind [afD]
def arF(h0:0<=a)(h1:a+5<=s.size)(h:tN s a 4)(x:(kf (fi (jM s a) 8) 2==1)=ab):A8 s a 15 (a+4):=by apply wO (E9 ?_ H) H;let⟨y,z⟩:=Qm h0 (show a<=s.size by lia);unfold oL;rw[z,y,arO h0 Y h,Qn h0 Y,Mf h0 h1,ID h0 h1,(Cl tM.1 tM.2).2.1.1,x,show a+4=a+5-1 by lia];rfl
def Mb(h:Gi s a):(oL s a).1=0:=by let⟨⟨x,y⟩,e,z⟩:=h;let⟨k,r⟩:=Qm x (show a<=s.size by lia);unfold oL;rw[r,k,arO x Y e,Qn x Y,Mf x y,ID x y,(Cl tM.1 tM.2).2.1.1,z];rfl
def arL(h:Gi s a)(x:(s.size)<fD s a+dP s a+gu s a):A8 s a 5 (s.size):=by apply wO (De (Mb h) ?_) H;unfold vD;rw[aLD h.1.1 h.1.2 x];rfl
def Ql(h:xb s a):vD s a=cond (xL s a !=0) (16,fD s a) (cond (eQ s a&&decide (134217728<kY s a)) (17,fD s a+dP s a)<|cond (!eQ s a&&decide (134217728<uN (u s<|a+5))) (17,a+5)<|cond (decide (1099511627776<kY s a)) (2,fD s a+dP s a) (0,0)):=by let⟨x,z⟩:=h;let⟨⟨y,x⟩,r,e⟩:=x;have k:=Ma (s:=s) (a:=a);have v:=Mc (s:=s) (a:=a);let⟨w,i,j,n⟩:=WT y x z;grind [rc3,vD,Mf,Md,arP,IB,arQ]
def arG(h:xb s a)(x:¬AO s a (dP s a).toNat):A8 s a 16 (fD s a):=by apply wO (De (Mb h.1) ?_) H;rw[Ql h,Sa λe=>x<|(Qk h.1.1.1 h.1.1.2 h.2).1 e];rfl
def arH(h:xb s a)(y:AO s a (dP s a).toNat)(x:eQ s a=ah)(z:decide (134217728<uN (u s<|a+5))=ab):A8 s a 17 (a+5):=by apply wO (De (Mb h.1) ?_) H;rw[Ql h,(Qk h.1.1.1 h.1.1.2 h.2).2 y,x,z];rfl
def arI(h:Ck s a)(x:eQ s a=ab)(y:decide (134217728<kY s a)=ab):A8 s a 17 (fD s a+dP s a):=by apply wO (De (Mb h.1.1) ?_) H;rw[Ql h.1,(Qk h.1.1.1.1 h.1.1.1.2 h.1.2).2 h.2.1,x,y];rfl
def arR(h:Ck s a):(!eQ s a&&decide (134217728<uN (u s<|a+5)))=ah:=by
 cases x:eQ s a
 .exact iW<|by have:=h.2.2 x;lia
 .rfl
def arJ(h:Ck s a)(x:(eQ s a&&decide (134217728<kY s a))=ah)(y:decide (1099511627776<kY s a)=ab):A8 s a 2 (fD s a+dP s a):=by apply wO (De (Mb h.1.1) ?_) H;rw[Ql h.1,(Qk h.1.1.1.1 h.1.1.1.2 h.1.2).2 h.2.1,x,arR h,y];rfl
theorem aLi(h:¬0<gu s a):kY s a=0:=by
 have e:gu s a=0:=by have:=Mc (s:=s) (a:=a);omega
 unfold kY AN;rw[e];rfl
theorem afE(h:Qj s a):cR s a=(0,0):=by
 obtain⟨h,y⟩:=h;refine De (Mb h.1.1) ?_;have z:kY s a<=1099511627776/\(eQ s a=ab->kY s a<=134217728):=by grind [aLi]
 have x:(eQ s a&&decide (134217728<kY s a))=ah:=c9;rw[Ql h.1,(Qk h.1.1.1.1 h.1.1.1.2 h.1.2).2 h.2.1,x,arR h,iW (show¬1099511627776<kY s a by omega)];rfl
def aLl(h:xb s a):xO s a=yg s a:=by unfold xO yg;rw[afG h.1.1.1 h.1.1.2,arP h.1.1.1 h.1.1.2 h.2]
def WS(h:Qj s a):dj s a=yg s a/\gQ s a=eQ s a/\dN s a=qG s a/\bJ s a=fD s a+dP s a+gu s a/\bc s a=cond (eQ s a) (yg s a) (uN<|u s<|a+5):=by
 have x:=h.1.1;have e:xM s a=ab:=by grind [xM,afE]
 have r:=Ma (s:=s) (a:=a);have v:=Mc (s:=s) (a:=a);have k:=x.2;unfold dj gQ dN bJ bc;rw[e,aLl x,Md x.1.1.1 x.1.1.2,aLm x.1.1.1 x.1.1.2,(WT x.1.1.1 x.1.1.2 x.2).2.1];refine⟨rfl,rfl,rfl,rfl,?_⟩;rcases IB with⟨z,y⟩|⟨z,y⟩
 .rw[y];rfl
 .rw[y,arQ x.1.1.1 Y y];rfl
def aLj:0<=kY s a/\(gu s a=2->AN s a<65536):=by
 have y:=S7 s (fD s a+dP s a)<|gu s a;refine⟨?_,λh=>?_⟩
 .grind [kY,AN]
 .have x:=KN (s.data.toList.drop (fD s a+dP s a).toNat) 2
  grind [AN,bh]
end
def aad(s:M)(p:Int):Q .i64 (((s.data.toList.getD p.toNat 0).toNat))=u s p:=by have:=Bi s p;grind [u,wr]
def aLe:=aPC.gd ajS Tryz.func42 λ⟨e,a⟩ _=>⟨aK,J (p:=arz e a)<|by grind [arz]⟩
def aLg:∀k:Fin 256,afC ((k.val)):=by unfold afC arD jd aF Wq;decide+kernel
def aLh:=aub.gd m.nil Tryz.func43 λ(b:Int) ⟨h,x,_⟩=>⟨aK,J (p:=afC b)<|by have:=aLg ⟨b.toNat,Y⟩;grind⟩
def ajK:=m.cons aLe<| .cons aLh<|ajS
def aLf:=aua.gd ajK Tryz.func19 λ⟨s,a⟩ ⟨Z,_⟩=>⟨(oRa s a),J (p:=arA s a)<|by
 have L:=tM (s:=s) (a:=a);have t:=Cl L.1 L.2;have W:=Ma (s:=s) (a:=a);have S:=Mc (s:=s) (a:=a);have M:=IB (s:=s) (a:=a);have R:=aLj (s:=s) (a:=a);unfold arA arB aw WK WI afi Wn F' aF a_ iy eO sG pH zp dE o5 fH ig aO dO aL ay oY cE Dz b5 vS oX ca oW oV Dq Bq Wq Zq;refine⟨λh=>afF<|by unfold lc;rw[h];rfl,λv=>⟨λh=>afF<|by unfold lc;rw[v,show decide ((s.size:Int)<a)=ab from h];rfl,λd=>?_⟩⟩;have v:0<=a:=by simpa using v
 have d:a<=(s.size:Int):=by simpa using d
 refine⟨⟨⟨0,⟨Y,⟨v,d⟩,λj m=>absurd m Y,Y⟩,by and_intros<;>rfl⟩,λi ⟨hi,_,b,hx⟩=>⟨λg=>⟨λk=>?_,λk=>?_⟩,λg=>?_⟩⟩,λ_ ⟨_,b⟩=>⟨λw=>?_,λw=>?_⟩⟩
 .have g:(i:Int)<4:=by simpa using g
  rw[wr Y Y]at k|-;have k:a+(i:Int)<(s.size:Int):=by simpa using k
  refine⟨Y,k,Y,by show(i:Int)<4;omega,λz=>?_,λz=>?_⟩
  .refine arE v d λh=>?_
   have f:=h i Y;have:u s (a+(i:Nat))≠u xT (i:Nat):=by simpa [u,xT]using z
   exact this f
  .have e:u s (a+(i:Nat))=u xT (i:Nat):=by simpa [u,xT]using z
   refine⟨i+1,⟨Y,⟨v,d⟩,λj m=>?_,by push_cast;omega⟩,by show 4- (i+1)<4-i;omega,wr Y Y,by and_intros<;>rfl⟩;rcases uQ j i with o|o
   .exact b j o
   .have:j=i:=Y
    subst this;exact e
 .rw[wr Y Y]at k
  have k:(s.size:Int)<=a+(i:Int):=by simpa using k
  refine⟨(),⟨⟨v,d⟩,?_⟩,by and_intros<;>rfl⟩;rw[show min 4 ((s.size:Int)-a).toNat=i by omega];exact b
 .have g:¬(i:Int)<4:=by simpa using g
  refine⟨(),⟨⟨v,d⟩,?_⟩,by and_intros<;>rfl⟩;rw[show min 4 ((s.size:Int)-a).toNat=i by omega];exact b
 .rw[wr Y Y]at w
  have w:(s.size:Int)-a<5:=by simpa using w
  exact arK v d Y b
 rw[wr Y Y]at w
 have w:a+5<=(s.size:Int):=by have:¬(s.size:Int)-a<5:=by simpa using w
                              omega
 have T:Q .i64 (a+4)=a+4:=wr Y Y;rw[T];have b:tN s a 4:=by rwa[show min 4 ((s.size:Int)-a).toNat=4 by omega]at b
 have V:Q .i64 (fi (jM s a) 8)=fi (jM s a) 8:=wr Y Y;have F:Q .i64 (fi (jM s a) 32)=fi (jM s a) 32:=wr Y Y;have G:Q .i64 (fi (jM s a) 4)=fi (jM s a) 4:=wr Y Y;have I:Q .i64 (fi (jM s a) 64)=fi (jM s a) 64:=wr Y Y;have U:Q .i64 (a+5)=a+5:=wr Y Y;rw[V,F,G,I,U];refine⟨⟨Y,Y,(),⟨⟨v,w⟩,b⟩,aad _ _,by and_intros<;>rfl⟩,λ_ _=>⟨H,H,λC=>arF v w b C,λC=>?_⟩⟩;have y:Gi s a:=⟨⟨v,w⟩,b,C⟩;refine⟨⟨H,H,(),y,by and_intros<;>rfl⟩,λ_ _=>⟨H,H,⟨λx=>?_,λx=>?_⟩,λ_ _=>?_⟩⟩
 .have x:eQ s a=ah:=by simpa using x
  refine⟨(),y,?_⟩;and_intros<;>try rfl
  rw[wr Y Y];unfold fD;rw[x];show a+5+1=a+6;omega
 .have x:eQ s a=ab:=by simpa using x
  refine⟨(),y,?_⟩;and_intros<;>try rfl
  unfold fD;rw[x];rfl
 refine⟨H,t.2.2.1.2.1,t.2.2.1.2.2,Y,H,t.2.2.2.1.1,t.2.2.2.1.2,Y,⟨H,λr=>⟨λx=>?_,λx=>?_⟩,λr=>?_⟩,λ_ _=>?_⟩
 .refine⟨(),y,?_⟩
  and_intros<;>try rfl
  unfold gu;rw[r,x];rfl
 ·refine⟨(),y,?_⟩
  and_intros<;>try rfl
  unfold gu;rw[x,GO];rfl
 ·refine⟨(),y,?_⟩
  and_intros<;>try rfl
  unfold gu;rw[r];rfl
 rw[wr (n:=(s.size:Int)-fD s a) Y Y,wr (n:=dP s a+gu s a) Y Y]
 refine⟨fun A=>arL y (by have:(s.size:Int)-fD s a<dP s a+gu s a:=by simpa using A
                         omega),fun A=>?_⟩
 have A:¬(s.size:Int)-fD s a<dP s a+gu s a:=by simpa using A
 have len:xb s a:=⟨y,Y⟩;refine⟨⟨⟨0,⟨len,Y,fun j m=>absurd m Y⟩,by and_intros<;>rfl⟩,fun i ⟨_,hi,f⟩=>⟨fun k=>?_,fun k=>?_⟩⟩,fun _ ⟨_,f⟩=>?_⟩
 ·have k:(i:Int)<dP s a:=by simpa using k
  rw[wr (n:=fD s a+(i:Int)) Y Y,wr (n:=(i:Int)+1) Y Y];refine⟨Y,Y,fun z=>?_,fun z=>?_⟩
  ·refine arG len fun h=>?_
   have e:=h i Y;have:u s (fD s a+(i:Nat))≠0:=by simpa [u]using z
   exact this e
  ·have e:u s (fD s a+(i:Nat))=0:=vj z
   refine⟨i+1,⟨len,by push_cast;omega,fun j m=>?_⟩,by show 4- (i+1)<4-i;omega,by and_intros<;>rfl⟩;rcases uQ j i with o|o
   ·exact f j o
   ·have:j=i:=Y
    subst this;exact e
 ·have k:¬(i:Int)<dP s a:=by simpa using k
  refine⟨(),⟨len,?_⟩,by and_intros<;>rfl⟩;rw[show(dP s a).toNat=i by omega];exact f
 have N:Q .i64 (((s.data.toList.getD (a+5).toNat 0).toNat:Nat):Int)=u s (a+5):=aad _ _;have K:=Bi s (a+5);refine⟨⟨fun x=>?_,fun x=>?_⟩,fun _ ga=>?_⟩
 ·have x:eQ s a=ah:=by simpa using x
  rw[N]
  refine⟨by omega,by rcases M with⟨_,e⟩|⟨e,_⟩
                     ·rw[x]at e;cases e
                     ·omega,K.1,Y,fun E=>arH len f x E,fun E=>⟨(),⟨len,f,fun _=>?_⟩,by and_intros<;>rfl⟩⟩
  have:¬134217728<uN (u s (a+5)):=nD E;omega
 ·have x:eQ s a=ab:=by simpa using x
  exact⟨(),⟨len,f,fun h=>by rw[x]at h;cases h⟩,by and_intros<;>rfl⟩
 have wd:Q .i64 (fD s a+dP s a)=fD s a+dP s a:=wr Y Y;rw[wd];have B:bh s (fD s a+dP s a) (gu s a)=AN s a:=rfl;rw[B];refine⟨⟨fun r=>?_,fun r=>?_⟩,fun _ c=>⟨fun x=>?_,fun x=>?_⟩⟩
 ·have r:0<gu s a:=ow r
  have q:yg s a=kY s a:=by unfold yg;rw[jS r];rfl
  refine⟨Y,S.2,Y,Y,Y,⟨fun l=>?_,fun l=>?_⟩,fun _ _=>⟨fun x=>⟨fun D=>arI ga x D,fun D=>?_⟩,fun x=>?_⟩⟩
  ·refine⟨(),⟨ga,r⟩,?_⟩
   and_intros<;>try rfl
   have P:=R.2 (xw l);have n0:=S7 s (fD s a+dP s a) (gu s a);unfold AN at P;unfold kY AN;rw[l];exact fW (n:=bh s (fD s a+dP s a) (gu s a)+256) Y Y
  ·refine⟨(),⟨ga,r⟩,?_⟩
   and_intros<;>try rfl
   unfold kY;rw[l];rfl
  ·have X:¬134217728<kY s a:=nD D
   refine⟨fun z=>absurd (ow z:1099511627776<kY s a) Y,fun z=>⟨(),⟨ga,fun _=>⟨fun _=>by omega,Y⟩⟩,?_⟩⟩;rw[q,wr Y Y];and_intros<;>rfl
  ·refine⟨fun z=>arJ ga (by rw[x];rfl) z,fun z=>?_⟩
   have z:¬1099511627776<kY s a:=nD z;refine⟨(),⟨ga,fun _=>⟨fun h=>(by rw[x]at h;cases h),Y⟩⟩,?_⟩;rw[q,wr Y Y];and_intros<;>rfl
 ·have r:¬0<gu s a:=nD r
  refine⟨(),⟨ga,fun h=>absurd h r⟩,Y,?_⟩;and_intros<;>try rfl
  unfold yg;rw[iW r];rfl
 ·have x:eQ s a=ah:=by simpa using x
  obtain⟨g1,g2,g3,g4,g5⟩:=WS c;rw[afE c,g1,g2,g3,g4,g5,x,N]
  exact⟨by omega,by rcases M with⟨_,e⟩|⟨e,_⟩
                    ·rw[x]at e;cases e
                    ·omega,K.1,Y,by and_intros<;>rfl⟩
 ·have x:eQ s a=ab:=by simpa using x
  obtain⟨g1,g2,g3,g4,g5⟩:=WS c;rw[afE c,g1,g2,g3,g4,g5,x];and_intros<;>rfl⟩
def ayC:=m.cons aLf<|ajK
def JW(s:M)(c:jT):Int:=vQ s c 3
def wH(s:M)(c:jT):Int:=Q .i64<|bits .and .u64 ((JW s c).fdiv<|2^(min (X 1) 64)) 3
def ub(s:M)(c:jT):Int:=Q .i64<|(JW s c).fdiv<|2^(min (X 3) 64)
def iK(s:M)(c:jT):=bits .and .u64 (JW s c) 1==1
def mH(s:M)(c:jT):jT:=cond ((gv s c 3).2.1==0&&wH s c==3) ((gv s c 3).1,Bu (gv s c 3).2.1 15,Ae s (gv s c 3).2.1 (gv s c 3).2.2 c.1)<|gv s c 3
def gO(b:M)(a:Int):jT:=(d_ b a,dS b a,0)
def r(b:M)(a:Int):jT:=mH b<|gO b a
def eY(b:M)(a:Int):Int:=wH b<|gO b a
def bP(b:M)(a:Int):Int:=ub b<|gO b a
def pg(b:M)(a:Int):Int:=cond (eY b a==1) 1<|bP b a
def sh(b:M)(a:Int):Int:=((b.data.toList.getD (Q .i64<|a+4).toNat 0).toNat)
def EO(b:M)(a:Int):Int:=a+(5+ [0,1,2,4].getD (bits .and .u8 (sh b a) 3).toNat 0)
def Af(b:M)(a:Int):Int:=EO b a+cond (bits .and .u8 ((sh b a).fdiv<|2^(min (X 5) 8)) 1==0) 1 0
def C9:=decide (n<0)||decide (n>1048576)
def gP(b:M)(a m:Int):= !C9 m&&((cR b a).1==0&& !decide (dj b a>m))
def iB(b:M)(a m:Int):=cond (C9 m) (2,0)<|cond ((cR b a).1==0) (18,Af b a)<|cR b a
def ik(b:M)(a:Int):=(r b a).2.1==0
def EA(b:M)(p:Int):Int×Bool×Int×Int:=cond (ik b p) ((r b p).1+pg b p,iK b<|gO b p,cond (decide ((b.size)- (r b p).1<pg b p)) (5,(b.size)) (0,0)) (0,ah,(r b p).2)
def yL(b:M):Nat->Int×Int×Bool×Int×Int->Int×Int×Bool×Int×Int
 |0,s=>s
 |k+1,s=>cond (!s.2.2.1&&s.2.2.2.1==0) (yL b k (s.1+1,EA b s.2.1)) s
def fA(b:M)(a:Int):=yL b (b.size+2) (0,bJ b a,ah,cR b a)
def jF(b:M)(a:Int):Int×Int:=cond ((fA b a).2.2.2.1==0&&dN b a) (cond (decide ((b.size)- (fA b a).2.1<4)) (5,(b.size)) (0,0)) (fA b a).2.2.2
def qp(b:M)(a:Int):Int:=cond ((jF b a).1==0) (fA b a).1 0
def qW(b:M)(a:Int):Int:=cond ((jF b a).1==0) (cond (dN b a) ((fA b a).2.1+4) (fA b a).2.1) 0
def CU(b:M)(a:Int)(g:Nat×Int×Int×Bool×Int×Int):Prop:=yL b g.1 g.2=fA b a/\(0<=g.2.1/\g.2.1+(g.1)<=(b.size)+2)/\(0<=g.2.2.1/\g.2.2.1<=10000000)/\(g.2.2.2.2.1=0->g.2.2.2.2.2=0)/\(g.2.2.2.1=ah->g.2.2.2.2.1=0->g.2.2.1<=(b.size)/\(b.size)-g.2.2.1<(g.1))
def Z7(b:M)(a:Int):Prop:=0<=(fA b a).1/\(0<=(fA b a).2.1/\(fA b a).2.1<=10000000)/\((fA b a).2.2.2.1=0->(fA b a).2.2.2.2=0)
def Cx(b:M)(a x:Int):Int:=x- [1,2,4,8].getD (fi (jM b a) 64).toNat 1
def jG(p:Prop)(h:lW)(hp:bN):xu:=.one<|bi Unit λ_=>(p,h,hp,0)
def agq:Spec where
 ι:=M×Int×Int×Int
 dec l H:=match l with
  | [.p l0 0 0]=>match H l0 with
    |some (.cells 85 [.v<|.string s,.v<|.int .i64 a,.v<|.int .i64 e,.v<|.int .i64 f])=>O ((s,a,e,f),[l0])
    |_=>ae
  |_=>ae
 args:=λ(s,a,e,f)=>[U 0]
 hp:=λ(s,a,e,f)=>[(0,.cells 85 [aD s,B a,B e,B f])]
 pre:=λ(s,a,e,f)=>[E<|fu s a e f=ab,E<|s.size<=9223372036854775807]
 out:=λ(s,a,e,f)=>.leaf (.tu [B<|wH s (a,e,f),B<|ub s (a,e,f),fN<|iK s (a,e,f)]) [(0,.cells 85<|Ho s<|mH s (a,e,f))]
def aOq:agq.dn:=by
 intro l H n i x h;simp[agq]at h
 repeat' split at h
 all_goals first|(cases h;done)|(cases h;exact⟨C⟩)|(cases h;refine⟨rfl,?_⟩;simp[dK,iF,iN,gN, *];rfl)
def sRh:=Sp (M×Int) [.s,.i] λ(b,a)=>([E<|b.size<=1000000],.ite (E<|ik b a=ab) (aE<|.tu [B<|eY b a,B<|bP b a,fN<|iK b<|gO b a,.v<|.int .i64 (r b a).1,.ag [B 0,B 0]])<|aE<|.tu [B 0,B 0,fN ah,B 0,.ag [.v<|.int .i64 (r b a).2.1,.v<|.int .i64 (r b a).2.2]])
def at8:=Sp (M×Int) [.s,.i] λ(b,a)=>([E<|b.size<=1000000],aE<|.tu [B<|qp b a,B<|qW b a,.ag [.v<|.int .i64 (jF b a).1,.v<|.int .i64 (jF b a).2]])
def aOV:=Sp (M×Int) [.s,.i] λ(b,a)=>([E<|0<=a,E<|a+4<b.size,E<|b.size<=1000000],aE<|B<|Af b a)
def at9:=Sp (M×Int×Int) [.s,.i,.i] λ(b,a,m)=>([E<|b.size<=1000000],.ite (E<|gP b a m=ab) (aE<|.tu [.ag [B<|bc b a,B<|dj b a,fN<|gQ b a,fN<|dN b a],B<|bJ b a,.ag [B 0,B 0]])<|aE<|.tu [.ag [B 0,B 0,fN ah,fN ah],B 0,.ag [.v<|.int .i64 (iB b a m).1,.v<|.int .i64 (iB b a m).2]])
def aP1:=Sp (M×Int×Int) [.s,.i,.i] λ(b,a,x)=>([E<|0<=a,E<|a+4<b.size,E<|b.size<=1000000,E<|0<=x,E<|x<=b.size],aE<|B<|Cx b a x)
def oFf(b:M)(a:Int):bO:=dX [
 (1002,jG True [(1,B a),(5,.v<|.int .u8<|sh b a)] []),
 (1003,jG True [(1,B<|EO b a),(5,.v<|.int .u8<|sh b a)] [])]
def oBl(b:M)(a:Int):bO:=dX [
 (0,.one<|bi (Nat×Int×Int×Bool×Int×Int) λg=>(CU b a g,[(0,aD b),(4,B g.2.1),(5,B g.2.2.1),(6,U 1001),(7,U 1002),(8,fN g.2.2.2.1)],[(1001,.cells 25 [B g.2.2.2.2.1,B g.2.2.2.2.2]),(1002,.cells 29 [B<|bc b a,B<|dj b a,fN<|gQ b a,fN<|dN b a])],g.1)),
 (1012,jG (Z7 b a) [(0,aD b),(4,.v<|.int .i64 (fA b a).1),(5,.v<|.int .i64 (fA b a).2.1),(6,U 1001),(7,U 1002)] [(1001,.cells 25 [.v<|.int .i64 (fA b a).2.2.2.1,.v<|.int .i64 (fA b a).2.2.2.2]),(1002,.cells 29 [B<|bc b a,B<|dj b a,fN<|gQ b a,fN<|dN b a])])]
def aHd(b:M)(a:Int):bO:=dX [
 (0,.one<|bi (Nat×Int×Int×Bool) λg=>((cR b a).1=0/\CU b a (g.1,g.2.1,g.2.2.1,g.2.2.2,0,0),[(0,aD b),(1,B g.2.2.1),(6,U 1001),(7,U 1002),(9,B g.2.1),(10,fN g.2.2.2)],[(1001,yl),(1002,.cells 29 [B<|bc b a,B<|dj b a,fN<|gQ b a,fN<|dN b a])],g.1))]
def oRh(b:M)(a:Int):bO:=dX [(1006,jG (0<=a/\a+3<=b.size) [(1,B a),(8,U 1001),(9,B<|bh b a 3)] [(1001,yl)])]
def azJ(s:M)(a e f:Int):Prop:=
 fu s a e f=ab/\
 kD s<=9223372036854775807/\
 1<=(3:Int)/\
 3<=(8:Int)/\
 0<=(1:Int)/\
 ((dI s a e 3==0)=ab->
 ((Q bW (bits CL fh (kQ (fo<|ch s a e 3)<|2^min (X 1) (cZ fh)) 3)==
 3)=
 ab->
 fu s (ee s a e 3) (dI s a e 3) (gf s a e f 3)=ab/\
 1<=(15:Int)/\
 15<=(31:Int)/\
 0<=(3:Int)/\
 Q bW (bits CL fh (kQ (fo<|ch s a e 3)<|2^min (X 1) (cZ fh)) 3)=
 wH s (a,e,f)/\
 Q bW (kQ (fo<|ch s a e 3)<|2^min (X 3) (cZ fh))=ub s (a,e,f)/\
 (bits CL fh (fo<|ch s a e 3) 1==1)=iK s (a,e,f)/\
 s=s/\
 ee s a e 3=(mH s (a,e,f)).fst/\
 Bu (dI s a e 3) 15=(mH s (a,e,f)).snd.fst/\Ae s (dI s a e 3) (gf s a e f 3) a=(mH s (a,e,f)).snd.snd)/\
 ((Q bW (bits CL fh (kQ (fo<|ch s a e 3)<|2^min (X 1) (cZ fh)) 3)==
 3)=
 ah->
 0<=(3:Int)/\
 Q bW (bits CL fh (kQ (fo<|ch s a e 3)<|2^min (X 1) (cZ fh)) 3)=
 wH s (a,e,f)/\
 Q bW (kQ (fo<|ch s a e 3)<|2^min (X 3) (cZ fh))=ub s (a,e,f)/\
 (bits CL fh (fo<|ch s a e 3) 1==1)=iK s (a,e,f)/\
 s=s/\ee s a e 3=(mH s (a,e,f)).fst/\dI s a e 3=(mH s (a,e,f)).snd.fst/\gf s a e f 3=(mH s (a,e,f)).snd.snd))/\
 ((dI s a e 3==0)=ah->
 0<=(3:Int)/\
 Q bW (bits CL fh (kQ (fo<|ch s a e 3)<|2^min (X 1) (cZ fh)) 3)=
 wH s (a,e,f)/\
 Q bW (kQ (fo<|ch s a e 3)<|2^min (X 3) (cZ fh))=ub s (a,e,f)/\
 (bits CL fh (fo<|ch s a e 3) 1==1)=iK s (a,e,f)/\
 s=s/\ee s a e 3=(mH s (a,e,f)).fst/\dI s a e 3=(mH s (a,e,f)).snd.fst/\gf s a e f 3=(mH s (a,e,f)).snd.snd)
def amY(b:M)(a D:Int):Prop:=(cE (a+4)/\Wq (a+4)<aO b/\ja (a=a) (Zq (oX b<|a+4).toNat=sh b a))/\mr True (aF D (D<Zq 4) (ja (Wq (a+Wq (5+sG.getD D.toNat 0))=EO b a)<|sh b a=sh b a)/\mr True ((0:Int)<=5/\Bq (bits .and .u8 ((sh b a).fdiv<|gH (X 5) IntKind.u8.bits) 1==0) (ay (EO b a)=Af b a) (EO b a=Af b a)))
def VX(h0:M)(h1 h x:Int)(y z e k:Prop):Prop:=Cq (ik h0 h1=ab) (h=x/\y/\z)<|h=0/\e/\k
def LM(h0:M)(h1 h:Int)(x y z e:Prop):Prop:=Cq (ik h0 h1=ab) (0=h/\x/\y)<|Dz ((0:Int)=0)<|z/\e
def vZ(h0:Bool)(h1 h:Prop):Prop:=h0=ah/\h1/\h
def LY(h0:M)(h1:Int)(h:jT)(x:Prop):Prop:=ah=iK h0 (gO h0 h1)/\0=h.1/\x
def atf(b:M)(a:Int)(D:Prop)(P i:Int)(p:Bool):Prop:=Dq (a<0) D<|Dq (a>aO b) D<|Dq (Wq (aO b-a)<3) (LM b a (eY b a) (0=bP b a) (LY b a (r b a)<|(5:Int)=0/\aO b=0) (5=(r b a).2.1)<|aO b=(r b a).2.2)<|aF a (a<aO b) (cE (a+1)/\ay a<aO b/\(0:Int)<=8/\cE (a+2)/\Wq (a+2)<aO b/\(0:Int)<=16/\aL ((0<=a/\a+3<=aO b)/\a=a/\bits .or .i64 (bits .or .i64 (pH<|vS b.data a) (Wq<|pH (oX b<|a+1)*gH (X 8) IntKind.i64.bits)) (Wq<|pH (oX b<|a+2)*gH (X 16) IntKind.i64.bits)=bh b a 3/\dE))/\eO (0<=a/\a+3<=aO b->(0:Int)<=1/\Dq (P>2) (LM b a (eY b a) (0=bP b a) (LY b a (r b a)<|(15:Int)=0/\a=0) (15=(r b a).2.1)<|a=(r b a).2.2) ((0:Int)<=3/\VX b a P (eY b a) (i=bP b a) (p=iK b (gO b a)/\Wq (a+3)=(r b a).1/\dE) (i=0) (vZ p (Wq (a+3)=0)<|0=(r b a).2.1/\0=(r b a).2.2)))
def ath(b:M)(a x D:Int):Prop:=cE (a+4)/\Wq (a+4)<aO b/\(0:Int)<=6/\Bq (D==1) (Wq (x-2)=Cx b a x) (Bq (D==2) (Wq (x-4)=Cx b a x)<|Bq (D==3) (Wq (x-8)=Cx b a x)<|bF x=Cx b a x)
def atg(b:M)(a x:Int):Prop:=ath b a x<|(pH<|oX b<|a+4).fdiv<|gH (X 6) IntKind.i64.bits
def asA(b:M)(a D:Int):Prop:=DH b a/\fQ b/\Bq (D !=0) (LM b a (eY b a) (0=bP b a) (LY b a (r b a)<|D=0/\(mH b<|l7 b a).2.2=0) (D=(r b a).2.1)<|(mH b<|l7 b a).2.2=(r b a).2.2) (VX b a (wH b<|l7 b a) (eY b a) (ub b (l7 b a)=bP b a) (iK b (l7 b a)=iK b (gO b a)/\(mH b<|l7 b a).1=(r b a).1/\dE) (ub b (l7 b a)=0)<|vZ (iK b<|l7 b a) ((mH b<|l7 b a).1=0)<|0=(r b a).2.1/\0=(r b a).2.2)
def aa8(b:M)(a m:Int):Prop:=
 (decide (m<0)=ab->
 (gP b a m=ab->0=bc b a/\0=dj b a/\ah=gQ b a/\ah=dN b a/\0=bJ b a/\2=(0:Int)/\0=(0:Int))/\
 (¬gP b a m=ab->0=(0:Int)/\0=(0:Int)/\ah=ah/\ah=ah/\0=(0:Int)/\2=(iB b a m).fst/\0=(iB b a m).snd))/\
 (decide (m<0)=ah->
 (decide (m>1048576)=ab->
 (gP b a m=ab->0=bc b a/\0=dj b a/\ah=gQ b a/\ah=dN b a/\0=bJ b a/\2=(0:Int)/\0=(0:Int))/\
 (¬gP b a m=ab->0=(0:Int)/\0=(0:Int)/\ah=ah/\ah=ah/\0=(0:Int)/\2=(iB b a m).fst/\0=(iB b a m).snd))/\
 (decide (m>1048576)=ah->
 kD b<=1000000/\
 (((cR b a).fst==0)=ab->
 (decide (dj b a>m)=ab->
 0<=a/\
 a+4<(↑(kD b))/\
 kD b<=1000000/\
 ((18 !=(0:Int))=ab->
 (gP b a m=ab->0=bc b a/\0=dj b a/\ah=gQ b a/\ah=dN b a/\0=bJ b a/\18=(0:Int)/\Af b a=0)/\
 (¬gP b a m=ab->
 0=(0:Int)/\0=(0:Int)/\ah=ah/\ah=ah/\0=(0:Int)/\18=(iB b a m).fst/\Af b a=(iB b a m).snd))/\
 ((18 !=(0:Int))=ah->
 (gP b a m=ab->bc b a=bc b a/\dj b a=dj b a/\gQ b a=gQ b a/\dN b a=dN b a/\bJ b a=bJ b a/\0=(0:Int)/\0=(0:Int))/\
 (¬gP b a m=ab->
 bc b a=0/\dj b a=0/\gQ b a=ah/\dN b a=ah/\bJ b a=0/\0=(iB b a m).fst/\0=(iB b a m).snd)))/\
 (decide (dj b a>m)=ah->
 (((cR b a).fst !=0)=ab->
 (gP b a m=ab->0=bc b a/\0=dj b a/\ah=gQ b a/\ah=dN b a/\0=bJ b a/\(cR b a).fst=0/\(cR b a).snd=0)/\
 (¬gP b a m=ab->
 0=(0:Int)/\0=(0:Int)/\ah=ah/\ah=ah/\0=(0:Int)/\(cR b a).fst=(iB b a m).fst/\(cR b a).snd=(iB b a m).snd))/\
 (((cR b a).fst !=0)=ah->
 (gP b a m=ab->bc b a=bc b a/\dj b a=dj b a/\gQ b a=gQ b a/\dN b a=dN b a/\bJ b a=bJ b a/\0=(0:Int)/\0=(0:Int))/\
 (¬gP b a m=ab->
 bc b a=0/\dj b a=0/\gQ b a=ah/\dN b a=ah/\bJ b a=0/\0=(iB b a m).fst/\0=(iB b a m).snd))))/\
 (((cR b a).fst==0)=ah->
 (((cR b a).fst !=0)=ab->
 (gP b a m=ab->0=bc b a/\0=dj b a/\ah=gQ b a/\ah=dN b a/\0=bJ b a/\(cR b a).fst=0/\(cR b a).snd=0)/\
 (¬gP b a m=ab->
 0=(0:Int)/\0=(0:Int)/\ah=ah/\ah=ah/\0=(0:Int)/\(cR b a).fst=(iB b a m).fst/\(cR b a).snd=(iB b a m).snd))/\
 (((cR b a).fst !=0)=ah->
 (gP b a m=ab->bc b a=bc b a/\dj b a=dj b a/\gQ b a=gQ b a/\dN b a=dN b a/\bJ b a=bJ b a/\0=(0:Int)/\0=(0:Int))/\
 (¬gP b a m=ab->
 bc b a=0/\dj b a=0/\gQ b a=ah/\dN b a=ah/\bJ b a=0/\0=(iB b a m).fst/\0=(iB b a m).snd)))))
def iU(h0 h1:Int×Int):Prop:=h0.1=h1.1/\h0.2=h1.2
def bD(h0:M):Prop:=h0.size<=1000000
def LR(h0:Int×Int):Prop:=h0.1=0/\h0.2=0
def ate(b:M)(a m:Int)(D P i p:Prop):Prop:=Dq (m<0) i<|Dq (m>1048576) i<|bD b/\Bq ((cR b a).1==0) (Dq (dj b a>m) (aF a (a+4<aO b)<|bD b/\aF (bJ b a) (bJ b a<=aO b) (Bq ((18:Int) !=0) (Cq p (oV b a<|(18:Int)=0/\Cx b a (bJ b a)=0)<|Ir a_<|18=(iB b a m).1/\Cx b a (bJ b a)=(iB b a m).2) P)) D) D
def atd(b:M)(a m:Int):Prop:=ate b a m (Bq ((cR b a).1 !=0) (Cq (gP b a m=ab) (oV b a<|LR<|cR b a)<|Ir a_<|iU (cR b a)<|iB b a m)<|Cq (gP b a m=ab) (aw (bc b a) (dj b a=dj b a)<|gQ b a=gQ b a/\dN b a=dN b a/\bJ b a=bJ b a/\dE)<|bc b a=0/\dj b a=0/\vZ (gQ b a) (dN b a=ah) (bJ b a=0/\dO (iB b a m))) (Cq (gP b a m=ab) (aw (bc b a) (dj b a=dj b a)<|gQ b a=gQ b a/\dN b a=dN b a/\bJ b a=bJ b a/\dE)<|bc b a=0/\dj b a=0/\vZ (gQ b a) (dN b a=ah) (bJ b a=0/\dO (iB b a m))) (Cq (gP b a m=ab) (oV b a sI)<|Ir a_<|ig<|iB b a m)<|gP b a m=ab
def PU(h0:M)(h1:Int×Int×Bool×Int×Int)(r e:Int)(u:Nat)(v w i j k x:Int)(y z:Bool):Prop:=∃(h:Nat×Int×Int×Bool×Int×Int),(yL h0 h.1 h.2=h1/\(0<=h.2.1/\h.2.1+Zq h.1<=r)/\(0<=h.2.2.1/\h.2.2.1<=10000000)/\(h.2.2.2.2.1=0->h.2.2.2.2.2=0)/\(h.2.2.2.1=ah->h.2.2.2.2.1=0->h.2.2.1<=e/\e-h.2.2.1<Zq h.1))/\h.1<u/\h0=h0/\v=h.2.1/\w=h.2.2.1/\ah=h.2.2.2.1/\i=h.2.2.2.2.1/\j=h.2.2.2.2.2/\k=k/\x=x/\y=y/\z=z
def VE(h0:Nat×Int×Int×Bool×Int×Int)(h1:M):Prop:=h0.2.2.2.1=ah->h0.2.2.2.2.1=0->h0.2.2.1<=Zq h1.size/\Zq h1.size-h0.2.2.1<Zq h0.1
def PV(h0:M)(h1:Int×Int×Bool×Int×Int)(r z:Int)(u:Nat)(v w:Int)(i:Bool)(e k:Int)(x y:Bool):Prop:=∃(h:Nat×Int×Int×Bool×Int×Int),(yL h0 h.1 h.2=h1/\(0<=h.2.1/\h.2.1+Zq h.1<=r)/\(0<=h.2.2.1/\h.2.2.1<=10000000)/\(h.2.2.2.2.1=0->h.2.2.2.2.2=0)/\(h.2.2.2.1=ah->h.2.2.2.2.1=0->h.2.2.1<=z/\z-h.2.2.1<Zq h.1))/\h.1<u/\h0=h0/\v=h.2.1/\w=h.2.2.1/\i=h.2.2.2.1/\0=h.2.2.2.2.1/\0=h.2.2.2.2.2/\e=e/\k=k/\x=x/\y=y
def bS(h0:Int)(h1 h x y:Prop):Prop:=Bq (h0 !=0) (h1/\h)<|x/\y
def aee(h0:M)(h1:Nat×Int×Int×Bool×Int×Int)(h:Int):Prop:=yL h0 h1.1 h1.2=fA h0 h/\(0<=h1.2.1/\h1.2.1+Zq h1.1<=Zq h0.size+2)/\(0<=h1.2.2.1/\h1.2.2.1<=10000000)/\(h1.2.2.2.2.1=0->h1.2.2.2.2.2=0)/\VE h1 h0
def aeg(h0:M)(h1:Int×Int×Bool×Int×Int)(e:Int)(k:Nat)(r u v w y:Int)(z x:Bool):Prop:=∃h,(yL h0 h.1 h.2=h1/\(0<=h.2.1/\h.2.1+Zq h.1<=e)/\(0<=h.2.2.1/\h.2.2.1<=10000000)/\(h.2.2.2.2.1=0->h.2.2.2.2.2=0)/\VE h h0)/\h.1<k/\h0=h0/\r=h.2.1/\u=h.2.2.1/\ah=h.2.2.2.1/\5=h.2.2.2.2.1/\v=h.2.2.2.2.2/\aw w (y=y) (z=z/\x=x)
def aek(h0:M)(h1:Int×Int×Bool×Int×Int)(e:Int)(k:Nat)(r u:Int)(v:Bool)(w i z:Int)(x y:Bool):Prop:=∃h,(yL h0 h.1 h.2=h1/\(0<=h.2.1/\h.2.1+Zq h.1<=e)/\(0<=h.2.2.1/\h.2.2.1<=10000000)/\(h.2.2.2.2.1=0->h.2.2.2.2.2=0)/\VE h h0)/\h.1<k/\h0=h0/\r=h.2.1/\u=h.2.2.1/\v=h.2.2.2.1/\5=h.2.2.2.2.1/\w=h.2.2.2.2.2/\aw i (z=z) (x=x/\y=y)
def zn(h0:M)(h1:Int):Prop:=aw (bc h0 h1) (dj h0 h1=dj h0 h1)<|gQ h0 h1=gQ h0 h1/\dN h0 h1=dN h0 h1
def xa(h0:Bool)(h1 h:Prop):Prop:=ah=h0/\h1/\h
def amX(b:M)(a:Int)(D P i p:Prop)(j h z:Int)(y:Bool)(e k:Int)(f:Bool)(x:Int):Prop:=bD b/\((∃u,aee b u a/\b=b/\0=u.2.1/\bJ b a=u.2.2.1/\xa u.2.2.2.1 ((cR b a).1=u.2.2.2.2.1) ((cR b a).2=u.2.2.2.2.2/\zn b a))/\(∀x1,aee b x1 a->Bq (!x1.2.2.2.1) (Bq (x1.2.2.2.2.1==0) (pG (ik b x1.2.2.1) (bD b) (Bq (eY b x1.2.2.1==1) (Bq ((0:Int)==0) (Dq (Wq (x- (r b x1.2.2.1).1)<1) (aek b (fA b a) z x1.1 (ay x1.2.1) (ay (r b x1.2.2.1).1) (iK b<|gO b x1.2.2.1) x e k f y)<|PV b (fA b a) z x x1.1 (ay x1.2.1) (ay (r b x1.2.2.1).1) (iK b<|gO b x1.2.2.1) e k f y)<|PV b (fA b a) z x x1.1 (ay x1.2.1) (ay (r b x1.2.2.1).1) (iK b<|gO b x1.2.2.1) e k f y)<|Bq ((0:Int)==0) (Dq (Wq (x- (r b x1.2.2.1).1)<bP b x1.2.2.1) (aek b (fA b a) z x1.1 (ay x1.2.1) (Wq<|(r b x1.2.2.1).1+bP b x1.2.2.1) (iK b<|gO b x1.2.2.1) x e k f y)<|PV b (fA b a) z x x1.1 (ay x1.2.1) (Wq<|(r b x1.2.2.1).1+bP b x1.2.2.1) (iK b<|gO b x1.2.2.1) e k f y)<|PV b (fA b a) z x x1.1 (ay x1.2.1) (Wq<|(r b x1.2.2.1).1+bP b x1.2.2.1) (iK b<|gO b x1.2.2.1) e k f y)<|Bq ((0:Int)==1) (Bq ((r b x1.2.2.1).2.1==0) (Dq (Wq (x-0)<1) (aeg b (fA b a) z x1.1 (ay x1.2.1) b8 x e k f y)<|PU b (fA b a) z x x1.1 (ay x1.2.1) b8 (r b x1.2.2.1).2.1 (r b x1.2.2.1).2.2 e k f y)<|PU b (fA b a) z x x1.1 (ay x1.2.1) b8 (r b x1.2.2.1).2.1 (r b x1.2.2.1).2.2 e k f y)<|Bq ((r b x1.2.2.1).2.1==0) (Dq (Wq (x-0)<0) (aeg b (fA b a) z x1.1 (ay x1.2.1) (Wq<|0+0) x e k f y)<|PU b (fA b a) z x x1.1 (ay x1.2.1) (Wq<|0+0) (r b x1.2.2.1).2.1 (r b x1.2.2.1).2.2 e k f y)<|PU b (fA b a) z x x1.1 (ay x1.2.1) (Wq<|0+0) (r b x1.2.2.1).2.1 (r b x1.2.2.1).2.2 e k f y)<|aL<|P/\b=b/\x1.2.1=(fA b a).1/\x1.2.2.1=h/\x1.2.2.2.2.1=j/\x1.2.2.2.2.2=(fA b a).2.2.2.2/\zn b a) (aL<|P/\b=b/\x1.2.1=(fA b a).1/\x1.2.2.1=h/\x1.2.2.2.2.1=j/\x1.2.2.2.2.2=(fA b a).2.2.2.2/\zn b a)))/\eO (P->Bq (j==0) (Bq y (Dq (Wq (x-h)<4) (Bq ((5:Int) !=0) (0=qp b a/\0=qW b a/\5=(jF b a).1/\x=(jF b a).2)<|(fA b a).1=qp b a/\p)<|bS j (0=qp b a) i ((fA b a).1=qp b a) p) D) D)
def PK(h0:M)(h1:Int)(h:Nat×Int×Int×Bool):Prop:=CU h0 h1 (h.1,(h.2.1,(h.2.2.1,(h.2.2.2,(0,0)))))
def aeU(h0:Int)(h1:M)(x:Int)(y:Nat)(z e:Int):Prop:=∃h,(h0=0/\PK h1 x h)/\h.1<y/\h1=h1/\z=h.2.2.1/\e=h.2.1/\ah=h.2.2.2/\ca (zn h1 x)
def ae2(h0:Int)(h1:M)(x:Int)(y:Nat)(z e:Int)(k:Bool):Prop:=∃h,(h0=0/\PK h1 x h)/\h.1<y/\h1=h1/\z=h.2.2.1/\e=h.2.1/\k=h.2.2.2/\ca (zn h1 x)
def atc(b:M)(a:Int)(D:Prop)(P:Int):Prop:=bD b/\bS P (0=qp b a) (0=qW b a/\iU (cR b a) (jF b a)) (∃h,(P=0/\PK b a h)/\b=b/\bJ b a=h.2.2.1/\0=h.2.1/\ah=h.2.2.2/\ca (zn b a)) (∀x1,P=0/\PK b a x1->Bq (!x1.2.2.2) (pG (ik b x1.2.2.1) (bD b) (Bq ((0:Int) !=0) (0=qp b a/\0=qW b a/\dO (jF b a))<|Bq (eY b x1.2.2.1==1) (Dq (1>Wq (aO b- (r b x1.2.2.1).1)) D<|ae2 P b a x1.1 (ay (r b x1.2.2.1).1) (ay x1.2.1)<|iK b<|gO b x1.2.2.1)<|Dq (bP b x1.2.2.1>Wq (aO b- (r b x1.2.2.1).1)) D<|ae2 P b a x1.1 (Wq<|(r b x1.2.2.1).1+bP b x1.2.2.1) (ay x1.2.1)<|iK b<|gO b x1.2.2.1)<|Bq ((r b x1.2.2.1).2.1 !=0) (0=qp b a/\0=qW b a/\(r b x1.2.2.1).2.1=(jF b a).1/\(r b x1.2.2.1).2.2=(jF b a).2)<|Bq ((0:Int)==1) (Dq (1>Wq (aO b-0)) D<|aeU P b a x1.1 b8<|ay x1.2.1)<|Dq (0>Wq (aO b-0)) D<|aeU P b a x1.1 (Wq<|0+0)<|ay x1.2.1) (Bq (dN b a) (Dq (Wq (aO b-x1.2.2.1)<4) D<|x1.2.1=qp b a/\Wq (x1.2.2.1+4)=qW b a/\dO (jF b a))<|x1.2.1=qp b a/\x1.2.2.1=qW b a/\dO (jF b a)))
def atb(b:M)(a:Int):Prop:=atc b a (0=qp b a/\0=qW b a/\5=(jF b a).1/\aO b=(jF b a).2) (cR b a).1
section
variable{b:M}{a m:Int}
def azF{s:M}{c:jT}(h:fu s c.1 c.2.1 c.2.2=ab):0<=ub s c/\ub s c<=2097152:=by
 have x:=Nx (n:=3) h Y;have y:=UH<|ch s c.1 c.2.1 3;have z:fo (ch s c.1 c.2.1 3)<16777216:=by
  have:=adG (s:=ch s c.1 c.2.1 3);have e:(256:Int)^(ch s c.1 c.2.1 3).size<=256^3:=by
   have:=nF (show 0<256 by lia) (show(ch s c.1 c.2.1 3).size<=3 by lia);grind
  lia
 unfold ub JW vQ;rw[show(2:Int)^(min (X 3) 64)=8 from rfl,yD _ Y,wr Y Y];lia
def aCd:∀k:Fin 256,0<=bits .and .u8 ((k.val)) 3/\bits .and .u8 ((k.val)) 3<4:=by decide+kernel
def aCe:∀k:Fin 4,0<=[(0:Int),1,2,4].getD k.val 0/\[(0:Int),1,2,4].getD k.val 0<=4:=H
def aB6(b:M)(a:Int):0<=bits .and .u8 (sh b a) 3/\bits .and .u8 (sh b a) 3<4:=aCd ⟨(b.data.toList.getD (Q .i64<|a+4).toNat 0).toNat,Ec _⟩
def aCv(x:b.size<=1000000)(h:C9 m=ah->(cR b a).1=0->m<dj b a->0<=a/\a+4<b.size):aa8 b a m:=by grind [aa8,C9,gP,iB]
def Cp{p:Int}(h:ik b p=ab):(r b p).1=p+3/\0<=p/\p+3<=b.size:=by
 have h:(r b p).2.1=0:=by grind [ik]
 have e:(gv b (gO b p) 3).2.1=0/\r b p=gv b (gO b p) 3:=by
  unfold r mH at h|-;revert h;cases u:(gv b (gO b p) 3).2.1==0&&wH b (gO b p)==3
  .simp
  .intro h
   simp[bC,wx]at u;grind [Bu]
 have y:dI b (d_ b p) (dS b p) 3=0:=e.1;rw[e.2];have x:dS b p=0:=by
  by_cases x:dS b p=0
  .exact x
  .rw[(Nw (f:=0) x).1]at y;exact absurd y x
 have v:lc b p=ah:=by grind [dS]
 have k:d_ b p=p:=by grind [d_]
 have i:0<=p/\p<=(b.size):=by grind [lc]
 rw[x,k]at y;have z:3<=(b.size)-p:=by
  by_cases z:(b.size)-p<3
  .rw[(Hf (f:=0) (by decide) z).1]at y;exact absurd y H
  .omega
 refine⟨?_,i.1,Y⟩;show ee b (d_ b p) (dS b p) 3=p+3;rw[x,k,(EC (f:=0) (by decide) z).2.2.1]
def Nv(p:Int):0<=pg b p/\pg b p<=2097152:=by have h:=azF (c:=gO b p)<|KY b p;grind [bP,pg]
def CV{p:Int}(h:ik b p=ab):EA b p=((r b p).1+pg b p,iK b<|gO b p,cond (decide ((b.size)- (r b p).1<pg b p)) (5,(b.size:Int)) (0,0)):=by grind [EA]
theorem Z8{p:Int}(h:ik b p=ah):EA b p=(0,ah,(r b p).2):=by grind [EA]
def akw{k:Nat}{n p f:Int}(g:b.size<=1000000)(h:CU b a (k,n,p,ah,0,f)):∃k',k=k'+1/\CU b a (k',n+1,EA b p):=by
 let⟨y,e,r,d,u⟩:=h;let⟨v,w⟩:=u rfl rfl;dsimp only at e r v w;cases k with
 |zero=>exfalso;lia
 |succ k=>
  refine⟨k,rfl,?_⟩;have z:=y;refine⟨z,by dsimp only;lia,?_⟩;cases x:ik b p
  .grind [Z8,ik]
  .rw[CV x]
   let⟨i,j,c⟩:=Cp x;have o:=Nv (b:=b) p;grind
def R9{g:Nat×Int×Int×Bool×Int×Int}(h:CU b a g)(v:(!g.2.2.2.1&&g.2.2.2.2.1==0)=ah):g.2=fA b a/\Z7 b a:=by
 let⟨x,y,z,r,u⟩:=h;have e:g.2=fA b a:=by
  rw[<-x];cases g.1 with
  |zero=>rfl
  |succ k=>grind [yL]
 grind [Z7]
def Tu:0<=bJ b a/\bJ b a<=b.size:=by grind [Gz,hv5,bJ]
end
def u64_and_nat(x y:Nat)(z:x<18446744073709551616)(e:y<18446744073709551616):bits .and .u64 x y=((x&&&y)):=by
 have h:∀a:Nat,a<18446744073709551616->(lk 64 a).toNat=a:=λa k=>by grind
 show IntKind.u64.wrap ((lk 64 x&&&lk 64 y).toNat)=_;rw[Yx,h _ z,h _ e];grind [fW]
def or3{x x1 h:Nat}(h0:x<256)(h1:x1<256)(z:h<256):bits .or .i64 (bits .or .i64 (Q .i64 x) (Q .i64<|Q .i64 x1*2^min (X 8) (cZ .i64))) (Q .i64<|Q .i64 h*2^min (X 16) (cZ .i64))=((x+x1*256+h*65536:Nat)):=by rw[show(2:Int)^min (X 8) (cZ .i64)=256 by decide,show(2:Int)^min (X 16) (cZ .i64)=65536 by decide];rw[wr Y Y,wr (n:=x1) Y Y,wr (n:=h) Y Y,wr Y Y,wr Y Y];rw[show x1*256=((x1*256:Nat):Int)by lia,show h*65536=((h*65536:Nat):Int)by lia];rw[acH _ _ Y Y];have y:=UN (k:=8) (lo:=x) Y h1<|Nat.zero_mod _;rw[rA,show 2^8=256 from rfl]at y;rw[y,acH _ _ Y Y];have e:=UN (k:=16) (lo:=x+x1*256) Y z<|Nat.zero_mod _;grind
def amz{s:M}{p:Int}(h0:0<=p)(h:p+3<=s.size):bh s p 3=(((s.data.toList.getD p.toNat 0).toNat+(s.data.toList.getD (p+1).toNat 0).toNat*256+(s.data.toList.getD (p+2).toNat 0).toNat*65536:Nat)):=by have x:=N3 (s:=s) (i:=0) h0 Y;have y:=N3 (s:=s) (i:=1) h0 Y;have z:=N3 (s:=s) (i:=2) h0 Y;rw[show((0+1))=1 from rfl,show((0:Nat):Int)=0 from rfl,S8,MU]at x;grind
def Xc(h0:0<=x)(h:x+3<=t.size):∃n:Nat,n<16777216/\bh t x 3=n/\eY t x=((n/2&&&3:Nat))/\bP t x=((n/8:Nat))/\iK t (gO t x)=(((n&&&1:Nat):Int)==1)/\gv t (gO t x) 3=(x+3,0,0):=by
 have y:=λq:Int=>(t.data.toList.getD q.toNat 0).toNat_lt;have l0:=y x;have l1:=y<|x+1;have l2:=y<|x+2;have e:=amz h0 h;generalize (t.data.toList.getD x.toNat 0).toNat+(t.data.toList.getD (x+1).toNat 0).toNat*256+(t.data.toList.getD (x+2).toNat 0).toNat*65536=n at e;have z:gO t x=(x,0,0):=Qo h0 Y;have v:n<16777216:=by
  have w:=KN (t.data.toList.drop x.toNat) 3;have u:bh t x 3=((lT ((t.data.toList.drop x.toNat).take 3))):=rfl;rw[e]at u;lia
 have a:JW t (gO t x)=n:=by unfold JW;rw[z,UP h0 Y h,e]
 have k:(2:Int)^min (X 1) 64=2:=H;have r:(2:Int)^min (X 3) 64=8:=H;refine⟨n,v,e,?_,?_,?_,?_⟩
 .unfold eY wH
  rw[a,k,yD _ Y,show n/2=((n/2:Nat):Int)by lia,show 3=((3:Nat):Int)from rfl,u64_and_nat _ _ Y Y];have:n/2&&&3<=3:=Nat.and_le_right;exact wr Y Y
 .unfold bP ub
  rw[a,r,yD _ Y,show n/8=((n/8))by lia];exact wr Y Y
 .unfold iK
  rw[a,show bits .and .u64 n 1=((n&&&1:Nat))from u64_and_nat n 1 Y Y]
 .rw[z];exact XL Y h
theorem asC{b:M}{a:Int}(h0:0<=a)(x:a+3<=b.size)(h:eY b a=3):r b a=(a+3,15,a):=by
 obtain⟨n,_,_,_,_,_,y⟩:=Xc h0 x;have z:gO b a=(a,0,0):=Qo h0 Y;have h:wH b (gO b a)=3:=h;unfold r mH;rw[y,h,z];have:Ae b 0 0 a=a:=by grind [Ae]
 rw[this];rfl
def asD(h0:0<=x)(a:x+3<=t.size)(h:eY t x≠3):r t x=(x+3,0,0):=by let⟨n,_,_,_,_,_,y⟩:=Xc h0 a;have h:wH t (gO t x)≠3:=h;grind [r,mH]
def aMx(h0:0<=x)(h1:x<=t.size)(h:(t.size)<x+3):r t x=(x,5,(t.size:Int)):=by have a:gO t x=(x,0,0):=Qo h0 h1;grind [XM,r,mH]
def asE(h:lc t x=ab):r t x=(0,2,0):=by grind [gO,d_,dS,avT,r,mH]
def Xb{f:Int}(h:r t x=(z,v,f))(e:v≠0){P:Prop}:(ik t x=ab->P)/\(¬ik t x=ab->(0:Int)=0/\(0:Int)=0/\ah=ah/\(0:Int)=0/\v=(r t x).2.1/\f=(r t x).2.2):=by
 have:ik t x=ah:=by unfold ik;rw[h];exact oc e
 grind
section
variable{b:M}{a m:Int}
def arM(h:(cR b a).1=0):Qj b a:=by
 have no:∀{e f:Int},A8 b a e f->e≠0->False:=λk n=>n<|k.2.2.2.2.2.1.trans h;have c:lc b a=ah:=by
  cases j:lc b a
  .rfl
  .exact(no (afF j) H).elim
 simp[lc,qS,dH]at c;have z:0<=a:=Y;have k:a<=b.size:=Y;have x:=mV λx=>no (arE z k x) H;have u:a+5<=b.size:=mV λu=>no (arK z k Y x) H;rw[show min 4 ((b.size)-a).toNat=4 by lia]at x;have v:(kf (fi (jM b a) 8) 2==1)=ah:=by
  cases v:kf (fi (jM b a) 8) 2==1
  .rfl
  .exact(no (arF z u x v) H).elim
 have y:Gi b a:=⟨⟨z,u⟩,x,v⟩;have len:xb b a:=⟨y,mV λg=>no (arL y Y) H⟩;have r:=mV λr=>no (arG len r) H;have ga:Ck b a:=⟨len,r,λw=>mV λo=>no (arH len r w<|jS Y) H⟩;refine⟨ga,λp=>?_⟩;have i:eQ b a=ab->kY b a<=134217728:=λw=>mV λd=>no (arI ga w<|jS Y) H;refine⟨i,mV λd=>no (arJ ga ?_<|jS Y) H⟩;grind
def aB7:∀k:Fin 256,bits .and .u8 ((k.val)) 3=kf ((k.val):Int) 4/\(bits .and .u8 (((k.val):Int).fdiv<|2^(min (X 5) 8)) 1==0)= !(kf (fi ((k.val):Int) 32) 2==1):=by decide+kernel
theorem aB8(h0:0<=a)(h1:a+5<=b.size)(x:b.size<=1000000):Af b a=fD b a+dP b a:=by
 have e:sh b a=jM b a:=by grind [sh,jM,u,wr]
 have h:=tM (s:=b) (a:=a);have:=aB7 ⟨(jM b a).toNat,Y⟩;grind [Af,EO,fD,dP,eQ]
theorem aRt(h:Qj b a)(y:0<gu b a):Cx b a (bJ b a)=fD b a+dP b a:=by
 obtain⟨_,_,_,x,_⟩:=WS h;grind [Cx,gu,Gj]
def R8{e f:Int}(h:(fA b a).2.2.2=(e,f))(x:e≠0):0=qp b a/\0=qW b a/\e=(jF b a).1/\f=(jF b a).2:=by
 have y:jF b a=(e,f):=by unfold jF;rw[h,oc x];rfl
 grind [qp,qW]
def Z6{k:Nat}{n p:Int}{l:Bool}{e f:Int}(h:CU b a (k,n,p,l,e,f))(x:e≠0):(fA b a).2.2.2=(e,f):=by have:=(R9 h c9).1;rw[<-this]
end
def azI:=agq.gE aOq ajF Tryz.func45 λ⟨s,a,e,f⟩ ⟨h,k,_⟩=>⟨aK,J (p:=azJ s a e f)<|by
 have z:∀b,((gv s (a,e,f) 3).2.1==0&&wH s (a,e,f)==3)=b->mH s (a,e,f)=cond b ((gv s (a,e,f) 3).1,Bu (gv s (a,e,f) 3).2.1 15,Ae s (gv s (a,e,f) 3).2.1 (gv s (a,e,f) 3).2.2 a) (gv s (a,e,f) 3):=by grind [mH]
 refine⟨h,k,H,H,H,λx=>⟨λy=>?_,λy=>?_⟩,λx=>?_⟩
 .rw[z ab<|by rw[show((gv s (a,e,f) 3).2.1==0)=ab from x,Jp];exact y]
  exact⟨akP h 3,H,H,H,rfl,rfl,rfl,rfl,rfl,rfl,rfl⟩
 .rw[z ah<|by rw[show((gv s (a,e,f) 3).2.1==0)=ab from x,Jp];exact y]
  exact⟨H,rfl,rfl,rfl,rfl,rfl,rfl,rfl⟩
 .rw[z ah<|by rw[show((gv s (a,e,f) 3).2.1==0)=ah from x,YO]]
  exact⟨H,rfl,rfl,rfl,rfl,rfl,rfl,rfl⟩⟩
def aCt:=aOV.gd m.nil Tryz.func18 λ⟨b,a⟩ ⟨z,k,r,_⟩=>⟨(oFf b a),J (p:=amY b a<|bits .and .u8 (sh b a) 3)<|by
 unfold amY mr aF sG aO gH ay cE oX ja aL Bq Wq Zq;have h:=aB6 b a;have x:=aCe ⟨(bits .and .u8 (sh b a) 3).toNat,Y⟩;have x:0<=[(0:Int),1,2,4].getD (bits .and .u8 (sh b a) 3).toNat 0/\[(0:Int),1,2,4].getD (bits .and .u8 (sh b a) 3).toNat 0<=4:=x;refine⟨⟨by rw[wr Y Y];omega,by rw[wr Y Y];omega,(),trivial,rfl,rfl⟩,λ_ _=>⟨⟨h.1,h.2,(),trivial,?_,rfl⟩,λ_ _=>⟨Y,λe=>?_,λe=>?_⟩⟩⟩
 .grind [EO,wr]
 .unfold Af
  have y:(bits .and .u8 ((sh b a).fdiv<|2^(min (X 5) 8)) 1==0)=ab:=e;grind [wr,EO]
 .unfold Af
  have y:(bits .and .u8 ((sh b a).fdiv<|2^(min (X 5) 8)) 1==0)=ah:=e;grind⟩
def Zm:=m.cons azI<| .cons aCt<|ajF
def aMw:=sRh.gd Zm Tryz.func21 λ⟨b,a⟩ ⟨x,_⟩=>⟨aK,J (p:=asA b a (mH b<|l7 b a).2.1)<|by
 unfold asA LY fQ vZ l7 LM VX DH dE Dz ca Bq Cq;refine⟨KY b a,Y,λh=>⟨λg=>?_,λg=>⟨rfl,rfl,rfl,rfl,rfl,rfl⟩⟩,λh=>⟨λg=>⟨rfl,rfl,rfl,rfl,rfl,rfl⟩,λg=>?_⟩⟩
 .have g:((r b a).2.1==0)=ab:=g
  have h:((r b a).2.1 !=0)=ab:=h;grind
 .have g:¬((r b a).2.1==0)=ab:=g
  have h:((r b a).2.1 !=0)=ah:=h;grind⟩
def aCu:=at9.gd Zm Tryz.func7 λ⟨b,a,m⟩ ⟨x,_⟩=>⟨aK,J (p:=aa8 b a m)<|aCv x λ_ h _=>have:=(arM h).1.1.1.1;⟨this.1,Y⟩⟩
def ajB:=m.cons aMw<| .cons aCu<|Zm
def aCq:=at8.gd ajB Tryz.func9 λ⟨b,a⟩ ⟨E,_⟩=>⟨(oBl b a),J (p:=amX b a (bS (fA b a).2.2.2.1 (0=qp b a) (0=qW b a/\(fA b a).2.2.2.1=(jF b a).1/\(fA b a).2.2.2.2=(jF b a).2) ((fA b a).1=qp b a)<|(fA b a).2.1=qW b a/\dO (jF b a)) (aF (fA b a).1 (0<=(fA b a).2.1/\(fA b a).2.1<=10000000)<|(fA b a).2.2.2.1=0->(fA b a).2.2.2.2=0) (0=qW b a/\(fA b a).2.2.2.1=(jF b a).1/\(fA b a).2.2.2.2=(jF b a).2) (Wq ((fA b a).2.1+4)=qW b a/\dO (jF b a)) (fA b a).2.2.2.1 (fA b a).2.1 (aO b+2) (dN b a) (bc b a) (dj b a) (gQ b a)<|aO b)<|by
 unfold amX eO xa aF b8 zn PV PU aO dO aL ay aek pG aeg aw aee VE bS bD Dq Bq Cq Wq Zq;have U:=Tu (b:=b) (a:=a);have C:∀g:Nat×Int×Int×Bool×Int×Int,g.2.2.2.1=ah->g.2.2.2.2.1=0->CU b a g->∀s:Int×Bool×Int×Int,EA b g.2.2.1=s->∃y:Nat×Int×Int×Bool×Int×Int,CU b a y/\y.1<g.1/\g.2.1+1=y.2.1/\s=y.2.2/\Q .i64 (g.2.1+1)=y.2.1:=by
  rintro⟨k,n,p,l,e,f⟩ i w X s M;dsimp only at i w M;subst i w M;obtain⟨Z,rfl,A⟩:=akw E X;have N:=X.2.1;dsimp only at N;exact⟨_,A,Nat.lt_succ_self _,rfl,rfl,wr (by dsimp only;omega)<|by dsimp only;omega⟩
 refine⟨E,⟨⟨(b.size+2,0,bJ b a,ah,cR b a),⟨rfl,⟨by dsimp only;omega,by dsimp only;omega⟩,⟨by dsimp only;omega,by dsimp only;omega⟩,λh=>(Tv h).1,λ_ _=>⟨by dsimp only;omega,by dsimp only;omega⟩⟩,rfl,rfl,rfl,rfl,rfl,rfl,rfl,rfl,rfl,rfl⟩,λg X=>⟨λi=>⟨λw=>⟨λj=>⟨E,λA=>⟨λ_=>⟨λu=>?_,λu=>?_⟩,λh=>absurd h H⟩,λA=>⟨λ_=>⟨λu=>?_,λu=>?_⟩,λh=>absurd h H⟩⟩,λj=>⟨E,λh=>absurd h H,λ_=>⟨λh=>?_,λh=>?_⟩⟩⟩,λw=>?_⟩,λi=>?_⟩⟩,λ_ D=>?_⟩
 all_goals try have i:g.2.2.2.1=ah:=by simpa using i
 all_goals try have w:g.2.2.2.2.1=0:=by simpa using w
 .obtain⟨v,I,K⟩:=Cp j
  have d:pg b g.2.2.1=1:=by unfold pg;rw[A];rfl
  rw[v,wr Y Y]at u;obtain⟨y,m,o,F,x,q⟩:=C g i w X (g.2.2.1+3+1,iK b<|gO b g.2.2.1,5,(b.size:Int)) (by rw[CV j,d,v,u];rfl);exact⟨y,m,o,rfl,q,by rw[v,wr Y Y,<-x],by rw[<-x],by rw[<-x],by rw[<-x],rfl,rfl,rfl,rfl⟩
 .obtain⟨v,I,K⟩:=Cp j
  have d:pg b g.2.2.1=1:=by unfold pg;rw[A];rfl
  rw[v,wr Y Y]at u;obtain⟨y,m,o,F,x,q⟩:=C g i w X (g.2.2.1+3+1,iK b<|gO b g.2.2.1,0,0) (by rw[CV j,d,v,u];rfl);exact⟨y,m,o,rfl,q,by rw[v,wr Y Y,<-x],by rw[<-x],by rw[<-x],by rw[<-x],rfl,rfl,rfl,rfl⟩
 .obtain⟨v,I,K⟩:=Cp j
  have d:pg b g.2.2.1=bP b g.2.2.1:=by unfold pg;rw[A];rfl
  have L:=Nv (b:=b) g.2.2.1;rw[d]at L;rw[v,wr Y Y]at u;obtain⟨y,m,o,F,x,q⟩:=C g i w X (g.2.2.1+3+bP b g.2.2.1,iK b (gO b g.2.2.1),5,(b.size:Int)) (by rw[CV j,d,v,u];rfl);exact⟨y,m,o,rfl,q,by rw[v,wr Y Y,<-x],by rw[<-x],by rw[<-x],by rw[<-x],rfl,rfl,rfl,rfl⟩
 ·obtain⟨v,I,K⟩:=Cp j
  have d:pg b g.2.2.1=bP b g.2.2.1:=by unfold pg;rw[A];rfl
  have L:=Nv (b:=b) g.2.2.1;rw[d]at L;rw[v,wr Y Y]at u;obtain⟨y,m,o,F,x,q⟩:=C g i w X (g.2.2.1+3+bP b g.2.2.1,iK b (gO b g.2.2.1),0,0) (by rw[CV j,d,v,u];rfl);exact⟨y,m,o,rfl,q,by rw[v,wr Y Y,<-x],by rw[<-x],by rw[<-x],by rw[<-x],rfl,rfl,rfl,rfl⟩
 ·exact absurd (show ik b g.2.2.1=ab from h) j
 ·have R:ik b g.2.2.1=ah:=by simpa using j
  obtain⟨y,m,o,F,x,q⟩:=C g i w X (0,ah,(r b g.2.2.1).2) (Z8 R);exact⟨y,m,o,rfl,q,by rw[<-x];rfl,by rw[<-x],by rw[<-x],by rw[<-x],rfl,rfl,rfl,rfl⟩
 ·have P:(g.2.2.2.2.1==0)=ah:=w
  obtain⟨e,D⟩:=R9 X (by rw[P,GO]);rw[e];exact⟨(),D,rfl,rfl,rfl,rfl,rfl,rfl,rfl,rfl,rfl⟩
 ·have S:(!g.2.2.2.1)=ah:=i
  obtain⟨e,D⟩:=R9 X (by rw[S,YO]);rw[e];exact⟨(),D,rfl,rfl,rfl,rfl,rfl,rfl,rfl,rfl,rfl⟩
 ·obtain⟨V,W,T⟩:=D
  unfold qp qW;refine⟨fun c=>⟨fun B=>⟨fun u=>⟨fun _=>?_,fun h=>absurd h H⟩,fun u=>⟨fun h=>?_,fun h=>?_⟩⟩,fun B=>⟨fun h=>?_,fun h=>?_⟩⟩,fun c=>⟨fun h=>?_,fun h=>?_⟩⟩
  ·rw[wr Y Y]at u
   have t:jF b a=(5,(b.size:Int)):=by unfold jF;rw[c,B,u];rfl
   rw[t];exact⟨rfl,rfl,rfl,rfl⟩
  ·exact absurd c (by simpa [bne]using h)
  ·rw[wr Y Y]at u
   have t:jF b a=(0,0):=by unfold jF;rw[c,B,u];rfl
   rw[t,B,wr Y Y];exact⟨rfl,rfl,rfl,rfl⟩
  ·exact absurd c (by simpa [bne]using h)
  ·have z:(fA b a).2.2.2.1=0:=by simpa using c
   have t:jF b a=(0,0):=by unfold jF;rw[c,B];exact Prod.ext z (T z)
   rw[t,B];exact⟨rfl,rfl,rfl,rfl⟩
  ·have t:jF b a=(fA b a).2.2.2:=by unfold jF;rw[c];rfl
   have G:(((fA b a).2.2.2).1==0)=ah:=c;rw[t,G];exact⟨rfl,rfl,rfl,rfl⟩
  ·exact absurd c (by simpa [bne]using h)⟩
def ayz:=m.cons aCq<|ajB
def aNo:=sRh.gd m.nil Tryz.func22 λ⟨b,a⟩ ⟨s,_⟩=>⟨(oRh b a),J (p:=atf b a (LM b a (eY b a) (0=bP b a) (LY b a (r b a) sI) (2=(r b a).2.1)<|0=(r b a).2.2) (bits .and .i64 ((bh b a 3).fdiv<|gH (X 1) IntKind.i64.bits) 3) ((bh b a 3).fdiv<|gH (X 3) IntKind.i64.bits)<|bits .and .i64 (bh b a 3) 1==1)<|by
 unfold atf eO sI LY aF vZ a_ LM pH VX dE aO gH aL ay cE Dz vS oX ca Dq Cq Wq Zq;refine⟨λh=>Xb (asE<|by unfold lc;rw[h];rfl) H,λy=>⟨λh=>Xb (asE<|by unfold lc;rw[y,show decide ((b.size)<a)=ab from h];rfl) H,λu=>⟨λx=>?_,λx=>?_⟩⟩⟩
 all_goals have y:0<=a:=by simpa using y
 all_goals have u:a<=(b.size):=by simpa using u
 all_goals rw[wr Y Y]at x
 .have x:=ow x
  exact Xb (aMx y u Y) H
 .have x:a+3<=(b.size:Int):=by have:=of_decide_eq_false x
                               omega
  have f:Q .i64 (a+1)=a+1:=wr Y Y;have g:Q .i64 (a+2)=a+2:=wr Y Y;have o:Q .i64 (a+3)=a+3:=wr Y Y;rw[f,g,o];obtain⟨n,q,e,c,d,k3,_⟩:=Xc y x;have k:bits .and .i64 (kQ (bh b a 3)<|2^min (X 1) (cZ .i64)) 3=eY b a:=by
   rw[show(2:Int)^min (X 1) (cZ .i64)=2 by decide,e,yD _ Y,show n/2=((n/2:Nat):Int)by omega,c];exact aoF (n/2) 3 Y Y
  have i:kQ (bh b a 3) (2^min (X 3) (cZ .i64))=bP b a:=by
   rw[show(2:Int)^min (X 3) (cZ .i64)=8 by decide,e,yD _ Y,d];omega
  have w:bits .and .i64 (bh b a 3) 1=((n&&&1:Nat)):=by rw[e];exact aoF n 1 Y Y
  have t:n/2&&&3<=3:=Nat.and_le_right;refine⟨⟨Y,Y,Y,Y,H,Y,Y,H,(),⟨y,x⟩,rfl,?_,rfl,rfl⟩,λ_ _=>⟨H,λz=>?_,λz=>?_⟩⟩
  .rw[amz y x]
   exact or3 (Ec _) (Ec _)<|Ec _
  .rw[k]at z
   have z:eY b a>2:=ow z;exact Xb (asC y x Y) H
  .rw[k]at z
   have z:¬eY b a>2:=nD z;have v:=asD y x Y;have j:ik b a=ab:=by unfold ik;rw[v];rfl
   rw[k,i,w,k3,v,j];exact⟨H,λ_=>⟨rfl,rfl,rfl,rfl,rfl,rfl⟩,λh=>absurd rfl h⟩⟩
def aNp:=aP1.gd m.nil Tryz.func20 λ⟨b,a,x⟩ ⟨k,z,r,v,i,_⟩=>⟨aK,J (p:=atg b a x)<|by
 have y:=tM (s:=b) (a:=a);have e:=Cl y.1 y.2;unfold atg ath pH bF aO gH cE oX Bq Wq Zq;have w:Q .i64 (a+4)=a+4:=wr Y Y;rw[w,aad,show u b (a+4)=jM b a from rfl,show(2:Int)^min (X 6) (cZ .i64)=64 by decide,yD _ Y,e.2.2.1.1];unfold Cx;refine⟨Y,z,H,λh=>?_,λh=>⟨λh=>?_,λh=>⟨λh=>?_,λh=>?_⟩⟩⟩
 .rw[xw h];exact wr Y Y
 .rw[xw h];exact wr Y Y
 .rw[xw h];exact wr Y Y
 .rename_i g1 g2
  have:=Ew g1;have:=Ew g2;have:=Ew h;grind [wr]⟩
def Zn:=m.cons aNo<| .cons aNp<|ayC
def aNn:=at9.gd Zn Tryz.func8 λ⟨b,a,m⟩ ⟨g,_⟩=>⟨aK,J (p:=atd b a m)<|by
 have y:C9 m=ab->gP b a m=ah/\iB b a m=(2,0):=λh=>⟨by unfold gP;rw[h];rfl,by unfold iB;rw[h];rfl⟩;unfold atd ate aw sI aF vZ a_ LR dE Ir ig aO dO iU Dz ca oV bD Dq Bq Cq Zq;refine⟨λe=>?_,λe=>⟨λj=>?_,λj=>?_⟩⟩
 .obtain⟨w,i⟩:=y<|by unfold C9;rw[e];rfl
  simp[w,i]
 .obtain⟨w,i⟩:=y<|by unfold C9;rw[e,j];rfl
  simp[w,i]
 .have k:C9 m=ah:=by unfold C9;rw[e,j];rfl
  refine⟨g,λx=>⟨λr=>?_,λr=>⟨λu=>?_,λu=>?_⟩⟩,λx=>⟨λu=>?_,λu=>?_⟩⟩
  .have z:=arM<|by simpa using x
   have o:=Tu (b:=b) (a:=a);have f:=WS z;have n:m<dj b a:=ow r;have q:0<=m:=by have:=nD e;omega
   have d:=mV λd=>by
    rw[f.1,yg,iW d]at n;exact absurd (show m< -1 from n) Y
   have v:gP b a m=ah:=by unfold gP;rw[k,x,r];rfl
   have c:iB b a m=(18,Af b a):=by unfold iB;rw[k,x];rfl
   have s:=z.1.1.1.1;grind [aRt,aB8]
  .grind
  .have v:gP b a m=ab:=by unfold gP;rw[k,x,r];rfl
   simp[v]
  .have v:gP b a m=ah:=by unfold gP;rw[k,x];rfl
   have c:iB b a m=cR b a:=by unfold iB;rw[k,x];rfl
   simp[v,c]
  .exact absurd x (by simpa [bne]using u)⟩
def aNm:=at8.gd Zn Tryz.func10 λ⟨b,a⟩ ⟨q,_⟩=>⟨(aHd b a),J (p:=atb b a)<|by
 have D:=Tu (b:=b) (a:=a);unfold atb atc ae2 b8 aeU zn aw aO dO ay pG iU bS ca PK bD Dq Bq Cq Wq Zq;refine⟨q,λh=>?_,λh=>⟨⟨(b.size+2,0,bJ b a,ah),⟨vj h,?_⟩,rfl,rfl,rfl,rfl,rfl,rfl,rfl,rfl,rfl,rfl⟩,λ⟨k,n,p,l⟩ ⟨_,E⟩=>?_⟩⟩
 .refine R8 ?_<|Fv h
  unfold fA;have c:(cR b a).1≠0:=Fv h;show(yL b (b.size+1+1) _).2.2.2=_;unfold yL;rw[show(! ah&&(cR b a).1==0)=ah by rw[oc c];rfl];rfl
 .have d:(cR b a).1=0:=vj h
  have e:cR b a=(0,0):=Prod.ext d (Tv d).1;refine⟨?_,⟨by dsimp only;omega,by dsimp only;omega⟩,⟨by dsimp only;omega,by dsimp only;omega⟩,λ_=>rfl,λ_ _=>⟨by dsimp only;omega,by dsimp only;omega⟩⟩;unfold fA;rw[e]
 dsimp only at E|-;have d:(cR b a).1=0:=vj h;refine⟨λi=>⟨λz=>⟨q,λo=>absurd o H,λ_=>⟨λm=>⟨λx=>?_,λx=>?_⟩,λm=>⟨λx=>?_,λx=>?_⟩⟩⟩,λz=>⟨q,λc=>?_,λc=>?_⟩⟩,λi=>?_⟩
 all_goals try have i:l=ah:=by simpa using i
 all_goals try subst i
 all_goals try obtain⟨F,rfl,u⟩:=akw q E
 all_goals have A:=E.2.1
 all_goals have B:=E.2.2.1
 all_goals dsimp only at A B
 .obtain⟨y,s,t⟩:=Cp z
  have v:pg b p=1:=by unfold pg;rw[m];rfl
  rw[y,wr Y Y]at x;have x:decide ((b.size)- (p+3)<1)=ab:=x;rw[CV z,v,y,x]at u;exact R8 (Z6 u<|show 5≠0 by decide) H
 .obtain⟨y,s,t⟩:=Cp z
  have v:pg b p=1:=by unfold pg;rw[m];rfl
  rw[y,wr Y Y]at x;have x:decide ((b.size)- (p+3)<1)=ah:=x;rw[CV z,v,y,x]at u;rw[y];exact⟨(F,n+1,p+3+1,iK b<|gO b p),⟨d,u⟩,CF _,rfl,wr Y Y,wr Y Y,rfl,rfl,rfl,rfl,rfl,rfl,rfl⟩
 .obtain⟨y,s,t⟩:=Cp z
  have v:pg b p=bP b p:=by unfold pg;rw[m];rfl
  have o:=Nv (b:=b) p;rw[v]at o;rw[y,wr Y Y]at x;have x:decide ((b.size)- (p+3)<bP b p)=ab:=x;rw[CV z,v,y,x]at u;exact R8 (Z6 u<|show 5≠0 by decide) H
 .obtain⟨y,s,t⟩:=Cp z
  have v:pg b p=bP b p:=by unfold pg;rw[m];rfl
  have o:=Nv (b:=b) p;rw[v]at o;rw[y,wr Y Y]at x;have x:decide ((b.size)- (p+3)<bP b p)=ah:=x;rw[CV z,v,y,x]at u;rw[y];exact⟨(F,n+1,p+3+bP b p,iK b<|gO b p),⟨d,u⟩,CF _,rfl,wr Y Y,wr Y Y,rfl,rfl,rfl,rfl,rfl,rfl,rfl⟩
 .have C:ik b p=ah:=by simpa using z
  rw[Z8 C]at u;exact R8 (Z6 (e:=(r b p).2.1) (f:=(r b p).2.2) u<|Fv c)<|Fv c
 .exact absurd (show ik b p=ab by unfold ik;rw[vj c];rfl) z
 .have i:l=ab:=by simpa using i
  subst i;obtain⟨w,_⟩:=R9 E rfl;have w:fA b a=(n,p,ab,0,0):=w.symm;refine⟨λj=>⟨λx=>?_,λx=>?_⟩,λj=>?_⟩
  .rw[wr Y Y]at x
   have g:jF b a=(5,(b.size:Int)):=by unfold jF;rw[w,j,x];rfl
   unfold qp qW;rw[g];exact⟨rfl,rfl,rfl,rfl⟩
  .rw[wr Y Y]at x
   have g:jF b a=(0,0):=by unfold jF;rw[w,j,x];rfl
   unfold qp qW;rw[g,j,w,wr Y Y];exact⟨rfl,rfl,rfl,rfl⟩
  .have g:jF b a=(0,0):=by unfold jF;rw[w,j];rfl
   unfold qp qW;rw[g,j,w];exact⟨rfl,rfl,rfl,rfl⟩⟩
def ayA:=m.cons aNn<| .cons aNm<|Zn
abbrev fI(c:Int):Prop:=(1<=n/\n<=2147483648)/\(1<=l/\l<=2147483648)/\(1<=c/\c<=2147483648)
def fJ:Int:=cond (decide (3<n)) 4<|cond (l==0) n<|n-1
def ff(a:Int):=fJ l a==3&&n==1
def dT(c v a:Int):Int:=cond (ff n v a) 0<|cond (decide (3<v)) (v-3)<|[n,l,c].getD (fJ v a).toNat<|n-1
def wc(a:Int):Int:=cond (ff n l a) 25 0
def gU(c v a:Int):Int:=dT n l c v a
def fb(c v a:Int):Int:=cond (fJ v a==0) l n
def fc(a b c v l:Int):Int:=cond (fJ v l==0||fJ v l==1) c b
def Cs(c p i:Int):N:=[n,cond (decide (i<1)&&decide (1<=p)) n l,cond (decide (i<2)&&decide (2<=p)) l c]
def agP:=Sp Unit [] λ_=>([],aE<|qT [1,4,8])
def agO:=Sp (Int×Int×Int) [.t] λ(a,b,c)=>([E<|fI a b c],aE<|B 0)
def aPN:=Sp (Int×Int×Int×Int×Int) [.t,.i,.i] λ(a,b,c,v,l)=>([E<|fI a b c,E<|1<=v/\v<=2147483651/\0<=l],.ite (E<|ff a v l=ah) (aE<|.tu [B<|dT a b c v l,qT [gU a b c v l,fb a b c v l,fc a b c v l],B 0])<|aE<|.tu [B 0,qT [a,b,c],B 25])
def aPM:=Sp (Int×Int×Int×Int×Int) [.t,.i,.i] λ(a,b,c,v,l)=>([E<|fI a b c,E<|1<=v/\v<=2147483651/\0<=l],.ite (E<|ff a v l=ah) (aE<|.tu [B<|dT a b c v l,qT [gU a b c v l,fb a b c v l,fc a b c v l],B 0])<|aE<|.tu [B 0,qT [0,0,0],B 25])
def auA:=Sp (Int×Int×Int×Int×Int) [.t,.i,.i] λ(a,b,c,v,l)=>([E<|fI a b c,E<|1<=v/\v<=2147483651/\0<=l],aE<|.tu [B<|dT a b c v l,B<|wc a v l])
def auC:=Sp (Int×Int×Int×Int×Int) [.t,.i,.i] λ(a,b,c,v,l)=>([E<|fI a b c,E<|1<=v/\v<=2147483651/\0<=l],.ite (E<|ff a v l=ah) (aE<|.tu [qT [gU a b c v l,fb a b c v l,fc a b c v l],B 0])<|aE<|.tu [qT [0,0,0],B 25])
def aRb:=Sp (Int×Int×Int×Int×Int) [.t,.i,.i] λ(a,b,c,v,l)=>([E<|fI a b c,E<|1<=v/\v<=2147483651/\0<=l],.ite (E<|ff a v l=ah) (aE<|.tu [B<|dT a b c v l,B<|cond (decide (3<=fJ v l)) 3<|fJ v l,B 0])<|aE<|.tu [B 0,B 0,B 25])
def aRa:=Sp (Int×Int×Int×Int×Int) [.t,.i,.i] λ(a,b,c,v,l)=>([E<|fI a b c,E<|1<=v/\v<=2147483651/\0<=l],aE<|B 0)
def wb(l:N):bm:=.iA 41<|.ints .i64 l
def aIu(c:Int):bO:=dX [(0,.one<|bi Nat λi=>(i<=3,[(3,fN ab),(14,qT [n,l,c]),(15,cP i)],[],3-i))]
def aIx(c:Int):bO:=dX [(0,.one<|bi Nat λi=>(i<=3,[(1,U 1001),(3,cP i)],[(1001,wb [n,l,c])],3-i))]
def aIv(c v a:Int):bO:=dX [
 (1007,jG (v<=3) [(3,U 1001),(7,U 1002),(9,U 1003),(10,B<|fJ v a)] [(1001,wb [n,l,c]),(1002,wb [0,0,0]),(1003,wb [n,l,c])]),
 (0,.one<|bi Nat λi=>(v<=3/\fJ v a<3/\i<=fJ v a,[(3,U 1001),(7,U 1002),(9,U 1003),(10,B<|fJ v a),(11,cP i)],[(1001,wb [n,l,c]),(1002,wb [0,0,0]),(1003,wb<|Cs n l c (fJ v a) i)],i))]
def aIy(c v a:Int):bO:=dX [
 (1006,jG (v<=3) [(3,U 1001),(9,B<|fJ v a)] [(1001,wb [n,l,c])])]
def aFV:bO:=λk=>cond (ap k 0) (O<|.rr 4) ae
end Go.Proofs.YtegnkfbnmepmpaaGreatDoor

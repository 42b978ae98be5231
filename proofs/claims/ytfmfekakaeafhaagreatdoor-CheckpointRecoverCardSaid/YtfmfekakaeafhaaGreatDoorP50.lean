/- A header slot, Recover of the program. -/
import Derived.Test.YtfmfekakaeafhaaGreatDoorP44
import Derived.Test.YtfmfekakaeafhaaGreatDoorP45
set_option linter.all false
set_option maxHeartbeats 128000000
namespace Go.Fw
open Go Go.Proofs Tryz List
open List renaming length->J
set_option maxRecDepth 100000
def Xyy (b:List UInt8):0<=(UM b).1.1/\0<=(UM b).1.2.1/\0<=(UM b).1.2.2.1/\0<=(UM b).1.2.2.2:=by
 have n:∀s,0<=(Ym s).1:=fun s=>by obtain⟨m,h,_⟩:=X4s s;omega
 unfold UM;simp only;split
 ·exact⟨Int.le_refl _,Int.le_refl _,Int.le_refl _,Int.le_refl _⟩
 ·exact⟨n _,n _,n _,n _⟩
def Xyq (b:List UInt8) (ts ep:Int) (hb:J b<=1000000):StaHold (X1t b ts ep).1:=by
 have hz:StaHold XT:=⟨X3A,Oc⟩
 unfold X1t;simp only;split
 ·exact hz
 ·unfold X3h;split
  ·exact hz
  ·have hg:=XeQ UJ (X0i ⟨0,b,0,0⟩).1.2.1;obtain⟨m0,hm0,_⟩:=X4s ⟨0,b,0,0⟩;have bL:=X7b.ok ⟨0,b,0,0⟩ ⟨Int.le_refl _,Oc⟩;have fc:=(X16.keep ⟨0,b,0,0⟩).2;have hL:=X7K X7X X61 (n:=m0) bL I3;refine⟨⟨hg.nl,hg.el,hg.nodes,hg.aj⟩,?_⟩;show J (UL Vy ⟨0,b,0,0⟩).1<=_;unfold UL;simp only;rw[hm0,Int.toNat_natCast];omega
def Xco (d:ak) (k:Nat) (hb:J (Vm d k)<=1000000):StaHold (Vb d k).1:=by
 have hz:StaHold XT:=⟨X3A,Oc⟩
 unfold Vb;simp only;split
 ·unfold X4Z;split
  ·exact hz
  ·exact Xyq _ _ _ Oz
 ·exact hz
def Xj0 (d:ak) (k:Nat) (hk:k<2) (hd:DOk d) (hf:Vx d) (aQ:16<=J d.aa):Con prog 48 [] [XY d,ai (k:Nat)] [] (.tup [Xz (Vb d k).1,ab (Vb d k).2]):=by
 refine ZCt func48 ntmps48 fun E=> ?_;have hfl:=X9M hd.v hf;have hrd:=Xf8 d (k:Nat) hfl;have hl:=X66 hd (a:=k) Oa;have hpa:=Xpo (YZ d (k:Nat)).1 Oa;have dB:=Xyy (YZ d (k:Nat)).1;have aD:=X5r (J d.aa:Nat);rw[X39 aQ I9] at aD;have bA:Xx d<=500:=by have:=hf.1;unfold Xx;omega
 have aU:J (d.aa.map Yd)=J d.aa:=LM ..;have aV:Xz XT= .agg [.d (.sl 3 []),.d (.sl 5 []),ai 0,ai 0,.d (.sl 6 []),ai 0,ai 0,ai 0]:=rfl;unfold Vb;simp only;generalize (YZ d (k:Nat)).2=z2 at*;generalize (YZ d (k:Nat)).1=b at*;generalize hP:UM b=p at*;by_cases q:p.2=true/\X2Q d k p.1
 case neg=>
  rw[NI q];simp only[aV];unfold X2Q at q;clear hP hfl hd hf hl aV;generalize Xx d=SN at*;generalize Xo d=LN at*;rw[<-aU] at aD;obtain⟨⟨e,t,sz,sm⟩,ok⟩:=p;obtain⟨secs,af,on⟩:=d;simp only[X9k] at*;have q':¬(ok=true/\1<=e/\e<=1000000000000000/\e%2=k/\t<=1000000000000000/\sz<=((SN*64:Nat):Int)):=q;clear q;by_cases c1:ok=true
  case neg=>
   have c1:ok=false:=IE
   subst c1;exact QQe
  subst c1;by_cases c2:e<1
  ·exact QQe
  by_cases c3:e>1000000000000000
  ·exact QQe
  by_cases c4:e%2=(k:Nat)
  case neg=>
   exact QQe
  by_cases c5:t>1000000000000000
  ·exact QQe
  have c6:sz>((SN*64:Nat):Int):=by
   by_cases h:sz>((SN*64:Nat):Int)
   ·exact h
   ·exact absurd ⟨rfl,Oa,Oa,c4,Oa,Oa⟩ q'
  refine XA ?_;refine Z5 (ag:=hrd) ?_;refine X4 ?_;refine YJ ?_;refine ZBM SN 64 ?_;refine XA ?_;exact QAe
 rw[PI q];obtain⟨p1,p2,p3,p4,p5,p6⟩:=q;unfold X4Z;have hA:Vm d k=Ug d (2+k*Xx d) (Xx d):=rfl;rw[hA];obtain⟨l1,l2,l3⟩:=X0m aQ;have l4:=X1L aQ hk;obtain⟨B,hB⟩:∃B:Nat->List UInt8,∀i,Ug d (2+k*Xx d) i=B i:=⟨_,fun _=>rfl⟩
 have fy:B 0=[]:=(hB 0).symm;have eD:∀i,B (i+1)=B i++(YZ d ((2+k*Xx d+i:Nat):Int)).1:=fun i=>by rw[<-hB,<-hB];exact X95 d i _
 have dJ:∀i,i<=Xx d->J (B i)=64*i:=fun i hi=>by rw[<-hB];exact X1j hd i _ Oa
 have hrl:∀i,i<Xx d->J (YZ d ((2+k*Xx d+i:Nat):Int)).1=64:=fun i hi=>X66 hd Oa;have hr:=fun a=>Xf8 d a hfl;rw[hB];have hsum:=X7V ((B (Xx d)).take p.1.2.2.1.toNat);have hres:=Xrg ((B (Xx d)).take p.1.2.2.1.toNat) p.1.2.1 p.1.1 (by rw[LT];have:=dJ _ (Nat.le_refl (Xx d));omega);clear hP hd hf hl hA hB hfl;generalize Xx d=SN at*;generalize Xo d=LN at*;rw[<-aU] at aD;obtain⟨⟨e,t,sz,sm⟩,ok⟩:=p;simp only at p1 p2 p3 p4 p5 p6 dB hres hsum |-;subst p1;obtain⟨N,rfl⟩:∃N:Nat,sz=N:=⟨sz.toNat,Oa⟩
 rw[Int.toNat_natCast] at*;obtain⟨secs,af,on⟩:=d;simp only[X9k] at*;have c2:¬e<1:=Oa
 have c3:¬e>1000000000000000:=Oa
 have c5:¬t>1000000000000000:=Oa
 have c6:¬(N:Int)>((SN*64:Nat):Int):=Oa
 refine XA ?_;refine Z5 (ag:=hrd) ?_;refine X4 ?_;refine YJ ?_;refine ZBM SN 64 ?_;refine Yr ?_;clear hrd hpa aD;refine X8 (Uo 13 130 1 rfl rfl rfl) ?_
 refine Xl (fun i:Nat=>i<=SN) (fun i=>⟨106,[(1,ai (k:Nat)),(2,.ptr 100 0),(4,.ptr 101 0),(8,.ptr 102 0),(10,ai (SN:Nat)),(13,.own 130 (J ((B i).map X6))),(68,ai (SN:Nat)),(69,ai i)],[(100,.box [.d (XS secs),.d (XW af),ab on]),(101,.box [aq,aq,ai 0,ai 0,aq,ai 0,ai 0,ai 0]),(102,.box [ai e,ai t,ai (N:Nat),ai sm]),(130,.row 1 ((B i).map X6))]⟩) (fun i=>SN-i) 0 (Nat.zero_le _)
  (X9 rfl ⟨JL,JL,JL,JL,JL,(by rw[fy];exact ZzV),JL,JL,TV⟩ ⟨rfl,rfl,rfl,(by rw[fy];rfl),TV⟩) ?_
 intro i hi;have bx:=dJ i hi;have hroom:J ((B i).map X6)<=1000000:=Oj
 by_cases hil:i<SN
 case pos=>
  have hn:(i:Int)<(SN:Nat):=Oa
  have fE:=hr ((2+k*SN+i:Nat):Int);have hst:=eD i;have sk:=hrl i hil;generalize (YZ ⟨secs,af,on⟩ ((2+k*SN+i:Nat):Int)).1=R at*;generalize (YZ ⟨secs,af,on⟩ ((2+k*SN+i:Nat):Int)).2=R2 at*;have dW:J (R.map X6)<=64:=Oj
  have uA:k*SN<=1*SN:=Nat.mul_le_mul_right _ Oa;clear hr eD dJ hrl hsum hres;refine YS ?_;refine ZBM k SN ?_;refine ZBA 2 (k*SN) ?_;refine W1_ ?_;refine ZBA (2+k*SN) i ?_;refine Z5 (ag:=fE) ?_;refine Yr ?_;refine⟨i+1,hil,Oa,?_⟩;dsimp only;rw[hst,map_append];exact X9 rfl ⟨JL,JL,JL,JL,JL,ZzQ OC,JL,JL,TV⟩ ⟨rfl,rfl,rfl,rfl,TV⟩
 obtain rfl:i=SN:=Oa
 have hn:¬((i:Nat):Int)<(i:Nat):=Oa
 have uB:N<=J ((B i).map X6):=Oj
 have hO:(((B i).map X6).take N).drop 0=((B i).take N).map X6:=I1
 clear hr eD dJ hrl fy hi hil;refine W8_ ?_;refine Qdc ?_;refine X8 (XX 13 130 rfl rfl rfl) ?_;unfold Xc at*;generalize (B i).take N=C at*;generalize XP C=SC at*;by_cases q2:(SC:Int)=sm
 case neg=>
  rw[PI q2];simp only[aV];clear hres;refine W4_ ?_;refine QRe ?_;refine Yh ?_;exact QAe
 rw[NI (by simpa using q2)];generalize X1t C t e=Y at*;obtain⟨⟨⟨yn,ye,ck,cm⟩,yr,yt,yp,yl⟩,yb⟩:=Y;simp only[Xz] at*;refine W4_ ?_;refine QRe ?_;refine YT ?_;exact QBe
def XcP {d:ak} (hd:DOk d) (hf:Vx d) (aQ:16<=J d.aa) {k:Nat} (hk:k<2):J (Vm d k)<=1000000:=by
 have l4:=X1L aQ hk;obtain⟨l1,l2,l3⟩:=X0m aQ;have:=hf.1;show J (Ug d (2+k*Xx d) (Xx d))<=_;rw[X1j hd _ _ Oa];have:Xx d<=500:=OZ
 omega
def X9z (d:ak) (hf:Vx d):Con prog 22 [] [XY d] [] (.tup [Xz (Vs d).1,ai (Vs d).2]):=by
 refine ZCt func22 ntmps22 fun E=> ?_;have hu:=XgJ d;have aV:Xz XT= .agg [.d (.sl 3 []),.d (.sl 5 []),ai 0,ai 0,.d (.sl 6 []),ai 0,ai 0,ai 0]:=rfl;by_cases q1:UH d=0
 case neg=>
  exact Yt57
 obtain⟨o1,o2,o3⟩:=X82 q1;rw[q1] at hu;have h0:=Xj0 d 0 Oi o1 hf o2;have h1:=Xj0 d 1 Oi o1 hf o2;have g0:=Xco d 0 (XcP o1 hf o2 Oi);have g1:=Xco d 1 (XcP o1 hf o2 Oi);have aD:=X5r (J d.aa:Nat);rw[X39 o2 o3] at aD;have aU:J (d.aa.map Yd)=J d.aa:=LM ..;have hpk:VD d=X38 (Vb d 0) (Vb d 1):=rfl;have aE:∀y,VD d=(y,true)->YH y=true:=fun y h=>by have:=(XjC (d:=d) (by rw[h])).1;rw[h] at this;exact this
 have hrc:∀y,VD d=(y,true)->Vs d=X2q y (V8 d (Xo d:Nat) (J d.aa:Nat) y.ep):=fun y h=>I4
 have fR:(VD d).2=false->Vs d=(XT,23):=fun h=>by unfold Vs;rw[NI OS,PI h]
 have hsc:∀y,YH y=true->(V8 d (Xo d:Nat) (J d.aa:Nat) y.ep).2.2=0:=fun y h=>by
  obtain⟨_,_,_,_,t2,t3,_⟩:=Vz.1 h;unfold V8;rw[XgY o1 o2 Oa t3];rfl
 rw[hpk] at aE hrc fR;generalize Vb d 0=X0 at*;generalize Vb d 1=X1 at*;obtain⟨s0,b0⟩:=X0;obtain⟨s1,b1⟩:=X1;simp only at h0 h1 g0 g1;cases b1 with
 |false=>
  cases b0 with
  |false=>
   rw[fR (by rfl)];simp only[aV];clear aE hrc fR hsc hpk o1 o2 g0 g1 hf;generalize Xx d=SN at*;generalize Xo d=LN at*;rw[<-aU] at aD;obtain⟨⟨nY,nZ,jS,jT⟩,jU,jV,eo,fj⟩:=s0;obtain⟨⟨ns1,es1,nn1,ne1⟩,rs1,ts1,ep1,tail1⟩:=s1;obtain⟨secs,af,on⟩:=d;simp only[Xz] at*;refine QSe ?_;refine Yh ?_;exact QAe
  |true=>
   have bk:X38 (s0,true) (s1,false)=(s0,true):=by rfl
   have hv:=aE s0 bk;rw[hrc s0 bk];have hs:=Xc7 d (Xo d:Nat) (J d.aa:Nat) s0.ep hf;have b5:=X6b (f:=(Xo d:Nat)) (t:=(J d.aa:Nat)) (ep:=s0.ep) hf;rw[hsc s0 hv] at hs;clear aE hrc fR hsc hpk bk hv o1 o2;generalize V8 d (Xo d:Nat) (J d.aa:Nat) s0.ep=A at*;obtain⟨l,a2,a3⟩:=A;simp only at hs b5;have aT:=X9j s0 l g0 b5.2 b5.1;unfold X2q;simp only;clear b5 g0 g1 hf;generalize Xx d=SN at*;generalize Xo d=LN at*;rw[<-aU] at aD hs;generalize Yf s0 l=G at*;obtain⟨⟨⟨yn,ye,ck,cm⟩,yr,yt,yp,yl⟩,ge⟩:=G
   skip
   obtain⟨⟨nY,nZ,jS,jT⟩,jU,jV,eo,fj⟩:=s0;obtain⟨⟨ns1,es1,nn1,ne1⟩,rs1,ts1,ep1,tail1⟩:=s1;obtain⟨secs,af,on⟩:=d;simp only[Xz,UD] at*;by_cases q3:ge=0
   case neg=>
    rw[PI q3];simp only[XT,map_nil];refine QSe ?_;refine X4 ?_;refine X1B ?_;exact QAe
   rw[NI Im];subst q3;refine QSe ?_;refine QYa ?_;refine W5_ ?_;exact QBe
 |true=>
  cases b0 with
  |false=>
   have bk:X38 (s0,false) (s1,true)=(s1,true):=PI ⟨rfl,.inl rfl⟩;have hv:=aE s1 bk;rw[hrc s1 bk];have hs:=Xc7 d (Xo d:Nat) (J d.aa:Nat) s1.ep hf;have b5:=X6b (f:=(Xo d:Nat)) (t:=(J d.aa:Nat)) (ep:=s1.ep) hf;rw[hsc s1 hv] at hs;clear aE hrc fR hsc hpk bk hv o1 o2;generalize V8 d (Xo d:Nat) (J d.aa:Nat) s1.ep=A at*;obtain⟨l,a2,a3⟩:=A;simp only at hs b5;have aT:=X9j s1 l g1 b5.2 b5.1;unfold X2q;simp only;clear b5 g0 g1 hf;generalize Xx d=SN at*;generalize Xo d=LN at*;rw[<-aU] at aD hs;generalize Yf s1 l=G at*;obtain⟨⟨⟨yn,ye,ck,cm⟩,yr,yt,yp,yl⟩,ge⟩:=G
   skip
   obtain⟨⟨nY,nZ,jS,jT⟩,jU,jV,eo,fj⟩:=s0;obtain⟨⟨ns1,es1,nn1,ne1⟩,rs1,ts1,ep1,tail1⟩:=s1;obtain⟨secs,af,on⟩:=d;simp only[Xz,UD] at*;by_cases q3:ge=0
   case neg=>
    rw[PI q3];simp only[XT,map_nil];refine QTe ?_;refine Y5 ?_;exact QAe
   rw[NI Im];subst q3;refine QTe ?_;refine U7 ?_;exact QBe
  |true=>
   by_cases c9:s0.ep<s1.ep
   ·skip
    have bk:X38 (s0,true) (s1,true)=(s1,true):=PI ⟨rfl,.inr c9⟩;have hv:=aE s1 bk;rw[hrc s1 bk];have hs:=Xc7 d (Xo d:Nat) (J d.aa:Nat) s1.ep hf;have b5:=X6b (f:=(Xo d:Nat)) (t:=(J d.aa:Nat)) (ep:=s1.ep) hf;rw[hsc s1 hv] at hs;clear aE hrc fR hsc hpk bk hv o1 o2;generalize V8 d (Xo d:Nat) (J d.aa:Nat) s1.ep=A at*;obtain⟨l,a2,a3⟩:=A;simp only at hs b5;have aT:=X9j s1 l g1 b5.2 b5.1;unfold X2q;simp only;clear b5 g0 g1 hf;generalize Xx d=SN at*;generalize Xo d=LN at*;rw[<-aU] at aD hs;generalize Yf s1 l=G at*;obtain⟨⟨⟨yn,ye,ck,cm⟩,yr,yt,yp,yl⟩,ge⟩:=G;have mT:s1.ep>s0.ep:=c9;obtain⟨⟨nY,nZ,jS,jT⟩,jU,jV,eo,fj⟩:=s0;obtain⟨⟨ns1,es1,nn1,ne1⟩,rs1,ts1,ep1,tail1⟩:=s1;obtain⟨secs,af,on⟩:=d;simp only[Xz,UD] at*;by_cases q3:ge=0
    case neg=>
     rw[PI q3];simp only[XT,map_nil];refine QTe ?_;refine Y5 ?_;exact QAe
    rw[NI Im];subst q3;refine QTe ?_;refine U7 ?_;exact QBe
   ·skip
    have bk:X38 (s0,true) (s1,true)=(s0,true):=NI (by rintro⟨_,h|h⟩;cases h;exact c9 h);have hv:=aE s0 bk;rw[hrc s0 bk];have hs:=Xc7 d (Xo d:Nat) (J d.aa:Nat) s0.ep hf;have b5:=X6b (f:=(Xo d:Nat)) (t:=(J d.aa:Nat)) (ep:=s0.ep) hf;rw[hsc s0 hv] at hs;clear aE hrc fR hsc hpk bk hv o1 o2;generalize V8 d (Xo d:Nat) (J d.aa:Nat) s0.ep=A at*;obtain⟨l,a2,a3⟩:=A;simp only at hs b5;have aT:=X9j s0 l g0 b5.2 b5.1;unfold X2q;simp only;clear b5 g0 g1 hf;generalize Xx d=SN at*;generalize Xo d=LN at*;rw[<-aU] at aD hs;generalize Yf s0 l=G at*;obtain⟨⟨⟨yn,ye,ck,cm⟩,yr,yt,yp,yl⟩,ge⟩:=G;have mT:¬s1.ep>s0.ep:=c9;obtain⟨⟨nY,nZ,jS,jT⟩,jU,jV,eo,fj⟩:=s0;obtain⟨⟨ns1,es1,nn1,ne1⟩,rs1,ts1,ep1,tail1⟩:=s1;obtain⟨secs,af,on⟩:=d;simp only[Xz,UD] at*;by_cases q3:ge=0
    case neg=>
     rw[PI q3];simp only[XT,map_nil];refine QTe ?_;refine Yb ?_;exact QAe
    rw[NI Im];subst q3;refine QTe ?_;refine YA ?_;exact QBe
end Go.Fw

/- A header slot, read by the reference. -/
import Derived.Test.YtfmfekakaeafhaaGreatDoorP48
import Derived.Test.YtfmfekakaeafhaaGreatDoorP49
import Derived.Test.YtfmfekakaeafhaaGreatDoorP54
import Derived.Test.YtfmfekakaeafhaaGreatDoorP56
import Derived.Test.YtfmfekakaeafhaaGreatDoorP58
set_option linter.all false
set_option maxHeartbeats 128000000
namespace Go.Fw
open Go Go.Proofs Tryz List
open List renaming length->J
set_option maxRecDepth 100000
def XoH (d:ak) (k:Nat) (hk:k<2) (hd:DOk d) (hf:Vx d) (aQ:16<=J d.aa):Con prog 50 [] [XY d,ai (k:Nat)] [] (.tup [Xz (X6H d k).1,ab (X6H d k).2]):=by
 refine ZCt func50 ntmps50 fun E=> ?_;have hfl:=X9M hd.v hf;have hrd:=Xgk d (k:Nat) hfl;have hl:=X66 hd (a:=k) Oa;have hun:=XkC (YZ d (k:Nat)).1 0 Oa;have fL:=X8D (YZ d (k:Nat)).1 0;have aD:=X6n (J d.aa:Nat);rw[X39 aQ I9] at aD;have bA:Xx d<=500:=by have:=hf.1;unfold Xx;omega
 have aU:J (d.aa.map Yd)=J d.aa:=LM ..;have aV:Xz XT= .agg [.d (.sl 3 []),.d (.sl 5 []),ai 0,ai 0,.d (.sl 6 []),ai 0,ai 0,ai 0]:=rfl;obtain⟨l1,l2,l3⟩:=X0m aQ;have l4:=X1L aQ hk;have hr:=fun a=>Xgk d a hfl;have hA:Vm d k=Ug d (2+k*Xx d) (Xx d):=rfl;obtain⟨B,hB⟩:∃B:Nat->List UInt8,∀i,Ug d (2+k*Xx d) i=B i:=⟨_,fun _=>rfl⟩
 have fy:B 0=[]:=(hB 0).symm;have eD:∀i,B (i+1)=B i++(YZ d ((2+k*Xx d+i:Nat):Int)).1:=fun i=>by rw[<-hB,<-hB];exact X95 d i _
 have dJ:∀i,i<=Xx d->J (B i)=64*i:=fun i hi=>by rw[<-hB];exact X1j hd i _ Oa
 have hrl:∀i,i<Xx d->J (YZ d ((2+k*Xx d+i:Nat):Int)).1=64:=fun i hi=>X66 hd Oa;unfold X6H X2Q;simp only;rw[hA,hB];generalize (YZ d (k:Nat)).2=z2 at*;generalize (YZ d (k:Nat)).1=b at*;generalize Y8 b 0=u at*;obtain⟨u,ue,uf⟩:=u;simp only at fL hun |-;have h1:=X3e u 0 Oa;have o1:=X7k u 0;generalize Xd u 0=r at*;obtain⟨n1,a1,e1⟩:=r;simp only[aN3] at h1 o1 |-;have h2:=X3e u a1 Oa;have o2:=X7k u a1;generalize Xd u a1=r at*;obtain⟨n2,a2,e2⟩:=r;simp only[aN3] at h2 o2 |-;have h3:=X3e u a2 Oa;have o3:=X7k u a2;generalize Xd u a2=r at*;obtain⟨n3,a3,e3⟩:=r;simp only[aN3] at h3 o3 |-;clear hd hf hl hA hB hfl;generalize Xx d=SN at*;generalize Xo d=LN at*;rw[<-aU] at aD;obtain⟨secs,af,on⟩:=d;by_cases q:uf=0/\e1=0/\e2=0/\e3=0/\1<=n1/\n1<=1000000000000000/\n1%2=(k:Nat)/\n2<=1000000000000000/\n3<=((SN*64:Nat):Int)
 case neg=>
  rw[NI q];simp only[aV];clear hr fy eD dJ hrl aV;refine YA ?_;refine Z5 (ag:=hrd) ?_;refine Y5 ?_;refine Z5 (ag:=h1) ?_;refine XG ?_;refine Z5 (ag:=h2) ?_;refine XG ?_;refine Z5 (ag:=h3) ?_;refine XA ?_;clear aD hrd hun h1 h2 h3 fL;by_cases c0:uf=0
  case neg=>
   exact Qhf
  subst c0;by_cases d1:e1=0
  case neg=>
   exact Qhf
  subst d1;by_cases d2:e2=0
  case neg=>
   exact Qhf
  subst d2;by_cases d3:e3=0
  case neg=>
   exact Qhf
  subst d3;by_cases c2:n1<1
  ·exact Qhf
  by_cases c3:n1>1000000000000000
  ·exact Qhf
  by_cases c4:n1%2=(k:Nat)
  case neg=>
   exact Qhf
  by_cases c5:n2>1000000000000000
  ·exact Qhf
  have c6:n3>((SN*64:Nat):Int):=by
   by_cases h:n3>((SN*64:Nat):Int)
   ·exact h
   ·exact absurd ⟨rfl,rfl,rfl,rfl,Oa,Oa,c4,Oa,Oa⟩ q
  refine X04 ?_;refine ZBM SN 64 ?_;refine XA ?_;exact QAe
 rw[PI q];obtain⟨rfl,rfl,rfl,rfl,p1,p2,p3,p4,p5⟩:=q;obtain⟨N,rfl⟩:∃N:Nat,n3=N:=⟨n3.toNat,by have:=o3.1;omega⟩
 rw[Int.toNat_natCast] at*;have je:J ((B SN).take N)=N:=by rw[LT];have:=dJ _ (Nat.le_refl SN);omega
 have uM:=X5C ((B SN).take N);have uN:=XnN n1 n2 ((B SN).take N) (by
  intro x hx;simp only[mem_cons,mem_nil_iff,or_false] at hx;rcases hx with rfl|rfl|rfl|rfl
  ·exact⟨o1.1,o1.2⟩
  ·exact⟨o2.1,o2.2⟩
  ·omega
  ·omega)
 have hres:=Xwz ((B SN).take N) Oa;have c2:¬n1<1:=Oa
 have c3:¬n1>1000000000000000:=Oa
 have c5:¬n2>1000000000000000:=Oa
 have c6:¬(N:Int)>((SN*64:Nat):Int):=Oa
 clear o1 o2 o3 uM fL;refine YA ?_;refine Z5 (ag:=hrd) ?_;refine Y5 ?_;refine Z5 (ag:=h1) ?_;refine XG ?_;refine Z5 (ag:=h2) ?_;refine XG ?_;refine Z5 (ag:=h3) ?_;refine QS ?_;refine ZBM SN 64 ?_;refine Ya ?_;clear aD hrd hun h1 h2 h3;refine X8 (Uo 23 130 1 rfl rfl rfl) ?_
 refine Xl (fun i:Nat=>i<=SN) (fun i=>⟨151,[(1,ai (k:Nat)),(2,.ptr 100 0),(4,.ptr 101 0),(6,ai (SN:Nat)),(9,.d (Xc b)),(14,ai n1),(17,ai n2),(20,ai (N:Nat)),(23,.own 130 (J ((B i).map X6))),(24,ai i)],[(100,.box [.d (XS secs),.d (XW af),ab on]),(101,.box [aq,aq,ai 0,ai 0,aq,ai 0,ai 0,ai 0]),(130,.row 1 ((B i).map X6))]⟩) (fun i=>SN-i) 0 (Nat.zero_le _)
  (X9 rfl ⟨JL,JL,JL,JL,JL,JL,JL,JL,(by rw[fy];exact ZzV),JL,TV⟩ ⟨rfl,rfl,(by rw[fy];rfl),TV⟩) ?_
 intro i hi;have bx:=dJ i hi;have hroom:J ((B i).map X6)<=1000000:=Oj
 by_cases hil:i<SN
 case pos=>
  have hn:(i:Int)<(SN:Nat):=Oa
  have fE:=hr ((2+k*SN+i:Nat):Int);have hst:=eD i;have sk:=hrl i hil;generalize (YZ ⟨secs,af,on⟩ ((2+k*SN+i:Nat):Int)).1=R at*;generalize (YZ ⟨secs,af,on⟩ ((2+k*SN+i:Nat):Int)).2=R2 at*;have dW:J (R.map X6)<=64:=Oj
  have uA:k*SN<=1*SN:=Nat.mul_le_mul_right _ Oa;clear hr eD dJ hrl uN hres;refine Yr ?_;refine ZBM k SN ?_;refine ZBA 2 (k*SN) ?_;refine W1_ ?_;refine ZBA (2+k*SN) i ?_;refine Z5 (ag:=fE) ?_;refine Yb ?_;refine⟨i+1,hil,Oa,?_⟩;dsimp only;rw[hst,map_append];exact X9 rfl ⟨JL,JL,JL,JL,JL,JL,JL,JL,ZzQ OC,JL,TV⟩ ⟨rfl,rfl,rfl,TV⟩
 obtain rfl:i=SN:=Oa
 have hn:¬((i:Nat):Int)<(i:Nat):=Oa
 have uB:N<=J ((B i).map X6):=Oj
 have hO:(((B i).map X6).take N).drop 0=((B i).take N).map X6:=I1
 clear hr eD dJ hrl fy hi hil;refine Qge ?_;refine X8 (XX 23 130 rfl rfl rfl) ?_;unfold Xc at*;unfold X9L;generalize (B i).take N=C at*;generalize Vj n1 n2 (J C:Nat) (XP C:Nat)=HB at*;by_cases q2:HB=b
 case neg=>
  rw[NI q2];simp only[aV];clear hres;have q3:decide (HB≠b)=true:=DT q2;refine W5_ ?_;refine QRe ?_;refine XK ?_;exact QAe
 rw[PI q2];have q3:decide (HB≠b)=false:=DF Il;generalize X0l C 0 1=Y at*;obtain⟨⟨⟨yn,ye,ck,cm⟩,yr,yt,yp,yl⟩,yb⟩:=Y;simp only[Xz] at*;refine W5_ ?_;refine QRe ?_;refine XG ?_;refine QRe ?_;refine YT ?_;exact QBe
def XxH (d:ak) (hf:Vx d):Con prog 24 [] [XY d] [] (.tup [Xz (Vs d).1,ai (Vs d).2]):=by
 refine ZCt func24 ntmps24 fun E=> ?_;have hu:=Xgo d;have aV:Xz XT= .agg [.d (.sl 3 []),.d (.sl 5 []),ai 0,ai 0,.d (.sl 6 []),ai 0,ai 0,ai 0]:=rfl;by_cases q1:UH d=0
 case neg=>
  exact Yt57
 obtain⟨o1,o2,o3⟩:=X82 q1;rw[q1] at hu;have h0:=XoH d 0 Oi o1 hf o2;have h1:=XoH d 1 Oi o1 hf o2;have w0:=Xjx o1 o2 (k:=0) Oi;have w1:=Xjx o1 o2 (k:=1) Oi;have g0:=Xco d 0 (XcP o1 hf o2 Oi);have g1:=Xco d 1 (XcP o1 hf o2 Oi);have aD:=X6n (J d.aa:Nat);rw[X39 o2 o3] at aD;have aU:J (d.aa.map Yd)=J d.aa:=LM ..;have hpk:VD d=X38 (Vb d 0) (Vb d 1):=rfl;have hrc:∀y,VD d=(y,true)->Vs d=X2q y (V8 d (Xo d:Nat) (J d.aa:Nat) y.ep):=fun y h=>I4
 have fR:(VD d).2=false->Vs d=(XT,23):=fun h=>by unfold Vs;rw[NI OS,PI h]
 rw[hpk] at hrc fR;clear hpk q1 o1 o2 o3;generalize X6H d 0=Y0 at*;generalize X6H d 1=Y1 at*;generalize Vb d 0=X0 at*;generalize Vb d 1=X1 at*;obtain⟨s0,b0⟩:=X0;obtain⟨s1,b1⟩:=X1;obtain⟨y0,c0⟩:=Y0;obtain⟨y1,c1⟩:=Y1;simp only at h0 h1 g0 g1 w0 w1;obtain⟨u0,w0⟩:=w0;obtain⟨u1,w1⟩:=w1;rw[u0] at h0;rw[u1] at h1;cases b1 with
 |false=>
  cases b0 with
  |false=>
   rw[fR (by rfl)];simp only[aV];clear hrc fR w0 w1 u0 u1 g0 g1 hf;generalize Xx d=SN at*;generalize Xo d=LN at*;rw[<-aU] at aD;obtain⟨⟨ot,ou,ov,ow⟩,ox,oy,oz,jq⟩:=y0;obtain⟨⟨m1s,f1s,mm1,me1⟩,rq1,tq1,eq1,taiq1⟩:=y1;obtain⟨secs,af,on⟩:=d;simp only[Xz] at*;refine Qif ?_;refine YA ?_;exact QAe
  |true=>
   rw[show y0=s0 from CG Prod.fst (w0 (by rfl))] at h0;have bk:X38 (s0,true) (s1,false)=(s0,true):=by rfl
   rw[hrc s0 bk];have hs:=XcS d (Xo d:Nat) (J d.aa:Nat) s0.ep hf;have b5:=X6b (f:=(Xo d:Nat)) (t:=(J d.aa:Nat)) (ep:=s0.ep) hf;clear hrc fR bk w0 w1 u0 u1;generalize V8 d (Xo d:Nat) (J d.aa:Nat) s0.ep=A at*;obtain⟨l,a2,a3⟩:=A;simp only at hs b5;have aT:=X8U s0 l g0 b5.2 b5.1;unfold X2q;simp only;clear b5 g0 g1 hf;generalize Xx d=SN at*;generalize Xo d=LN at*;rw[<-aU] at aD hs;generalize Yf s0 l=G at*;obtain⟨⟨⟨yn,ye,ck,cm⟩,yr,yt,yp,yl⟩,ge⟩:=G;obtain⟨⟨n0s,e0s,jS,jT⟩,jU,jV,eo,fj⟩:=s0;obtain⟨⟨n1s,e1s,nn1,ne1⟩,rs1,ts1,ep1,tail1⟩:=s1;obtain⟨⟨ot,ou,ov,ow⟩,ox,oy,oz,jq⟩:=y0;obtain⟨⟨m1s,f1s,mm1,me1⟩,rq1,tq1,eq1,taiq1⟩:=y1;obtain⟨secs,af,on⟩:=d;simp only[Xz,UD] at*;by_cases q3:ge=0
   case neg=>
    rw[PI q3];simp only[XT,map_nil];refine Qjf ?_;refine XD ?_;exact QAe
   rw[NI Im];subst q3;refine Qjf ?_;refine Y5 ?_;exact QBe
 |true=>
  rw[show y1=s1 from CG Prod.fst (w1 (by rfl))] at h1;cases b0 with
  |false=>
   have bk:X38 (s0,false) (s1,true)=(s1,true):=PI ⟨rfl,.inl rfl⟩;rw[hrc s1 bk];have hs:=XcS d (Xo d:Nat) (J d.aa:Nat) s1.ep hf;have b5:=X6b (f:=(Xo d:Nat)) (t:=(J d.aa:Nat)) (ep:=s1.ep) hf;clear hrc fR bk w0 w1 u0 u1;generalize V8 d (Xo d:Nat) (J d.aa:Nat) s1.ep=A at*;obtain⟨l,a2,a3⟩:=A;simp only at hs b5;have aT:=X8U s1 l g1 b5.2 b5.1;unfold X2q;simp only;clear b5 g0 g1 hf;generalize Xx d=SN at*;generalize Xo d=LN at*;rw[<-aU] at aD hs;generalize Yf s1 l=G at*;obtain⟨⟨⟨yn,ye,ck,cm⟩,yr,yt,yp,yl⟩,ge⟩:=G;obtain⟨⟨n0s,e0s,jS,jT⟩,jU,jV,eo,fj⟩:=s0;obtain⟨⟨n1s,e1s,nn1,ne1⟩,rs1,ts1,ep1,tail1⟩:=s1;obtain⟨⟨ot,ou,ov,ow⟩,ox,oy,oz,jq⟩:=y0;obtain⟨⟨m1s,f1s,mm1,me1⟩,rq1,tq1,eq1,taiq1⟩:=y1;obtain⟨secs,af,on⟩:=d;simp only[Xz,UD] at*;by_cases q3:ge=0
   case neg=>
    rw[PI q3];simp only[XT,map_nil];refine Qif ?_;refine YT ?_;refine QUd ?_;refine Qna ?_;exact QAe
   rw[NI Im];subst q3;refine Qif ?_;refine YT ?_;refine QUd ?_;refine QBa ?_;exact QBe
  |true=>
   rw[show y0=s0 from CG Prod.fst (w0 (by rfl))] at h0;by_cases c9:s0.ep<s1.ep
   ·skip
    have bk:X38 (s0,true) (s1,true)=(s1,true):=PI ⟨rfl,.inr c9⟩;rw[hrc s1 bk];have hs:=XcS d (Xo d:Nat) (J d.aa:Nat) s1.ep hf;have b5:=X6b (f:=(Xo d:Nat)) (t:=(J d.aa:Nat)) (ep:=s1.ep) hf;clear hrc fR bk w0 w1 u0 u1;generalize V8 d (Xo d:Nat) (J d.aa:Nat) s1.ep=A at*;obtain⟨l,a2,a3⟩:=A;simp only at hs b5;have aT:=X8U s1 l g1 b5.2 b5.1;unfold X2q;simp only;clear b5 g0 g1 hf;generalize Xx d=SN at*;generalize Xo d=LN at*;rw[<-aU] at aD hs;generalize Yf s1 l=G at*;obtain⟨⟨⟨yn,ye,ck,cm⟩,yr,yt,yp,yl⟩,ge⟩:=G;have mT:s1.ep>s0.ep:=c9;obtain⟨⟨n0s,e0s,jS,jT⟩,jU,jV,eo,fj⟩:=s0;obtain⟨⟨n1s,e1s,nn1,ne1⟩,rs1,ts1,ep1,tail1⟩:=s1;obtain⟨⟨ot,ou,ov,ow⟩,ox,oy,oz,jq⟩:=y0;obtain⟨⟨m1s,f1s,mm1,me1⟩,rq1,tq1,eq1,taiq1⟩:=y1;obtain⟨secs,af,on⟩:=d;simp only[Xz,UD] at*;by_cases q3:ge=0
    case neg=>
     rw[PI q3];simp only[XT,map_nil];refine Qjf ?_;refine Yb ?_;exact QAe
    rw[NI Im];subst q3;refine Qjf ?_;refine YA ?_;exact QBe
   ·skip
    have bk:X38 (s0,true) (s1,true)=(s0,true):=NI (by rintro⟨_,h|h⟩;cases h;exact c9 h);rw[hrc s0 bk];have hs:=XcS d (Xo d:Nat) (J d.aa:Nat) s0.ep hf;have b5:=X6b (f:=(Xo d:Nat)) (t:=(J d.aa:Nat)) (ep:=s0.ep) hf;clear hrc fR bk w0 w1 u0 u1;generalize V8 d (Xo d:Nat) (J d.aa:Nat) s0.ep=A at*;obtain⟨l,a2,a3⟩:=A;simp only at hs b5;have aT:=X8U s0 l g0 b5.2 b5.1;unfold X2q;simp only;clear b5 g0 g1 hf;generalize Xx d=SN at*;generalize Xo d=LN at*;rw[<-aU] at aD hs;generalize Yf s0 l=G at*;obtain⟨⟨⟨yn,ye,ck,cm⟩,yr,yt,yp,yl⟩,ge⟩:=G;have mT:¬s1.ep>s0.ep:=c9;obtain⟨⟨n0s,e0s,jS,jT⟩,jU,jV,eo,fj⟩:=s0;obtain⟨⟨n1s,e1s,nn1,ne1⟩,rs1,ts1,ep1,tail1⟩:=s1;obtain⟨⟨ot,ou,ov,ow⟩,ox,oy,oz,jq⟩:=y0;obtain⟨⟨m1s,f1s,mm1,me1⟩,rq1,tq1,eq1,taiq1⟩:=y1;obtain⟨secs,af,on⟩:=d;simp only[Xz,UD] at*;by_cases q3:ge=0
    case neg=>
     rw[PI q3];simp only[XT,map_nil];refine Qjf ?_;refine XD ?_;exact QAe
    rw[NI Im];subst q3;refine Qjf ?_;refine Y5 ?_;exact QBe
def XrX (d:ak):StaHold (Vs d).1:=by
 by_cases q:(Vs d).2=0
 ·obtain⟨s0,m,hC⟩:=Rec.of (d:=d) (s:=(Vs d).1) (Prod.ext rfl q);exact X6j hC.kept.1
 ·have:(Vs d).1=XT:=by grind [Vs,X2q]
  rw[this];exact⟨X3A,Oc⟩
def XuS (d:ak):Con prog 5 [] [XY d] [] (ab true):=by
 refine ZC1 func5 ntmps5 fun E=> ?_;have ha:=XbC;have hsh:=Xgz d;by_cases q1:X4P d=true
 case neg=>
  rw[show X4P d=false by simpa using q1] at hsh;obtain⟨secs,af,on⟩:=d;refine Yh ?_
  (exact Zz2)
 rw[q1] at hsh;obtain⟨n1,n2⟩:=Xhc q1;have h1:=X9z d ⟨Oa,Oa⟩;have h2:=XxH d ⟨Oa,Oa⟩;have h3:=X8E (Vs d).1 (XrX d);clear q1 n1 n2;generalize Vs d=A at*;obtain⟨⟨⟨ns,es,nn,ne⟩,rs,ts,ep,tail⟩,e⟩:=A;obtain⟨secs,af,on⟩:=d;simp only[Xz] at*;refine Qxa ?_
 (exact Zz2)
end Go.Fw

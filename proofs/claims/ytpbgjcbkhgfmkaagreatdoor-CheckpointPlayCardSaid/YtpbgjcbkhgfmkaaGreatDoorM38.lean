/- A header slot, Recover of the program. -/
import Derived.KernelRfl
import Derived.Test.YtpbgjcbkhgfmkaaGreatDoorM37
set_option maxHeartbeats 128000000
namespace Go.Fw
open Go Go.Proofs Tryz List
set_option maxRecDepth 100000
set_option linter.unusedVariables false
set_option linter.unusedSimpArgs false
theorem Xr9 (b:List UInt8):0<=(YZ b).1.1/\0<=(YZ b).1.2.1/\0<=(YZ b).1.2.2.1/\0<=(YZ b).1.2.2.2:=by
 have n:∀s,0<=(YF s).1:=fun s=>by obtain⟨m,h,_⟩:=X5R s;omega
 unfold YZ;simp only;split
 ·exact⟨Int.le_refl _,Int.le_refl _,Int.le_refl _,Int.le_refl _⟩
 ·exact⟨n _,n _,n _,n _⟩
theorem Xoh (b:List UInt8) (ts ep:Int) (hb:b.length<=1000000):StaHold (X1E b ts ep).1:=by
 have hz:StaHold Yd:=⟨X2Y,by simp⟩
 unfold X1E;simp only;split
 ·exact hz
 ·unfold X8i;split
  ·exact hz
  ·have hg:=XhI UA (X66 ⟨0,b,0,0⟩).1.2.1;obtain⟨m0,hm0,_⟩:=X5R ⟨0,b,0,0⟩;have iA:=XeZ.ok ⟨0,b,0,0⟩ ⟨Int.le_refl _,by simp⟩;have jA:=(X4L.keep ⟨0,b,0,0⟩).2;have hL:=Xfr XfE XaM (n:=m0) iA (by rw[jA];simp only;omega);refine⟨⟨hg.nl,hg.el,hg.nodes,hg.aj⟩,?_⟩;show(X16 X1X ⟨0,b,0,0⟩).1.length<=_;unfold X16;simp only;rw[hm0,Int.toNat_natCast];omega
theorem Xhw (d:ak) (k:Nat) (hb:(X0D d k).length<=1000000):StaHold (Vd d k).1:=by
 have hz:StaHold Yd:=⟨X2Y,by simp⟩
 unfold Vd;simp only;split
 ·unfold X4D;split
  ·exact hz
  ·exact Xoh _ _ _ (by rw[LT];omega)
 ·exact hz
theorem Xhq (d:ak) (k:Nat) (hk:k<2) (hd:DOk d) (hf:VB d) (aL:16<=d.aa.length):Con prog 59 [] [XU d,ai (k:Nat)] [] (.tup [Xy (Vd d k).1,ab (Vd d k).2]):=by
 refine ZCt func59 ntmps59 fun E=> ?_;have hfl:=XaV hd.v hf;have hrd:=XfB d (k:Nat) hfl;have hl:=X6g hd (a:=k) (by omega);have hpa:=Xo6 (Yo d (k:Nat)).1 (by omega);have dF:=Xr9 (Yo d (k:Nat)).1;have aC:=X3P (d.aa.length:Nat);rw[X37 aL (by have:=hf.1;omega)] at aC;have bD:Xt d<=500:=by have:=hf.1;unfold Xt;omega
 have aM:(d.aa.map XV).length=d.aa.length:=LM ..;have aS:Xy Yd= .agg [.d (.sl 3 []),.d (.sl 5 []),ai 0,ai 0,.d (.sl 6 []),ai 0,ai 0,ai 0]:=rfl;unfold Vd;simp only;generalize (Yo d (k:Nat)).2=z2 at*;generalize (Yo d (k:Nat)).1=b at*;generalize hP:YZ b=p at*;by_cases q:p.2=true/\X3T d k p.1
 case neg=>
  rw[NI q];simp only[aS];unfold X3T at q;clear hP hfl hd hf hl aS;generalize Xt d=SN at*;generalize X9 d=LN at*;rw[<-aM] at aC;obtain⟨⟨e,t,sz,sm⟩,ok⟩:=p;obtain⟨secs,ag,on⟩:=d;simp only[Xa3] at*;have q':¬(ok=true/\1<=e/\e<=1000000000000000/\e%2=k/\t<=1000000000000000/\sz<=((SN*64:Nat):Int)):=q;clear q;by_cases c1:ok=true
  case neg=>
   have c1:ok=false:=by simpa using c1
   subst c1;exact QQd
  subst c1;by_cases c2:e<1
  ·exact QQd
  by_cases c3:e>1000000000000000
  ·exact QQd
  by_cases c4:e%2=(k:Nat)
  case neg=>
   exact QQd
  by_cases c5:t>1000000000000000
  ·exact QQd
  have c6:sz>((SN*64:Nat):Int):=by
   by_cases h:sz>((SN*64:Nat):Int)
   ·exact h
   ·exact absurd ⟨rfl,by omega,by omega,c4,by omega,by omega⟩ q'
  refine XA ?_;refine Z3 (af:=hrd) ?_;refine X7 ?_;refine Yw ?_;refine ZBM SN 64 ?_;refine XA ?_;exact QJd
 rw[PI q];obtain⟨p1,p2,p3,p4,p5,p6⟩:=q;unfold X4D;have hA:X0D d k=U6 d (2+k*Xt d) (Xt d):=rfl;rw[hA];obtain⟨l1,l2,l3⟩:=Vm aL;have l4:=X1l aL hk;obtain⟨B,hB⟩:∃B:Nat->List UInt8,∀i,U6 d (2+k*Xt d) i=B i:=⟨_,fun _=>rfl⟩
 have gF:B 0=[]:=(hB 0).symm;have fW:∀i,B (i+1)=B i++(Yo d ((2+k*Xt d+i:Nat):Int)).1:=fun i=>by rw[<-hB,<-hB];exact Xa6 d i _
 have fB:∀i,i<=Xt d->(B i).length=64*i:=fun i hi=>by rw[<-hB];exact X0Y hd i _ (by omega)
 have hrl:∀i,i<Xt d->(Yo d ((2+k*Xt d+i:Nat):Int)).1.length=64:=fun i hi=>X6g hd (by omega);have hr:=fun a=>XfB d a hfl;rw[hB];have hsum:=X8h ((B (Xt d)).take p.1.2.2.1.toNat);have hres:=Xpm ((B (Xt d)).take p.1.2.2.1.toNat) p.1.2.1 p.1.1 (by rw[LT];have:=fB _ (Nat.le_refl (Xt d));omega);clear hP hd hf hl hA hB hfl;generalize Xt d=SN at*;generalize X9 d=LN at*;rw[<-aM] at aC;obtain⟨⟨e,t,sz,sm⟩,ok⟩:=p;simp only at p1 p2 p3 p4 p5 p6 dF hres hsum |-;subst p1;obtain⟨N,rfl⟩:∃N:Nat,sz=N:=⟨sz.toNat,by omega⟩
 rw[Int.toNat_natCast] at*;obtain⟨secs,ag,on⟩:=d;simp only[Xa3] at*;have c2:¬e<1:=by omega
 have c3:¬e>1000000000000000:=by omega
 have c5:¬t>1000000000000000:=by omega
 have c6:¬(N:Int)>((SN*64:Nat):Int):=by omega
 refine XA ?_;refine Z3 (af:=hrd) ?_;refine X7 ?_;refine Yw ?_;refine ZBM SN 64 ?_;refine Yg ?_;clear hrd hpa aC;refine X8 (Uu 13 130 1 rfl rfl rfl) ?_
 refine Xn (fun i:Nat=>i<=SN) (fun i=>⟨106,[(1,ai (k:Nat)),(2,.ptr 100 0),(4,.ptr 101 0),(8,.ptr 102 0),(10,ai (SN:Nat)),(13,.own 130 ((B i).map X5).length),(68,ai (SN:Nat)),(69,ai i)],[(100,.box [.d (XL secs),.d (XS ag),ab on]),(101,.box [aq,aq,ai 0,ai 0,aq,ai 0,ai 0,ai 0]),(102,.box [ai e,ai t,ai (N:Nat),ai sm]),(130,.row 1 ((B i).map X5))]⟩) (fun i=>SN-i) 0 (Nat.zero_le _)
  (Xb rfl ⟨JL,JL,JL,JL,JL,(by rw[gF];exact AVal.le_refl _),JL,JL,TV⟩ ⟨rfl,rfl,rfl,(by rw[gF];rfl),TV⟩) ?_
 intro i hi;have bu:=fB i hi;have hroom:((B i).map X5).length<=1000000:=by rw[LM];omega
 by_cases hil:i<SN
 case pos=>
  have hn:(i:Int)<(SN:Nat):=by omega
  have fL:=hr ((2+k*SN+i:Nat):Int);have hst:=fW i;have uu:=hrl i hil;generalize (Yo ⟨secs,ag,on⟩ ((2+k*SN+i:Nat):Int)).1=R at*;generalize (Yo ⟨secs,ag,on⟩ ((2+k*SN+i:Nat):Int)).2=R2 at*;have eW:(R.map X5).length<=64:=by rw[LM];omega
  have uY:k*SN<=1*SN:=Nat.mul_le_mul_right _ (by omega);clear hr fW fB hrl hsum hres;refine YR ?_;refine ZBM k SN ?_;refine ZBA 2 (k*SN) ?_;refine W1_ ?_;refine ZBA (2+k*SN) i ?_;refine Z3 (af:=fL) ?_;refine Yg ?_;refine⟨i+1,hil,by omega,?_⟩;dsimp only;rw[hst,map_append];exact Xb rfl ⟨JL,JL,JL,JL,JL,AVal.le_of_eq (by refine Eq.trans (b:=AVal.own 130 (_+_)) rfl ?_;simp only[LA,LM]),JL,JL,TV⟩ ⟨rfl,rfl,rfl,rfl,TV⟩
 obtain rfl:i=SN:=by omega
 have hn:¬((i:Nat):Int)<(i:Nat):=by omega
 have lq:N<=((B i).map X5).length:=by rw[LM];omega
 have ir:(((B i).map X5).take N).drop 0=((B i).take N).map X5:=by rw[drop_zero,map_take]
 clear hr fW fB hrl gF hi hil;refine W8_ ?_;refine Qwb ?_;refine X8 (Y7 13 130 rfl rfl rfl) ?_;unfold Xg at*;generalize (B i).take N=C at*;generalize XT C=SC at*;by_cases q2:(SC:Int)=sm
 case neg=>
  rw[PI q2];simp only[aS];clear hres;refine W4_ ?_;refine Z6 (lb:=0) (hb:=N) (ys:=C.map X5) ?_ (hys:=by exact ir);refine Yf ?_;exact QJd
 rw[NI (by simpa using q2)];generalize X1E C t e=Y at*;obtain⟨⟨⟨yn,ye,cB,cC⟩,yr,yt,yp,yl⟩,yb⟩:=Y;simp only[Xy] at*;refine W4_ ?_;refine Z6 (lb:=0) (hb:=N) (ys:=C.map X5) ?_ (hys:=by exact ir);refine U1 ?_;exact QId
theorem XhC {d:ak} (hd:DOk d) (hf:VB d) (aL:16<=d.aa.length) {k:Nat} (hk:k<2):(X0D d k).length<=1000000:=by
 have l4:=X1l aL hk;obtain⟨l1,l2,l3⟩:=Vm aL;have:=hf.1;show(U6 d (2+k*Xt d) (Xt d)).length<=_;rw[X0Y hd _ _ (by omega)];have:Xt d<=500:=by unfold Xt;omega
 omega
theorem X6F (d:ak) (hf:VB d):Con prog 28 [] [XU d] [] (.tup [Xy (VF d).1,ai (VF d).2]):=by
 refine ZCt func28 ntmps28 fun E=> ?_;have hu:=Xcg d;have aS:Xy Yd= .agg [.d (.sl 3 []),.d (.sl 5 []),ai 0,ai 0,.d (.sl 6 []),ai 0,ai 0,ai 0]:=rfl;by_cases q1:Uo d=0
 case neg=>
  have e:VF d=(Yd,Uo d):=PI q1;rw[e];simp only[aS];clear e hf;generalize Uo d=x at*;obtain⟨secs,ag,on⟩:=d;refine XY ?_;exact QJd
 obtain⟨o1,o2,o3⟩:=X6W q1;rw[q1] at hu;have h0:=Xhq d 0 (by decide) o1 hf o2;have h1:=Xhq d 1 (by decide) o1 hf o2;have g0:=Xhw d 0 (XhC o1 hf o2 (by decide));have g1:=Xhw d 1 (XhC o1 hf o2 (by decide));have aC:=X3P (d.aa.length:Nat);rw[X37 o2 o3] at aC;have aM:(d.aa.map XV).length=d.aa.length:=LM ..;have hpk:VW d=X5e (Vd d 0) (Vd d 1):=rfl;have aD:∀y,VW d=(y,true)->YN y=true:=fun y h=>by have:=(XjM (d:=d) (by rw[h])).1;rw[h] at this;exact this
 have hrc:∀y,VW d=(y,true)->VF d=X47 y (X0B d (X9 d:Nat) (d.aa.length:Nat) y.ep):=fun y h=>by unfold VF;rw[NI (by simp[q1]),h,NI (by simp)]
 have kz:(VW d).2=false->VF d=(Yd,23):=fun h=>by unfold VF;rw[NI (by simp[q1]),PI h]
 have hsc:∀y,YN y=true->(X0B d (X9 d:Nat) (d.aa.length:Nat) y.ep).2.2=0:=fun y h=>by
  obtain⟨_,_,_,_,t2,t3,_⟩:=Vk.1 h;unfold X0B;rw[XdR o1 o2 (by omega) t3];rfl
 rw[hpk] at aD hrc kz;generalize Vd d 0=X0 at*;generalize Vd d 1=X1 at*;obtain⟨s0,b0⟩:=X0;obtain⟨s1,b1⟩:=X1;simp only at h0 h1 g0 g1;cases b1 with
 |false=>
  cases b0 with
  |false=>
   rw[kz (by rfl)];simp only[aS];clear aD hrc kz hsc hpk o1 o2 g0 g1 hf;generalize Xt d=SN at*;generalize X9 d=LN at*;rw[<-aM] at aC;obtain⟨⟨nh,nk,nq,nr⟩,nw,nx,gL,iW⟩:=s0;obtain⟨⟨ns1,es1,nn1,ne1⟩,rs1,ts1,ep1,tail1⟩:=s1;obtain⟨secs,ag,on⟩:=d;simp only[Xy] at*;refine QRd ?_;refine Yf ?_;exact QJd
  |true=>
   have cQ:X5e (s0,true) (s1,false)=(s0,true):=by rfl
   have hv:=aD s0 cQ;rw[hrc s0 cQ];have hs:=XaX d (X9 d:Nat) (d.aa.length:Nat) s0.ep hf;have aV:=Xb1 (f:=(X9 d:Nat)) (t:=(d.aa.length:Nat)) (ep:=s0.ep) hf;rw[hsc s0 hv] at hs;clear aD hrc kz hsc hpk cQ hv o1 o2;generalize X0B d (X9 d:Nat) (d.aa.length:Nat) s0.ep=A at*;obtain⟨l,a2,a3⟩:=A;simp only at hs aV;have bf:=X8Z s0 l g0 aV.2 aV.1;unfold X47;simp only;clear aV g0 g1 hf;generalize Xt d=SN at*;generalize X9 d=LN at*;rw[<-aM] at aC hs;generalize YA s0 l=G at*;obtain⟨⟨⟨yn,ye,cB,cC⟩,yr,yt,yp,yl⟩,ge⟩:=G
   skip
   obtain⟨⟨nh,nk,nq,nr⟩,nw,nx,gL,iW⟩:=s0;obtain⟨⟨ns1,es1,nn1,ne1⟩,rs1,ts1,ep1,tail1⟩:=s1;obtain⟨secs,ag,on⟩:=d;simp only[Xy,Uz] at*;by_cases q3:ge=0
   case neg=>
    rw[PI q3];simp only[Yd,map_nil];refine QRd ?_;refine X7 ?_;refine X1V ?_;exact QJd
   rw[NI (by simp[q3])];subst q3;refine QRd ?_;refine QCa ?_;refine W5_ ?_;exact QId
 |true=>
  cases b0 with
  |false=>
   have cQ:X5e (s0,false) (s1,true)=(s1,true):=PI ⟨rfl,.inl rfl⟩;have hv:=aD s1 cQ;rw[hrc s1 cQ];have hs:=XaX d (X9 d:Nat) (d.aa.length:Nat) s1.ep hf;have aV:=Xb1 (f:=(X9 d:Nat)) (t:=(d.aa.length:Nat)) (ep:=s1.ep) hf;rw[hsc s1 hv] at hs;clear aD hrc kz hsc hpk cQ hv o1 o2;generalize X0B d (X9 d:Nat) (d.aa.length:Nat) s1.ep=A at*;obtain⟨l,a2,a3⟩:=A;simp only at hs aV;have bf:=X8Z s1 l g1 aV.2 aV.1;unfold X47;simp only;clear aV g0 g1 hf;generalize Xt d=SN at*;generalize X9 d=LN at*;rw[<-aM] at aC hs;generalize YA s1 l=G at*;obtain⟨⟨⟨yn,ye,cB,cC⟩,yr,yt,yp,yl⟩,ge⟩:=G
   skip
   obtain⟨⟨nh,nk,nq,nr⟩,nw,nx,gL,iW⟩:=s0;obtain⟨⟨ns1,es1,nn1,ne1⟩,rs1,ts1,ep1,tail1⟩:=s1;obtain⟨secs,ag,on⟩:=d;simp only[Xy,Uz] at*;by_cases q3:ge=0
   case neg=>
    rw[PI q3];simp only[Yd,map_nil];refine QSd ?_;refine Ye ?_;exact QJd
   rw[NI (by simp[q3])];subst q3;refine QSd ?_;refine YY ?_;exact QId
  |true=>
   by_cases cJ:s0.ep<s1.ep
   ·skip
    have cQ:X5e (s0,true) (s1,true)=(s1,true):=PI ⟨rfl,.inr cJ⟩;have hv:=aD s1 cQ;rw[hrc s1 cQ];have hs:=XaX d (X9 d:Nat) (d.aa.length:Nat) s1.ep hf;have aV:=Xb1 (f:=(X9 d:Nat)) (t:=(d.aa.length:Nat)) (ep:=s1.ep) hf;rw[hsc s1 hv] at hs;clear aD hrc kz hsc hpk cQ hv o1 o2;generalize X0B d (X9 d:Nat) (d.aa.length:Nat) s1.ep=A at*;obtain⟨l,a2,a3⟩:=A;simp only at hs aV;have bf:=X8Z s1 l g1 aV.2 aV.1;unfold X47;simp only;clear aV g0 g1 hf;generalize Xt d=SN at*;generalize X9 d=LN at*;rw[<-aM] at aC hs;generalize YA s1 l=G at*;obtain⟨⟨⟨yn,ye,cB,cC⟩,yr,yt,yp,yl⟩,ge⟩:=G;have rq:s1.ep>s0.ep:=cJ;obtain⟨⟨nh,nk,nq,nr⟩,nw,nx,gL,iW⟩:=s0;obtain⟨⟨ns1,es1,nn1,ne1⟩,rs1,ts1,ep1,tail1⟩:=s1;obtain⟨secs,ag,on⟩:=d;simp only[Xy,Uz] at*;by_cases q3:ge=0
    case neg=>
     rw[PI q3];simp only[Yd,map_nil];refine QSd ?_;refine Ye ?_;exact QJd
    rw[NI (by simp[q3])];subst q3;refine QSd ?_;refine YY ?_;exact QId
   ·skip
    have cQ:X5e (s0,true) (s1,true)=(s0,true):=NI (by rintro⟨_,h|h⟩;cases h;exact cJ h);have hv:=aD s0 cQ;rw[hrc s0 cQ];have hs:=XaX d (X9 d:Nat) (d.aa.length:Nat) s0.ep hf;have aV:=Xb1 (f:=(X9 d:Nat)) (t:=(d.aa.length:Nat)) (ep:=s0.ep) hf;rw[hsc s0 hv] at hs;clear aD hrc kz hsc hpk cQ hv o1 o2;generalize X0B d (X9 d:Nat) (d.aa.length:Nat) s0.ep=A at*;obtain⟨l,a2,a3⟩:=A;simp only at hs aV;have bf:=X8Z s0 l g0 aV.2 aV.1;unfold X47;simp only;clear aV g0 g1 hf;generalize Xt d=SN at*;generalize X9 d=LN at*;rw[<-aM] at aC hs;generalize YA s0 l=G at*;obtain⟨⟨⟨yn,ye,cB,cC⟩,yr,yt,yp,yl⟩,ge⟩:=G;have rq:¬s1.ep>s0.ep:=cJ;obtain⟨⟨nh,nk,nq,nr⟩,nw,nx,gL,iW⟩:=s0;obtain⟨⟨ns1,es1,nn1,ne1⟩,rs1,ts1,ep1,tail1⟩:=s1;obtain⟨secs,ag,on⟩:=d;simp only[Xy,Uz] at*;by_cases q3:ge=0
    case neg=>
     rw[PI q3];simp only[Yd,map_nil];refine QSd ?_;refine Yv ?_;exact QJd
    rw[NI (by simp[q3])];subst q3;refine QSd ?_;refine Yq ?_;exact QId
open Go
structure After (n:Int) (x:ak×Sta):Prop where
 g:∃s0 m,Good x.1 s0 m x.2/\∀r∈m,(X0k r).length<=60000
 ag:x.1.pending=[]
 len:(x.1.aa.length:Int)=n
theorem XmP (s:Sta) (ts ep tail:Int) (hs:StaHold s):Con prog 20 [] [Xy s,Xy ⟨s.g,s.rules,ts,ep,tail⟩] [] (ab (decide (s.ts=ts/\s.ep=ep/\s.tail=tail))):=by
 refine ZC1 func20 ntmps20 fun E=> ?_;have hg:=XqR s.g hs.g;have hl:=hs.rl;clear hs;obtain⟨⟨ns,es,nn,ne⟩,l,ts',ny,tail'⟩:=s;simp only[Xy,Y6] at*;have hlm:(l.map Xh).length=l.length:=by simp
 by_cases q1:ts'=ts
 case neg=>
  rw[DF (fun h=>q1 h.1)];refine QX ?_
  (show AWP prog E _ _ _;refine X2 ?_;exact(show Xa _ _ _ _ _ from⟨_,St.le_refl _,⟨rfl,TV⟩,X4 _⟩))
 by_cases q2:ny=ep
 case neg=>
  rw[DF (fun h=>q2 h.2.1)];refine QX ?_
  (show AWP prog E _ _ _;refine X2 ?_;exact(show Xa _ _ _ _ _ from⟨_,St.le_refl _,⟨rfl,TV⟩,X4 _⟩))
 by_cases q3:tail'=tail
 case neg=>
  rw[DF (fun h=>q3 h.2.2)];refine QX ?_
  (show AWP prog E _ _ _;refine X2 ?_;exact(show Xa _ _ _ _ _ from⟨_,St.le_refl _,⟨rfl,TV⟩,X4 _⟩))
 subst q1;subst q2;subst q3;rw[DT ⟨rfl,rfl,rfl⟩];refine X7 ?_;refine XG ?_;clear hg
 refine Xn (fun i:Nat=>i<=l.length) (fun i=>⟨60,[(2,.ptr 100 0),(3,.ptr 101 0),(5,ai i)],[(100,.box [.d (.sl 3 (ns.map Xm)),.d (.sl 5 (es.map Xr)),ai nn,ai ne,.d (.sl 6 (l.map Xh)),ai ts',ai ny,ai tail']),(101,.box [.d (.sl 3 (ns.map Xm)),.d (.sl 5 (es.map Xr)),ai nn,ai ne,.d (.sl 6 (l.map Xh)),ai ts',ai ny,ai tail'])]⟩) (fun i=>l.length-i) 0 (Nat.zero_le _)
  (ZL0) ?_
 intro i hi;by_cases hil:i<l.length
 case neg=>
  obtain rfl:i=l.length:=by omega
  have hn:¬((l.length:Nat):Int)<(l.map Xh).length:=by omega
  refine Yx ?_
  (show AWP prog E _ _ _;refine X2 ?_;exact(show Xa _ _ _ _ _ from⟨_,St.le_refl _,⟨rfl,TV⟩,X4 _⟩))
 have hn:(i:Int)<(l.map Xh).length:=by omega
 obtain⟨x,hx⟩:=Xu (l:=l) hil;have au:(l.map Xh)[i]? =some (Xh x):=XM hx;obtain⟨rk,rn,eY,gG,gH,gI⟩:=x;simp only[Xh] at au;clear hx;have hz:=XqB [.int .i64 rk,.int .i64 rn,.string (X6 eY),.string (X6 gG),.string (X6 gH),.string (X6 gI)] [.i .i64,.i .i64,.s,.s,.s,.s] rfl;refine Vl ?_;refine X51 (us:=[.int .i64 rk,.int .i64 rn,.string (X6 eY),.string (X6 gG),.string (X6 gH),.string (X6 gI)]) (vs:=[.int .i64 rk,.int .i64 rn,.string (X6 eY),.string (X6 gG),.string (X6 gH),.string (X6 gI)]) (r:=true) (hg:=JSa) (hx:=JSb) (hy:=JSb) (hcs:=JSb) (aO:=JSb) (hu:=JSb) (hv:=JSb) (hd:=JSb) ?_ (hk:=by exact X54) (hr:=by exact hz);refine W8_ ?_;exact Qac
theorem X46 (s:Sta) (hs:StaHold s):Con prog 20 [] [Xy s,Xy s] [] (ab true):=by
 have h:=XmP s s.ts s.ep s.tail hs
 rwa [DT ⟨rfl,rfl,rfl⟩] at h
theorem Xam {α:Type}{p:α->Bool}{l:List α}{i:Nat}{x:α} (h:l[i]? =some x):(l.drop i).all p=(p x&&(l.drop (i+1)).all p):=by
 obtain⟨h1,h2⟩:=GS.1 h;rw[drop_eq_getElem_cons h1,h2,all_cons]
theorem Xjq (ts id:Int):Con prog 43 [] [ai ts,ai id] [] (Uv ⟨1,ts,[⟨1,id,0,0,[],zV⟩],zR,false⟩):=by
 refine ZC1 func43 ntmps43 fun E=> ?_;simp only[Uv,zR,map_cons,map_nil,Xs,zV,XX];refine XQ ?_
 (show AWP prog E _ _ _;refine X2 ?_;exact(show Xa _ _ _ _ _ from⟨_,Xq 100 (cs':=[ai 1,ai ts,.d (.sl 10 [[.v (.int .i64 1),.v (.int .i64 id),.v (.int .i64 0),.v (.int .i64 0),.v (.string (X6 [])),.v (.int .i64 0),.v (.int .i64 0),.v (.int .i64 0),.v (.string (X6 [])),.sl 5 []]]),ai 0,ai 0,Xi [],Xi [],Xi [],Xi [],ab false]) rfl
  ⟨AVal.le_refl _,AVal.le_refl _,AVal.le_d (Xcc (XfR (X1a (X1v _) (X1a (X1v _) (X1a (X1v _) (X1a (X1v _) (X1a (X1v _) (X1a (X1v _) (X1a (X1v _) (X1a (X1v _) (X1a (X1v _) (X1a (Xmh 5) Xl4)))))))))) rfl (XgF 10))),AVal.le_refl _,AVal.le_refl _,AVal.le_refl _,AVal.le_refl _,AVal.le_refl _,AVal.le_refl _,AVal.le_refl _,TV⟩ rfl,⟨⟨100,0,_,rfl,rfl,.inr ⟨10,_,rfl,rfl,rfl,rfl⟩⟩,TV⟩,X4 _⟩))
def X1I (ts id:Int):Rcd:=⟨1,ts,[⟨1,id,0,0,[],zV⟩],zR,false⟩
def X2j:ak:=(Ve 16).1
def X3v:Sta:=(Ve 16).2.1
def X3K:ak:=(Ys X2j X3v [X1I 1 1]).1
def X2g:Sta:=(Ys X2j X3v [X1I 1 1]).2.1
theorem X7J:(Ve 16).2.2=0/\Good X2j X3v [] X3v/\X2j.aa.length=16:=Xft (by decide) (by decide)
theorem Xgs:(Ys X2j X3v [X1I 1 1]).2.2=0:=by decide+kernel
theorem XfN:Good X3K X3v [X1I 1 1] X2g:=(X7J.2.1.logged Xgs).1
theorem XuW:Ve 16=(X2j,X3v,0)/\Ys X2j X3v [X1I 1 1]=(X3K,X2g,0)/\VF X3K=(X2g,0)/\(Ys X3K X2g [X1I 3 2]).2.2=26/\(VF YU).2=1/\
  (X2j.aa.length=16/\∃b,X2j.aa[5]? =some b/\b.length=64/\b[2]? =some 1/\b[3]? =some 1/\X2g.tail>0/\X2g.ts=1/\X2g.g.nodes.length=1):=by
 refine⟨Prod.ext rfl (Prod.ext rfl X7J.1),Prod.ext rfl (Prod.ext rfl Xgs),XfN.recov (fun r hr=> ?_),by decide+kernel,by decide+kernel,X7J.2.2,?_⟩
 ·rw[mem_singleton.1 hr];exact XcL (by simp[X1I])
 ·exact⟨_,getElem?_eq_getElem (by rw[X7J.2.2];decide),by decide+kernel,by decide+kernel,by decide+kernel,by decide+kernel,by decide+kernel,by decide+kernel⟩
theorem X9C {s:Sta} (h:YN s=true):StaHold s:=by
 obtain⟨h1,h2,_⟩:=Vk.1 h;exact⟨X5u h1,by have:=h2.len;omega⟩
theorem Xv0:StaHold X3v:=X9C X7J.2.1.kept.1
theorem Xgq:StaHold X2g:=X9C XfN.kept.1
theorem XoH:VB X2j/\VB X3K:=⟨X7J.2.1.log.few,XfN.log.few⟩
theorem Xkn (ts id:Int):X6w (X1I ts id):=⟨⟨by simp[X1I],fun c hc=>by simp only[X1I,mem_singleton] at hc;subst hc;exact⟨by simp,X7G⟩⟩,by simp[X1I]⟩
theorem X64:Con prog 16 [] [] [] (ab true):=by
 refine ZC1 func16 ntmps16 fun E=> ?_;have hl:=X3P 16;rw[show VA 16=(3,8,true) from rfl] at hl;have hf:=Xej 16 (by decide);have c1:=Xjq 1 1;have c3:=Xjq 3 2;have hh:=XoH;have hg:=X7F X2j X3v [X1I 1 1] Xv0 hh.1 (by simp) (fun r hr=>by rw[mem_singleton.1 hr];exact Xkn 1 1);have hr:=X6F X3K hh.2;have kj:=X7F X3K X2g [X1I 3 2] Xgq hh.2 (by simp) (fun r hr=>by rw[mem_singleton.1 hr];exact Xkn 3 2);have dj:=X6F YU ⟨by decide,by decide⟩;have aM:=X46 X2g Xgq;obtain⟨x1,x2,x3,x4,x5,x6⟩:=XuW;rw[show Ve 16=(X2j,X3v,0) from x1] at hf;rw[x2] at hg;rw[x3] at hr;have e2:(Ys X3K X2g [X1I 3 2]).2.2=26:=x4;rw[e2] at kj;have e3:(VF YU).2=1:=x5;rw[e3] at dj;obtain⟨d1,b,d2,d3,d4,d5,t1,t2,t3⟩:=x6;have dm:(X2j.aa.map XV).length=16:=by rw[LM];exact d1
 have dc:(X2j.aa.map XV)[5]? =some (XV b):=XM d2;have b2:(b.map X5)[2]? =some (X5 1):=XM d4;have b3:(b.map X5)[3]? =some (X5 1):=XM d5;have bl:(b.map X5).length=64:=by rw[LM];exact d3
 have tm:(X2g.g.nodes.map Xm).length=1:=by rw[LM];exact t3
 simp only[XV,X5] at dc b2 b3;have ru:(Uv ⟨1,1,[⟨1,1,0,0,[],zV⟩],zR,false⟩)=Uv (X1I 1 1):=rfl;have ry:(Uv ⟨1,3,[⟨1,2,0,0,[],zV⟩],zR,false⟩)=Uv (X1I 3 2):=rfl;simp only[map_cons,map_nil,Uv,Yp,X1I,zR,Xs,zV] at c1 c3 hg kj;clear x1 x2 x3 x4 x5 e2 e3 hh d1 d2 d3 d4 d5 ru ry;generalize (Ys X3K X2g _).1=Y1 at*;generalize (Ys X3K X2g _).2.1=Y2 at*;generalize (VF YU).1=Y3 at*;generalize X2j=D1 at*;generalize X3v=S1 at*;generalize X3K=D2 at*;generalize X2g=S2 at*;obtain⟨ds,dp,dn⟩:=D1;obtain⟨es,ny,en⟩:=D2;obtain⟨fs,fp,fn⟩:=Y1;obtain⟨⟨an,ae,rj,rm⟩,ar,at',ap,al⟩:=S1;obtain⟨⟨bn,be,bnn,bne⟩,br,bt,bp,bl'⟩:=S2;obtain⟨⟨cn,ce,cnn,cne⟩,cr,ct,cp,cl⟩:=Y2;obtain⟨⟨gn,ge,tF,tG⟩,gr,gt,gp,gl⟩:=Y3;simp only[Xy] at*;refine UV ?_;refine Z3 (af:=c1) ?_;refine W1_ ?_;refine Z3 (af:=hg) ?_;refine XQ ?_;refine Z3 (af:=hr) ?_;refine XK ?_;refine Z3 (af:=c3) ?_;refine W1_ ?_;refine Z3 (af:=kj) ?_;refine XQ ?_;refine Z3 (af:=dj) ?_;refine XY ?_;refine X7 ?_;refine YY ?_;refine Z3 (af:=aM) ?_;refine W2_ ?_;refine .done (fun _=>by kernel_rfl) ?_
 (show AWP prog E _ _ _;refine X2 ?_;exact(show Xa _ _ _ _ _ from⟨_,St.le_refl _,⟨rfl,TV⟩,X4 _⟩))
end Go.Fw

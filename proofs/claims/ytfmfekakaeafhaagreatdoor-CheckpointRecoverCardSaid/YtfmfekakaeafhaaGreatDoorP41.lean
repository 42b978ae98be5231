/- The reader of records: the reference's. -/
import Derived.Test.YtfmfekakaeafhaaGreatDoorP29
import Derived.Test.YtfmfekakaeafhaaGreatDoorP32
import Derived.Test.YtfmfekakaeafhaaGreatDoorP37
set_option linter.all false
set_option maxHeartbeats 32000000
namespace Go.Fw
open Go Go.Proofs Tryz List
open List renaming length->J
set_option maxRecDepth 100000
abbrev X32 (b:List UInt8) (a e:Int):AVal:= .agg [.d (Xc b),ai a,ai e]
def Xs4:Con prog 308 [] [] [] (Xt zV):=by
 refine ZC1 func308 ntmps308 fun E=> ?_;refine W9_ ?_;exact X3 ⟨_,Xg 100 (cs':=[ai 0,ai 0,ai 0,Xa [],.d (.sl 5 [])]) rfl JM rfl,⟨⟨100,0,_,rfl,rfl,.inr ⟨5,_,rfl,rfl,rfl,rfl⟩⟩,TV⟩,X5 _⟩
def XeR (b:List UInt8) (a e limit:Int) (hb:J b<=281474976710656) (ha:e=0->0<=a/\a<=J b):Con prog 203 [] [X32 b a e,ai limit] [] (.tup [X32 b (rkI b a e limit).2.1 (rkI b a e limit).2.2,ai (rkI b a e limit).1]):=by
 refine ZCt func203 ntmps203 fun E=> ?_;have hlm:J (b.map X6)=J b:=Oc
 unfold rkI;by_cases he:e=0
 case neg=>
  rw[PI he];exact Qme
 subst he;rw[NI Oc];obtain⟨m,rfl⟩:∃m:Nat,a=m:=⟨a.toNat,Jl⟩
 rw[Int.toNat_natCast];by_cases h1:J b<=m
 ·rw[show rkS b m 0 limit=(0,(m:Int),3) by unfold rkS;rw[NI Oc,PI h1]];have bY:(J (b.map X6):Int)<=m:=by omega
  refine X17 ?_;exact Qib
 have bY:¬(J (b.map X6):Int)<=m:=Oa
 obtain⟨c,hc⟩:=Xn (l:=b) (k:=m) Oa;have kF:rkS b m 0 limit=if ((c.toNat:Nat):Int)<1\/limit<((c.toNat:Nat):Int) then (0,(m:Int),2) else (((c.toNat:Nat):Int),(m:Int)+1,0):=by
  unfold rkS;rw[NI Oc,NI h1,hc,Option.getD_some]
 have bu:(b.map X6)[m]? =some (X6 c):=XC hc;by_cases h2:((c.toNat:Nat):Int)<1
 ·rw[kF,PI (.inl h2)];exact Qne
 by_cases h3:limit<((c.toNat:Nat):Int)
 ·rw[kF,PI (.inr h3)];exact Qne
 rw[kF,NI Oa];refine Qoa ?_;exact Qib
def XaM (b:List UInt8) (a e:Int) (hb:J b<=281474976710656):Con prog 204 [] [X32 b a e] [] (.tup [X32 b (rnS b a e).2.1 (rnS b a e).2.2,ai (rnS b a e).1]):=by
 refine ZCt func204 ntmps204 fun E=> ?_;have hu:=X3e b a hb;unfold rnS;generalize Xd b a=u at*;obtain⟨u1,u2,u3⟩:=u;by_cases he:e=0
 ·rw[NI Jo];refine QHa ?_;exact Qib
 ·rw[PI he];exact Qme
def X89 (b:List UInt8) (a e:Int) (hb:J b<=281474976710656):Con prog 261 [] [X32 b a e] [] (.tup [X32 b (rsS b a e).2.1 (rsS b a e).2.2,Xa (rsS b a e).1]):=by
 refine ZCt func261 ntmps261 fun E=> ?_;have hu:=Xoq b a 20 hb;unfold rsS;generalize VZ b a 20=u at*;obtain⟨u1,u2,u3⟩:=u;by_cases he:e=0
 ·rw[NI Jo];refine QHa ?_;exact Qib
 ·rw[PI he];exact Qme
def XxW (b:List UInt8) (a e:Int) (hb:J b<=281474976710656):Con prog 262 [] [X32 b a e] [] (.tup [X32 b (rvS b a e).2.1 (rvS b a e).2.2,Xt (rvS b a e).1]):=by
 refine ZCt func262 ntmps262 fun E=> ?_;have hu:=XuM b hb a;have hz:=Xs4;unfold rvS;generalize X03 b a=u at*;obtain⟨⟨k,n,d,s,l⟩,u2,u3⟩:=u;simp only[Xt] at hu hz;by_cases he:e=0
 ·rw[NI Jo];simp only[Xt];refine Qbb ?_;exact Qoe
 ·rw[PI he];simp only[Xt];refine Y5 ?_;exact Qoe
def Xzu (b:List UInt8) (a e:Int) (hb:J b<=281474976710656) (ha:e=0->0<=a/\a<=J b):Con prog 206 [] [X32 b a e] [] (.tup [X32 b (roS b a e).2.1 (roS b a e).2.2,ab (roS b a e).1]):=by
 refine ZCt func206 ntmps206 fun E=> ?_;have hlm:J (b.map X6)=J b:=Oc
 unfold roS;by_cases he:e=0
 case neg=>
  rw[PI he];exact Qme
 subst he;obtain⟨m,rfl⟩:∃m:Nat,a=m:=⟨a.toNat,Jl⟩
 rw[NI Oc,Int.toNat_natCast];by_cases h1:(J b:Int)<=m
 ·rw[PI h1];have bY:(J (b.map X6):Int)<=m:=by omega
  refine X17 ?_;exact Qib
 rw[NI h1];have bY:¬(J (b.map X6):Int)<=m:=Oa
 obtain⟨c,hc⟩:=Xn (l:=b) (k:=m) Oa;have bu:(b.map X6)[m]? =some (X6 c):=XC hc;rw[hc,Option.getD_some];by_cases h2:1<c.toNat
 ·rw[PI h2];refine QWa ?_;exact Qib
 rw[NI h2];exact Qne
def Xo2 (b:List UInt8) (a e:Int) (hb:J b<=281474976710656) (ha:e=0->0<=a/\a<=J b):Con prog 202 [] [X32 b a e] [] (.tup [X32 b (UE b a e).2.1 (UE b a e).2.2,Xu (UE b a e).1]):=by
 refine ZCt func202 ntmps202 fun E=> ?_;have hk:=XeR b a e 8 hb ha;unfold UE;generalize rkI b a e 8=k at*;obtain⟨op,a1,e1⟩:=k;simp only at hk |-;have hf:=Xkd op;have hg:=XmE op;have hi:=XaM b a1 e1 hb;generalize rnS b a1 e1=i at*;obtain⟨id,a2,e2⟩:=i;simp only at hi |-;by_cases h6:op=6
 ·subst h6;simp only[if_true,PI (show YO 6=true by decide),NI (show ¬YL 6=true by decide)];rw[show YO 6=true by decide] at hf;rw[show YL 6=false by decide] at hg;have hs:=XaM b a2 e2 hb;generalize rnS b a2 e2=f at*;obtain⟨src,a3,e3⟩:=f;simp only at hs |-;have hd:=XaM b a3 e3 hb;generalize rnS b a3 e3=t at*;obtain⟨dst,a4,e4⟩:=t;simp only at hd |-;have hn:=X89 b a4 e4 hb;generalize rsS b a4 e4=s at*;obtain⟨name,a5,e5⟩:=s;simp only[Xu] at*;refine YG ?_;refine Z5 (ag:=hi) ?_;refine YJ ?_;refine Z5 (ag:=hs) ?_;refine XA ?_;refine Z5 (ag:=hd) ?_;refine UA ?_;refine QQb ?_;refine Uf ?_;exact X3 ⟨_,Xg 102 (cs':=[ai 6,ai id,ai src,ai dst,Xa name,ai 0,ai 0,ai 0,Xa [],.d (.sl 5 [])]) rfl JM rfl,⟨⟨101,0,_,rfl,rfl,.inr ⟨3,_,rfl,rfl,rfl,rfl⟩⟩,⟨102,0,_,rfl,rfl,.inr ⟨10,_,rfl,rfl,rfl,rfl⟩⟩,TV⟩,X5 _⟩
 simp only[NI h6];by_cases hn:YO op=true
 case neg=>
  have hv:¬YL op=true:=by revert hn;unfold YO YL;simp;omega
  simp only[NI hn,NI hv];rw[show YO op=false by simpa using hn] at hf;rw[show YL op=false by simpa using hv] at hg;simp only[Xu] at*;refine YG ?_;refine Z5 (ag:=hi) ?_;refine Qua ?_;exact X3 ⟨_,Xg 102 (cs':=[ai op,ai id,ai 0,ai 0,Xa [],ai 0,ai 0,ai 0,Xa [],.d (.sl 5 [])]) rfl JM rfl,⟨⟨101,0,_,rfl,rfl,.inr ⟨3,_,rfl,rfl,rfl,rfl⟩⟩,⟨102,0,_,rfl,rfl,.inr ⟨10,_,rfl,rfl,rfl,rfl⟩⟩,TV⟩,X5 _⟩
 simp only[PI hn];rw[hn] at hf;have hs:=X89 b a2 e2 hb;generalize rsS b a2 e2=s at*;obtain⟨name,a3,e3⟩:=s;simp only at hs |-;by_cases hv:YL op=true
 case neg=>
  simp only[NI hv];rw[show YL op=false by simpa using hv] at hg;simp only[Xu] at*;refine YG ?_;refine Z5 (ag:=hi) ?_;refine UI ?_;refine Z5 (ag:=hs) ?_;refine Uf ?_;exact X3 ⟨_,Xg 102 (cs':=[ai op,ai id,ai 0,ai 0,Xa name,ai 0,ai 0,ai 0,Xa [],.d (.sl 5 [])]) rfl JM rfl,⟨⟨101,0,_,rfl,rfl,.inr ⟨3,_,rfl,rfl,rfl,rfl⟩⟩,⟨102,0,_,rfl,rfl,.inr ⟨10,_,rfl,rfl,rfl,rfl⟩⟩,TV⟩,X5 _⟩
 simp only[PI hv];rw[hv] at hg;have hr:=XxW b a3 e3 hb;generalize rvS b a3 e3=v at*;obtain⟨⟨vk,vn,vd,vs,vl⟩,a4,e4⟩:=v;simp only[Xu,Xt] at*;refine YG ?_;refine Z5 (ag:=hi) ?_;refine UI ?_;refine Z5 (ag:=hs) ?_;refine QY ?_;exact X3 ⟨_,ZzS,⟨⟨101,0,_,rfl,rfl,.inr ⟨3,_,rfl,rfl,rfl,rfl⟩⟩,⟨102,0,_,rfl,rfl,.inr ⟨10,_,rfl,rfl,rfl,rfl⟩⟩,TV⟩,X5 _⟩
def XhR (b:List UInt8) (a e:Int) (hb:J b<=281474976710656) (ha:e=0->0<=a/\a<=J b):Con prog 205 [] [X32 b a e] [] (.tup [X32 b (VW b a e).2.1 (VW b a e).2.2,Yu (VW b a e).1]):=by
 refine ZCt func205 ntmps205 fun E=> ?_;have hk:=XeR b a e 7 hb ha;unfold VW;generalize rkI b a e 7=k at*;obtain⟨kd,a1,e1⟩:=k;simp only at hk |-;have h1:=X89 b a1 e1 hb;generalize rsS b a1 e1=u1 at*;obtain⟨s1,a2,e2⟩:=u1;simp only at h1 |-;have h2:=X89 b a2 e2 hb;generalize rsS b a2 e2=u2 at*;obtain⟨s2,a3,e3⟩:=u2;simp only at h2 |-;have h3:=X89 b a3 e3 hb;generalize rsS b a3 e3=u3 at*;obtain⟨s3,a4,e4⟩:=u3;simp only at h3 |-;have h4:=X89 b a4 e4 hb;generalize rsS b a4 e4=u4 at*;obtain⟨s4,a5,e5⟩:=u4;simp only[Yu] at h4 |-;by_cases he:e5=0
 ·subst he;have hi:=X6P b a5 hb;rw[Xbl];generalize Y9 b a5=u5 at*;obtain⟨n,a6,e6⟩:=u5;refine YG ?_;refine Z5 (ag:=h1) ?_;refine Ya ?_;refine Z5 (ag:=h2) ?_;refine Ya ?_;refine Z5 (ag:=h3) ?_;refine Ya ?_;refine Z5 (ag:=h4) ?_;refine Qma ?_;exact Qpe
 ·rw[Xf9 he];refine YG ?_;refine Z5 (ag:=h1) ?_;refine Ya ?_;refine Z5 (ag:=h2) ?_;refine Ya ?_;refine Z5 (ag:=h3) ?_;refine Ya ?_;refine Z5 (ag:=h4) ?_;refine U7 ?_;exact Qpe
def Xxv (b:List UInt8) (a:Int) (hb:J b<=281474976710656):Con prog 144 [] [.d (Xc b),ai a] [] (.tup [Xu (X0L b a).1,ai (X0L b a).2.1,ai (X0L b a).2.2]):=by
 refine ZCt func144 ntmps144 fun E=> ?_;have hlm:J (b.map X6)=J b:=Oc
 unfold X0L;by_cases h1:a<0
 ·rw[PI (.inl h1)];exact Qxd
 by_cases h2:(J b:Int)<a
 ·rw[PI (.inr h2)];have dr:(J (b.map X6):Int)<a:=by omega
  exact Qxd
 rw[NI Oa];have dr:¬(J (b.map X6):Int)<a:=Oa
 have hr:=Xo2 b a 0 hb (fun _=>Oa);have hc:=XbD (UE b a 0).1 (XfT b a 0).2;generalize UE b a 0=r at*;obtain⟨c,at_,e⟩:=r;simp only at hr hc |-;generalize YE c=ce at*;obtain⟨op,id,src,dst,name,⟨k,n,d,s,l⟩⟩:=c;simp only[Xu] at hr hc |-;by_cases he:e=0
 ·subst he;rw[PI rfl];by_cases h3:ce=0
  ·subst h3;rw[NI Oc];refine Qoa ?_;exact Qyd
  ·rw[PI h3];refine Qna ?_;exact Qwd
 ·rw[NI he,PI he];refine X4 ?_;refine YV ?_;exact Qwd
def Xvi (b:List UInt8) (a:Int) (hb:J b<=281474976710656):Con prog 201 [] [.d (Xc b),ai a] [] (.tup [Yu (X1h b a).1,ai (X1h b a).2.1,ai (X1h b a).2.2]):=by
 refine ZCt func201 ntmps201 fun E=> ?_;have hlm:J (b.map X6)=J b:=Oc
 unfold X1h;by_cases h1:a<0
 ·rw[PI (.inl h1)];exact QAd
 by_cases h2:(J b:Int)<a
 ·rw[PI (.inr h2)];have dr:(J (b.map X6):Int)<a:=by omega
  exact QAd
 rw[NI Oa];have dr:¬(J (b.map X6):Int)<a:=Oa
 have hr:=XhR b a 0 hb (fun _=>Oa);have hc:=X8p (VW b a 0).1;generalize VW b a 0=r at*;obtain⟨c,at_,e⟩:=r;simp only at hr hc |-;generalize Uu c=ce at*;obtain⟨k,n,name,key,src,dst⟩:=c;simp only[Yu] at hr hc |-;by_cases he:e=0
 ·subst he;rw[PI rfl];by_cases h3:ce=0
  ·subst h3;rw[NI Oc];refine Qoa ?_;exact Qzd
  ·rw[PI h3];refine Qna ?_;exact Qzd
 ·rw[NI he,PI he];refine X4 ?_;refine YV ?_;exact Qzd
theorem Xsu {b:List UInt8}{n:Nat}{a:Int}:X0C b (n+1) a 0=((UE b a 0).1::(X0C b n (UE b a 0).2.1 (UE b a 0).2.2).1,(X0C b n (UE b a 0).2.1 (UE b a 0).2.2).2):=by
 rw[X0C,NI Oc]
def Xuk (b:List UInt8) (hb:J b<=1073741824):Con prog 146 [] [.d (Xc b)] [] (.tup [Um (rdS b).1,ai (rdS b).2]):=by
 refine ZCt func146 ntmps146 fun E=> ?_;have hb':J b<=281474976710656:=Oa
 have hlm:J (b.map X6)=J b:=Oc
 have hk:=XeR b 0 0 3 hb' (fun _=>Oa);unfold rdS;generalize hX:rdX b=X;unfold rdX at hX;generalize rkI b 0 0 3=k at*;obtain⟨kd,a1,e1⟩:=k;simp only at hk hX;have ht:=XaM b a1 e1 hb';have jf:=fun h=>X7s (b:=b) (a:=a1) (e:=e1) h;generalize rnS b a1 e1=t at*;obtain⟨ts,a2,e2⟩:=t;simp only at ht jf hX;have jL:X0z X.1:=by
  exact Yt33
 have hc:=XcJ X.1 jL;clear jL;refine UI ?_;refine Z5 (ag:=ht) ?_;refine Yh ?_;generalize hY:(if kd=1 then X0C b (rnS b a2 e2).1.toNat (rnS b a2 e2).2.1 (rnS b a2 e2).2.2 else ([],a2,e2))=Y;refine X4q ⟨103,[(0,.d (Xc b)),(2,.ptr 100 0),(4,.ptr 101 0),(5,.ptr 102 0),(6,ai kd)],[(100,.box [ai 0,ai 0,aq,ai 0,ai 0,Xa [],Xa [],Xa [],Xa [],ab false]),(101,.box [ai kd,ai ts,.d (.sl 10 (Y.1.map Xp)),ai 0,ai 0,Xa [],Xa [],Xa [],Xa [],ab false]),(102,.box [.d (Xc b),ai Y.2.1,ai Y.2.2])]⟩ ?_ ?_
 ·by_cases k1:kd=1
  ·rw[PI k1] at hX hY;have hn:=XaM b a2 e2 hb';have hnp:=fun h=>X7s (b:=b) (a:=a2) (e:=e2) h;have dB:=Xno b a2 e2;generalize rnS b a2 e2=nn at*;obtain⟨n,a3,e3⟩:=nn;obtain⟨m,hm,hml⟩:=dB;simp only at hm hn hnp hX hY;subst hm;rw[Int.toNat_natCast] at hX hY;have hall:=X8c (b:=b) m a3 e3 (fun h=>hnp h);rw[hY] at hall hX;refine W4_ ?_;refine QQb ?_;refine Yb ?_;refine X8 (X1Y 101 2 104 10 rfl rfl rfl rfl rfl) ?_
   refine Xl (ι:=List Chg×Nat×Int×Int×Nat) (fun q=>q.1++(X0C b q.2.1 q.2.2.1 q.2.2.2.1).1=Y.1/\(X0C b q.2.1 q.2.2.1 q.2.2.2.1).2=Y.2/\(q.2.2.2.1=0->0<=q.2.2.1/\q.2.2.1<=J b)/\q.2.2.2.2+q.2.1=m)
    (fun q=>⟨103,[(0,.d (Xc b)),(2,.ptr 100 0),(4,.ptr 101 0),(5,.ptr 102 0),(6,ai kd),(9,ai m),(10,ai q.2.2.2.2)],[(100,.box [ai 0,ai 0,aq,ai 0,ai 0,Xa [],Xa [],Xa [],Xa [],ab false]),(101,.box [ai kd,ai ts,.own 104 (J (q.1.map Xp)),ai 0,ai 0,Xa [],Xa [],Xa [],Xa [],ab false]),(102,.box [.d (Xc b),ai q.2.2.1,ai q.2.2.2.1]),(104,.row 10 (q.1.map Xp))]⟩) (fun q=>q.2.1) ([],m,a3,e3,0)
    ⟨by rw[hY];rfl,by rw[hY],hnp,Oc⟩
    (ZL0) ?_
   rintro⟨acc,j,a,e,i⟩ ⟨h1,h2,h3,h4⟩;simp only at h1 h2 h3 h4;have fin:j=0\/e≠0->Y=(acc,a,e):=by
    exact Yt50
   by_cases hj:j=0
   ·have eC:=fin (.inl hj);subst eC;have hj':¬((i:Nat):Int)<(m:Nat):=by omega
    refine XD ?_;refine St.le_trans (XI 104 rfl) ?_;refine St.le_trans (VR 101 2 104 rfl rfl rfl rfl) ?_;exact ZL0
   have hj':((i:Nat):Int)<(m:Nat):=Oa
   by_cases he:e=0
   case neg=>
    have eC:=fin (.inr he);subst eC;refine XD ?_;refine St.le_trans (XI 104 rfl) ?_;refine St.le_trans (VR 101 2 104 rfl rfl rfl rfl) ?_;exact ZL0
   subst he;obtain⟨j,rfl⟩:∃r,j=r+1:=⟨j-1,Oa⟩
   have h5:=h3 rfl;have nT:=Xo2 b a 0 hb' (fun _=>h5);have dG:=fun h=>Xhd (b:=b) (a:=a) h5.1 h;rw[Xsu] at h1 h2;generalize UE b a 0=c at*;obtain⟨c,a',e'⟩:=c;simp only at nT dG h1 h2;have hroom:J (acc.map Xp)<=1073741825:=by
    have:=CG length h1;simp only[LA,LC] at this;simp only[LM];omega
   have cZ:(acc++[c]).map Xp=acc.map Xp++[Xp c]:=Oc
   obtain⟨op,id,src,dst,name,⟨xk,xn,xd,xs,xl⟩⟩:=c;simp only[Xu] at nT;refine Qla ?_;refine⟨(acc++[_],j,a',e',i+1),⟨Iq,h2,(fun h=>by have:=dG h;exact⟨Oa,Oa⟩:e'=0->0<=a'/\a'<=J b),(by omega:i+1+j=m)⟩,by show j<j+1;omega,?_⟩;dsimp only;rw[cZ];exact X9 rfl JM ⟨rfl,by refine Eq.trans (b:=AObj.box [_,_,.own 104 (_+_),_,_,_,_,_,_,_]) rfl ?_;simp only[LA,LM,LC,length_nil],rfl,rfl,TV⟩
  ·rw[NI k1] at hY;subst hY;refine W2_ ?_;refine St.le_trans (Xg 101 (cs':=[ai kd,ai ts,.d (.sl 10 []),ai 0,ai 0,Xa [],Xa [],Xa [],Xa [],ab false]) rfl JM rfl) ?_;exact ZL0
 refine W6_ ?_;refine X4q ⟨103,[(0,.d (Xc b)),(2,.ptr 100 0),(4,.ptr 101 0),(5,.ptr 102 0)],[(100,.box [ai 0,ai 0,aq,ai 0,ai 0,Xa [],Xa [],Xa [],Xa [],ab false]),(101,.box [ai X.1.kind,ai X.1.ts,.d (.sl 10 (X.1.changes.map Xp)),ai X.1.rule.kind,ai X.1.rule.n,Xa X.1.rule.name,Xa X.1.rule.key,Xa X.1.rule.src,Xa X.1.rule.dst,ab X.1.off]),(102,.box [.d (Xc b),ai X.2.1,ai X.2.2])]⟩ ?_ ?_
 ·by_cases k2:kd=2
  ·have k1:¬kd=1:=by omega
   rw[NI k1] at hY;rw[NI k1,PI k2] at hX;subst hY;have hr:=XhR b a2 e2 hb' jf;have k9:=fun h=>XlO (b:=b) (a:=a2) (e:=e2) (fun he=>(jf he).1) h;generalize VW b a2 e2=r at*;obtain⟨r,a3,e3⟩:=r;simp only at hr k9 hX;have ho:=Xzu b a3 e3 hb' k9;generalize roS b a3 e3=o at*;obtain⟨o,a4,e4⟩:=o;obtain⟨k,n,name,key,src,dst⟩:=r;simp only[Yu] at hr ho hX;subst hX;refine X4 ?_;exact ZL0
  ·by_cases k1:kd=1
   ·rw[PI k1] at hX hY;rw[hY] at hX;subst hX;refine W2_ ?_;exact ZL0
   ·rw[NI k1] at hY;rw[NI k1,NI k2] at hX;subst hX;subst hY;refine W2_ ?_;exact ZL0
 clear hX hY hk ht jf;obtain⟨x,a,e⟩:=X;by_cases he:e=0
 case neg=>
  rw[Xed he];clear hc;obtain⟨kd,ts,l,⟨k,n,name,key,src,dst⟩,off⟩:=x;simp only[Um];refine QO ?_;exact QBd
 subst he;by_cases ha:a<J b
 ·rw[Xfm ha];have gJ:a<J (b.map X6):=by omega
  clear hc;obtain⟨kd,ts,l,⟨k,n,name,key,src,dst⟩,off⟩:=x;simp only[Um];refine Qka ?_;exact QBd
 have gJ:¬a<J (b.map X6):=Oa
 by_cases h3:UO x=0
 ·rw[Xba ha h3];simp only at hc;rw[h3] at hc;obtain⟨kd,ts,l,⟨k,n,name,key,src,dst⟩,off⟩:=x;simp only[Um] at hc |-;refine Qia ?_;exact QCd
 ·rw[Xf4 ha h3];simp only at hc;generalize UO x=ce at*;obtain⟨kd,ts,l,⟨k,n,name,key,src,dst⟩,off⟩:=x;simp only[Um] at hc |-;refine QS ?_;exact QBd
end Go.Fw

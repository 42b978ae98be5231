/- Format, Save, SaveTrace of the program. -/
import Derived.Test.YtpbgjcbkhgfmkaaGreatDoorM36
set_option maxHeartbeats 128000000
namespace Go.Fw
open Go Go.Proofs Tryz List
set_option maxRecDepth 100000
set_option linter.unusedVariables false
set_option linter.unusedSimpArgs false
theorem Xej (n:Int) (hn:n<=2000):Con prog 32 [] [ai n] [] (.tup [XU (Ve n).1,Xy (Ve n).2.1,ai (Ve n).2.2]):=by
 refine ZCt func32 ntmps32 fun E=> ?_;have hl:=X3P n;have aS:Xy Yd= .agg [.d (.sl 3 []),.d (.sl 5 []),ai 0,ai 0,.d (.sl 6 []),ai 0,ai 0,ai 0]:=rfl;by_cases q:(VA n).2.2=false
 ·have e:Ve n=(YU,Yd,1):=PI q;rw[e];simp only[aS];rw[q] at hl;generalize (VA n).1=a at*;generalize (VA n).2.1=b at*;refine XA ?_;refine Z3 (af:=hl) ?_;refine Yw ?_;exact QLd
 have e:Ve n=UR (Uy n).1 ⟨UA,[],0,0,0⟩ 1:=NI q;rw[e];rw[show (VA n).2.2=true by simpa using q] at hl;have aL:16<=n:=by
  by_cases h:n<16
  ·rw[X6c (.inl h)] at q;simp at q
  ·omega
 obtain⟨o1,o2,o3,_⟩:=XdS aL hn;have gU:=XuC n;have pO:=XeX;have gO:=Xhc (Uy n).1 ⟨UA,[],0,0,0⟩ 1 (X5Q.1 Xa9) ⟨fun r h=>by simp at h,Pairwise.nil,by simp⟩ ⟨by simp,by simp⟩ (by decide) o1 ⟨by rw[o3];omega,by rw[o2];simp⟩ (by rw[o3];omega);generalize (VA n).1=a at*;generalize (VA n).2.1=b at*;have hX:UR (Uy n).1 ⟨UA,[],0,0,0⟩ 1=UR (Uy n).1 ⟨UA,[],0,0,0⟩ ((1:Nat):Int):=rfl;rw[hX];generalize UR (Uy n).1 ⟨UA,[],0,0,0⟩ ((1:Nat):Int)=X at*;clear hX e q o1 o2 o3;generalize (Uy n).1=d at*;generalize (Uy n).2=d2 at*;obtain⟨secs,ag,on⟩:=d;obtain⟨⟨xs,xp,xo⟩,⟨⟨ns,es,nn,ne⟩,rs,ts,ep,tail⟩,xe⟩:=X;simp only[Xy,Y6,map_nil] at*;refine XA ?_;refine Z3 (af:=hl) ?_;refine UP ?_;refine Z3 (af:=gO) ?_;refine W7_ ?_;exact X2 ⟨_,St.le_refl _,⟨⟨100,0,_,rfl,rfl,.inr ⟨3,_,rfl,rfl,rfl,rfl⟩⟩,⟨101,0,_,rfl,rfl,.inr ⟨8,_,rfl,rfl,rfl,rfl⟩⟩,rfl,TV⟩,X4 _⟩
theorem Xim (d:ak) (s:Sta) (hs:StaHold s):Con prog 85 [] [XU d,Xy s] [] (ai (VG d s)):=by
 refine ZC1 func85 ntmps85 fun E=> ?_;have h1:=Xcg d;have h2:=Xa1 s hs;obtain⟨r,hr⟩:∃r,r=VG d s:=⟨_,rfl⟩
 rw[<-hr];unfold VG at hr;generalize YN s=v at*;generalize Uo d=u at*;clear hs;obtain⟨secs,ag,on⟩:=d;obtain⟨⟨ns,es,nn,ne⟩,rs,ts,ep,tail⟩:=s;simp only[Xy] at*;refine Yf ?_;refine Vt rfl (fun hq=> ?_) (fun hq=> ?_);refine W5_ ?_;(clear h1 h2;(try simp only at*);simp[*] at hr;subst hr;(show AWP prog E _ _ _;refine X2 ?_;exact(show Xa _ _ _ _ _ from⟨_,St.le_refl _,⟨rfl,TV⟩,X4 _⟩)));refine W8_ ?_;refine Ut rfl rfl (fun hq=> ?_) (fun hq=> ?_);refine W5_ ?_;refine Vt rfl (fun hq=> ?_) (fun hq=> ?_);refine W4_ ?_;(clear h1 h2;(try simp only at*);simp[*] at hr;subst hr;(show AWP prog E _ _ _;refine X2 ?_;exact(show Xa _ _ _ _ _ from⟨_,St.le_refl _,⟨rfl,TV⟩,X4 _⟩)));refine W5_ ?_;(clear h1 h2;(try simp only at*);simp[*] at hr;subst hr;(show AWP prog E _ _ _;refine X2 ?_;exact(show Xa _ _ _ _ _ from⟨_,St.le_refl _,⟨rfl,TV⟩,X4 _⟩)));refine XA ?_
 (clear h1 h2;(try simp only at*);simp[*] at hr;subst hr;(show AWP prog E _ _ _;refine X2 ?_;exact(show Xa _ _ _ _ _ from⟨_,St.le_refl _,⟨rfl,TV⟩,X4 _⟩)))
variable{d:ak}
theorem XbG {s:Sta} (h:VG d s=0):DOk d/\16<=d.aa.length/\YN s=true/\s.ep≠1000000000000000:=by
 unfold VG at h;by_cases c1:Uo d≠0
 ·rw[PI c1] at h;exact absurd h c1
 rw[NI c1] at h;by_cases c2:YN s=false\/s.ep=1000000000000000
 ·rw[PI c2] at h;simp at h
 obtain⟨h1,h2⟩:=Xe3 (by simpa using c1);exact⟨h1,h2,by
  by_cases q:YN s=true
  ·exact q
  ·exact absurd (.inl (by simpa using q)) c2,fun q=>c2 (.inr q)⟩
theorem Xlq (d:ak) (s:Sta) (hs:StaHold s) (hf:d.aa.length<=2000/\d.pending.length<=500):Con prog 39 [] [XU d,Xy s] [] (.tup [XU (U7 d s).1,Xy (U7 d s).2.1,ai (U7 d s).2.2]):=by
 refine ZCt func39 ntmps39 fun E=> ?_;have hv:=Xim d s hs;have aS:Xy Yd= .agg [.d (.sl 3 []),.d (.sl 5 []),ai 0,ai 0,.d (.sl 6 []),ai 0,ai 0,ai 0]:=rfl;by_cases q:VG d s=0
 case neg=>
  have e:U7 d s=(YU,Yd,VG d s):=PI q;rw[e];simp only[aS];clear e hs hf;generalize VG d s=x at*;obtain⟨secs,ag,on⟩:=d;obtain⟨⟨ns,es,nn,ne⟩,rs,ts,ep,tail⟩:=s;simp only[Xy] at*;refine UP ?_;exact Qvd
 have e:U7 d s=UR d s (s.ep+1):=NI (by simp[q]);obtain⟨o1,o2,o3,o4⟩:=XbG q;obtain⟨v1,v2,t0,t1,t2,t3,_⟩:=Vk.1 o3;rw[e];rw[q] at hv;obtain⟨EP,hE⟩:∃EP:Nat,s.ep+1=(EP:Int):=⟨(s.ep+1).toNat,by omega⟩
 have gO:=Xhc d s EP v1 v2 ⟨t0,t1⟩ (by omega) o1 hf o2;rw[hE];generalize UR d s (EP:Nat)=X at*;clear e o1 o2 o3 o4 v1 v2 hf hs q;obtain⟨⟨xs,xp,xo⟩,⟨⟨yn,ye,cB,cC⟩,yr,yt,yp,yl⟩,xe⟩:=X;obtain⟨secs,ag,on⟩:=d;obtain⟨⟨ns,es,nn,ne⟩,rs,ts,ep,tail⟩:=s;simp only[Xy] at*;refine YT ?_;refine ZBa (ep) (1) ((EP:Nat)) ?_ (e:=hE);refine W8_ ?_;exact QBd
def X6w (r:Rcd):Prop:=X0z r/\r.changes.length<=60
theorem Xce {r:Rcd} (h:X6w r):X45 r:=⟨h.1,XcL h.2⟩
theorem X6W (h:Uo d=0):DOk d/\16<=d.aa.length/\d.aa.length<=4096:=by
 obtain⟨h1,h2⟩:=Xe3 h;exact⟨h1,h2,(X1U h1.v).2.1⟩
theorem X7F (d:ak) (s:Sta) (l:List Rcd) (hs:StaHold s) (hf:VB d) (hl:l.length<=1000) (hr:∀r∈l,X6w r):Con prog 17 [] [XU d,Xy s,.d (.sl 10 (l.map Yp))] [] (.tup [XU (Ys d s l).1,Xy (Ys d s l).2.1,ai (Ys d s l).2.2]):=by
 refine ZCt func17 ntmps17 fun E=> ?_;have hu:=Xcg d;have hv:=Xa1 s hs;have hp:=X8Z s l hs (by omega) (fun r h=>(hr r h).1);have aS:Xy Yd= .agg [.d (.sl 3 []),.d (.sl 5 []),ai 0,ai 0,.d (.sl 6 []),ai 0,ai 0,ai 0]:=rfl;by_cases q1:Uo d=0
 case neg=>
  have e:Ys d s l=(YU,Yd,Uo d):=PI q1;rw[e];simp only[aS];clear e hs hf hr hv hp aS;generalize Uo d=x at*;obtain⟨secs,ag,on⟩:=d;obtain⟨⟨ns,es,nn,ne⟩,rs,ts,ep,tail⟩:=s;simp only[Xy] at*;exact QMd
 by_cases q2:YN s=true
 case neg=>
  have q2:YN s=false:=by simpa using q2
  have e:Ys d s l=(YU,Yd,19):=by unfold Ys;rw[NI (by simp[q1]),PI q2]
  rw[e];simp only[aS];rw[q1] at hu;rw[q2] at hv;clear e hs hf hr hp aS q1 q2;obtain⟨secs,ag,on⟩:=d;obtain⟨⟨ns,es,nn,ne⟩,rs,ts,ep,tail⟩:=s;simp only[Xy] at*;refine X1V ?_;exact Qvd
 by_cases q3:(YA s l).2=0
 case neg=>
  have e:Ys d s l=(YU,Yd,(YA s l).2):=by unfold Ys;rw[NI (by simp[q1]),NI (by simp[q2]),PI q3]
  rw[e];simp only[aS];rw[q1] at hu;rw[q2] at hv;clear e hs hf hr aS q1 q2;generalize (YA s l).2=x at*;generalize (YA s l).1=y at*;obtain⟨secs,ag,on⟩:=d;obtain⟨⟨yn,ye,cB,cC⟩,yr,yt,yp,yl⟩:=y;obtain⟨⟨ns,es,nn,ne⟩,rs,ts,ep,tail⟩:=s;simp only[Xy] at*;refine X7 ?_;refine YR ?_;exact Qvd
 have e:Ys d s l=if (Um d (X9 d:Nat) (d.aa.length:Nat) s.ep s.tail l).2.2≠0 then (YU,Yd,(Um d (X9 d:Nat) (d.aa.length:Nat) s.ep s.tail l).2.2) else ((Um d (X9 d:Nat) (d.aa.length:Nat) s.ep s.tail l).1,Uz (YA s l).1 (Um d (X9 d:Nat) (d.aa.length:Nat) s.ep s.tail l).2.1,0):=by unfold Ys;rw[NI (by simp[q1]),NI (by simp[q2]),NI (by simp[q3])]
 rw[e];obtain⟨o1,o2,o3⟩:=X6W q1;have aC:=X3P (d.aa.length:Nat);rw[X37 o2 o3] at aC;have ha:=Xox d (X9 d:Nat) (d.aa.length:Nat) s.ep s.tail l hf (fun r h=>Xce (hr r h)) hl;rw[q1] at hu;rw[q2] at hv;rw[q3] at hp;have aM:(d.aa.map XV).length=d.aa.length:=LM ..;clear e hs hf hr q1 q2 q3 o1 o2;generalize (YA s l).1=y at*;generalize Um d (X9 d:Nat) (d.aa.length:Nat) s.ep s.tail l=A at*;generalize Xt d=SN at*;generalize X9 d=LN at*;rw[<-aM] at aC ha;obtain⟨⟨xs,xp,xo⟩,a2,a3⟩:=A;obtain⟨secs,ag,on⟩:=d;obtain⟨⟨yn,ye,cB,cC⟩,yr,yt,yp,yl⟩:=y;obtain⟨⟨ns,es,nn,ne⟩,rs,ts,ep,tail⟩:=s;simp only[Xy,Uz] at*;by_cases q4:a3=0
 case neg=>
  rw[PI q4];simp only[Yd,map_nil];refine QCa ?_;refine UU ?_;exact Qvd
 rw[NI (by simp[q4])];subst q4;refine QCa ?_;refine YT ?_;exact QBd
theorem XaM:GoR 1 X1X:=XdX (by omega) fun c a x e h=>by
 unfold X1W at h;by_cases h0:a<0\/(c.length:Int)<a
 ·rw[PI h0] at h;simp at h
 ·rw[NI h0] at h;generalize hr:X0x c a 0=r at h;obtain⟨y,z,e'⟩:=r;simp only at h;by_cases he:e'=0
  ·subst he;simp only[if_true] at h;by_cases hy:Uk y=0
   ·rw[NI (by simp[hy])] at h;simp only[Prod.mk.injEq,and_true] at h;obtain⟨rfl,rfl⟩:=h;have h1:=XkD (by omega) hr;exact⟨by have:=h1.2;omega,h1.1.2.2.1⟩
   ·rw[PI hy] at h;simp only[Prod.mk.injEq] at h;exact absurd h.2.2 hy
  ·rw[NI he,PI he] at h;simp only[Prod.mk.injEq] at h;exact absurd h.2.2 he
theorem Xpm (b:List UInt8) (ts ep:Int) (hb:b.length<=1000000):Con prog 100 [] [.d (Xg b),.agg [aq,aq,ai 0,ai 0,aq,ai ts,ai ep,ai 0]] [] (.tup [Xy (X1E b ts ep).1,ab (X1E b ts ep).2]):=by
 refine ZCt func100 ntmps100 fun E=> ?_;have mh:Con prog 153 [(102,oC ⟨0,b,0,0⟩)] [.ptr 102 0] [(102,oC (YF ⟨0,b,0,0⟩).2)] (ai (YF ⟨0,b,0,0⟩).1):=YK 0 102 (X5C ⟨0,b,0,0⟩ (by simp only;omega));obtain⟨m0,hm0,nW⟩:=X5R ⟨0,b,0,0⟩;have iA:=XeZ.ok ⟨0,b,0,0⟩ ⟨Int.le_refl _,by simp⟩;have jA:=(X4L.keep ⟨0,b,0,0⟩).2;obtain⟨L1,iE⟩:∃L,VY X1X m0 (YF ⟨0,b,0,0⟩).2=L:=⟨_,rfl⟩
 have b7:X16 X1X ⟨0,b,0,0⟩=L1:=by unfold X16;simp only;rw[hm0,Int.toNat_natCast,iE]
 have lp:X66 ⟨0,b,0,0⟩=(((X16 X1X ⟨0,b,0,0⟩).1,((X16 X2C (X16 X1X ⟨0,b,0,0⟩).2).1,((YF (X16 X2C (X16 X1X ⟨0,b,0,0⟩).2).2).1,(YF (YF (X16 X2C (X16 X1X ⟨0,b,0,0⟩).2).2).2).1))),(YF (YF (X16 X2C (X16 X1X ⟨0,b,0,0⟩).2).2).2).2):=rfl;rw[b7] at lp;have nX:=Xfr XfE XaM (n:=m0) iA (by rw[jA];simp only;omega);rw[iE] at nX;have gP:L1.2.c=b:=by rw[<-b7];exact(Xhk XfE).keep _|>.2
 have ku:X4t L1.2:=by rw[<-iE];exact XlZ XaM m0 _ iA
 rw[hm0] at mh;generalize (YF ⟨0,b,0,0⟩).2=s0 at*;have e0:oC ⟨0,b,0,0⟩= .box [.d (Xg b),ai 0,ab false]:=rfl;rw[e0] at mh;obtain⟨k0,c0,a0,x0⟩:=s0;simp only at jA;subst jA;simp only[X7k] at mh;have pP:=ku;refine Yv ?_;refine Z3 (af:=mh) ?_;refine W2_ ?_;clear mh;refine X6x ⟨137,[(0,.d (Xg c0)),(3,.ptr 100 0),(4,.ptr 101 0),(6,.ptr 102 0)],[(100,.box [.d (.sl 3 []),.d (.sl 5 []),ai 0,ai 0,.d (.sl 6 (L1.1.map Xh)),ai ts,ai ep,ai 0]),(101,.box [aq,aq,ai 0,ai 0,aq,ai 0,ai 0,ai 0]),(102,.box [.d (Xg c0),ai (if L1.2.e=0 then L1.2.a else 0),ab (decide (L1.2.e≠0))])]⟩ ?_ ?_
 ·refine X8 (X2y 100 4 130 6 (cs:=[aq,aq,ai 0,ai 0,aq,ai ts,ai ep,ai 0]) rfl rfl rfl rfl rfl) ?_;clear lp b7 gP ku pP;refine W1_ ?_
  refine Xn (ι:=List Rul×Nat×Rd) (fun q=>q.1++(VY X1X q.2.1 q.2.2).1=L1.1/\(VY X1X q.2.1 q.2.2).2=L1.2/\q.2.2.c=c0/\X4t q.2.2/\q.2.1<=9223372036854775807)
   (fun q=>⟨137,[(0,.d (Xg c0)),(3,.ptr 100 0),(4,.ptr 101 0),(6,.ptr 102 0),(7,ai q.2.1)],[(100,.box [aq,aq,ai 0,ai 0,.own 130 (q.1.map Xh).length,ai ts,ai ep,ai 0]),(101,.box [aq,aq,ai 0,ai 0,aq,ai 0,ai 0,ai 0]),(102,.box [.d (Xg c0),ai (if q.2.2.e=0 then q.2.2.a else 0),ab (decide (q.2.2.e≠0))]),(130,.row 6 (q.1.map Xh))]⟩) (fun q=>q.2.1) ([],m0,⟨k0,c0,a0,x0⟩)
   ⟨by rw[iE];rfl,by rw[iE],rfl,iA,nW⟩
   (ZL0) ?_
  rintro⟨acc,j,s⟩ ⟨h1,h2,h3,h4,h5⟩;simp only at h1 h2 h3 h4 h5;have iV:=Xny h1 nX;have hroom:(acc.map Xh).length<=1073741825:=by rw[LM];exact iV
  by_cases cu:j=0\/s.e≠0
  ·have gZ:=Xj8 h1 h2 cu;subst gZ;have hgd:(¬(0:Int)<(j:Nat))\/((0:Int)<(j:Nat)/\s.e≠0):=by
    rcases cu with rfl|h
    ·exact .inl (by simp)
    ·by_cases h0:(0:Int)<(j:Nat)
     ·exact .inr ⟨h0,h⟩
     ·exact .inl h0
   obtain⟨k,c,a,e⟩:=s;simp only at hgd |-;rcases hgd with hj'|⟨hj',he⟩
   ·have mj:¬((j:Nat):Int)>0:=hj';refine Yx ?_;refine St.le_trans (XP 130 rfl) ?_;refine QNd ?_;refine QOd ?_;exact ZL0
   ·have mj:((j:Nat):Int)>0:=hj';have he':decide (e≠0)=true:=DT he;rw[he'];refine Yx ?_;refine St.le_trans (XP 130 rfl) ?_;refine QNd ?_;refine QOd ?_;exact ZL0
  have he:s.e=0:=by
   by_cases q:s.e=0
   ·exact q
   ·exact absurd (.inr q) cu
  obtain⟨i,rfl⟩:∃i,j=i+1:=⟨j-1,by omega⟩
  have hj':((i+1:Nat):Int)>0:=by omega
  rw[Xn4 he] at h1 h2;simp only at h1 h2;have fI:=XaM.ok s h4;obtain⟨k,c,a,e⟩:=s;simp only at he h3;subst he;subst h3;have hr:=XqL c a (by omega);have hz:=Xxl (b:=c) (a:=a);rw[Xxt] at h1 h2 fI;simp only at h1 h2 fI;generalize X1W c a=u at*;obtain⟨x,u2,u3⟩:=u;simp only at hr hz h1 h2 fI;have ht:Con prog 156 [(102,.box [.d (Xg c),ai a,ab false])] [.ptr 102 0,ai u2,ai u3] [(102,.box [.d (Xg c),ai u2,ab (decide (u3≠0))])] (.tup []):=YK 0 102 (Xdx c a u2 u3);have mm:(.box [.d (Xg c),ai (if u3=0 then (if u3=0 then u2 else a) else 0),ab (decide (u3≠0))]:AObj)= .box [.d (Xg c),ai u2,ab (decide (u3≠0))]:=(X7k k c _ _).symm.trans (Xhv hz);have gD:(acc++[x]).map Xh=acc.map Xh++[Xh x]:=by simp
  have f1:(if (0:Int)=0 then a else 0)=a:=rfl;have f2:decide ((0:Int)≠0)=false:=rfl;clear hz iE cu h4;obtain⟨rk,rn,eY,gG,gH,gI⟩:=x;simp only[Yu,Xh] at hr gD;simp only[f1,f2];refine U1 ?_;refine Z3 (af:=hr) ?_;refine U1 ?_;refine ZBs (((i+1:Nat):Int)) (1) ((i:Nat):Int) ?_;refine W2_ ?_;refine⟨(acc++[⟨rk,rn,eY,gG,gH,gI⟩],i,⟨k,c,if u3=0 then u2 else a,u3⟩),⟨by simpa using h1,h2,rfl,fI,by simp only;omega⟩,by show i<i+1;omega,?_⟩;dsimp only;rw[gD,mm];exact Xb rfl JM ⟨by refine Eq.trans (b:=AObj.box [aq,aq,ai 0,ai 0,.own 130 (_+_),ai ts,ai ep,ai 0]) rfl ?_;rw[LA],rfl,rfl,rfl,TV⟩
 clear iE b7 iA nW hm0;generalize pQ:L1.1=rs at*;generalize pR:L1.2=s at*;clear pQ pR;have fk:Con prog 153 [(102,oC s)] [.ptr 102 0] [(102,oC (YF s).2)] (ai (YF s).1):=YK 0 102 (X5C s (by rw[gP];omega));obtain⟨m1,ej,nY⟩:=X5R s;have mo:=XeZ.ok s ku;have kR:=(X4L.keep s).2;obtain⟨L2,hL2⟩:∃L,VY X2C m1 (YF s).2=L:=⟨_,rfl⟩
 have bM:X16 X2C s=L2:=by unfold X16;simp only;rw[ej,Int.toNat_natCast,hL2]
 have nZ:=Xfr Xi3 Xnm (n:=m1) mo (by rw[kR,gP];omega);rw[hL2] at nZ;have jB:L2.2.c=c0:=by rw[<-bM];exact((Xhk Xi3).keep s).2.trans gP
 rw[bM] at lp;rw[ej] at fk;generalize (YF s).2=s1 at*;rw[gP] at kR;obtain⟨k,c,a,e⟩:=s;obtain⟨k1,c1,a1,e1⟩:=s1;simp only at gP kR;subst gP;subst kR;simp only[X7k] at fk;refine W8_ ?_;refine Z3 (af:=fk) ?_;refine W2_ ?_;clear fk;refine X6x ⟨137,[(0,.d (Xg c1)),(3,.ptr 100 0),(4,.ptr 101 0),(6,.ptr 102 0),(11,.d (.sl 10 (L2.1.map Xs)))],[(100,.box [.d (.sl 3 []),.d (.sl 5 []),ai 0,ai 0,.d (.sl 6 (rs.map Xh)),ai ts,ai ep,ai 0]),(101,.box [aq,aq,ai 0,ai 0,aq,ai 0,ai 0,ai 0]),(102,.box [.d (Xg c1),ai (if L2.2.e=0 then L2.2.a else 0),ab (decide (L2.2.e≠0))])]⟩ ?_ ?_
 ·refine X8 (Uu 11 131 10 rfl rfl rfl) ?_;clear lp bM jB;refine W1_ ?_
  refine Xn (ι:=List Chg×Nat×Rd) (fun q=>q.1++(VY X2C q.2.1 q.2.2).1=L2.1/\(VY X2C q.2.1 q.2.2).2=L2.2/\q.2.2.c=c1/\X4t q.2.2/\q.2.1<=9223372036854775807)
   (fun q=>⟨137,[(0,.d (Xg c1)),(3,.ptr 100 0),(4,.ptr 101 0),(6,.ptr 102 0),(11,.own 131 (q.1.map Xs).length),(12,ai q.2.1)],[(100,.box [.d (.sl 3 []),.d (.sl 5 []),ai 0,ai 0,.d (.sl 6 (rs.map Xh)),ai ts,ai ep,ai 0]),(101,.box [aq,aq,ai 0,ai 0,aq,ai 0,ai 0,ai 0]),(102,.box [.d (Xg c1),ai (if q.2.2.e=0 then q.2.2.a else 0),ab (decide (q.2.2.e≠0))]),(131,.row 10 (q.1.map Xs))]⟩) (fun q=>q.2.1) ([],m1,⟨k1,c1,a1,e1⟩)
   ⟨by rw[hL2];rfl,by rw[hL2],rfl,mo,nY⟩
   (ZL0) ?_
  rintro⟨acc,j,s⟩ ⟨h1,h2,h3,h4,h5⟩;simp only at h1 h2 h3 h4 h5;have iV:=Xny h1 nZ;have hroom:(acc.map Xs).length<=1073741825:=by rw[LM];exact iV
  by_cases cu:j=0\/s.e≠0
  ·have gZ:=Xj8 h1 h2 cu;subst gZ;have hgd:(¬(0:Int)<(j:Nat))\/((0:Int)<(j:Nat)/\s.e≠0):=by
    rcases cu with rfl|h
    ·exact .inl (by simp)
    ·by_cases h0:(0:Int)<(j:Nat)
     ·exact .inr ⟨h0,h⟩
     ·exact .inl h0
   obtain⟨k,c,a,e⟩:=s;simp only at hgd |-;rcases hgd with hj'|⟨hj',he⟩
   ·have mj:¬((j:Nat):Int)>0:=hj';refine Yx ?_;refine St.le_trans (XP 131 rfl) ?_;refine St.le_trans (Y7 11 131 rfl rfl rfl) ?_;exact ZL0
   ·have mj:((j:Nat):Int)>0:=hj';have he':decide (e≠0)=true:=DT he;rw[he'];refine Yx ?_;refine St.le_trans (XP 131 rfl) ?_;refine St.le_trans (Y7 11 131 rfl rfl rfl) ?_;exact ZL0
  have he:s.e=0:=by
   by_cases q:s.e=0
   ·exact q
   ·exact absurd (.inr q) cu
  obtain⟨i,rfl⟩:∃i,j=i+1:=⟨j-1,by omega⟩
  have hj':((i+1:Nat):Int)>0:=by omega
  rw[Xn4 he] at h1 h2;simp only at h1 h2;have fI:=Xnm.ok s h4;obtain⟨k,c,a,e⟩:=s;simp only at he h3;subst he;subst h3;have hr:=Xs1 c a (by omega);have hz:=Xpi (b:=c) (a:=a);rw[XoJ] at h1 h2 fI;simp only at h1 h2 fI;generalize X1T c a=u at*;obtain⟨x,u2,u3⟩:=u;simp only at hr hz h1 h2 fI;have ht:Con prog 156 [(102,.box [.d (Xg c),ai a,ab false])] [.ptr 102 0,ai u2,ai u3] [(102,.box [.d (Xg c),ai u2,ab (decide (u3≠0))])] (.tup []):=YK 0 102 (Xdx c a u2 u3);have mm:(.box [.d (Xg c),ai (if u3=0 then (if u3=0 then u2 else a) else 0),ab (decide (u3≠0))]:AObj)= .box [.d (Xg c),ai u2,ab (decide (u3≠0))]:=(X7k k c _ _).symm.trans (Xhv hz);have gD:(acc++[x]).map Xs=acc.map Xs++[Xs x]:=by simp
  have f1:(if (0:Int)=0 then a else 0)=a:=rfl;have f2:decide ((0:Int)≠0)=false:=rfl;clear hz hL2 cu h4;obtain⟨op,id,src,dst,name,⟨vk,vn,vd,vs,vl⟩⟩:=x;simp only[Xz,Xs] at hr gD;simp only[f1,f2];refine U1 ?_;refine Z3 (af:=hr) ?_;refine Vl ?_;refine ZBs (((i+1:Nat):Int)) (1) ((i:Nat):Int) ?_;refine W2_ ?_;refine⟨(acc++[⟨op,id,src,dst,name,.mk vk vn vd vs vl⟩],i,⟨k,c,if u3=0 then u2 else a,u3⟩),⟨by simpa using h1,h2,rfl,fI,by simp only;omega⟩,by show i<i+1;omega,?_⟩;dsimp only;rw[gD,mm];exact Xb rfl ⟨JL,JL,JL,JL,AVal.le_of_eq (by refine Eq.trans (b:=AVal.own 131 (_+_)) rfl ?_;simp only[LA,LC,length_nil]),JL,TV⟩ ⟨rfl,rfl,rfl,rfl,TV⟩
 clear hL2 bM mo nY ej;generalize pQ:L2.1=cs at*;generalize pR:L2.2=s at*;clear pQ pR;have kZ:Con prog 153 [(102,oC s)] [.ptr 102 0] [(102,oC (YF s).2)] (ai (YF s).1):=YK 0 102 (X5C s (by rw[jB];omega));have iz:(YF s).2.c=c1:=(X4L.keep s).2.trans jB;generalize (YF s).1=n1 at*;generalize (YF s).2=s2 at*;have jl:Con prog 153 [(102,oC s2)] [.ptr 102 0] [(102,oC (YF s2).2)] (ai (YF s2).1):=YK 0 102 (X5C s2 (by rw[iz];omega));have o7:(YF s2).2.c=c1:=(X4L.keep s2).2.trans iz;generalize (YF s2).1=n2 at*;generalize (YF s2).2=s3 at*;obtain⟨k',c',a',e'⟩:=s;obtain⟨k2,c2,a2,e2⟩:=s2;obtain⟨k3,c3,a3,e3⟩:=s3;simp only at jB iz o7;subst jB;subst iz;subst o7;simp only[X7k] at kZ jl;have hK:X1E c3 ts ep=if e3≠0\/a3≠c3.length then (Yd,false) else X8i c3 ts ep rs n1 n2 (V9 UA cs):=by
  unfold X1E;simp only[lp]
 have pO:=XeX;have hap:=XjQ UA cs Xc7 (by omega);have gB:=XhI UA cs;have ie:(c3.map X5).length=c3.length:=LM ..;have aS:Xy Yd= .agg [.d (.sl 3 []),.d (.sl 5 []),ai 0,ai 0,.d (.sl 6 []),ai 0,ai 0,ai 0]:=rfl;clear lp;generalize V9 UA cs=R at*;obtain⟨⟨mq,mu,tF,tG⟩,gk,ge⟩:=R;unfold Xg at*;simp only[Y6,map_nil] at pO hap gB;by_cases q1:e3=0
 case neg=>
  have e:X1E c3 ts ep=(Yd,false):=by rw[hK,PI (Or.inl q1)]
  rw[e];clear e hK;simp only[aS];have dI:decide (e3≠0)=true:=DT q1;rw[dI] at jl;refine QPd ?_;refine U1 ?_;exact QJd
 subst q1;simp only[if_true,ne_eq,not_true_eq_false,decide_false] at jl;by_cases q2:a3=(c3.length:Nat)
 case neg=>
  have e:X1E c3 ts ep=(Yd,false):=by rw[hK,PI (Or.inr q2)]
  rw[e];clear e hK;simp only[aS];have fX:¬a3=((c3.map X5).length:Nat):=by omega
  refine QPd ?_;refine U1 ?_;exact QJd
 have fX:a3=((c3.map X5).length:Nat):=by omega
 rw[NI (by rintro(h|h);exact h rfl;exact h q2)] at hK;unfold X8i at hK;simp only at hK;by_cases q3:ge=0
 case neg=>
  have e:X1E c3 ts ep=(Yd,false):=by rw[hK,PI q3]
  rw[e];clear e hK;simp only[aS];refine QPd ?_;refine QY ?_;exact QJd
 subst q3;rw[NI (by simp)] at hK;rw[hK];clear hK;simp only;have pS:StaHold ⟨⟨mq,mu,n1,n2⟩,rs,ts,ep,0⟩:=⟨⟨gB.nl,gB.el,gB.nodes,gB.aj⟩,by simp only;omega⟩
 have ng:=Xa1 _ pS;by_cases q4:YN ⟨⟨mq,mu,n1,n2⟩,rs,ts,ep,0⟩=true
 case neg=>
  rw[show YN ⟨⟨mq,mu,n1,n2⟩,rs,ts,ep,0⟩=false by simpa using q4] at ng |-;rw[Bool.false_and];clear q4 pS gB;simp only[Xy] at ng |-;refine QPd ?_;refine X7 ?_;refine UD ?_;exact QId
 obtain⟨v1,v2,_⟩:=Vk.1 q4;have bD:=Xfv _ v1 v2 (X5u v1);have heq:=XmC (Xv ⟨mq,mu,n1,n2⟩ rs) c3 (by have:=X9n v1 v2;simp only at this;omega);rw[q4] at ng |-;rw[Bool.true_and];clear q4 pS gB v1 v2;unfold Xg at*;generalize (Xv ⟨mq,mu,n1,n2⟩ rs)=SB at*;generalize decide (SB=c3)=G at*;simp only[Xy] at ng bD |-;refine QPd ?_;refine X7 ?_;refine UD ?_;exact QId
theorem Xir (ep:Int):∀(n:Nat) (b:List UInt8) (a:Nat),b.length<=1000000->(∀r∈(V6 ep n b a).1,X0z r)/\(V6 ep n b a).1.length<=n
 |0,_,_,_=>by simp[V6]
 |n+1,b,a,hb=>by
  by_cases h:X1o b=true/\(X0t (Y5 b) ep).2=true
  ·rw[X6A ep b a n h];obtain⟨k1,k2⟩:=Xir ep n (b.drop ((Y5 b).length+1)) (a+((Y5 b).length+1)) (by rw[LD];omega);refine⟨fun r hr=> ?_,by simpa using k2⟩;rcases mem_cons.1 hr with rfl|hr
   ·have hlt:=X88 h.1;unfold X0t;cases hu:Vj (Y5 b) with
    |none=>exact⟨by simp,by simp⟩
    |some raw=>
     have ju:=Xc2 (Y5 b).length (Y5 b) raw (Nat.le_refl _) hu;simp only;unfold X5Y;split
     ·exact⟨by simp,by simp⟩
     ·unfold X8Q;split
      ·exact⟨by simp,by simp⟩
      ·have:=Xbn raw 0;exact Xwh _ (by rw[LD];omega)
   ·exact k1 r hr
  ·rw[X5O ep b a n h];exact⟨by simp,by simp⟩
theorem Xb1 {f t ep:Int} (hf:VB d):(∀r∈(X0B d f t ep).1,X0z r)/\(X0B d f t ep).1.length<=9223372036854775807:=by
 unfold X0B;by_cases h:Uh d f t ep 0=0
 ·rw[NI (by rw[h];simp)];obtain⟨hd,h1,h2,h3,_⟩:=X82 h;have hl:(Y9 d f t).length<=200000:=by
   unfold Y9;rw[X0Y hd _ _ (by omega)];have:=hf.1;omega
  obtain⟨k1,k2⟩:=Xir ep ((Y9 d f t).length+1) (Y9 d f t) 0 (by omega);exact⟨k1,by unfold X05;simp only;omega⟩
 ·rw[PI h];exact⟨by simp,by simp⟩
end Go.Fw

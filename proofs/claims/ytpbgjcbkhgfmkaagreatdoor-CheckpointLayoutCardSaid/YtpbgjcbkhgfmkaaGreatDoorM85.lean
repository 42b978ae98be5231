/- The disk: Ta. -/
import Derived.Test.YtpbgjcbkhgfmkaaGreatDoorChecked
import Derived.Test.YtpbgjcbkhgfmkaaGreatDoorM68
set_option maxHeartbeats 64000000
namespace Go.Fw
open Go Go.Proofs Tryz List
set_option maxRecDepth 100000
set_option linter.unusedVariables false
set_option linter.unusedSimpArgs false
theorem XwW:Con prog 110 [] [] [] (.d (.sl 1 (replicate 64 [.v (.int .u8 0)]))):=by
 refine ZC1 func110 ntmps110 fun E=> ?_;refine XG ?_;refine X8 (Uu 1 100 1 rfl rfl rfl) ?_
 refine Xn (fun k:Nat=>k<=64) (fun k=>⟨11,[(1,.own 100 k),(2,ai k)],[(100,.row 1 (replicate k [.v (.int .u8 0)]))]⟩) (fun k=>64-k) 0 (by omega)
  (Xb rfl ⟨AVal.le_refl _,AVal.le_refl _,TV⟩ ⟨rfl,TV⟩) ?_
 intro k hk;refine W6_ ?_;refine X20 rfl (fun h=> ?_) (fun h=> ?_)
 ·have h:=of_decide_eq_true h;refine XG ?_;exact⟨k+1,by omega,by omega,Xb rfl ⟨JL,AVal.le_refl _,TV⟩ ⟨by rw[replicate_succ'];rfl,TV⟩⟩
 ·have h:=of_decide_eq_false h;obtain rfl:k=64:=by omega
  refine W6_ ?_;refine X2 ?_;exact⟨_,St.le_trans (XP 100 rfl) (Y7 0 100 rfl rfl (by simp)),⟨rfl,TV⟩,X4 _⟩
theorem XnT:Con prog 110 [] [] [] (.d (Xg Yy)):=XwW
theorem Xwg (n:Int):Con prog 65 [] [ai n] [] (X0O (XU (Uy n).1) (Uy n).2):=by
 refine ZCt func65 ntmps65 fun E=> ?_;by_cases h1:n<1
 ·rw[show Uy n=(YU,1) by unfold Uy;rw[NI (by omega)]];exact Qrc
 by_cases h2:4096<n
 ·rw[show Uy n=(YU,1) by unfold Uy;rw[NI (by omega)]];exact Qrc
 obtain⟨m,rfl⟩:∃m:Nat,n=m:=⟨n.toNat,by omega⟩
 rw[show Uy (m:Int)=(⟨replicate m Yy,[],true⟩,0) by unfold Uy;rw[PI (by omega),Int.toNat_natCast]];refine U1 ?_;refine X8 (Uu 4 121 1 rfl rfl rfl) ?_
 refine Xn (fun k:Nat=>k<=m) (fun k=>⟨24,[(0,ai m),(2,.ptr 100 0),(4,.own 121 k),(5,ai k)],[(100,.box [aq,aq,ab false]),(121,.row 1 ((replicate k Yy).map XV))]⟩) (fun k=>m-k) 0 (by omega)
  (Xb rfl ⟨JL,JL,JL,JL,TV⟩ ⟨rfl,rfl,TV⟩) ?_
 intro k hk;by_cases hlt:k<m
 ·refine XQ ?_;refine Z3 (af:=XnT) ?_;refine W9_ ?_;refine⟨k+1,by omega,by omega,Xb rfl ⟨JL,JL,JL,JL,TV⟩ ⟨rfl,?_,TV⟩⟩;refine Eq.trans (b:=AObj.row 1 (_++[XV Yy])) rfl ?_;rw[replicate_succ',map_append];rfl
 obtain rfl:k=m:=by omega
 refine X8 (XP 121 rfl) ?_;refine X8 (Y7 4 121 rfl rfl (by simp)) ?_;refine Yg ?_;exact X2 ⟨_,Xq 100 (cs:=[.d (XL (replicate k Yy)),aq,ab true]) (cs':=[.d (XL (replicate k Yy)),.d (XS []),ab true]) rfl ⟨AVal.le_refl _,AVal.le_nil 2,AVal.le_refl _,TV⟩ rfl,⟨⟨100,0,_,rfl,rfl,.inr ⟨3,_,rfl,rfl,rfl,rfl⟩⟩,rfl,TV⟩,X4 _⟩
theorem Xvq (n:Int) (hn:n<=2000):Con prog 33 [] [ai n] [] (.tup [XU (Ve n).1,Xy (Ve n).2.1,ai (Ve n).2.2]):=by
 refine ZCt func33 ntmps33 fun E=> ?_;have hl:=X56 n;have aS:Xy Yd= .agg [.d (.sl 3 []),.d (.sl 5 []),ai 0,ai 0,.d (.sl 6 []),ai 0,ai 0,ai 0]:=rfl;by_cases q:(VA n).2.2=false
 ·have e:Ve n=(YU,Yd,1):=PI q;rw[e];simp only[aS];rw[q] at hl;generalize (VA n).1=a at*;generalize (VA n).2.1=b at*;refine UD ?_;exact QLd
 have aL:16<=n:=by
  by_cases h:n<16
  ·rw[X6c (.inl h)] at q;simp at q
  ·omega
 obtain⟨o1,o2,o3,_⟩:=XdS aL hn;have hlen:((Uy n).1.aa.length:Int)=n:=by rw[o3];omega
 have hfit:(Xv UA []).length<=Xt (Uy n).1*64:=by
  have:(Xv UA []).length<=64:=by decide+kernel
  have:3<=Xt (Uy n).1:=by unfold Xt;omega
  omega
 have e:Ve n=(sv6 (Uy n).1 (Xv UA []) (XJ ((1:Nat):Int)) ((1:Nat):Int) 0,⟨UA,[],0,1,0⟩,0):=by
  have:Ve n=UR (Uy n).1 ⟨UA,[],0,0,0⟩ 1:=NI q;rw[this];exact NI (by show ¬(Xt (Uy n).1*64:Nat)<(Xv UA []).length;omega)
 rw[e];rw[show (VA n).2.2=true by simpa using q] at hl;have gU:=Xwg n;have pO:=XiW;have hst:=Xfd (Uy n).1 ⟨UA,[],0,0,0⟩ 1 rfl (X5Q.1 Xa9) ⟨fun r h=>by simp at h,Pairwise.nil,by simp⟩ ⟨by simp,by simp⟩ (by decide) o1 ⟨by omega,by rw[o2];simp⟩ (by omega) hfit;have iF:=Xkl (d:=(Uy n).1) (b:=Xv UA []) (K:=XJ ((1:Nat):Int)) (ep:=((1:Nat):Int)) (ts:=0);have hT:=Xag (d:=(Uy n).1) (b:=Xv UA []) (K:=XJ ((1:Nat):Int)) (ep:=((1:Nat):Int)) (ts:=0) (by omega) hfit;rw[<-length_map (f:=XO)] at hT;simp only at hst;generalize (svT (Uy n).1 (Xv UA []) (XJ ((1:Nat):Int)) ((1:Nat):Int) 0).map XO=T at*;generalize sv6 (Uy n).1 (Xv UA []) (XJ ((1:Nat):Int)) ((1:Nat):Int) 0=X at*;generalize (VA n).1=a at*;generalize (VA n).2.1=b at*;clear e q o1 o2 o3 hfit hlen;generalize (Uy n).1=d at*;generalize (Uy n).2=d2 at*;obtain⟨jr,kj⟩:=iF;obtain⟨xs,xp,xo⟩:=X;simp only[XO] at jr;obtain⟨secs,ag,on⟩:=d;simp only[Xy,Y6,map_nil] at*;refine QUa ?_;refine ZBs ((T.length:Nat):Int) ((1:Nat):Int) (((T.length-1):Nat):Int) ?_;refine W7_ ?_;exact X2 ⟨_,Xq 101 (cs':=[.d (.sl 3 []),.d (.sl 5 []),ai 1,ai 1,.d (.sl 6 []),ai 0,ai 1,ai 0]) rfl ⟨AVal.le_refl _,AVal.le_refl _,AVal.le_refl _,AVal.le_refl _,AVal.le_nil 6,AVal.le_refl _,AVal.le_refl _,AVal.le_refl _,TV⟩ rfl,⟨⟨100,0,_,rfl,rfl,.inr ⟨3,_,rfl,rfl,rfl,rfl⟩⟩,⟨101,0,_,rfl,rfl,.inr ⟨8,_,rfl,rfl,rfl,rfl⟩⟩,rfl,TV⟩,X4 _⟩
theorem Xxq {n:Int}:StaHold (Ve n).2.1:=by
 unfold Ve;split
 ·exact⟨X2Y,by simp⟩
 ·exact Xlc ⟨Xc7,by simp⟩
theorem Xrc (n:Int):Con prog 5 [] [ai n] [] (ab true):=by
 refine ZC1 func5 ntmps5 fun E=> ?_;have ha:=X64;have b7:=X3P n;have bM:=X56 n;by_cases q:n<=60
 case neg=>
  have q':n>60:=by omega
  by_cases q2:4096<n
  ·rw[X6c (.inr q2)] at b7 bM;refine X7 ?_;refine XA ?_;refine Qzc ?_;refine W2_ ?_;refine QG ?_;refine Yf ?_
   (show AWP prog E _ _ _;refine X2 ?_;exact(show Xa _ _ _ _ _ from⟨_,St.le_refl _,⟨rfl,TV⟩,X4 _⟩))
  obtain⟨m,rfl⟩:∃m:Nat,n=((m+2:Nat):Int):=⟨(n-2).toNat,by omega⟩
  rw[X9k (by omega) (by omega)] at b7 bM;have w1:¬((m/4:Nat):Int)<1:=by omega
  have w2:¬((2+2*(m/4):Nat):Int)≥((m+2:Nat):Int):=by omega
  have w3:m/4<=2000:=by omega
  clear q q2;generalize m/4=k at*;refine Qla ?_;refine ZBM 2 k ?_;refine ZBA 2 (2*k) ?_;refine Yq ?_
  (show AWP prog E _ _ _;refine X2 ?_;exact(show Xa _ _ _ _ _ from⟨_,St.le_refl _,⟨rfl,TV⟩,X4 _⟩))
 have q':¬n>60:=by omega
 have qJ:=Xej n (by omega);have qK:=Xvq n (by omega);have h5:=X9j (Ve n).1;have h6:=X46 (Ve n).2.1 Xxq;generalize Ve n=A at*;obtain⟨⟨xs,xp,xo⟩,⟨⟨yn,ye,cB,cC⟩,yr,yt,yp,yl⟩,e⟩:=A;simp only[Xy] at*;by_cases q2:n<16
 ·rw[X6c (.inl q2)] at b7 bM;refine X7 ?_;refine XA ?_;refine Qzc ?_;refine W2_ ?_;refine QG ?_;refine X7 ?_;refine Yw ?_
  (show AWP prog E _ _ _;refine X2 ?_;exact(show Xa _ _ _ _ _ from⟨_,St.le_refl _,⟨rfl,TV⟩,X4 _⟩))
 obtain⟨m,rfl⟩:∃m:Nat,n=((m+2:Nat):Int):=⟨(n-2).toNat,by omega⟩
 rw[X9k (by omega) (by omega)] at b7 bM;have w1:¬((m/4:Nat):Int)<1:=by omega
 have w2:¬((2+2*(m/4):Nat):Int)≥((m+2:Nat):Int):=by omega
 have w3:m/4<=2000:=by omega
 clear q q2;generalize m/4=k at*;refine Qla ?_;refine ZBM 2 k ?_;refine ZBA 2 (2*k) ?_;refine X7 ?_;refine YY ?_
 (show AWP prog E _ _ _;refine X2 ?_;exact(show Xa _ _ _ _ _ from⟨_,St.le_refl _,⟨rfl,TV⟩,X4 _⟩))
end Go.Fw

/- Play. -/
import Derived.Test.YtpbgjcbkhgfmkaaGreatDoorM66
set_option maxHeartbeats 64000000
namespace Go.Fw
open Go Go.Proofs Tryz List
set_option maxRecDepth 100000
theorem XuZ (s:Sta) (r:Rcd) (hs:StaHold s) (hr:X0z r):Con prog 6 [] [Xy s,Uv r] [] (ab true):=by
 refine ZC1 func6 ntmps6 fun E=> ?_;have ha:=X64;have aM:=Xbb s;have fP:=Xbi [r] (by simp);have hp:=XnA s r hs hr;have hq:=Xls s r hs hr;have jC:=X46 (U3 s r).1 XlU;by_cases q1:X4p s=true
 case neg=>
  rw[show X4p s=false by simpa using q1] at aM;clear hp hq jC hs hr fP;obtain⟨⟨ns,es,nn,ne⟩,rs,ts,ep,tail⟩:=s;simp only[Xy] at*;refine Vl ?_
  (show AWP prog E _ _ _;refine X2 ?_;exact(show Xa _ _ _ _ _ from⟨_,St.le_refl _,⟨rfl,TV⟩,X4 _⟩))
 rw[q1] at aM;by_cases q2:X1i [r]=true
 case neg=>
  rw[show X1i [r]=false by simpa using q2] at fP;clear hp hq jC hs hr q1 q2;obtain⟨⟨ns,es,nn,ne⟩,rs,ts,ep,tail⟩:=s;obtain⟨kd,rts,l,⟨k,n,name,key,src,dst⟩,off⟩:=r;simp only[Xy,Uv,Yu,X4Z,Yp,map_cons,map_nil] at*;refine Vl ?_
  (show AWP prog E _ _ _;refine X2 ?_;exact(show Xa _ _ _ _ _ from⟨_,St.le_refl _,⟨rfl,TV⟩,X4 _⟩))
 rw[q2] at fP;clear hs hr q1 q2;generalize (U3 s r).2=e at*;generalize (U3 s r).1=y at*;obtain⟨⟨ns,es,nn,ne⟩,rs,ts,ep,tail⟩:=s;obtain⟨kd,rts,l,⟨k,n,name,key,src,dst⟩,off⟩:=r;obtain⟨⟨yn,ye,cB,cC⟩,yr,yt,yp,yl⟩:=y;simp only[Xy,Uv,Yu,X4Z,Yp,map_cons,map_nil] at*;refine X7 ?_;refine U8 ?_
 (show AWP prog E _ _ _;refine X2 ?_;exact(show Xa _ _ _ _ _ from⟨_,St.le_refl _,⟨rfl,TV⟩,X4 _⟩))
theorem aR (r:Rcd):Uv r= .agg ((Yp r).map .d):=rfl
end Go.Fw

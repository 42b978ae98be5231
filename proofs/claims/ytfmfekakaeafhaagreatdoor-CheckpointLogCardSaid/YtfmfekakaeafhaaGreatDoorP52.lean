/- Format, Save, SaveTrace of the program. -/
import Derived.Test.YtfmfekakaeafhaaGreatDoorP31
import Derived.Test.YtfmfekakaeafhaaGreatDoorP47
set_option linter.all false
set_option maxHeartbeats 32000000
namespace Go.Fw
open Go Go.Proofs Tryz List
open List renaming length->J
set_option maxRecDepth 100000
def Xnp (d:ak) (s:Sta) (hs:StaHold s):Con prog 52 [] [XY d,Xz s] [] (ai (bW d s)):=by
 refine ZC1 func52 ntmps52 fun E=> ?_;have h1:=XgJ d;have h2:=Xbx s hs;obtain⟨r,hr⟩:∃r,r=bW d s:=⟨_,rfl⟩
 rw[<-hr];unfold bW at hr;generalize YH s=v at*;generalize UH d=u at*;clear hs;obtain⟨secs,af,on⟩:=d;obtain⟨⟨ns,es,nn,ne⟩,rs,ts,ep,tail⟩:=s;simp only[Xz] at*;refine Yh ?_;refine VI rfl ?_ ?_<;>intro hq;refine W5_ ?_;(clear h1 h2;(try simp only at*);simp[*] at hr;subst hr;(exact Zz2));refine W8_ ?_;refine Ux rfl rfl ?_ ?_<;>intro hq;refine W5_ ?_;refine VI rfl ?_ ?_<;>intro hq;refine W4_ ?_;(clear h1 h2;(try simp only at*);simp[*] at hr;subst hr;(exact Zz2));refine W5_ ?_;(clear h1 h2;(try simp only at*);simp[*] at hr;subst hr;(exact Zz2));refine XA ?_
 (clear h1 h2;(try simp only at*);simp[*] at hr;subst hr;(exact Zz2))
def Xd1 {d:ak}{s:Sta} (h:bW d s=0):DOk d/\16<=J d.aa/\YH s=true/\s.ep≠1000000000000000:=by
 unfold bW at h;by_cases c1:UH d≠0
 ·rw[PI c1] at h;exact absurd h c1
 rw[NI c1] at h;by_cases c2:YH s=false\/s.ep=1000000000000000
 ·rw[PI c2] at h;simp at h
 obtain⟨h1,h2⟩:=Xgc IE;exact⟨h1,h2,by
  by_cases q:YH s=true
  ·exact q
  ·exact absurd (.inl IK) c2,fun q=>c2 (.inr q)⟩
def Xpc (d:ak) (s:Sta) (hs:StaHold s) (hf:J d.aa<=2000/\J d.pending<=500):Con prog 25 [] [XY d,Xz s] [] (.tup [XY (Up d s).1,Xz (Up d s).2.1,ai (Up d s).2.2]):=by
 refine ZCt func25 ntmps25 fun E=> ?_;have hv:=Xnp d s hs;have aV:Xz XT= .agg [.d (.sl 3 []),.d (.sl 5 []),ai 0,ai 0,.d (.sl 6 []),ai 0,ai 0,ai 0]:=rfl;by_cases q:bW d s=0
 case neg=>
  have e:Up d s=(Ur,XT,bW d s):=PI q;rw[e];simp only[aV];clear e hs hf;generalize bW d s=x at*;obtain⟨secs,af,on⟩:=d;obtain⟨⟨ns,es,nn,ne⟩,rs,ts,ep,tail⟩:=s;simp only[Xz] at*;refine UK ?_;exact QGe
 have e:Up d s=Vi d s (s.ep+1):=NI Ip;obtain⟨o1,o2,o3,o4⟩:=Xd1 q;obtain⟨v1,v2,t0,t1,t2,t3,_⟩:=Vz.1 o3;rw[e];rw[q] at hv;obtain⟨EP,hE⟩:∃EP:Nat,s.ep+1=(EP:Int):=⟨(s.ep+1).toNat,Oa⟩
 have iM:=Xlh d s EP v1 v2 ⟨t0,t1⟩ Oa o1 hf o2;rw[hE];generalize Vi d s (EP:Nat)=X at*;clear e o1 o2 o3 o4 v1 v2 hf hs q;obtain⟨⟨xs,xp,xo⟩,⟨⟨yn,ye,ck,cm⟩,yr,yt,yp,yl⟩,xe⟩:=X;obtain⟨secs,af,on⟩:=d;obtain⟨⟨ns,es,nn,ne⟩,rs,ts,ep,tail⟩:=s;simp only[Xz] at*;refine YG ?_;refine ZBa (ep) (1) ((EP:Nat)) ?_ (e:=hE);refine W8_ ?_;exact QIe
end Go.Fw

/- The check of a rule: the program's. -/
import Derived.Test.YtlkcofbjniphbaaGreatDoorB20
set_option maxHeartbeats 32000000
namespace Go.Fw
open Go Go.Proofs
set_option maxRecDepth 100000
set_option linter.unusedVariables false
set_option linter.unusedSimpArgs false
def X5G (k n:Int):Bool:=if k=3∨k=5 then decide (n=1∨n=2∨n=4) else if k=7 then decide (0≤n∧n≤4000) else decide (n=0)
def X6w (k:Int) (nb:Bool) (key src dst:List UInt8) (vn vk vs vd:Bool):Int:=
 if decide (1≤k∧k≤7)=false∨nb=false then 1
 else if (X3F k=false∧key≠[])∨(k≠6∧(src≠[]∨dst≠[])) then 1
 else if vn=false∨(X3F k=true∧vk=false)∨(src≠[]∧vs=false)∨(dst≠[]∧vd=false) then 6 else 0
theorem Xgj (r:Rul):X05 r=X6w r.kind (X5G r.kind r.n) r.key r.src r.dst (XZ r.name) (XZ r.key) (XZ r.src) (XZ r.dst):=rfl
abbrev XpJ (k n:Int) (name key src dst:List UInt8):AVal:= .agg [ai k,ai n,.d (.v (.string (Xb name))),.d (.v (.string (Xb key))),.d (.v (.string (Xb src))),.d (.v (.string (Xb dst)))]
def UN (r:Rul):AVal:=XpJ r.kind r.n r.name r.key r.src r.dst
def ktS (n:Int):List UInt8:=if n=1 then [98,111,111,108] else if n=2 then [105,110,116] else if n=4 then [115,116,114] else []
theorem Xkw (n:Int):Con Tryz.prog 152 [] [ai n] [] (.d (.v (.string (Xb (ktS n))))):=by
 refine Xg (xs:=[.d (.v (.string (Xb (ktS n))))]) Tryz.func152 rfl Tryz.ntmps152 rfl rfl rfl (fun E=> ?_)
 by_cases h1:n=1
 ·subst h1
  refine XA ?_;exact QM
 by_cases h2:n=2
 ·subst h2
  refine QDd ?_;exact QM
 by_cases h4:n=4
 ·subst h4
  refine XA ?_;refine Qna ?_;exact QM
 rw[show ktS n=[] by simp[ktS,h1,h2,h4]]
 refine XA ?_;refine Qna ?_;exact QV
def VM (ky nu en ok:Bool) (n:Int) (key src dst:List UInt8):Bool:= !ok||(!ky&&decide (key≠[]))||(!nu&&decide (n≠0))||(!en&&(decide (src≠[])||decide (dst≠[])))
def Yt (a ky nu:Bool) (k n:Int) (kt src dst:List UInt8) (vn vk vs vd:Bool):Int:=
 if a=true then 1 else if k=7∧(n<0∨4000<n) then 1 else if ky=true∧nu=true∧kt=[] then 1
 else if vn=false∨(ky=true∧vk=false) then 6 else if (src≠[]∧vs=false)∨(dst≠[]∧vd=false) then 6 else 0
theorem XpX (k n:Int) (key src dst:List UInt8) (vn vk vs vd:Bool):X6w k (X5G k n) key src dst vn vk vs vd=
  Yt (VM (X07 k).1 (X07 k).2.1 (X07 k).2.2.1 (X07 k).2.2.2 n key src dst) (X07 k).1 (X07 k).2.1 k n (ktS n) src dst vn vk vs vd:=by
 by_cases hk:1≤k∧k≤7
 ·have h7:k=1∨k=2∨k=3∨k=4∨k=5∨k=6∨k=7:=by omega
  have hn:n=0∨n=1∨n=2∨n=4∨(n≠0∧n≠1∧n≠2∧n≠4):=by omega
  rcases h7 with rfl|rfl|rfl|rfl|rfl|rfl|rfl
  all_goals
   unfold X6w Yt VM X07 X5G X3F
   by_cases h1:key=[]<;>by_cases h2:src=[]<;>by_cases h3:dst=[]
   all_goals rcases hn with rfl|rfl|rfl|rfl|⟨n0,n1,n2,n4⟩
   all_goals first
    |(simp[ktS, *];done)
    |(by_cases m1:n<0<;>by_cases m2:4000<n<;>simp[ktS, *]<;>omega)
    |(cases vn<;>cases vk<;>cases vs<;>cases vd<;>simp[ktS, *])
 ·unfold X6w Yt VM X07
  simp[hk]
theorem XbH (r:Rul):Con Tryz.prog 97 [] [UN r] [] (ai (X05 r)):=by
 rw[Xgj,XpX]
 obtain⟨k,n,name,key,src,dst⟩:=r
 simp only[UN]
 have hn:=X46 name
 have hk:=X46 key
 have hs:=X46 src
 have hd:=X46 dst
 have ht:=Xkw n
 have hf:=Xmy k
 generalize XZ name=vn at*
 generalize XZ key=vk at*
 generalize XZ src=vs at*
 generalize XZ dst=vd at*
 generalize ktS n=kt at*
 generalize X07 k=u at*
 obtain⟨ky,nu,en,ok⟩:=u
 simp only at hf
 show Con _ _ _ _ _ (ai (Yt (VM ky nu en ok n key src dst) ky nu k n kt src dst vn vk vs vd))
 generalize ha:VM ky nu en ok n key src dst=a
 refine Xg (xs:=[ai (Yt a ky nu k n kt src dst vn vk vs vd)]) Tryz.func97 rfl Tryz.ntmps97 rfl rfl rfl (fun E=> ?_)
 refine W9_ ?_;refine QNd ?_;refine W8_ ?_;refine YB ?_;refine X5 ?_
 refine X2h ⟨102,[(1,.ptr 100 0),(3,.ptr 101 0),(11,ab a)],[(100,.box [ai k,ai n,.d (.v (.string (Xb name))),.d (.v (.string (Xb key))),.d (.v (.string (Xb src))),.d (.v (.string (Xb dst)))]),(101,.box [ab ky,ab nu,ab en])]⟩ ?_ ?_
 ·refine W6_ ?_;refine YO rfl (fun hq=> ?_) (fun hq=> ?_);refine W1_ ?_;((clear hf ht hn hk hs hd;refine Xd rfl ⟨AVal.le_refl _,AVal.le_refl _,AVal.le_of_eq (congrArg ab (by subst ha;simp[VM, *])),trivial⟩ ⟨rfl,rfl,trivial⟩));refine W6_ ?_;refine Un rfl rfl (fun hq=> ?_) (fun hq=> ?_);refine Qw ?_;refine QF ?_;refine Qia ?_;refine Un rfl rfl (fun hq=> ?_) (fun hq=> ?_);refine Qw ?_;refine Qad ?_;refine Un rfl rfl (fun hq=> ?_) (fun hq=> ?_);refine Quc ?_;refine QF ?_;((clear hf ht hn hk hs hd;refine Xd rfl ⟨AVal.le_refl _,AVal.le_refl _,AVal.le_of_eq (congrArg ab (by subst ha;simp[VM, *])),trivial⟩ ⟨rfl,rfl,trivial⟩));refine W4_ ?_;refine Uh rfl rfl (fun hq=> ?_) (fun hq=> ?_);refine Qrb ?_;refine Qz ?_;((clear hf ht hn hk hs hd;refine Xd rfl ⟨AVal.le_refl _,AVal.le_refl _,AVal.le_of_eq (congrArg ab (by subst ha;simp[VM, *])),trivial⟩ ⟨rfl,rfl,trivial⟩));refine W3_ ?_;refine Qkc ?_;((clear hf ht hn hk hs hd;refine Xd rfl ⟨AVal.le_refl _,AVal.le_refl _,AVal.le_of_eq (congrArg ab (by subst ha;simp[VM, *])),trivial⟩ ⟨rfl,rfl,trivial⟩));refine W3_ ?_;refine Qz ?_;refine X1Q rfl (fun hq=> ?_) (fun hq=> ?_);refine W1_ ?_;((clear hf ht hn hk hs hd;refine Xd rfl ⟨AVal.le_refl _,AVal.le_refl _,AVal.le_of_eq (congrArg ab (by subst ha;simp[VM, *])),trivial⟩ ⟨rfl,rfl,trivial⟩));refine W5_ ?_;refine Un rfl rfl (fun hq=> ?_) (fun hq=> ?_);refine Quc ?_;refine QF ?_;((clear hf ht hn hk hs hd;refine Xd rfl ⟨AVal.le_refl _,AVal.le_refl _,AVal.le_of_eq (congrArg ab (by subst ha;simp[VM, *])),trivial⟩ ⟨rfl,rfl,trivial⟩));refine W4_ ?_;refine Uh rfl rfl (fun hq=> ?_) (fun hq=> ?_);refine Qrb ?_;refine Qz ?_;((clear hf ht hn hk hs hd;refine Xd rfl ⟨AVal.le_refl _,AVal.le_refl _,AVal.le_of_eq (congrArg ab (by subst ha;simp[VM, *])),trivial⟩ ⟨rfl,rfl,trivial⟩));refine W3_ ?_;refine Qkc ?_;((clear hf ht hn hk hs hd;refine Xd rfl ⟨AVal.le_refl _,AVal.le_refl _,AVal.le_of_eq (congrArg ab (by subst ha;simp[VM, *])),trivial⟩ ⟨rfl,rfl,trivial⟩));refine W3_ ?_;refine Qz ?_;refine X1Q rfl (fun hq=> ?_) (fun hq=> ?_);refine W1_ ?_;((clear hf ht hn hk hs hd;refine Xd rfl ⟨AVal.le_refl _,AVal.le_refl _,AVal.le_of_eq (congrArg ab (by subst ha;simp[VM, *])),trivial⟩ ⟨rfl,rfl,trivial⟩));refine W6_ ?_;refine Un rfl rfl (fun hq=> ?_) (fun hq=> ?_);refine Qw ?_;refine Qad ?_;refine Un rfl rfl (fun hq=> ?_) (fun hq=> ?_);refine Quc ?_;refine QF ?_;((clear hf ht hn hk hs hd;refine Xd rfl ⟨AVal.le_refl _,AVal.le_refl _,AVal.le_of_eq (congrArg ab (by subst ha;simp[VM, *])),trivial⟩ ⟨rfl,rfl,trivial⟩));refine W4_ ?_;refine Uh rfl rfl (fun hq=> ?_) (fun hq=> ?_);refine Qrb ?_;refine Qz ?_;((clear hf ht hn hk hs hd;refine Xd rfl ⟨AVal.le_refl _,AVal.le_refl _,AVal.le_of_eq (congrArg ab (by subst ha;simp[VM, *])),trivial⟩ ⟨rfl,rfl,trivial⟩));refine W3_ ?_;refine Qkc ?_
  ((clear hf ht hn hk hs hd;refine Xd rfl ⟨AVal.le_refl _,AVal.le_refl _,AVal.le_of_eq (congrArg ab (by subst ha;simp[VM, *])),trivial⟩ ⟨rfl,rfl,trivial⟩));refine W3_ ?_;refine Qz ?_;refine X1Q rfl (fun hq=> ?_) (fun hq=> ?_);refine W1_ ?_;((clear hf ht hn hk hs hd;refine Xd rfl ⟨AVal.le_refl _,AVal.le_refl _,AVal.le_of_eq (congrArg ab (by subst ha;simp[VM, *])),trivial⟩ ⟨rfl,rfl,trivial⟩));refine W5_ ?_;refine Un rfl rfl (fun hq=> ?_) (fun hq=> ?_);refine Quc ?_;refine QF ?_;((clear hf ht hn hk hs hd;refine Xd rfl ⟨AVal.le_refl _,AVal.le_refl _,AVal.le_of_eq (congrArg ab (by subst ha;simp[VM, *])),trivial⟩ ⟨rfl,rfl,trivial⟩));refine W4_ ?_;refine Uh rfl rfl (fun hq=> ?_) (fun hq=> ?_);refine Qrb ?_;refine Qz ?_;((clear hf ht hn hk hs hd;refine Xd rfl ⟨AVal.le_refl _,AVal.le_refl _,AVal.le_of_eq (congrArg ab (by subst ha;simp[VM, *])),trivial⟩ ⟨rfl,rfl,trivial⟩));refine W3_ ?_;refine Qkc ?_
  ((clear hf ht hn hk hs hd;refine Xd rfl ⟨AVal.le_refl _,AVal.le_refl _,AVal.le_of_eq (congrArg ab (by subst ha;simp[VM, *])),trivial⟩ ⟨rfl,rfl,trivial⟩))
 clear ha hf
 obtain⟨r,hr⟩:∃r,r=Yt a ky nu k n kt src dst vn vk vs vd:=⟨_,rfl⟩
 rw[←hr]
 refine X6F rfl (fun hq=> ?_) (fun hq=> ?_);refine W4_ ?_;(clear ht hn hk hs hd;simp[Yt, *] at hr;subst hr;exact X1 ⟨_,St.le_refl _,⟨rfl,trivial⟩,X2 _⟩);refine W6_ ?_;refine Uh rfl rfl (fun hq=> ?_) (fun hq=> ?_);refine W4_ ?_;refine Uh rfl rfl (fun hq=> ?_) (fun hq=> ?_);refine Qrb ?_;refine QFd ?_;(clear ht hn hk hs hd;simp[Yt, *] at hr;subst hr;exact X1 ⟨_,St.le_refl _,⟨rfl,trivial⟩,X2 _⟩);refine W3_ ?_;refine Qkc ?_;refine X1Q rfl (fun hq=> ?_) (fun hq=> ?_);refine W4_ ?_;(clear ht hn hk hs hd;simp[Yt, *] at hr;subst hr;exact X1 ⟨_,St.le_refl _,⟨rfl,trivial⟩,X2 _⟩);refine W5_ ?_;refine X6N rfl rfl (fun hq=> ?_) (fun hq=> ?_);refine W2_ ?_;refine Qs ?_;refine X6N rfl rfl (fun hq=> ?_) (fun hq=> ?_);refine W2_ ?_;refine Z3 (hcon:=ht) ?_;refine Qxa ?_;refine X1Q rfl (fun hq=> ?_) (fun hq=> ?_);refine W4_ ?_;(clear ht hn hk hs hd;simp[Yt, *] at hr;subst hr;exact X1 ⟨_,St.le_refl _,⟨rfl,trivial⟩,X2 _⟩);refine W5_ ?_;refine QLd ?_;refine W3_ ?_;refine YO rfl (fun hq=> ?_) (fun hq=> ?_);refine Qce ?_;(clear ht hn hk hs hd;simp[Yt, *] at hr;subst hr;exact X1 ⟨_,St.le_refl _,⟨rfl,trivial⟩,X2 _⟩);refine Qde ?_;refine YO rfl (fun hq=> ?_) (fun hq=> ?_);refine W4_ ?_;(clear ht hn hk hs hd;simp[Yt, *] at hr;subst hr;exact X1 ⟨_,St.le_refl _,⟨rfl,trivial⟩,X2 _⟩);refine W7_ ?_;refine Uh rfl rfl (fun hq=> ?_) (fun hq=> ?_);refine Qee ?_;refine YO rfl (fun hq=> ?_) (fun hq=> ?_);refine Qce ?_;(clear ht hn hk hs hd;simp[Yt, *] at hr;subst hr;exact X1 ⟨_,St.le_refl _,⟨rfl,trivial⟩,X2 _⟩);refine W5_ ?_;refine Uh rfl rfl (fun hq=> ?_) (fun hq=> ?_);refine Qfe ?_;refine YO rfl (fun hq=> ?_) (fun hq=> ?_);refine W4_ ?_;(clear ht hn hk hs hd;simp[Yt, *] at hr;subst hr;exact X1 ⟨_,St.le_refl _,⟨rfl,trivial⟩,X2 _⟩);refine W5_ ?_;(clear ht hn hk hs hd;simp[Yt, *] at hr;subst hr;exact X1 ⟨_,St.le_refl _,⟨rfl,trivial⟩,X2 _⟩);refine QWd ?_;(clear ht hn hk hs hd;simp[Yt, *] at hr;subst hr;exact X1 ⟨_,St.le_refl _,⟨rfl,trivial⟩,X2 _⟩);refine QWd ?_;refine Uh rfl rfl (fun hq=> ?_) (fun hq=> ?_);refine Qfe ?_;refine YO rfl (fun hq=> ?_) (fun hq=> ?_);refine W4_ ?_;(clear ht hn hk hs hd;simp[Yt, *] at hr;subst hr;exact X1 ⟨_,St.le_refl _,⟨rfl,trivial⟩,X2 _⟩);refine W5_ ?_;(clear ht hn hk hs hd;simp[Yt, *] at hr;subst hr;exact X1 ⟨_,St.le_refl _,⟨rfl,trivial⟩,X2 _⟩);refine QWd ?_;(clear ht hn hk hs hd;simp[Yt, *] at hr;subst hr;exact X1 ⟨_,St.le_refl _,⟨rfl,trivial⟩,X2 _⟩);refine Qge ?_;refine YO rfl (fun hq=> ?_) (fun hq=> ?_);refine Qce ?_;(clear ht hn hk hs hd;simp[Yt, *] at hr;subst hr;exact X1 ⟨_,St.le_refl _,⟨rfl,trivial⟩,X2 _⟩);refine Qde ?_;refine YO rfl (fun hq=> ?_) (fun hq=> ?_);refine W4_ ?_;(clear ht hn hk hs hd;simp[Yt, *] at hr;subst hr;exact X1 ⟨_,St.le_refl _,⟨rfl,trivial⟩,X2 _⟩);refine W7_ ?_
 refine Uh rfl rfl (fun hq=> ?_) (fun hq=> ?_);refine Qee ?_;refine YO rfl (fun hq=> ?_) (fun hq=> ?_);refine Qce ?_;(clear ht hn hk hs hd;simp[Yt, *] at hr;subst hr;exact X1 ⟨_,St.le_refl _,⟨rfl,trivial⟩,X2 _⟩);refine W5_ ?_;refine Uh rfl rfl (fun hq=> ?_) (fun hq=> ?_);refine Qfe ?_;refine YO rfl (fun hq=> ?_) (fun hq=> ?_);refine W4_ ?_;(clear ht hn hk hs hd;simp[Yt, *] at hr;subst hr;exact X1 ⟨_,St.le_refl _,⟨rfl,trivial⟩,X2 _⟩);refine W5_ ?_;(clear ht hn hk hs hd;simp[Yt, *] at hr;subst hr;exact X1 ⟨_,St.le_refl _,⟨rfl,trivial⟩,X2 _⟩);refine QWd ?_;(clear ht hn hk hs hd;simp[Yt, *] at hr;subst hr;exact X1 ⟨_,St.le_refl _,⟨rfl,trivial⟩,X2 _⟩);refine QWd ?_;refine Uh rfl rfl (fun hq=> ?_) (fun hq=> ?_);refine Qfe ?_;refine YO rfl (fun hq=> ?_) (fun hq=> ?_);refine W4_ ?_;(clear ht hn hk hs hd;simp[Yt, *] at hr;subst hr;exact X1 ⟨_,St.le_refl _,⟨rfl,trivial⟩,X2 _⟩);refine W5_ ?_;(clear ht hn hk hs hd;simp[Yt, *] at hr;subst hr;exact X1 ⟨_,St.le_refl _,⟨rfl,trivial⟩,X2 _⟩);refine QWd ?_;(clear ht hn hk hs hd;simp[Yt, *] at hr;subst hr;exact X1 ⟨_,St.le_refl _,⟨rfl,trivial⟩,X2 _⟩);refine Qv ?_;refine QP ?_;refine Qge ?_;refine YO rfl (fun hq=> ?_) (fun hq=> ?_);refine Qce ?_;(clear ht hn hk hs hd;simp[Yt, *] at hr;subst hr;exact X1 ⟨_,St.le_refl _,⟨rfl,trivial⟩,X2 _⟩);refine W4_ ?_;refine QL ?_;refine QF ?_;refine Qma ?_;refine Uh rfl rfl (fun hq=> ?_) (fun hq=> ?_);refine Qee ?_;refine YO rfl (fun hq=> ?_) (fun hq=> ?_);refine Qce ?_;(clear ht hn hk hs hd;simp[Yt, *] at hr;subst hr;exact X1 ⟨_,St.le_refl _,⟨rfl,trivial⟩,X2 _⟩);refine W5_ ?_;refine Uh rfl rfl (fun hq=> ?_) (fun hq=> ?_);refine Qfe ?_;refine YO rfl (fun hq=> ?_) (fun hq=> ?_);refine W4_ ?_;(clear ht hn hk hs hd;simp[Yt, *] at hr;subst hr;exact X1 ⟨_,St.le_refl _,⟨rfl,trivial⟩,X2 _⟩);refine W5_ ?_;(clear ht hn hk hs hd;simp[Yt, *] at hr;subst hr;exact X1 ⟨_,St.le_refl _,⟨rfl,trivial⟩,X2 _⟩);refine QWd ?_;(clear ht hn hk hs hd;simp[Yt, *] at hr;subst hr;exact X1 ⟨_,St.le_refl _,⟨rfl,trivial⟩,X2 _⟩);refine QWd ?_;refine Uh rfl rfl (fun hq=> ?_) (fun hq=> ?_);refine Qfe ?_;refine YO rfl (fun hq=> ?_) (fun hq=> ?_);refine W4_ ?_;(clear ht hn hk hs hd;simp[Yt, *] at hr;subst hr;exact X1 ⟨_,St.le_refl _,⟨rfl,trivial⟩,X2 _⟩);refine W5_ ?_;(clear ht hn hk hs hd;simp[Yt, *] at hr;subst hr;exact X1 ⟨_,St.le_refl _,⟨rfl,trivial⟩,X2 _⟩);refine QWd ?_;(clear ht hn hk hs hd;simp[Yt, *] at hr;subst hr;exact X1 ⟨_,St.le_refl _,⟨rfl,trivial⟩,X2 _⟩);refine Quc ?_;refine Qad ?_;refine X6N rfl rfl (fun hq=> ?_) (fun hq=> ?_);refine W2_ ?_;refine Qs ?_;refine X6N rfl rfl (fun hq=> ?_) (fun hq=> ?_);refine W2_ ?_;refine Z3 (hcon:=ht) ?_;refine Qxa ?_;refine X1Q rfl (fun hq=> ?_) (fun hq=> ?_);refine W4_ ?_
 (clear ht hn hk hs hd;simp[Yt, *] at hr;subst hr;exact X1 ⟨_,St.le_refl _,⟨rfl,trivial⟩,X2 _⟩);refine W5_ ?_;refine QLd ?_;refine W3_ ?_;refine YO rfl (fun hq=> ?_) (fun hq=> ?_);refine Qce ?_;(clear ht hn hk hs hd;simp[Yt, *] at hr;subst hr;exact X1 ⟨_,St.le_refl _,⟨rfl,trivial⟩,X2 _⟩);refine Qde ?_;refine YO rfl (fun hq=> ?_) (fun hq=> ?_);refine W4_ ?_;(clear ht hn hk hs hd;simp[Yt, *] at hr;subst hr;exact X1 ⟨_,St.le_refl _,⟨rfl,trivial⟩,X2 _⟩);refine W7_ ?_;refine Uh rfl rfl (fun hq=> ?_) (fun hq=> ?_);refine Qee ?_;refine YO rfl (fun hq=> ?_) (fun hq=> ?_);refine Qce ?_;(clear ht hn hk hs hd;simp[Yt, *] at hr;subst hr;exact X1 ⟨_,St.le_refl _,⟨rfl,trivial⟩,X2 _⟩);refine W5_ ?_;refine Uh rfl rfl (fun hq=> ?_) (fun hq=> ?_);refine Qfe ?_;refine YO rfl (fun hq=> ?_) (fun hq=> ?_);refine W4_ ?_;(clear ht hn hk hs hd;simp[Yt, *] at hr;subst hr;exact X1 ⟨_,St.le_refl _,⟨rfl,trivial⟩,X2 _⟩);refine W5_ ?_;(clear ht hn hk hs hd;simp[Yt, *] at hr;subst hr;exact X1 ⟨_,St.le_refl _,⟨rfl,trivial⟩,X2 _⟩);refine QWd ?_;(clear ht hn hk hs hd;simp[Yt, *] at hr;subst hr;exact X1 ⟨_,St.le_refl _,⟨rfl,trivial⟩,X2 _⟩);refine QWd ?_;refine Uh rfl rfl (fun hq=> ?_) (fun hq=> ?_);refine Qfe ?_;refine YO rfl (fun hq=> ?_) (fun hq=> ?_);refine W4_ ?_;(clear ht hn hk hs hd;simp[Yt, *] at hr;subst hr;exact X1 ⟨_,St.le_refl _,⟨rfl,trivial⟩,X2 _⟩);refine W5_ ?_;(clear ht hn hk hs hd;simp[Yt, *] at hr;subst hr;exact X1 ⟨_,St.le_refl _,⟨rfl,trivial⟩,X2 _⟩);refine QWd ?_;(clear ht hn hk hs hd;simp[Yt, *] at hr;subst hr;exact X1 ⟨_,St.le_refl _,⟨rfl,trivial⟩,X2 _⟩);refine Qge ?_;refine YO rfl (fun hq=> ?_) (fun hq=> ?_);refine Qce ?_;(clear ht hn hk hs hd;simp[Yt, *] at hr;subst hr;exact X1 ⟨_,St.le_refl _,⟨rfl,trivial⟩,X2 _⟩);refine Qde ?_;refine YO rfl (fun hq=> ?_) (fun hq=> ?_);refine W4_ ?_;(clear ht hn hk hs hd;simp[Yt, *] at hr;subst hr;exact X1 ⟨_,St.le_refl _,⟨rfl,trivial⟩,X2 _⟩);refine W7_ ?_;refine Uh rfl rfl (fun hq=> ?_) (fun hq=> ?_);refine Qee ?_;refine YO rfl (fun hq=> ?_) (fun hq=> ?_);refine Qce ?_;(clear ht hn hk hs hd;simp[Yt, *] at hr;subst hr;exact X1 ⟨_,St.le_refl _,⟨rfl,trivial⟩,X2 _⟩);refine W5_ ?_;refine Uh rfl rfl (fun hq=> ?_) (fun hq=> ?_);refine Qfe ?_;refine YO rfl (fun hq=> ?_) (fun hq=> ?_);refine W4_ ?_;(clear ht hn hk hs hd;simp[Yt, *] at hr;subst hr;exact X1 ⟨_,St.le_refl _,⟨rfl,trivial⟩,X2 _⟩);refine W5_ ?_;(clear ht hn hk hs hd;simp[Yt, *] at hr;subst hr;exact X1 ⟨_,St.le_refl _,⟨rfl,trivial⟩,X2 _⟩);refine QWd ?_;(clear ht hn hk hs hd;simp[Yt, *] at hr;subst hr;exact X1 ⟨_,St.le_refl _,⟨rfl,trivial⟩,X2 _⟩);refine QWd ?_;refine Uh rfl rfl (fun hq=> ?_) (fun hq=> ?_);refine Qfe ?_;refine YO rfl (fun hq=> ?_) (fun hq=> ?_);refine W4_ ?_
 (clear ht hn hk hs hd;simp[Yt, *] at hr;subst hr;exact X1 ⟨_,St.le_refl _,⟨rfl,trivial⟩,X2 _⟩);refine W5_ ?_;(clear ht hn hk hs hd;simp[Yt, *] at hr;subst hr;exact X1 ⟨_,St.le_refl _,⟨rfl,trivial⟩,X2 _⟩);refine QWd ?_;(clear ht hn hk hs hd;simp[Yt, *] at hr;subst hr;exact X1 ⟨_,St.le_refl _,⟨rfl,trivial⟩,X2 _⟩);refine Qv ?_;refine QP ?_;refine Qge ?_;refine YO rfl (fun hq=> ?_) (fun hq=> ?_);refine Qce ?_;(clear ht hn hk hs hd;simp[Yt, *] at hr;subst hr;exact X1 ⟨_,St.le_refl _,⟨rfl,trivial⟩,X2 _⟩);refine W4_ ?_;refine QL ?_;refine QF ?_;refine Qma ?_;refine Uh rfl rfl (fun hq=> ?_) (fun hq=> ?_);refine Qee ?_;refine YO rfl (fun hq=> ?_) (fun hq=> ?_);refine Qce ?_;(clear ht hn hk hs hd;simp[Yt, *] at hr;subst hr;exact X1 ⟨_,St.le_refl _,⟨rfl,trivial⟩,X2 _⟩);refine W5_ ?_;refine Uh rfl rfl (fun hq=> ?_) (fun hq=> ?_);refine Qfe ?_;refine YO rfl (fun hq=> ?_) (fun hq=> ?_);refine W4_ ?_;(clear ht hn hk hs hd;simp[Yt, *] at hr;subst hr;exact X1 ⟨_,St.le_refl _,⟨rfl,trivial⟩,X2 _⟩);refine W5_ ?_;(clear ht hn hk hs hd;simp[Yt, *] at hr;subst hr;exact X1 ⟨_,St.le_refl _,⟨rfl,trivial⟩,X2 _⟩);refine QWd ?_;(clear ht hn hk hs hd;simp[Yt, *] at hr;subst hr;exact X1 ⟨_,St.le_refl _,⟨rfl,trivial⟩,X2 _⟩);refine QWd ?_;refine Uh rfl rfl (fun hq=> ?_) (fun hq=> ?_);refine Qfe ?_;refine YO rfl (fun hq=> ?_) (fun hq=> ?_);refine W4_ ?_;(clear ht hn hk hs hd;simp[Yt, *] at hr;subst hr;exact X1 ⟨_,St.le_refl _,⟨rfl,trivial⟩,X2 _⟩);refine W5_ ?_;(clear ht hn hk hs hd;simp[Yt, *] at hr;subst hr;exact X1 ⟨_,St.le_refl _,⟨rfl,trivial⟩,X2 _⟩);refine QWd ?_
 (clear ht hn hk hs hd;simp[Yt, *] at hr;subst hr;exact X1 ⟨_,St.le_refl _,⟨rfl,trivial⟩,X2 _⟩)
abbrev cS (s:List UInt8):List D:=[.v (.string (Xb s))]
def X1M (l:List (List UInt8)):List UInt8:=(l.map XX).flatten
theorem XrA {l:List (List UInt8)}{i:Nat}{x:List UInt8} (h:l[i]? =some x):X1M (l.take (i+1))=X1M (l.take i)++XX x:=by
 unfold X1M
 rw[List.take_add_one,h]
 simp
theorem VV {s:List UInt8} (h:s.length≤20):(XX s).length≤30:=by
 have:=X43 (n:=s.length) (by omega)
 unfold XX
 rw[List.length_append]
 omega
theorem Xdd:∀{l:List (List UInt8)},(∀x∈l,x.length≤20)→(X1M l).length≤30*l.length
 |[],_=>by simp[X1M]
 |x::r,h=>by
  have h1:=VV (h x (by simp))
  have h2:=Xdd (l:=r) fun y hy=>h y (by simp[hy])
  unfold X1M at*
  simp only[List.map_cons,List.flatten_cons,List.length_append,List.length_cons]
  omega
theorem Xkt (r:Rul) (h:X05 r=0) (hn: -9223372036854775808≤r.n∧r.n≤9223372036854775807) (hl:r.name.length≤20∧r.key.length≤20∧r.src.length≤20∧r.dst.length≤20) (hk:1≤r.kind∧r.kind≤7):
  Con Tryz.prog 99 [] [UN r] [(130,.row 1 ((X1q r).map Xc))] (.own 130 ((X1q r).map Xc).length):=by
 obtain⟨k,n,name,key,src,dst⟩:=r
 simp only at hn hl hk
 obtain⟨m,rfl⟩:∃m:Nat,k=m:=⟨k.toNat,by omega⟩
 simp only[UN] at*
 clear h
 refine Xg (xs:=[.own 130 ((X1q ⟨m,n,name,key,src,dst⟩).map Xc).length]) Tryz.func99 rfl Tryz.ntmps99 rfl rfl rfl (fun E=> ?_)
 have e8:n8 (m%256)=n8 (UInt8.ofNat m).toNat:=by rw[X0k (by omega),Nat.mod_eq_of_lt (by omega)]
 have hL:∀x∈[name,key,src,dst],x.length≤20:=by
  intro x hx
  simp only[List.mem_cons,List.not_mem_nil,or_false] at hx
  rcases hx with rfl|rfl|rfl|rfl<;>omega
 have hput:X1q ⟨m,n,name,key,src,dst⟩=(UInt8.ofNat m::X1M [name,key,src,dst])++YK n:=by
  unfold X1q X1M
  simp
 have hpi:=X4h n hn
 have hpl:=X6K hn
 rw[hput]
 clear hput
 refine W9_ ?_;(refine Z0 (u:=nj m) (r:=n8 (UInt8.ofNat m).toNat) ?_ (hr:=by exact by rw[←e8];exact U8 rfl rfl));refine Z9 (γ:=130) ?_;refine Us ?_
 generalize hLL:[name,key,src,dst]=L at*
 have hL4:L.length=4:=by rw[←hLL];rfl
 have hlm:(L.map cS).length=L.length:=by simp
 refine XK (fun i:Nat=>i≤L.length) (fun i=>⟨34,[(1,.ptr 100 0),(3,.own 130 ((UInt8.ofNat m::X1M (L.take i)).map Xc).length),(18,.d (.sl 1 (L.map cS))),(19,ai (L.map cS).length),(20,ai i)],
   [(100,.box [ai m,ai n,.d (.v (.string (Xb name))),.d (.v (.string (Xb key))),.d (.v (.string (Xb src))),.d (.v (.string (Xb dst)))]),(130,.row 1 ((UInt8.ofNat m::X1M (L.take i)).map Xc))]⟩) (fun i=>L.length-i) 0 (by omega)
  (by subst hLL;exact Xd rfl ⟨JL,JL,JL,JL,JL,trivial⟩ ⟨rfl,rfl,trivial⟩) ?_
 intro i hi
 have hlen:((UInt8.ofNat m::X1M (L.take i)).map Xc).length≤200:=by
  have h1:=Xdd (l:=L.take i) fun x hx=>hL x (List.mem_of_mem_take hx)
  have h2:(L.take i).length≤4:=by simp;omega
  simp only[List.length_map,List.length_cons]
  omega
 by_cases hil:i<L.length
 case neg=>
  obtain rfl:i=L.length:=by omega
  rw[List.take_length] at hlen ⊢
  have hnn:¬((L.length:Nat):Int)<(L.map cS).length:=by omega
  generalize UInt8.ofNat m::X1M L=B at*
  generalize YK n=w at*
  refine QGc ?_;refine Z3 (hcon:=hpi) ?_;refine W3_ ?_
  refine X1 ⟨_,Xw 2 (y:= .own 130 ((B++w).map Xc).length) (AVal.le_of_eq ?_),⟨rfl,trivial⟩,Xn ⟨?_,trivial⟩⟩
  ·refine Qd ?_
   congr 1
   simp only[List.length_append,List.length_map]<;>omega
  ·refine Qjd ?_
   simp only[List.map_append]
 have hnn:(i:Int)<(L.map cS).length:=by omega
 obtain⟨x,hx⟩:=XI (l:=L) hil
 have hxm:(L.map cS)[i]? =some (cS x):=Y5 hx
 have hxl:=hL x (List.mem_of_getElem? hx)
 have hps:=X2M x (by omega)
 have hpsl:=VV hxl
 have htk:=XrA hx
 generalize XX x=w at*
 refine Qk ?_;refine Xt ?_;refine Z3 (hcon:=hps) ?_;refine W7_ ?_
 refine⟨i+1,by omega,by omega,?_⟩
 try dsimp only
 rw[htk]
 refine Xd rfl ⟨JL,(by refine AVal.le_of_eq ?_;refine Eq.trans (b:=AVal.own 130 (_+_)) rfl ?_;congr 1;simp only[List.length_append,List.length_map,List.length_cons]<;>omega),JL,JL,JL,trivial⟩ ⟨rfl,?_,trivial⟩
 refine Qjd ?_
 simp only[List.map_append,List.map_cons,List.cons_append]
theorem X9j {s:List UInt8} (h:XZ s=true):s.length≤20:=by
 unfold XZ at h
 simp at h
 omega
theorem X7b {r:Rul} (h:X05 r=0):(-9223372036854775808≤r.n∧r.n≤9223372036854775807)∧(r.name.length≤20∧r.key.length≤20∧r.src.length≤20∧r.dst.length≤20)∧(1≤r.kind∧r.kind≤7):=by
 rw[Xgj] at h
 unfold X6w at h
 split at h
 ·omega
 rename_i h1
 split at h
 ·omega
 rename_i h2
 split at h
 ·omega
 rename_i h3
 have i1:1≤r.kind∧r.kind≤7:=by
  cases hd:decide (1≤r.kind∧r.kind≤7) with
  |true=>exact of_decide_eq_true hd
  |false=>exact absurd (.inl hd) h1
 have i2:X5G r.kind r.n=true:=by
  cases hd:X5G r.kind r.n with
  |true=>rfl
  |false=>exact absurd (.inr hd) h1
 have nm:XZ r.name=true:=by
  cases hd:XZ r.name with
  |true=>rfl
  |false=>exact absurd (.inl hd) h3
 have ky:r.key.length≤20:=by
  by_cases hk:X3F r.kind=true
  ·refine X9j (s:=r.key) ?_
   cases hd:XZ r.key with
   |true=>rfl
   |false=>exact absurd (.inr (.inl ⟨hk,hd⟩)) h3
  ·by_cases he:r.key=[]
   ·rw[he];simp
   ·exact absurd (.inl ⟨by simpa using hk,he⟩) h2
 have sr:r.src.length≤20:=by
  by_cases he:r.src=[]
  ·rw[he];simp
  ·refine X9j (s:=r.src) ?_
   cases hd:XZ r.src with
   |true=>rfl
   |false=>exact absurd (.inr (.inr (.inl ⟨he,hd⟩))) h3
 have ds:r.dst.length≤20:=by
  by_cases he:r.dst=[]
  ·rw[he];simp
  ·refine X9j (s:=r.dst) ?_
   cases hd:XZ r.dst with
   |true=>rfl
   |false=>exact absurd (.inr (.inr (.inr ⟨he,hd⟩))) h3
 refine⟨?_,⟨X9j nm,ky,sr,ds⟩,i1⟩
 unfold X5G at i2
 split at i2
 ·have:=of_decide_eq_true i2;omega
 ·split at i2
  ·have:=of_decide_eq_true i2;omega
  ·have:=of_decide_eq_true i2;omega
theorem XlB (r:Rul) (h:X05 r=0):Con Tryz.prog 99 [] [UN r] [] (.d (Xk (X1q r))):=
 (Xkt r h (X7b h).1 (X7b h).2.1 (X7b h).2.2).data (by simp)
theorem Xlr (r:Rul):Con Tryz.prog 57 [] [UN r] [] (.d (Xk (UG r))):=by
 refine Xg (xs:=[.d (Xk (UG r))]) Tryz.func57 rfl Tryz.ntmps57 rfl rfl rfl (fun E=> ?_)
 have hc:=XbH r
 unfold UG
 by_cases h:X05 r=0
 ·have hp:=XlB r h
  rw[h] at hc
  rw[if_pos h]
  generalize X1q r=w at*
  obtain⟨k,n,name,key,src,dst⟩:=r
  simp only[UN] at*
  refine Qhe ?_;exact Qxd
 ·rw[if_neg h]
  generalize X05 r=e at*
  obtain⟨k,n,name,key,src,dst⟩:=r
  simp only[UN] at*
  refine Qhe ?_;exact Qwd
mutual
def X0u:Nat→Val→Int→Int
 |dp,.mk k n d s l,left=>if dp=0 then-1 else X0W (dp-1) l (left-1-(s.length/50:Nat))
def X0W:Nat→List Val→Int→Int
 |_,[],left=>left
 |dp,x::r,left=>if left<0 then left else X0W dp r (X0u dp x left)
end
theorem Xnu {dp:Nat}{l:List Val}{left:Int} (h:left<0):X0W dp l left=left:=by
 cases l with
 |nil=>rw[X0W]
 |cons x r=>rw[X0W,if_pos h]
theorem X9y {dp:Nat}:∀{l:List Val}{left:Int},-400000000000000000≤left→left≤1000000→(∀x∈l,∀q:Int,0≤q→q≤1000000→ -400000000000000000≤X0u dp x q∧X0u dp x q≤1000000)→ -400000000000000000≤X0W dp l left∧X0W dp l left≤1000000
 |[],left,h1,h2,_=>by rw[X0W];exact⟨h1,h2⟩
 |x::r,left,h1,h2,hx=>by
  rw[X0W]
  split
  ·exact⟨h1,h2⟩
  ·have:=hx x (by simp) left (by omega) h2
   exact X9y this.1 this.2 fun y hy=>hx y (by simp[hy])
theorem XaF:∀(v:Val) (dp:Nat) (left:Int),Yp v→0≤left→left≤1000000→ -400000000000000000≤X0u dp v left∧X0u dp v left≤1000000
 | .mk k n d s l,dp,left,hok,h1,h2=>by
  rw[Yp] at hok
  rw[X0u]
  split
  ·omega
  ·exact X9y (by omega) (by omega) fun x hx q q1 q2=>XaF x (dp-1) q (X3Z hok.2.2 hx) q1 q2
termination_by v=>SizeOf.sizeOf v
decreasing_by
 have h1:=List.sizeOf_lt_of_mem (show x∈l from hx)
 simp only[Val.mk.sizeOf_spec]
 omega
def Xa9 (v:Val):Prop:=∀(dp:Nat) (left:Int),dp≤100→ -400000000000000000≤left→left≤1000000→Con Tryz.prog 54 [] [Xv v,ai left,ai dp] [] (ai (X0u dp v left))
theorem Xjd {dp:Nat}{l:List Val}{i:Nat}{x:Val}{left:Int} (h:l[i]? =some x) (h0:¬left<0):X0W dp (l.drop i) left=X0W dp (l.drop (i+1)) (X0u dp x left):=by
 rw[List.drop_eq_getElem_cons (List.getElem?_eq_some_iff.1 h).1,(List.getElem?_eq_some_iff.1 h).2,X0W,if_neg h0]
theorem Xk3 (v:Val) (hok:Yp v) (ih:∀x∈v.l,Xa9 x):Xa9 v:=by
 obtain⟨k,n,d,s,l⟩:=v
 intro dp left hdp hl1 hl2
 rw[Yp] at hok
 simp only[Val.l] at ih
 have hlen:=X0l l
 have hsz:(Xb s).size=s.length:=rfl
 refine Xg (xs:=[ai (X0u dp (.mk k n d s l) left)]) Tryz.func54 rfl Tryz.ntmps54 rfl rfl rfl (fun E=> ?_)
 rw[X0u]
 by_cases h0:dp=0
 ·subst h0
  rw[if_pos rfl]
  refine Xt ?_;(refine Z2 (op:= .quo) (r':=nj ((Xb s).size/50)) (u:=nj (Xb s).size) (v:=nj 50) ?_ (hr:=by exact X0b (by omega) (by rw[XJ];omega)));refine W9_ ?_;exact QM
 rw[if_neg h0]
 have hdp1:¬(dp:Int)<1:=by omega
 obtain⟨e,rfl⟩:∃e,dp=e+1:=⟨dp-1,by omega⟩
 rw[Nat.add_sub_cancel]
 refine Xt ?_;(refine Z2 (op:= .quo) (r':=nj ((Xb s).size/50)) (u:=nj (Xb s).size) (v:=nj 50) ?_ (hr:=by exact X0b (by omega) (by rw[XJ];omega)));refine Qie ?_
 generalize hG:X0W e l (left-1-(s.length/50:Nat))=G
 refine XK (ι:=Nat×Int) (fun q=>q.1≤l.length∧ -1000000000000000000≤q.2∧q.2≤1000000∧X0W e (l.drop q.1) q.2=G) (fun q=>⟨38,[(1,ai q.2),(2,ai (e+1:Nat)),(3,.ptr 100 0),(7,ai q.1)],[(100,.box [ai k,ai n,ai d,.d (.v (.string (Xb s))),.d (.sl 5 (XU l))])]⟩) (fun q=>l.length-q.1) (0,left-1-(s.length/50:Nat)) ⟨by omega,by omega,by omega,hG⟩
  (Xd rfl ⟨JL,JL,JL,JL,trivial⟩ ⟨rfl,trivial⟩) ?_
 rintro⟨i,cur⟩ ⟨hi,c1,c2,hg⟩
 simp only at hi c1 c2 hg
 by_cases hil:i<l.length
 case neg=>
  obtain rfl:i=l.length:=by omega
  rw[List.drop_length,X0W] at hg
  subst hg
  have hn:¬((l.length:Nat):Int)<(XU l).length:=by omega
  refine Qoa ?_;refine QVb ?_;exact Qp
 have hn:(i:Int)<(XU l).length:=by omega
 by_cases hneg:cur<0
 ·rw[Xnu hneg] at hg
  subst hg
  have hneg':¬0≤cur:=by omega
  refine Qt ?_;refine Qia ?_;exact Qp
 have hpos:0≤cur:=by omega
 obtain⟨x,hx⟩:=XI (l:=l) hil
 have hxc:(XU l)[i]? =some (U3 x):=by rw[X3T];exact Y5 hx
 have hcall:=ih x (List.mem_of_getElem? hx) e cur (by omega) (by omega) c2
 have hlow:=XaF x e cur (X3Z hok.2.2 (List.mem_of_getElem? hx)) hpos c2
 rw[Xjd hx hneg] at hg
 generalize X0u e x cur=z at*
 obtain⟨xk,xn,xd,xs,xl⟩:=x
 simp only[Xv,U3] at hcall hxc
 refine Qt ?_;refine Qje ?_
 (refine Z1 (op:= .sub) (r':=nj e) (u:= .int .i64 ((e+1:Nat):Int)) (v:= .int .i64 1) ?_ (hr':=by exact congrArg (Value.int .i64) (show(((e+1:Nat):Int)-1)=(e:Int) by omega)) (hr:=by exact Yl (by unfold XT;omega)))
 refine Qke ?_;exact⟨(i+1,z),⟨by show i+1≤l.length;omega,by show-1000000000000000000≤z;omega,by show z≤1000000;omega,hg⟩,by show l.length-(i+1)<l.length-i;omega,Xd rfl ⟨JL,JL,JL,JL,trivial⟩ ⟨rfl,trivial⟩⟩
theorem XfK:∀v:Val,Yp v→Xa9 v
 | .mk k n d s l=>fun hok=>Xk3 (.mk k n d s l) hok fun x hx=>XfK x (X3Z (by rw[Yp] at hok;exact hok.2.2) hx)
termination_by v=>SizeOf.sizeOf v
decreasing_by
 have h1:=List.sizeOf_lt_of_mem (show x∈l from hx)
 simp only[Val.mk.sizeOf_spec]
 omega
def Y1:Chg→List D
 |⟨op,id,src,dst,name,.mk k n d s l⟩=>[.v (.int .i64 op),.v (.int .i64 id),.v (.int .i64 src),.v (.int .i64 dst),.v (.string (Xb name)),.v (.int .i64 k),.v (.int .i64 n),.v (.int .i64 d),.v (.string (Xb s)),.sl 5 (XU l)]
def X3c (c:Chg):Prop:=c.name.length≤9223372036854775807∧Yp c.v
theorem Xgi (v:Val) (dp:Nat) (left:Int) (hok:Yp v) (h1: -200000000000000000≤left) (h2:left≤1000000): -400000000000000000≤X0u dp v left∧X0u dp v left≤1000000:=by
 obtain⟨k,n,d,s,l⟩:=v
 rw[Yp] at hok
 rw[X0u]
 split
 ·omega
 ·exact X9y (by omega) (by omega) fun x hx q q1 q2=>XaF x (dp-1) q (X3Z hok.2.2 hx) q1 q2
abbrev oRd (b:List UInt8) (a e:Int):AObj:= .box [.d (Xk b),ai a,ai e]
theorem Xe5 (b:List UInt8) (a e x:Int):Con Tryz.prog 244 [(0,oRd b a e)] [.ptr 0 0,ai x] [(0,oRd b a (if e=0 then x else e))] (.tup []):=by
 refine Xg (xs:=[]) Tryz.func244 rfl Tryz.ntmps244 rfl rfl rfl (fun E=> ?_)
 by_cases h:e=0
 ·rw[if_pos h]
  refine W8_ ?_;exact Qme
 ·rw[if_neg h]
  refine W8_ ?_;exact Qne
theorem X4X (b:List UInt8) (a e:Int) (hb:b.length≤281474976710656):Con Tryz.prog 200 [(0,oRd b a e)] [.ptr 0 0] [(0,if e=0 then oRd b (XW b a).2.1 (XW b a).2.2 else oRd b a e)] (ai (if e=0 then (XW b a).1 else 0)):=by
 refine Xg (xs:=[ai (if e=0 then (XW b a).1 else 0)]) Tryz.func200 rfl Tryz.ntmps200 rfl rfl rfl (fun E=> ?_)
 by_cases h:e=0
 ·rw[if_pos h,if_pos h]
  refine Qoe ?_;refine Xi ?_;refine Z3 (hcon:=XhI b a hb) ?_;refine X1S ?_;exact Qf
 ·rw[if_neg h,if_neg h]
  refine Xr ?_;refine Qe ?_;exact Qf
def rkS (b:List UInt8) (a:Nat) (e limit:Int):Int×Int×Int:=
 if e≠0 then (0,(a:Int),e) else if b.length≤a then (0,(a:Int),3) else
  if ((((b[a]?).getD 0).toNat:Nat):Int)<1∨limit<((((b[a]?).getD 0).toNat:Nat):Int) then (0,(a:Int),2) else ((((b[a]?).getD 0).toNat:Nat),(a:Int)+1,0)
theorem Xox (b:List UInt8) (a:Nat) (e limit:Int) (hb:b.length≤281474976710656) (ha:a≤281474976710656):Con Tryz.prog 107 [(0,oRd b a e)] [.ptr 0 0,ai limit] [(0,oRd b (rkS b a e limit).2.1 (rkS b a e limit).2.2)] (ai (rkS b a e limit).1):=by
 refine Xg (xs:=[ai (rkS b a e limit).1]) Tryz.func107 rfl Tryz.ntmps107 rfl rfl rfl (fun E=> ?_)
 have hlm:(b.map Xc).length=b.length:=by simp
 by_cases he:e=0
 case neg=>
  rw[show rkS b a e limit=(0,(a:Int),e) by unfold rkS;rw[if_pos he]]
  refine XA ?_;refine QCa ?_;exact Qf
 subst he
 by_cases h1:b.length≤a
 ·rw[show rkS b a 0 limit=(0,(a:Int),3) by unfold rkS;rw[if_neg (by simp),if_pos h1]]
  have h1':((b.map Xc).length:Int)≤a:=by omega
  refine Qpe ?_;refine XC ?_;exact Qqe
 have h1':¬((b.map Xc).length:Int)≤a:=by omega
 obtain⟨c,hc⟩:=XI (l:=b) (k:=a) (by omega)
 have hrk:rkS b a 0 limit=if ((c.toNat:Nat):Int)<1∨limit<((c.toNat:Nat):Int) then (0,(a:Int),2) else (((c.toNat:Nat):Int),(a:Int)+1,0):=by
  unfold rkS;rw[if_neg (by simp),if_neg h1,hc,Option.getD_some]
 have hxm:(b.map Xc)[a]? =some (Xc c):=Y5 hc
 by_cases h2:((c.toNat:Nat):Int)<1
 ·rw[hrk,if_pos (.inl h2)]
  refine Qpe ?_;refine XC ?_;refine JF ?_;refine XC ?_;refine QL ?_;refine QL ?_;refine QW ?_;refine Qz ?_;exact Qqe
 by_cases h3:limit<((c.toNat:Nat):Int)
 ·rw[hrk,if_pos (.inr h3)]
  refine Qpe ?_;refine XC ?_;refine JF ?_;refine X1g ?_;refine QF ?_;exact Qqe
 rw[hrk,if_neg (by omega)]
 refine Qpe ?_;refine XC ?_;refine JF ?_;refine X1g ?_;refine QF ?_;refine JF ?_;refine UY ?_
 (refine Z1 (op:= .sub) (r':=nj a) (u:= .int .i64 ((a:Int)+1)) (v:= .int .i64 1) ?_ (hr':=by exact congrArg (Value.int .i64) (show((a:Int)+1-1)=(a:Int) by omega)) (hr:=by exact Yl (by unfold XT;omega)))
 refine W5_ ?_;exact Qf
end Go.Fw

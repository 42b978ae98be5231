/- slices.Insert of one element into a row of one's own. -/
import Derived.Test.YtpbgjcbkhgfmkaaGreatDoorChecked
import Derived.Test.YtpbgjcbkhgfmkaaGreatDoorM04
set_option maxHeartbeats 16000000
namespace Go.Fw
open Go Go.Proofs Tryz List
set_option maxRecDepth 100000
set_option linter.unusedVariables false
set_option linter.unusedSimpArgs false
theorem Xq3 (xs:List (List D)) (i:Nat) (v:List D) (hz:∀x∈xs,x.length=3) (hv:v.length=3) (hi:i<=xs.length) (hx:xs.length<=5000):
  Con prog 245 [(1,.row 3 xs)] [.own 1 xs.length,ai (i:Nat),.d (.sl 3 [v])] [(1,.dead),(110,.row 3 (xs.take i++v::xs.drop i))] (.own 110 (xs.length+1)):=by
 refine ZC1 func245 ntmps245 fun E=> ?_;by_cases hin:i=xs.length
 case pos=>
  subst hin;rw[take_length,drop_length];refine QGc ?_;show AWP prog E _ _ _;refine QHc ?_
  (show AWP prog E _ _ _;refine X2 ?_;exact(show Xa _ _ _ _ _ from⟨_,St.le_refl _,⟨rfl,TV⟩,Xj ⟨rfl,rfl,TV⟩⟩))
 have hlt:i<xs.length:=by omega
 refine X2Z 0 1 120 rfl (by omega) rfl rfl rfl rfl (fun c k aI aW bL _=> ?_);have hT:(replicate k (none:Option D)).length=k:=length_replicate;generalize replicate k (none:Option D)=T at*;have hlen:(map some xs.flatten++T).length=xs.length*3+k:=by rw[LA,hT];exact CG (· +k) (Vg hz)
 have s1:(if c=i then 0 else 0+i*3)=i*3:=by rw[NI (by omega),Nat.zero_add]
 have s0:(if c=0 then 0 else 0+0*3)=0:=by split<;>rfl
 have a1:(xs.length:Int)+(([v].length:Nat):Int)=((xs.length+1:Nat):Int):=rfl;have a2:(i:Int)+(([v].length:Nat):Int)=((i+1:Nat):Int):=rfl;have a3:((xs.length+1:Nat):Int)-(i:Int)=((xs.length+1-i:Nat):Int):=by omega
 by_cases hroom:xs.length+1<=c
 case pos=>
  have hk:3<=k:=by omega
  have s3:(if c=i+1 then 0 else 0+(i+1)*3)=(i+1)*3:=by rw[NI (by omega),Nat.zero_add]
  have e1:=X9P (T:=T) hz hlt;have e2:=X9h (v:=v) (T:=T) hz hlt;have e3:=X7q (T:=T) hz hlt;have e4:=X8A (v:=v) (T:=T) hz hv hi;have cA:X0S (((map some xs.flatten++T).drop (i*3)).take ((xs.length-i)*3))=true:=by rw[show map some xs.flatten=fl xs from rfl,e3];exact X4x _
  have lA:=X9p (T:=T) hz hlt (by omega);have lB:=X9J (T:=T) hz hv hi (by omega);have hne:(map some xs.flatten++T)≠[]:=fun q=>by rw[q] at hlen;simp at hlen;omega
  have hok:=X9t (i:=i) hz hv;have cz:=X9Z (v:=v) hi;refine W8_ ?_;refine Zc (lb:=i) (hb:=xs.length) (m:=xs.length-i) (c':=c-i) (o':=i*3) ?_ (ho':=by exact s1);refine QLc ?_;refine Zc (lb:=i+1) (hb:=xs.length+1) (m:=xs.length-i) (c':=c-(i+1)) (o':=(i+1)*3) ?_ (ho':=by exact s3)
  (refine X8R (hg:=JSa) (hx:=JSb) (hy:=JSb) (hL:=JSb) (hsz:=JSl) (ho:=JSh) (hp:=JSb) (hT:=JSb) (hd:=JSb) ?_ (hys:= ?hys1) (hcs:= ?iz) (hf:=by exact func304) (h1:=by exact(by kernel_rfl)) (h2:=by exact(by kernel_rfl)) (h3:=by exact(by kernel_rfl)) (h4:=by exact(by kernel_rfl));(case hys1=>exact(by simp));(case iz=>exact hne))
  refine QMc ?_;refine Zc (lb:=i+1) (hb:=xs.length+1) (m:=xs.length-i) (c':=c-(i+1)) (o':=(i+1)*3) ?_ (ho':=by exact s3);refine W2_ ?_;refine Zc (lb:=i) (hb:=xs.length+1) (m:=xs.length+1-i) (c':=c-i) (o':=i*3) ?_ (ho':=by exact s1);refine Zd (m:=xs.length-i) (cs':=X3o 3 i xs T) ?_ (hc:=by exact cA) (hcs:=by exact e1);refine W5_ ?_;refine Zc (lb:=i) (hb:=xs.length+1) (m:=xs.length+1-i) (c':=c-i) (o':=i*3) ?_ (ho':=by exact s1);refine W1_ ?_;refine Ze (m:=1) (cs':=X3x 3 i xs v T) ?_ (hcs:=by exact e2);refine W6_ ?_;show AWP prog E _ _ _;refine QNc ?_
  (show AWP prog E _ _ _;refine X2 ?_;exact(show Xa _ _ _ _ _ from⟨_,St.le_refl _,⟨rfl,TV⟩,Xj ⟨rfl,rfl,TV⟩⟩))
 have e5:=X5M hz T hi;have e6:(map some xs.flatten++T).take (xs.length*3)=xs.flatten.map some:=take_left' (Vg hz);have l5:(xs.take i).length=i:=by rw[LT];omega
 refine W8_ ?_;refine Zc (lb:=i) (hb:=xs.length) (m:=xs.length-i) (c':=c-i) (o':=i*3) ?_ (ho':=by exact s1);refine QOc ?_;(refine Zf (γ:=110) (n':=xs.length+1) (xs:=xs.take i) ?_ (hxs:= ?hxs3) (hxl:= ?hxl4) (hxz:=by exact X2s hz i);(case hxs3=>exact e5);(case hxl4=>exact l5));refine W3_ ?_;show AWP prog E _ _ _;refine QPc ?_;(refine X1H (k:=i) (hg:=JSa) (hx:=JSb) (hL:=JSb) (hlo:=JSb) (hn:=JSe) (hT:=JSb) (hd:=JSb) ?_ (hk:= ?jU);(case jU=>exact(by simp;omega)));refine W1_ ?_
 (refine X3c (m:=1) (hg:=JSa) (hx:=JSb) (hL:=JSb) (hn:=JSe) (hy:=JSb) (hsrc:=JSf) (hT:=JSb) (hd:=JSb) ?_ (hk:= ?jV) (hm:= ?fD);(case jV=>exact(by simp;omega));(case fD=>exact(by simp;omega)))
 refine QQc ?_;(refine X1H (k:=i+1) (hg:=JSa) (hx:=JSb) (hL:=JSb) (hlo:=JSb) (hn:=JSe) (hT:=JSb) (hd:=JSb) ?_ (hk:= ?gY);(case gY=>exact(by simp;omega)));refine W3_ ?_
 (refine X3c (m:=xs.length-i) (hg:=JSa) (hx:=JSb) (hL:=JSb) (hn:=JSe) (hy:=JSb) (hsrc:=JSf) (hT:=JSb) (hd:=JSb) ?_ (hk:= ?hk9) (hm:= ?cq);(case hk9=>exact(by simp;omega));(case cq=>exact(by simp;omega)))
 refine W6_ ?_
 (show AWP prog E _ _ _;refine X2 ?_;exact(show Xa _ _ _ _ _ from⟨_,St.le_refl _,⟨rfl,TV⟩,Xj ⟨rfl,CG (AObj.row _) (X8u hi (by rw[length_replicate]) hlt),TV⟩⟩))
theorem Xvj (xs:List (List D)) (i:Nat) (v:List D) (hz:∀x∈xs,x.length=5) (hv:v.length=5) (hi:i<=xs.length) (hx:xs.length<=5000):
  Con prog 252 [(1,.row 5 xs)] [.own 1 xs.length,ai (i:Nat),.d (.sl 5 [v])] [(1,.dead),(110,.row 5 (xs.take i++v::xs.drop i))] (.own 110 (xs.length+1)):=by
 refine ZC1 func252 ntmps252 fun E=> ?_;by_cases hin:i=xs.length
 case pos=>
  subst hin;rw[take_length,drop_length];refine QGc ?_;show AWP prog E _ _ _;refine QHc ?_
  (show AWP prog E _ _ _;refine X2 ?_;exact(show Xa _ _ _ _ _ from⟨_,St.le_refl _,⟨rfl,TV⟩,Xj ⟨rfl,rfl,TV⟩⟩))
 have hlt:i<xs.length:=by omega
 refine X2Z 0 1 120 rfl (by omega) rfl rfl rfl rfl (fun c k aI aW bL _=> ?_);have hT:(replicate k (none:Option D)).length=k:=length_replicate;generalize replicate k (none:Option D)=T at*;have hlen:(map some xs.flatten++T).length=xs.length*5+k:=by rw[LA,hT];exact CG (· +k) (Vg hz)
 have s1:(if c=i then 0 else 0+i*5)=i*5:=by rw[NI (by omega),Nat.zero_add]
 have s0:(if c=0 then 0 else 0+0*5)=0:=by split<;>rfl
 have a1:(xs.length:Int)+(([v].length:Nat):Int)=((xs.length+1:Nat):Int):=rfl;have a2:(i:Int)+(([v].length:Nat):Int)=((i+1:Nat):Int):=rfl;have a3:((xs.length+1:Nat):Int)-(i:Int)=((xs.length+1-i:Nat):Int):=by omega
 by_cases hroom:xs.length+1<=c
 case pos=>
  have hk:5<=k:=by omega
  have s3:(if c=i+1 then 0 else 0+(i+1)*5)=(i+1)*5:=by rw[NI (by omega),Nat.zero_add]
  have e1:=X9P (T:=T) hz hlt;have e2:=X9h (v:=v) (T:=T) hz hlt;have e3:=X7q (T:=T) hz hlt;have e4:=X8A (v:=v) (T:=T) hz hv hi;have cA:X0S (((map some xs.flatten++T).drop (i*5)).take ((xs.length-i)*5))=true:=by rw[show map some xs.flatten=fl xs from rfl,e3];exact X4x _
  have lA:=X9p (T:=T) hz hlt (by omega);have lB:=X9J (T:=T) hz hv hi (by omega);have hne:(map some xs.flatten++T)≠[]:=fun q=>by rw[q] at hlen;simp at hlen;omega
  have hok:=X9t (i:=i) hz hv;have cz:=X9Z (v:=v) hi;refine W8_ ?_;refine Zc (lb:=i) (hb:=xs.length) (m:=xs.length-i) (c':=c-i) (o':=i*5) ?_ (ho':=by exact s1);refine QLc ?_;refine Zc (lb:=i+1) (hb:=xs.length+1) (m:=xs.length-i) (c':=c-(i+1)) (o':=(i+1)*5) ?_ (ho':=by exact s3)
  (refine X8R (hg:=JSa) (hx:=JSb) (hy:=JSb) (hL:=JSb) (hsz:=JSl) (ho:=JSh) (hp:=JSb) (hT:=JSb) (hd:=JSb) ?_ (hys:= ?hys11) (hcs:= ?hcs12) (hf:=by exact func316) (h1:=by exact(by kernel_rfl)) (h2:=by exact(by kernel_rfl)) (h3:=by exact(by kernel_rfl)) (h4:=by exact(by kernel_rfl));(case hys11=>exact(by simp));(case hcs12=>exact hne))
  refine QMc ?_;refine Zc (lb:=i+1) (hb:=xs.length+1) (m:=xs.length-i) (c':=c-(i+1)) (o':=(i+1)*5) ?_ (ho':=by exact s3);refine W2_ ?_;refine Zc (lb:=i) (hb:=xs.length+1) (m:=xs.length+1-i) (c':=c-i) (o':=i*5) ?_ (ho':=by exact s1);refine Zd (m:=xs.length-i) (cs':=X3o 5 i xs T) ?_ (hc:=by exact cA) (hcs:=by exact e1);refine W5_ ?_;refine Zc (lb:=i) (hb:=xs.length+1) (m:=xs.length+1-i) (c':=c-i) (o':=i*5) ?_ (ho':=by exact s1);refine W1_ ?_;refine Ze (m:=1) (cs':=X3x 5 i xs v T) ?_ (hcs:=by exact e2);refine W6_ ?_;show AWP prog E _ _ _;refine QNc ?_
  (show AWP prog E _ _ _;refine X2 ?_;exact(show Xa _ _ _ _ _ from⟨_,St.le_refl _,⟨rfl,TV⟩,Xj ⟨rfl,rfl,TV⟩⟩))
 have e5:=X5M hz T hi;have e6:(map some xs.flatten++T).take (xs.length*5)=xs.flatten.map some:=take_left' (Vg hz);have l5:(xs.take i).length=i:=by rw[LT];omega
 refine W8_ ?_;refine Zc (lb:=i) (hb:=xs.length) (m:=xs.length-i) (c':=c-i) (o':=i*5) ?_ (ho':=by exact s1);refine QOc ?_;(refine Zf (γ:=110) (n':=xs.length+1) (xs:=xs.take i) ?_ (hxs:= ?hxs13) (hxl:= ?hxl14) (hxz:=by exact X2s hz i);(case hxs13=>exact e5);(case hxl14=>exact l5));refine W3_ ?_;show AWP prog E _ _ _;refine QPc ?_;(refine X1H (k:=i) (hg:=JSa) (hx:=JSb) (hL:=JSb) (hlo:=JSb) (hn:=JSe) (hT:=JSb) (hd:=JSb) ?_ (hk:= ?hk15);(case hk15=>exact(by simp;omega)));refine W1_ ?_
 (refine X3c (m:=1) (hg:=JSa) (hx:=JSb) (hL:=JSb) (hn:=JSe) (hy:=JSb) (hsrc:=JSf) (hT:=JSb) (hd:=JSb) ?_ (hk:= ?hk16) (hm:= ?hm17);(case hk16=>exact(by simp;omega));(case hm17=>exact(by simp;omega)))
 refine QQc ?_;(refine X1H (k:=i+1) (hg:=JSa) (hx:=JSb) (hL:=JSb) (hlo:=JSb) (hn:=JSe) (hT:=JSb) (hd:=JSb) ?_ (hk:= ?hk18);(case hk18=>exact(by simp;omega)));refine W3_ ?_
 (refine X3c (m:=xs.length-i) (hg:=JSa) (hx:=JSb) (hL:=JSb) (hn:=JSe) (hy:=JSb) (hsrc:=JSf) (hT:=JSb) (hd:=JSb) ?_ (hk:= ?hk19) (hm:= ?gJ);(case hk19=>exact(by simp;omega));(case gJ=>exact(by simp;omega)))
 refine W6_ ?_
 (show AWP prog E _ _ _;refine X2 ?_;exact(show Xa _ _ _ _ _ from⟨_,St.le_refl _,⟨rfl,TV⟩,Xj ⟨rfl,CG (AObj.row _) (X8u hi (by rw[length_replicate]) hlt),TV⟩⟩))
theorem XtM (xs:List (List D)) (i:Nat) (v:List D) (hz:∀x∈xs,x.length=1) (hv:v.length=1) (hi:i<=xs.length) (hx:xs.length<=5000):
  Con prog 248 [(1,.row 1 xs)] [.own 1 xs.length,ai (i:Nat),.d (.sl 1 [v])] [(1,.dead),(110,.row 1 (xs.take i++v::xs.drop i))] (.own 110 (xs.length+1)):=by
 refine ZC1 func248 ntmps248 fun E=> ?_;by_cases hin:i=xs.length
 case pos=>
  subst hin;rw[take_length,drop_length];refine QGc ?_;show AWP prog E _ _ _;refine QHc ?_
  (show AWP prog E _ _ _;refine X2 ?_;exact(show Xa _ _ _ _ _ from⟨_,St.le_refl _,⟨rfl,TV⟩,Xj ⟨rfl,rfl,TV⟩⟩))
 have hlt:i<xs.length:=by omega
 refine X2Z 0 1 120 rfl (by omega) rfl rfl rfl rfl (fun c k aI aW bL _=> ?_);have hT:(replicate k (none:Option D)).length=k:=length_replicate;generalize replicate k (none:Option D)=T at*;have hlen:(map some xs.flatten++T).length=xs.length*1+k:=by rw[LA,hT];exact CG (· +k) (Vg hz)
 have s1:(if c=i then 0 else 0+i*1)=i*1:=by rw[NI (by omega),Nat.zero_add]
 have s0:(if c=0 then 0 else 0+0*1)=0:=by split<;>rfl
 have a1:(xs.length:Int)+(([v].length:Nat):Int)=((xs.length+1:Nat):Int):=rfl;have a2:(i:Int)+(([v].length:Nat):Int)=((i+1:Nat):Int):=rfl;have a3:((xs.length+1:Nat):Int)-(i:Int)=((xs.length+1-i:Nat):Int):=by omega
 by_cases hroom:xs.length+1<=c
 case pos=>
  have hk:1<=k:=by omega
  have s3:(if c=i+1 then 0 else 0+(i+1)*1)=(i+1)*1:=by rw[NI (by omega),Nat.zero_add]
  have e1:=X9P (T:=T) hz hlt;have e2:=X9h (v:=v) (T:=T) hz hlt;have e3:=X7q (T:=T) hz hlt;have e4:=X8A (v:=v) (T:=T) hz hv hi;have cA:X0S (((map some xs.flatten++T).drop (i*1)).take ((xs.length-i)*1))=true:=by rw[show map some xs.flatten=fl xs from rfl,e3];exact X4x _
  have lA:=X9p (T:=T) hz hlt (by omega);have lB:=X9J (T:=T) hz hv hi (by omega);have hne:(map some xs.flatten++T)≠[]:=fun q=>by rw[q] at hlen;simp at hlen;omega
  have hok:=X9t (i:=i) hz hv;have cz:=X9Z (v:=v) hi;refine W8_ ?_;refine Zc (lb:=i) (hb:=xs.length) (m:=xs.length-i) (c':=c-i) (o':=i*1) ?_ (ho':=by exact s1);refine QLc ?_;refine Zc (lb:=i+1) (hb:=xs.length+1) (m:=xs.length-i) (c':=c-(i+1)) (o':=(i+1)*1) ?_ (ho':=by exact s3)
  (refine X8R (hg:=JSa) (hx:=JSb) (hy:=JSb) (hL:=JSb) (hsz:=JSl) (ho:=JSh) (hp:=JSb) (hT:=JSb) (hd:=JSb) ?_ (hys:= ?hys21) (hcs:= ?hcs22) (hf:=by exact func308) (h1:=by exact(by kernel_rfl)) (h2:=by exact(by kernel_rfl)) (h3:=by exact(by kernel_rfl)) (h4:=by exact(by kernel_rfl));(case hys21=>exact(by simp));(case hcs22=>exact hne))
  refine QMc ?_;refine Zc (lb:=i+1) (hb:=xs.length+1) (m:=xs.length-i) (c':=c-(i+1)) (o':=(i+1)*1) ?_ (ho':=by exact s3);refine W2_ ?_;refine Zc (lb:=i) (hb:=xs.length+1) (m:=xs.length+1-i) (c':=c-i) (o':=i*1) ?_ (ho':=by exact s1);refine Zd (m:=xs.length-i) (cs':=X3o 1 i xs T) ?_ (hc:=by exact cA) (hcs:=by exact e1);refine W5_ ?_;refine Zc (lb:=i) (hb:=xs.length+1) (m:=xs.length+1-i) (c':=c-i) (o':=i*1) ?_ (ho':=by exact s1);refine W1_ ?_;refine Ze (m:=1) (cs':=X3x 1 i xs v T) ?_ (hcs:=by exact e2);refine W6_ ?_;show AWP prog E _ _ _;refine QNc ?_
  (show AWP prog E _ _ _;refine X2 ?_;exact(show Xa _ _ _ _ _ from⟨_,St.le_refl _,⟨rfl,TV⟩,Xj ⟨rfl,rfl,TV⟩⟩))
 have e5:=X5M hz T hi;have e6:(map some xs.flatten++T).take (xs.length*1)=xs.flatten.map some:=take_left' (Vg hz);have l5:(xs.take i).length=i:=by rw[LT];omega
 refine W8_ ?_;refine Zc (lb:=i) (hb:=xs.length) (m:=xs.length-i) (c':=c-i) (o':=i*1) ?_ (ho':=by exact s1);refine QOc ?_;(refine Zf (γ:=110) (n':=xs.length+1) (xs:=xs.take i) ?_ (hxs:= ?hxs23) (hxl:= ?hxl24) (hxz:=by exact X2s hz i);(case hxs23=>exact e5);(case hxl24=>exact l5));refine W3_ ?_;show AWP prog E _ _ _;refine QPc ?_;(refine X1H (k:=i) (hg:=JSa) (hx:=JSb) (hL:=JSb) (hlo:=JSb) (hn:=JSe) (hT:=JSb) (hd:=JSb) ?_ (hk:= ?hk25);(case hk25=>exact(by simp;omega)));refine W1_ ?_
 (refine X3c (m:=1) (hg:=JSa) (hx:=JSb) (hL:=JSb) (hn:=JSe) (hy:=JSb) (hsrc:=JSf) (hT:=JSb) (hd:=JSb) ?_ (hk:= ?hk26) (hm:= ?hm27);(case hk26=>exact(by simp;omega));(case hm27=>exact(by simp;omega)))
 refine QQc ?_;(refine X1H (k:=i+1) (hg:=JSa) (hx:=JSb) (hL:=JSb) (hlo:=JSb) (hn:=JSe) (hT:=JSb) (hd:=JSb) ?_ (hk:= ?hk28);(case hk28=>exact(by simp;omega)));refine W3_ ?_
 (refine X3c (m:=xs.length-i) (hg:=JSa) (hx:=JSb) (hL:=JSb) (hn:=JSe) (hy:=JSb) (hsrc:=JSf) (hT:=JSb) (hd:=JSb) ?_ (hk:= ?hk29) (hm:= ?hm30);(case hk29=>exact(by simp;omega));(case hm30=>exact(by simp;omega)))
 refine W6_ ?_
 (show AWP prog E _ _ _;refine X2 ?_;exact(show Xa _ _ _ _ _ from⟨_,St.le_refl _,⟨rfl,TV⟩,Xj ⟨rfl,CG (AObj.row _) (X8u hi (by rw[length_replicate]) hlt),TV⟩⟩))
theorem XxA (xs:List (List D)) (i:Nat) (v:List D) (hz:∀x∈xs,x.length=6) (hv:v.length=6) (hi:i<=xs.length) (hx:xs.length<=5000):
  Con prog 313 [(1,.row 6 xs)] [.own 1 xs.length,ai (i:Nat),.d (.sl 6 [v])] [(1,.dead),(110,.row 6 (xs.take i++v::xs.drop i))] (.own 110 (xs.length+1)):=by
 refine ZC1 func313 ntmps313 fun E=> ?_;by_cases hin:i=xs.length
 case pos=>
  subst hin;rw[take_length,drop_length];refine QGc ?_;show AWP prog E _ _ _;refine QHc ?_
  (show AWP prog E _ _ _;refine X2 ?_;exact(show Xa _ _ _ _ _ from⟨_,St.le_refl _,⟨rfl,TV⟩,Xj ⟨rfl,rfl,TV⟩⟩))
 have hlt:i<xs.length:=by omega
 refine X2Z 0 1 120 rfl (by omega) rfl rfl rfl rfl (fun c k aI aW bL _=> ?_);have hT:(replicate k (none:Option D)).length=k:=length_replicate;generalize replicate k (none:Option D)=T at*;have hlen:(map some xs.flatten++T).length=xs.length*6+k:=by rw[LA,hT];exact CG (· +k) (Vg hz)
 have s1:(if c=i then 0 else 0+i*6)=i*6:=by rw[NI (by omega),Nat.zero_add]
 have s0:(if c=0 then 0 else 0+0*6)=0:=by split<;>rfl
 have a1:(xs.length:Int)+(([v].length:Nat):Int)=((xs.length+1:Nat):Int):=rfl;have a2:(i:Int)+(([v].length:Nat):Int)=((i+1:Nat):Int):=rfl;have a3:((xs.length+1:Nat):Int)-(i:Int)=((xs.length+1-i:Nat):Int):=by omega
 by_cases hroom:xs.length+1<=c
 case pos=>
  have hk:6<=k:=by omega
  have s3:(if c=i+1 then 0 else 0+(i+1)*6)=(i+1)*6:=by rw[NI (by omega),Nat.zero_add]
  have e1:=X9P (T:=T) hz hlt;have e2:=X9h (v:=v) (T:=T) hz hlt;have e3:=X7q (T:=T) hz hlt;have e4:=X8A (v:=v) (T:=T) hz hv hi;have cA:X0S (((map some xs.flatten++T).drop (i*6)).take ((xs.length-i)*6))=true:=by rw[show map some xs.flatten=fl xs from rfl,e3];exact X4x _
  have lA:=X9p (T:=T) hz hlt (by omega);have lB:=X9J (T:=T) hz hv hi (by omega);have hne:(map some xs.flatten++T)≠[]:=fun q=>by rw[q] at hlen;simp at hlen;omega
  have hok:=X9t (i:=i) hz hv;have cz:=X9Z (v:=v) hi;refine QRc ?_;refine QLc ?_;refine QSc ?_
  (refine X8R (hg:=JSa) (hx:=JSb) (hy:=JSb) (hL:=JSb) (hsz:=JSl) (ho:=JSh) (hp:=JSb) (hT:=JSb) (hd:=JSb) ?_ (hys:= ?hys31) (hcs:= ?hcs32) (hf:=by exact func352) (h1:=by exact(by kernel_rfl)) (h2:=by exact(by kernel_rfl)) (h3:=by exact(by kernel_rfl)) (h4:=by exact(by kernel_rfl));(case hys31=>exact(by simp));(case hcs32=>exact hne))
  refine QMc ?_;refine QSc ?_;refine W2_ ?_;refine QTc ?_;refine Zd (m:=xs.length-i) (cs':=X3o 6 i xs T) ?_ (hc:=by exact cA) (hcs:=by exact e1);refine W5_ ?_;refine QTc ?_;refine W1_ ?_;refine Ze (m:=1) (cs':=X3x 6 i xs v T) ?_ (hcs:=by exact e2);refine W6_ ?_;show AWP prog E _ _ _;refine QNc ?_
  (show AWP prog E _ _ _;refine X2 ?_;exact(show Xa _ _ _ _ _ from⟨_,St.le_refl _,⟨rfl,TV⟩,Xj ⟨rfl,rfl,TV⟩⟩))
 have e5:=X5M hz T hi;have e6:(map some xs.flatten++T).take (xs.length*6)=xs.flatten.map some:=take_left' (Vg hz);have l5:(xs.take i).length=i:=by rw[LT];omega
 refine QRc ?_;refine QOc ?_;(refine Zf (γ:=110) (n':=xs.length+1) (xs:=xs.take i) ?_ (hxs:= ?hxs33) (hxl:= ?hxl34) (hxz:=by exact X2s hz i);(case hxs33=>exact e5);(case hxl34=>exact l5));refine W3_ ?_;show AWP prog E _ _ _;refine QPc ?_;(refine X1H (k:=i) (hg:=JSa) (hx:=JSb) (hL:=JSb) (hlo:=JSb) (hn:=JSe) (hT:=JSb) (hd:=JSb) ?_ (hk:= ?hk35);(case hk35=>exact(by simp;omega)));refine W1_ ?_
 (refine X3c (m:=1) (hg:=JSa) (hx:=JSb) (hL:=JSb) (hn:=JSe) (hy:=JSb) (hsrc:=JSf) (hT:=JSb) (hd:=JSb) ?_ (hk:= ?hk36) (hm:= ?hm37);(case hk36=>exact(by simp;omega));(case hm37=>exact(by simp;omega)))
 refine QQc ?_;(refine X1H (k:=i+1) (hg:=JSa) (hx:=JSb) (hL:=JSb) (hlo:=JSb) (hn:=JSe) (hT:=JSb) (hd:=JSb) ?_ (hk:= ?hk38);(case hk38=>exact(by simp;omega)));refine W3_ ?_
 (refine X3c (m:=xs.length-i) (hg:=JSa) (hx:=JSb) (hL:=JSb) (hn:=JSe) (hy:=JSb) (hsrc:=JSf) (hT:=JSb) (hd:=JSb) ?_ (hk:= ?hk39) (hm:= ?hm40);(case hk39=>exact(by simp;omega));(case hm40=>exact(by simp;omega)))
 refine W6_ ?_
 (show AWP prog E _ _ _;refine X2 ?_;exact(show Xa _ _ _ _ _ from⟨_,St.le_refl _,⟨rfl,TV⟩,Xj ⟨rfl,CG (AObj.row _) (X8u hi (by rw[length_replicate]) hlt),TV⟩⟩))
theorem XpB (xs:List (List D)) (i:Nat) (hz:∀x∈xs,x.length=3) (hi:i<xs.length) (hx:xs.length<=5000):
  Con prog 246 [(1,.row 3 xs)] [.own 1 xs.length,ai (i:Nat),ai ((i+1:Nat):Int)] [(1,.dead),(110,.row 3 (xs.take i++xs.drop (i+1)))] (.own 110 (xs.length-1)):=by
 refine ZC1 func246 ntmps246 fun E=> ?_;refine X2Z 0 1 120 rfl (by omega) rfl rfl rfl rfl (fun c k aI aW bL _=> ?_);have hT:(replicate k (none:Option D)).length=k:=length_replicate;generalize replicate k (none:Option D)=T at*;have hlen:(map some xs.flatten++T).length=xs.length*3+k:=by rw[LA,hT];exact CG (· +k) (Vg hz)
 have s0:(if c=0 then 0 else 0+0*3)=0:=by split<;>rfl
 obtain⟨off,ho⟩:∃off,(if c=i+1 then 0 else 0+(i+1)*3)=off:=⟨_,rfl⟩
 have s5:(if c=xs.length-1 then 0 else 0+(xs.length-1)*3)=(xs.length-1)*3:=by rw[NI (by omega),Nat.zero_add]
 have e1:=X9o (T:=T) hz hi aI ho;have e2:=X7C (T:=T) hz hi aI ho;have e3:=X95 (T:=T) hi aI ho hz;have lA:=X8t (T:=T) hz hi;have cA:X0S (((map some xs.flatten++T).drop off).take ((xs.length-(i+1))*3))=true:=by rw[show map some xs.flatten=fl xs from rfl,e2];exact X4x _
 have e4:=fun W V=>Xa4 hz hi W V;have cz:=X9e hi;have hok:∀x∈xs.take i++xs.drop (i+1),x.length=3:=fun x hx=>(mem_append.1 hx).elim (X2s hz i x) (X6S hz _ x);generalize fE:X3W 3 i xs ((fl xs++T).drop (i*3+(xs.length-(i+1))*3))=A at*;have e4:=fun V=>(fE ▸ e4 _ V:(A.take ((xs.length-1)*3)++V).take ((xs.length-1)*3)=_)
 clear fE;refine QUc ?_;refine X92 (lb:=i) (hb:=i+1) (mb:=xs.length) (sz:=3) (hg:=JSa) (hx:=JSb) (hlo:=JSb) (hhi:=JSb) (cN:=JSb) (c8:=JSh) (hh:=JSh) (hm:=JSh) (hT:=JSb) (hd:=JSb) ?_;refine QVc ?_;(refine Zg (n':=xs.length-1) (cs':=A) ?_ (hc:= ?hc41) (hcs:= ?hcs42);(case hc41=>exact cA);(case hcs42=>exact e1));refine QWc ?_;refine Zc (lb:=xs.length-1) (hb:=xs.length) (m:=1) (c':=c-(xs.length-1)) (o':=(xs.length-1)*3) ?_ (ho':=by exact s5)
 (refine X8r (cs':=A.take ((xs.length-1)*3)++(replicate (1*3) none++A.drop ((xs.length-1)*3+1*3))) (sz:=3) (hg:=JSa) (hx:=JSb) (hL:=JSb) (hn:=JSh) (hb:=JSh) (hB:=JSc) (hT:=JSb) ?_ (hcs:= ?hcs43);(case hcs43=>exact AS _ _ _))
 refine W6_ ?_;show AWP prog E _ _ _;refine QXc ?_
 (show AWP prog E _ _ _;refine X2 ?_;exact(show Xa _ _ _ _ _ from⟨_,St.le_refl _,⟨rfl,TV⟩,Xj ⟨rfl,rfl,TV⟩⟩))
theorem XtN (xs:List (List D)) (i:Nat) (hz:∀x∈xs,x.length=5) (hi:i<xs.length) (hx:xs.length<=5000):
  Con prog 253 [(1,.row 5 xs)] [.own 1 xs.length,ai (i:Nat),ai ((i+1:Nat):Int)] [(1,.dead),(110,.row 5 (xs.take i++xs.drop (i+1)))] (.own 110 (xs.length-1)):=by
 refine ZC1 func253 ntmps253 fun E=> ?_;refine X2Z 0 1 120 rfl (by omega) rfl rfl rfl rfl (fun c k aI aW bL _=> ?_);have hT:(replicate k (none:Option D)).length=k:=length_replicate;generalize replicate k (none:Option D)=T at*;have hlen:(map some xs.flatten++T).length=xs.length*5+k:=by rw[LA,hT];exact CG (· +k) (Vg hz)
 have s0:(if c=0 then 0 else 0+0*5)=0:=by split<;>rfl
 obtain⟨off,ho⟩:∃off,(if c=i+1 then 0 else 0+(i+1)*5)=off:=⟨_,rfl⟩
 have s5:(if c=xs.length-1 then 0 else 0+(xs.length-1)*5)=(xs.length-1)*5:=by rw[NI (by omega),Nat.zero_add]
 have e1:=X9o (T:=T) hz hi aI ho;have e2:=X7C (T:=T) hz hi aI ho;have e3:=X95 (T:=T) hi aI ho hz;have lA:=X8t (T:=T) hz hi;have cA:X0S (((map some xs.flatten++T).drop off).take ((xs.length-(i+1))*5))=true:=by rw[show map some xs.flatten=fl xs from rfl,e2];exact X4x _
 have e4:=fun W V=>Xa4 hz hi W V;have cz:=X9e hi;have hok:∀x∈xs.take i++xs.drop (i+1),x.length=5:=fun x hx=>(mem_append.1 hx).elim (X2s hz i x) (X6S hz _ x);generalize fE:X3W 5 i xs ((fl xs++T).drop (i*5+(xs.length-(i+1))*5))=A at*;have e4:=fun V=>(fE ▸ e4 _ V:(A.take ((xs.length-1)*5)++V).take ((xs.length-1)*5)=_)
 clear fE;refine QUc ?_;refine X92 (lb:=i) (hb:=i+1) (mb:=xs.length) (sz:=5) (hg:=JSa) (hx:=JSb) (hlo:=JSb) (hhi:=JSb) (cN:=JSb) (c8:=JSh) (hh:=JSh) (hm:=JSh) (hT:=JSb) (hd:=JSb) ?_;refine QVc ?_;(refine Zg (n':=xs.length-1) (cs':=A) ?_ (hc:= ?hc44) (hcs:= ?hcs45);(case hc44=>exact cA);(case hcs45=>exact e1));refine QWc ?_;refine Zc (lb:=xs.length-1) (hb:=xs.length) (m:=1) (c':=c-(xs.length-1)) (o':=(xs.length-1)*5) ?_ (ho':=by exact s5)
 (refine X8r (cs':=A.take ((xs.length-1)*5)++(replicate (1*5) none++A.drop ((xs.length-1)*5+1*5))) (sz:=5) (hg:=JSa) (hx:=JSb) (hL:=JSb) (hn:=JSh) (hb:=JSh) (hB:=JSc) (hT:=JSb) ?_ (hcs:= ?hcs46);(case hcs46=>exact AS _ _ _))
 refine W6_ ?_;show AWP prog E _ _ _;refine QXc ?_
 (show AWP prog E _ _ _;refine X2 ?_;exact(show Xa _ _ _ _ _ from⟨_,St.le_refl _,⟨rfl,TV⟩,Xj ⟨rfl,rfl,TV⟩⟩))
theorem XpU (xs:List (List D)) (i:Nat) (hz:∀x∈xs,x.length=1) (hi:i<xs.length) (hx:xs.length<=5000):
  Con prog 249 [(1,.row 1 xs)] [.own 1 xs.length,ai (i:Nat),ai ((i+1:Nat):Int)] [(1,.dead),(110,.row 1 (xs.take i++xs.drop (i+1)))] (.own 110 (xs.length-1)):=by
 refine ZC1 func249 ntmps249 fun E=> ?_;refine X2Z 0 1 120 rfl (by omega) rfl rfl rfl rfl (fun c k aI aW bL _=> ?_);have hT:(replicate k (none:Option D)).length=k:=length_replicate;generalize replicate k (none:Option D)=T at*;have hlen:(map some xs.flatten++T).length=xs.length*1+k:=by rw[LA,hT];exact CG (· +k) (Vg hz)
 have s0:(if c=0 then 0 else 0+0*1)=0:=by split<;>rfl
 obtain⟨off,ho⟩:∃off,(if c=i+1 then 0 else 0+(i+1)*1)=off:=⟨_,rfl⟩
 have s5:(if c=xs.length-1 then 0 else 0+(xs.length-1)*1)=(xs.length-1)*1:=by rw[NI (by omega),Nat.zero_add]
 have e1:=X9o (T:=T) hz hi aI ho;have e2:=X7C (T:=T) hz hi aI ho;have e3:=X95 (T:=T) hi aI ho hz;have lA:=X8t (T:=T) hz hi;have cA:X0S (((map some xs.flatten++T).drop off).take ((xs.length-(i+1))*1))=true:=by rw[show map some xs.flatten=fl xs from rfl,e2];exact X4x _
 have e4:=fun W V=>Xa4 hz hi W V;have cz:=X9e hi;have hok:∀x∈xs.take i++xs.drop (i+1),x.length=1:=fun x hx=>(mem_append.1 hx).elim (X2s hz i x) (X6S hz _ x);generalize fE:X3W 1 i xs ((fl xs++T).drop (i*1+(xs.length-(i+1))*1))=A at*;have e4:=fun V=>(fE ▸ e4 _ V:(A.take ((xs.length-1)*1)++V).take ((xs.length-1)*1)=_)
 clear fE;refine QUc ?_;refine X92 (lb:=i) (hb:=i+1) (mb:=xs.length) (sz:=1) (hg:=JSa) (hx:=JSb) (hlo:=JSb) (hhi:=JSb) (cN:=JSb) (c8:=JSh) (hh:=JSh) (hm:=JSh) (hT:=JSb) (hd:=JSb) ?_;refine QVc ?_;(refine Zg (n':=xs.length-1) (cs':=A) ?_ (hc:= ?hc47) (hcs:= ?hcs48);(case hc47=>exact cA);(case hcs48=>exact e1));refine QWc ?_;refine Zc (lb:=xs.length-1) (hb:=xs.length) (m:=1) (c':=c-(xs.length-1)) (o':=(xs.length-1)*1) ?_ (ho':=by exact s5)
 (refine X8r (cs':=A.take ((xs.length-1)*1)++(replicate (1*1) none++A.drop ((xs.length-1)*1+1*1))) (sz:=1) (hg:=JSa) (hx:=JSb) (hL:=JSb) (hn:=JSh) (hb:=JSh) (hB:=JSc) (hT:=JSb) ?_ (hcs:= ?hcs49);(case hcs49=>exact AS _ _ _))
 refine W6_ ?_;show AWP prog E _ _ _;refine QXc ?_
 (show AWP prog E _ _ _;refine X2 ?_;exact(show Xa _ _ _ _ _ from⟨_,St.le_refl _,⟨rfl,TV⟩,Xj ⟨rfl,rfl,TV⟩⟩))
theorem XwD (xs:List (List D)) (i:Nat) (hz:∀x∈xs,x.length=6) (hi:i<xs.length) (hx:xs.length<=5000):
  Con prog 312 [(1,.row 6 xs)] [.own 1 xs.length,ai (i:Nat),ai ((i+1:Nat):Int)] [(1,.dead),(110,.row 6 (xs.take i++xs.drop (i+1)))] (.own 110 (xs.length-1)):=by
 refine ZC1 func312 ntmps312 fun E=> ?_;refine X2Z 0 1 120 rfl (by omega) rfl rfl rfl rfl (fun c k aI aW bL _=> ?_);have hT:(replicate k (none:Option D)).length=k:=length_replicate;generalize replicate k (none:Option D)=T at*;have hlen:(map some xs.flatten++T).length=xs.length*6+k:=by rw[LA,hT];exact CG (· +k) (Vg hz)
 have s0:(if c=0 then 0 else 0+0*6)=0:=by split<;>rfl
 obtain⟨off,ho⟩:∃off,(if c=i+1 then 0 else 0+(i+1)*6)=off:=⟨_,rfl⟩
 have s5:(if c=xs.length-1 then 0 else 0+(xs.length-1)*6)=(xs.length-1)*6:=by rw[NI (by omega),Nat.zero_add]
 have e1:=X9o (T:=T) hz hi aI ho;have e2:=X7C (T:=T) hz hi aI ho;have e3:=X95 (T:=T) hi aI ho hz;have lA:=X8t (T:=T) hz hi;have cA:X0S (((map some xs.flatten++T).drop off).take ((xs.length-(i+1))*6))=true:=by rw[show map some xs.flatten=fl xs from rfl,e2];exact X4x _
 have e4:=fun W V=>Xa4 hz hi W V;have cz:=X9e hi;have hok:∀x∈xs.take i++xs.drop (i+1),x.length=6:=fun x hx=>(mem_append.1 hx).elim (X2s hz i x) (X6S hz _ x);generalize fE:X3W 6 i xs ((fl xs++T).drop (i*6+(xs.length-(i+1))*6))=A at*;have e4:=fun V=>(fE ▸ e4 _ V:(A.take ((xs.length-1)*6)++V).take ((xs.length-1)*6)=_)
 clear fE;refine QUc ?_;refine QYc ?_;refine QVc ?_;(refine Zg (n':=xs.length-1) (cs':=A) ?_ (hc:= ?hc50) (hcs:= ?hcs51);(case hc50=>exact cA);(case hcs51=>exact e1));refine QWc ?_;refine Zc (lb:=xs.length-1) (hb:=xs.length) (m:=1) (c':=c-(xs.length-1)) (o':=(xs.length-1)*6) ?_ (ho':=by exact s5)
 (refine X8r (cs':=A.take ((xs.length-1)*6)++(replicate (1*6) none++A.drop ((xs.length-1)*6+1*6))) (sz:=6) (hg:=JSa) (hx:=JSb) (hL:=JSb) (hn:=JSh) (hb:=JSh) (hB:=JSc) (hT:=JSb) ?_ (hcs:= ?hcs52);(case hcs52=>exact AS _ _ _))
 refine W6_ ?_;show AWP prog E _ _ _;refine QXc ?_
 (show AWP prog E _ _ _;refine X2 ?_;exact(show Xa _ _ _ _ _ from⟨_,St.le_refl _,⟨rfl,TV⟩,Xj ⟨rfl,rfl,TV⟩⟩))
end Go.Fw

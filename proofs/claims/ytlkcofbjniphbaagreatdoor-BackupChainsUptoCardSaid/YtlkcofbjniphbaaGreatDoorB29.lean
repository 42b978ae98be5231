/- slices.Insert of one element into a row of one's own. -/
import Derived.Test.YtlkcofbjniphbaaGreatDoorChecked
import Derived.Test.YtlkcofbjniphbaaGreatDoorB11
set_option maxHeartbeats 16000000
namespace Go.Fw
open Go Go.Proofs
set_option maxRecDepth 100000
set_option linter.unusedVariables false
set_option linter.unusedSimpArgs false
theorem XoP (xs:List (List D)) (i:Nat) (v:List D) (hz:∀x∈xs,x.length=3) (hv:v.length=3) (hi:i≤xs.length) (hx:xs.length≤5000):
  Con Tryz.prog 168 [(1,.row 3 xs)] [.own 1 xs.length,ai (i:Nat),.d (.sl 3 [v])] [(1,.dead),(110,.row 3 (xs.take i++v::xs.drop i))] (.own 110 (xs.length+1)):=by
 refine Xg (xs:=[.own 110 (xs.length+1)]) Tryz.func168 rfl Tryz.ntmps168 rfl rfl rfl (fun E=> ?_)
 by_cases hin:i=xs.length
 case pos=>
  subst hin
  rw[List.take_length,List.drop_length]
  refine Qqg ?_
  show AWP Tryz.prog E _ _ _
  refine Xq (X6k 6 1 110 rfl rfl (by simp) rfl rfl) ?_
  (show AWP Tryz.prog E _ _ _;refine X1 ?_;exact(show Xy _ _ _ _ _ from⟨_,St.le_refl _,⟨rfl,trivial⟩,Xn ⟨rfl,rfl,trivial⟩⟩))
 have hlt:i<xs.length:=by omega
 refine X2z 0 1 120 rfl (by omega) rfl rfl rfl rfl (fun c k hc1 hc2 hc3 _=> ?_)
 have hT:(List.replicate k (none:Option D)).length=k:=List.length_replicate
 generalize List.replicate k (none:Option D)=T at*
 have hlen:(List.map some xs.flatten++T).length=xs.length*3+k:=by rw[List.length_append,hT];exact congrArg (· +k) (Uq hz)
 have s1:(if c=i then 0 else 0+i*3)=i*3:=by rw[if_neg (by omega),Nat.zero_add]
 have s0:(if c=0 then 0 else 0+0*3)=0:=by split<;>rfl
 have a1:(xs.length:Int)+(([v].length:Nat):Int)=((xs.length+1:Nat):Int):=rfl
 have a2:(i:Int)+(([v].length:Nat):Int)=((i+1:Nat):Int):=rfl
 have a3:((xs.length+1:Nat):Int)-(i:Int)=((xs.length+1-i:Nat):Int):=by omega
 by_cases hroom:xs.length+1≤c
 case pos=>
  have hk:3≤k:=by omega
  have s3:(if c=i+1 then 0 else 0+(i+1)*3)=(i+1)*3:=by rw[if_neg (by omega),Nat.zero_add]
  have e1:=X8h (T:=T) hz hlt
  have e2:=X7c (v:=v) (T:=T) hz hlt
  have e3:=X6O (T:=T) hz hlt
  have e4:=X8s (v:=v) (T:=T) hz hv hi
  have cA:X0a (((List.map some xs.flatten++T).drop (i*3)).take ((xs.length-i)*3))=true:=by rw[show List.map some xs.flatten=fl xs from rfl,e3];exact X41 _
  have lA:=X9d (T:=T) hz hlt (by omega)
  have lB:=X99 (T:=T) hz hv hi (by omega)
  have hne:(List.map some xs.flatten++T)≠[]:=fun q=>by rw[q] at hlen;simp at hlen;omega
  have hok:=X8i (i:=i) hz hv
  have hln:=X7V (v:=v) hi
  refine W8_ ?_;refine Zc (lb:=i) (hb:=xs.length) (m:=xs.length-i) (c':=c-i) (o':=i*3) ?_ (ho':=by exact s1);refine Qsg ?_
  (refine Z1 (op:= .add) (r':= .int .i64 ((xs.length+1:Nat):Int)) (u:= .int .i64 (xs.length:Nat)) (v:= .int .i64 ([v].length:Nat)) ?_ (hr':=by exact congrArg (Value.int .i64) a1) (hr:=by exact UC (by unfold XT;omega)))
  refine Qtg ?_
  (refine Z1 (op:= .add) (r':= .int .i64 ((xs.length+1:Nat):Int)) (u:= .int .i64 (xs.length:Nat)) (v:= .int .i64 ([v].length:Nat)) ?_ (hr':=by exact congrArg (Value.int .i64) a1) (hr:=by exact UC (by unfold XT;omega)))
  refine Qug ?_
  (refine Z1 (op:= .add) (r':= .int .i64 ((i+1:Nat):Int)) (u:= .int .i64 (i:Nat)) (v:= .int .i64 ([v].length:Nat)) ?_ (hr':=by exact congrArg (Value.int .i64) a2) (hr:=by exact UC (by unfold XT;omega)))
  refine Zc (lb:=i+1) (hb:=xs.length+1) (m:=xs.length-i) (c':=c-(i+1)) (o':=(i+1)*3) ?_ (ho':=by exact s3)
  (refine X9e (hg:=JSa) (hx:=JSb) (hy:=JSb) (hL:=JSb) (hsz:=JSw) (ho:=JSs) (hp:=JSb) (hT:=JSb) (hd:=JSb) ?_ (hys:= ?hys1) (hcs:= ?hcs2) (hf:=by exact Tryz.func205) (h1:=by exact(by kernel_rfl)) (h2:=by exact(by kernel_rfl)) (h3:=by exact(by kernel_rfl)) (h4:=by exact(by kernel_rfl));(case hys1=>exact(by simp));(case hcs2=>exact hne))
  refine W2_ ?_;refine QCa ?_
  (refine Z1 (op:= .add) (r':= .int .i64 ((i+1:Nat):Int)) (u:= .int .i64 (i:Nat)) (v:= .int .i64 ([v].length:Nat)) ?_ (hr':=by exact congrArg (Value.int .i64) a2) (hr:=by exact UC (by unfold XT;omega)))
  refine Zc (lb:=i+1) (hb:=xs.length+1) (m:=xs.length-i) (c':=c-(i+1)) (o':=(i+1)*3) ?_ (ho':=by exact s3);refine W2_ ?_;refine Zc (lb:=i) (hb:=xs.length+1) (m:=xs.length+1-i) (c':=c-i) (o':=i*3) ?_ (ho':=by exact s1);refine Zd (m:=xs.length-i) (cs':=X2T 3 i xs T) ?_ (hc:=by exact cA) (hcs:=by exact e1);refine W5_ ?_;refine Zc (lb:=i) (hb:=xs.length+1) (m:=xs.length+1-i) (c':=c-i) (o':=i*3) ?_ (ho':=by exact s1);refine W1_ ?_;refine Ze (m:=1) (cs':=X2g 3 i xs v T) ?_ (hcs:=by exact e2);refine W6_ ?_
  show AWP Tryz.prog E _ _ _
  refine Qvg ?_
  (show AWP Tryz.prog E _ _ _;refine X1 ?_;exact(show Xy _ _ _ _ _ from⟨_,St.le_refl _,⟨rfl,trivial⟩,Xn ⟨rfl,rfl,trivial⟩⟩))
 have e5:=X4l hz T hi
 have e6:(List.map some xs.flatten++T).take (xs.length*3)=xs.flatten.map some:=List.take_left' (Uq hz)
 have l5:(xs.take i).length=i:=by rw[List.length_take];omega
 refine W8_ ?_;refine Zc (lb:=i) (hb:=xs.length) (m:=xs.length-i) (c':=c-i) (o':=i*3) ?_ (ho':=by exact s1);refine Qsg ?_
 (refine Z1 (op:= .add) (r':= .int .i64 ((xs.length+1:Nat):Int)) (u:= .int .i64 (xs.length:Nat)) (v:= .int .i64 ([v].length:Nat)) ?_ (hr':=by exact congrArg (Value.int .i64) a1) (hr:=by exact UC (by unfold XT;omega)))
 refine Qwg ?_
 (refine Z1 (op:= .add) (r':= .int .i64 ((xs.length+1:Nat):Int)) (u:= .int .i64 (xs.length:Nat)) (v:= .int .i64 ([v].length:Nat)) ?_ (hr':=by exact congrArg (Value.int .i64) a1) (hr:=by exact UC (by unfold XT;omega)))
 refine W1_ ?_
 (refine Z1 (op:= .sub) (r':= .int .i64 ((xs.length+1-i:Nat):Int)) (u:= .int .i64 ((xs.length+1:Nat):Int)) (v:= .int .i64 (i:Nat)) ?_ (hr':=by exact congrArg (Value.int .i64) a3) (hr:=by exact Yl (by unfold XT;omega)))
 (refine Zf (γ:=110) (n':=xs.length+1) (xs:=xs.take i) ?_ (hxs:= ?hxs3) (hxl:= ?hxl4) (hxz:=by exact X08 hz i);(case hxs3=>exact e5);(case hxl4=>exact l5));refine W3_ ?_
 show AWP Tryz.prog E _ _ _
 refine Qxg ?_;(refine X1f (k:=i) (hg:=JSa) (hx:=JSb) (hL:=JSb) (hlo:=JSb) (hn:=JSe) (hT:=JSb) (hd:=JSb) ?_ (hk:= ?hk5);(case hk5=>exact(by simp;omega)));refine W1_ ?_
 (refine X2R (m:=1) (hg:=JSa) (hx:=JSb) (hL:=JSb) (hn:=JSe) (hy:=JSb) (hsrc:=JSf) (hT:=JSb) (hd:=JSb) ?_ (hk:= ?hk6) (hm:= ?hm7);(case hk6=>exact(by simp;omega));(case hm7=>exact(by simp;omega)))
 refine W6_ ?_
 (refine Z1 (op:= .add) (r':= .int .i64 ((i+1:Nat):Int)) (u:= .int .i64 (i:Nat)) (v:= .int .i64 ([v].length:Nat)) ?_ (hr':=by exact congrArg (Value.int .i64) a2) (hr:=by exact UC (by unfold XT;omega)))
 (refine X1f (k:=i+1) (hg:=JSa) (hx:=JSb) (hL:=JSb) (hlo:=JSb) (hn:=JSe) (hT:=JSb) (hd:=JSb) ?_ (hk:= ?hk8);(case hk8=>exact(by simp;omega)));refine W3_ ?_
 (refine X2R (m:=xs.length-i) (hg:=JSa) (hx:=JSb) (hL:=JSb) (hn:=JSe) (hy:=JSb) (hsrc:=JSf) (hT:=JSb) (hd:=JSb) ?_ (hk:= ?hk9) (hm:= ?hm10);(case hk9=>exact(by simp;omega));(case hm10=>exact(by simp;omega)))
 refine W6_ ?_
 (show AWP Tryz.prog E _ _ _;refine X1 ?_;exact(show Xy _ _ _ _ _ from⟨_,St.le_refl _,⟨rfl,trivial⟩,Xn ⟨rfl,congrArg (AObj.row _) (X8n hi (by rw[List.length_replicate]) hlt),trivial⟩⟩))
theorem XpW (xs:List (List D)) (i:Nat) (v:List D) (hz:∀x∈xs,x.length=5) (hv:v.length=5) (hi:i≤xs.length) (hx:xs.length≤5000):
  Con Tryz.prog 175 [(1,.row 5 xs)] [.own 1 xs.length,ai (i:Nat),.d (.sl 5 [v])] [(1,.dead),(110,.row 5 (xs.take i++v::xs.drop i))] (.own 110 (xs.length+1)):=by
 refine Xg (xs:=[.own 110 (xs.length+1)]) Tryz.func175 rfl Tryz.ntmps175 rfl rfl rfl (fun E=> ?_)
 by_cases hin:i=xs.length
 case pos=>
  subst hin
  rw[List.take_length,List.drop_length]
  refine Qqg ?_
  show AWP Tryz.prog E _ _ _
  refine Xq (X6k 6 1 110 rfl rfl (by simp) rfl rfl) ?_
  (show AWP Tryz.prog E _ _ _;refine X1 ?_;exact(show Xy _ _ _ _ _ from⟨_,St.le_refl _,⟨rfl,trivial⟩,Xn ⟨rfl,rfl,trivial⟩⟩))
 have hlt:i<xs.length:=by omega
 refine X2z 0 1 120 rfl (by omega) rfl rfl rfl rfl (fun c k hc1 hc2 hc3 _=> ?_)
 have hT:(List.replicate k (none:Option D)).length=k:=List.length_replicate
 generalize List.replicate k (none:Option D)=T at*
 have hlen:(List.map some xs.flatten++T).length=xs.length*5+k:=by rw[List.length_append,hT];exact congrArg (· +k) (Uq hz)
 have s1:(if c=i then 0 else 0+i*5)=i*5:=by rw[if_neg (by omega),Nat.zero_add]
 have s0:(if c=0 then 0 else 0+0*5)=0:=by split<;>rfl
 have a1:(xs.length:Int)+(([v].length:Nat):Int)=((xs.length+1:Nat):Int):=rfl
 have a2:(i:Int)+(([v].length:Nat):Int)=((i+1:Nat):Int):=rfl
 have a3:((xs.length+1:Nat):Int)-(i:Int)=((xs.length+1-i:Nat):Int):=by omega
 by_cases hroom:xs.length+1≤c
 case pos=>
  have hk:5≤k:=by omega
  have s3:(if c=i+1 then 0 else 0+(i+1)*5)=(i+1)*5:=by rw[if_neg (by omega),Nat.zero_add]
  have e1:=X8h (T:=T) hz hlt
  have e2:=X7c (v:=v) (T:=T) hz hlt
  have e3:=X6O (T:=T) hz hlt
  have e4:=X8s (v:=v) (T:=T) hz hv hi
  have cA:X0a (((List.map some xs.flatten++T).drop (i*5)).take ((xs.length-i)*5))=true:=by rw[show List.map some xs.flatten=fl xs from rfl,e3];exact X41 _
  have lA:=X9d (T:=T) hz hlt (by omega)
  have lB:=X99 (T:=T) hz hv hi (by omega)
  have hne:(List.map some xs.flatten++T)≠[]:=fun q=>by rw[q] at hlen;simp at hlen;omega
  have hok:=X8i (i:=i) hz hv
  have hln:=X7V (v:=v) hi
  refine W8_ ?_;refine Zc (lb:=i) (hb:=xs.length) (m:=xs.length-i) (c':=c-i) (o':=i*5) ?_ (ho':=by exact s1);refine Qsg ?_
  (refine Z1 (op:= .add) (r':= .int .i64 ((xs.length+1:Nat):Int)) (u:= .int .i64 (xs.length:Nat)) (v:= .int .i64 ([v].length:Nat)) ?_ (hr':=by exact congrArg (Value.int .i64) a1) (hr:=by exact UC (by unfold XT;omega)))
  refine Qtg ?_
  (refine Z1 (op:= .add) (r':= .int .i64 ((xs.length+1:Nat):Int)) (u:= .int .i64 (xs.length:Nat)) (v:= .int .i64 ([v].length:Nat)) ?_ (hr':=by exact congrArg (Value.int .i64) a1) (hr:=by exact UC (by unfold XT;omega)))
  refine Qug ?_
  (refine Z1 (op:= .add) (r':= .int .i64 ((i+1:Nat):Int)) (u:= .int .i64 (i:Nat)) (v:= .int .i64 ([v].length:Nat)) ?_ (hr':=by exact congrArg (Value.int .i64) a2) (hr:=by exact UC (by unfold XT;omega)))
  refine Zc (lb:=i+1) (hb:=xs.length+1) (m:=xs.length-i) (c':=c-(i+1)) (o':=(i+1)*5) ?_ (ho':=by exact s3)
  (refine X9e (hg:=JSa) (hx:=JSb) (hy:=JSb) (hL:=JSb) (hsz:=JSw) (ho:=JSs) (hp:=JSb) (hT:=JSb) (hd:=JSb) ?_ (hys:= ?hys11) (hcs:= ?hcs12) (hf:=by exact Tryz.func217) (h1:=by exact(by kernel_rfl)) (h2:=by exact(by kernel_rfl)) (h3:=by exact(by kernel_rfl)) (h4:=by exact(by kernel_rfl));(case hys11=>exact(by simp));(case hcs12=>exact hne))
  refine W2_ ?_;refine QCa ?_
  (refine Z1 (op:= .add) (r':= .int .i64 ((i+1:Nat):Int)) (u:= .int .i64 (i:Nat)) (v:= .int .i64 ([v].length:Nat)) ?_ (hr':=by exact congrArg (Value.int .i64) a2) (hr:=by exact UC (by unfold XT;omega)))
  refine Zc (lb:=i+1) (hb:=xs.length+1) (m:=xs.length-i) (c':=c-(i+1)) (o':=(i+1)*5) ?_ (ho':=by exact s3);refine W2_ ?_;refine Zc (lb:=i) (hb:=xs.length+1) (m:=xs.length+1-i) (c':=c-i) (o':=i*5) ?_ (ho':=by exact s1);refine Zd (m:=xs.length-i) (cs':=X2T 5 i xs T) ?_ (hc:=by exact cA) (hcs:=by exact e1);refine W5_ ?_;refine Zc (lb:=i) (hb:=xs.length+1) (m:=xs.length+1-i) (c':=c-i) (o':=i*5) ?_ (ho':=by exact s1);refine W1_ ?_;refine Ze (m:=1) (cs':=X2g 5 i xs v T) ?_ (hcs:=by exact e2);refine W6_ ?_
  show AWP Tryz.prog E _ _ _
  refine Qvg ?_
  (show AWP Tryz.prog E _ _ _;refine X1 ?_;exact(show Xy _ _ _ _ _ from⟨_,St.le_refl _,⟨rfl,trivial⟩,Xn ⟨rfl,rfl,trivial⟩⟩))
 have e5:=X4l hz T hi
 have e6:(List.map some xs.flatten++T).take (xs.length*5)=xs.flatten.map some:=List.take_left' (Uq hz)
 have l5:(xs.take i).length=i:=by rw[List.length_take];omega
 refine W8_ ?_;refine Zc (lb:=i) (hb:=xs.length) (m:=xs.length-i) (c':=c-i) (o':=i*5) ?_ (ho':=by exact s1);refine Qsg ?_
 (refine Z1 (op:= .add) (r':= .int .i64 ((xs.length+1:Nat):Int)) (u:= .int .i64 (xs.length:Nat)) (v:= .int .i64 ([v].length:Nat)) ?_ (hr':=by exact congrArg (Value.int .i64) a1) (hr:=by exact UC (by unfold XT;omega)))
 refine Qwg ?_
 (refine Z1 (op:= .add) (r':= .int .i64 ((xs.length+1:Nat):Int)) (u:= .int .i64 (xs.length:Nat)) (v:= .int .i64 ([v].length:Nat)) ?_ (hr':=by exact congrArg (Value.int .i64) a1) (hr:=by exact UC (by unfold XT;omega)))
 refine W1_ ?_
 (refine Z1 (op:= .sub) (r':= .int .i64 ((xs.length+1-i:Nat):Int)) (u:= .int .i64 ((xs.length+1:Nat):Int)) (v:= .int .i64 (i:Nat)) ?_ (hr':=by exact congrArg (Value.int .i64) a3) (hr:=by exact Yl (by unfold XT;omega)))
 (refine Zf (γ:=110) (n':=xs.length+1) (xs:=xs.take i) ?_ (hxs:= ?hxs13) (hxl:= ?hxl14) (hxz:=by exact X08 hz i);(case hxs13=>exact e5);(case hxl14=>exact l5));refine W3_ ?_
 show AWP Tryz.prog E _ _ _
 refine Qxg ?_;(refine X1f (k:=i) (hg:=JSa) (hx:=JSb) (hL:=JSb) (hlo:=JSb) (hn:=JSe) (hT:=JSb) (hd:=JSb) ?_ (hk:= ?hk15);(case hk15=>exact(by simp;omega)));refine W1_ ?_
 (refine X2R (m:=1) (hg:=JSa) (hx:=JSb) (hL:=JSb) (hn:=JSe) (hy:=JSb) (hsrc:=JSf) (hT:=JSb) (hd:=JSb) ?_ (hk:= ?hk16) (hm:= ?hm17);(case hk16=>exact(by simp;omega));(case hm17=>exact(by simp;omega)))
 refine W6_ ?_
 (refine Z1 (op:= .add) (r':= .int .i64 ((i+1:Nat):Int)) (u:= .int .i64 (i:Nat)) (v:= .int .i64 ([v].length:Nat)) ?_ (hr':=by exact congrArg (Value.int .i64) a2) (hr:=by exact UC (by unfold XT;omega)))
 (refine X1f (k:=i+1) (hg:=JSa) (hx:=JSb) (hL:=JSb) (hlo:=JSb) (hn:=JSe) (hT:=JSb) (hd:=JSb) ?_ (hk:= ?hk18);(case hk18=>exact(by simp;omega)));refine W3_ ?_
 (refine X2R (m:=xs.length-i) (hg:=JSa) (hx:=JSb) (hL:=JSb) (hn:=JSe) (hy:=JSb) (hsrc:=JSf) (hT:=JSb) (hd:=JSb) ?_ (hk:= ?hk19) (hm:= ?hm20);(case hk19=>exact(by simp;omega));(case hm20=>exact(by simp;omega)))
 refine W6_ ?_
 (show AWP Tryz.prog E _ _ _;refine X1 ?_;exact(show Xy _ _ _ _ _ from⟨_,St.le_refl _,⟨rfl,trivial⟩,Xn ⟨rfl,congrArg (AObj.row _) (X8n hi (by rw[List.length_replicate]) hlt),trivial⟩⟩))
theorem Xli (xs:List (List D)) (i:Nat) (v:List D) (hz:∀x∈xs,x.length=1) (hv:v.length=1) (hi:i≤xs.length) (hx:xs.length≤5000):
  Con Tryz.prog 171 [(1,.row 1 xs)] [.own 1 xs.length,ai (i:Nat),.d (.sl 1 [v])] [(1,.dead),(110,.row 1 (xs.take i++v::xs.drop i))] (.own 110 (xs.length+1)):=by
 refine Xg (xs:=[.own 110 (xs.length+1)]) Tryz.func171 rfl Tryz.ntmps171 rfl rfl rfl (fun E=> ?_)
 by_cases hin:i=xs.length
 case pos=>
  subst hin
  rw[List.take_length,List.drop_length]
  refine Qqg ?_
  show AWP Tryz.prog E _ _ _
  refine Xq (X6k 6 1 110 rfl rfl (by simp) rfl rfl) ?_
  (show AWP Tryz.prog E _ _ _;refine X1 ?_;exact(show Xy _ _ _ _ _ from⟨_,St.le_refl _,⟨rfl,trivial⟩,Xn ⟨rfl,rfl,trivial⟩⟩))
 have hlt:i<xs.length:=by omega
 refine X2z 0 1 120 rfl (by omega) rfl rfl rfl rfl (fun c k hc1 hc2 hc3 _=> ?_)
 have hT:(List.replicate k (none:Option D)).length=k:=List.length_replicate
 generalize List.replicate k (none:Option D)=T at*
 have hlen:(List.map some xs.flatten++T).length=xs.length*1+k:=by rw[List.length_append,hT];exact congrArg (· +k) (Uq hz)
 have s1:(if c=i then 0 else 0+i*1)=i*1:=by rw[if_neg (by omega),Nat.zero_add]
 have s0:(if c=0 then 0 else 0+0*1)=0:=by split<;>rfl
 have a1:(xs.length:Int)+(([v].length:Nat):Int)=((xs.length+1:Nat):Int):=rfl
 have a2:(i:Int)+(([v].length:Nat):Int)=((i+1:Nat):Int):=rfl
 have a3:((xs.length+1:Nat):Int)-(i:Int)=((xs.length+1-i:Nat):Int):=by omega
 by_cases hroom:xs.length+1≤c
 case pos=>
  have hk:1≤k:=by omega
  have s3:(if c=i+1 then 0 else 0+(i+1)*1)=(i+1)*1:=by rw[if_neg (by omega),Nat.zero_add]
  have e1:=X8h (T:=T) hz hlt
  have e2:=X7c (v:=v) (T:=T) hz hlt
  have e3:=X6O (T:=T) hz hlt
  have e4:=X8s (v:=v) (T:=T) hz hv hi
  have cA:X0a (((List.map some xs.flatten++T).drop (i*1)).take ((xs.length-i)*1))=true:=by rw[show List.map some xs.flatten=fl xs from rfl,e3];exact X41 _
  have lA:=X9d (T:=T) hz hlt (by omega)
  have lB:=X99 (T:=T) hz hv hi (by omega)
  have hne:(List.map some xs.flatten++T)≠[]:=fun q=>by rw[q] at hlen;simp at hlen;omega
  have hok:=X8i (i:=i) hz hv
  have hln:=X7V (v:=v) hi
  refine W8_ ?_;refine Zc (lb:=i) (hb:=xs.length) (m:=xs.length-i) (c':=c-i) (o':=i*1) ?_ (ho':=by exact s1);refine Qsg ?_
  (refine Z1 (op:= .add) (r':= .int .i64 ((xs.length+1:Nat):Int)) (u:= .int .i64 (xs.length:Nat)) (v:= .int .i64 ([v].length:Nat)) ?_ (hr':=by exact congrArg (Value.int .i64) a1) (hr:=by exact UC (by unfold XT;omega)))
  refine Qtg ?_
  (refine Z1 (op:= .add) (r':= .int .i64 ((xs.length+1:Nat):Int)) (u:= .int .i64 (xs.length:Nat)) (v:= .int .i64 ([v].length:Nat)) ?_ (hr':=by exact congrArg (Value.int .i64) a1) (hr:=by exact UC (by unfold XT;omega)))
  refine Qug ?_
  (refine Z1 (op:= .add) (r':= .int .i64 ((i+1:Nat):Int)) (u:= .int .i64 (i:Nat)) (v:= .int .i64 ([v].length:Nat)) ?_ (hr':=by exact congrArg (Value.int .i64) a2) (hr:=by exact UC (by unfold XT;omega)))
  refine Zc (lb:=i+1) (hb:=xs.length+1) (m:=xs.length-i) (c':=c-(i+1)) (o':=(i+1)*1) ?_ (ho':=by exact s3)
  (refine X9e (hg:=JSa) (hx:=JSb) (hy:=JSb) (hL:=JSb) (hsz:=JSw) (ho:=JSs) (hp:=JSb) (hT:=JSb) (hd:=JSb) ?_ (hys:= ?hys21) (hcs:= ?hcs22) (hf:=by exact Tryz.func209) (h1:=by exact(by kernel_rfl)) (h2:=by exact(by kernel_rfl)) (h3:=by exact(by kernel_rfl)) (h4:=by exact(by kernel_rfl));(case hys21=>exact(by simp));(case hcs22=>exact hne))
  refine W2_ ?_;refine QCa ?_
  (refine Z1 (op:= .add) (r':= .int .i64 ((i+1:Nat):Int)) (u:= .int .i64 (i:Nat)) (v:= .int .i64 ([v].length:Nat)) ?_ (hr':=by exact congrArg (Value.int .i64) a2) (hr:=by exact UC (by unfold XT;omega)))
  refine Zc (lb:=i+1) (hb:=xs.length+1) (m:=xs.length-i) (c':=c-(i+1)) (o':=(i+1)*1) ?_ (ho':=by exact s3);refine W2_ ?_;refine Zc (lb:=i) (hb:=xs.length+1) (m:=xs.length+1-i) (c':=c-i) (o':=i*1) ?_ (ho':=by exact s1);refine Zd (m:=xs.length-i) (cs':=X2T 1 i xs T) ?_ (hc:=by exact cA) (hcs:=by exact e1);refine W5_ ?_;refine Zc (lb:=i) (hb:=xs.length+1) (m:=xs.length+1-i) (c':=c-i) (o':=i*1) ?_ (ho':=by exact s1);refine W1_ ?_;refine Ze (m:=1) (cs':=X2g 1 i xs v T) ?_ (hcs:=by exact e2);refine W6_ ?_
  show AWP Tryz.prog E _ _ _
  refine Qvg ?_
  (show AWP Tryz.prog E _ _ _;refine X1 ?_;exact(show Xy _ _ _ _ _ from⟨_,St.le_refl _,⟨rfl,trivial⟩,Xn ⟨rfl,rfl,trivial⟩⟩))
 have e5:=X4l hz T hi
 have e6:(List.map some xs.flatten++T).take (xs.length*1)=xs.flatten.map some:=List.take_left' (Uq hz)
 have l5:(xs.take i).length=i:=by rw[List.length_take];omega
 refine W8_ ?_;refine Zc (lb:=i) (hb:=xs.length) (m:=xs.length-i) (c':=c-i) (o':=i*1) ?_ (ho':=by exact s1);refine Qsg ?_
 (refine Z1 (op:= .add) (r':= .int .i64 ((xs.length+1:Nat):Int)) (u:= .int .i64 (xs.length:Nat)) (v:= .int .i64 ([v].length:Nat)) ?_ (hr':=by exact congrArg (Value.int .i64) a1) (hr:=by exact UC (by unfold XT;omega)))
 refine Qwg ?_
 (refine Z1 (op:= .add) (r':= .int .i64 ((xs.length+1:Nat):Int)) (u:= .int .i64 (xs.length:Nat)) (v:= .int .i64 ([v].length:Nat)) ?_ (hr':=by exact congrArg (Value.int .i64) a1) (hr:=by exact UC (by unfold XT;omega)))
 refine W1_ ?_
 (refine Z1 (op:= .sub) (r':= .int .i64 ((xs.length+1-i:Nat):Int)) (u:= .int .i64 ((xs.length+1:Nat):Int)) (v:= .int .i64 (i:Nat)) ?_ (hr':=by exact congrArg (Value.int .i64) a3) (hr:=by exact Yl (by unfold XT;omega)))
 (refine Zf (γ:=110) (n':=xs.length+1) (xs:=xs.take i) ?_ (hxs:= ?hxs23) (hxl:= ?hxl24) (hxz:=by exact X08 hz i);(case hxs23=>exact e5);(case hxl24=>exact l5));refine W3_ ?_
 show AWP Tryz.prog E _ _ _
 refine Qxg ?_;(refine X1f (k:=i) (hg:=JSa) (hx:=JSb) (hL:=JSb) (hlo:=JSb) (hn:=JSe) (hT:=JSb) (hd:=JSb) ?_ (hk:= ?hk25);(case hk25=>exact(by simp;omega)));refine W1_ ?_
 (refine X2R (m:=1) (hg:=JSa) (hx:=JSb) (hL:=JSb) (hn:=JSe) (hy:=JSb) (hsrc:=JSf) (hT:=JSb) (hd:=JSb) ?_ (hk:= ?hk26) (hm:= ?hm27);(case hk26=>exact(by simp;omega));(case hm27=>exact(by simp;omega)))
 refine W6_ ?_
 (refine Z1 (op:= .add) (r':= .int .i64 ((i+1:Nat):Int)) (u:= .int .i64 (i:Nat)) (v:= .int .i64 ([v].length:Nat)) ?_ (hr':=by exact congrArg (Value.int .i64) a2) (hr:=by exact UC (by unfold XT;omega)))
 (refine X1f (k:=i+1) (hg:=JSa) (hx:=JSb) (hL:=JSb) (hlo:=JSb) (hn:=JSe) (hT:=JSb) (hd:=JSb) ?_ (hk:= ?hk28);(case hk28=>exact(by simp;omega)));refine W3_ ?_
 (refine X2R (m:=xs.length-i) (hg:=JSa) (hx:=JSb) (hL:=JSb) (hn:=JSe) (hy:=JSb) (hsrc:=JSf) (hT:=JSb) (hd:=JSb) ?_ (hk:= ?hk29) (hm:= ?hm30);(case hk29=>exact(by simp;omega));(case hm30=>exact(by simp;omega)))
 refine W6_ ?_
 (show AWP Tryz.prog E _ _ _;refine X1 ?_;exact(show Xy _ _ _ _ _ from⟨_,St.le_refl _,⟨rfl,trivial⟩,Xn ⟨rfl,congrArg (AObj.row _) (X8n hi (by rw[List.length_replicate]) hlt),trivial⟩⟩))
theorem XjD (xs:List (List D)) (i:Nat) (v:List D) (hz:∀x∈xs,x.length=6) (hv:v.length=6) (hi:i≤xs.length) (hx:xs.length≤5000):
  Con Tryz.prog 214 [(1,.row 6 xs)] [.own 1 xs.length,ai (i:Nat),.d (.sl 6 [v])] [(1,.dead),(110,.row 6 (xs.take i++v::xs.drop i))] (.own 110 (xs.length+1)):=by
 refine Xg (xs:=[.own 110 (xs.length+1)]) Tryz.func214 rfl Tryz.ntmps214 rfl rfl rfl (fun E=> ?_)
 by_cases hin:i=xs.length
 case pos=>
  subst hin
  rw[List.take_length,List.drop_length]
  refine Qqg ?_
  show AWP Tryz.prog E _ _ _
  refine Xq (X6k 6 1 110 rfl rfl (by simp) rfl rfl) ?_
  (show AWP Tryz.prog E _ _ _;refine X1 ?_;exact(show Xy _ _ _ _ _ from⟨_,St.le_refl _,⟨rfl,trivial⟩,Xn ⟨rfl,rfl,trivial⟩⟩))
 have hlt:i<xs.length:=by omega
 refine X2z 0 1 120 rfl (by omega) rfl rfl rfl rfl (fun c k hc1 hc2 hc3 _=> ?_)
 have hT:(List.replicate k (none:Option D)).length=k:=List.length_replicate
 generalize List.replicate k (none:Option D)=T at*
 have hlen:(List.map some xs.flatten++T).length=xs.length*6+k:=by rw[List.length_append,hT];exact congrArg (· +k) (Uq hz)
 have s1:(if c=i then 0 else 0+i*6)=i*6:=by rw[if_neg (by omega),Nat.zero_add]
 have s0:(if c=0 then 0 else 0+0*6)=0:=by split<;>rfl
 have a1:(xs.length:Int)+(([v].length:Nat):Int)=((xs.length+1:Nat):Int):=rfl
 have a2:(i:Int)+(([v].length:Nat):Int)=((i+1:Nat):Int):=rfl
 have a3:((xs.length+1:Nat):Int)-(i:Int)=((xs.length+1-i:Nat):Int):=by omega
 by_cases hroom:xs.length+1≤c
 case pos=>
  have hk:6≤k:=by omega
  have s3:(if c=i+1 then 0 else 0+(i+1)*6)=(i+1)*6:=by rw[if_neg (by omega),Nat.zero_add]
  have e1:=X8h (T:=T) hz hlt
  have e2:=X7c (v:=v) (T:=T) hz hlt
  have e3:=X6O (T:=T) hz hlt
  have e4:=X8s (v:=v) (T:=T) hz hv hi
  have cA:X0a (((List.map some xs.flatten++T).drop (i*6)).take ((xs.length-i)*6))=true:=by rw[show List.map some xs.flatten=fl xs from rfl,e3];exact X41 _
  have lA:=X9d (T:=T) hz hlt (by omega)
  have lB:=X99 (T:=T) hz hv hi (by omega)
  have hne:(List.map some xs.flatten++T)≠[]:=fun q=>by rw[q] at hlen;simp at hlen;omega
  have hok:=X8i (i:=i) hz hv
  have hln:=X7V (v:=v) hi
  refine W8_ ?_;refine Zc (lb:=i) (hb:=xs.length) (m:=xs.length-i) (c':=c-i) (o':=i*6) ?_ (ho':=by exact s1);refine Qsg ?_
  (refine Z1 (op:= .add) (r':= .int .i64 ((xs.length+1:Nat):Int)) (u:= .int .i64 (xs.length:Nat)) (v:= .int .i64 ([v].length:Nat)) ?_ (hr':=by exact congrArg (Value.int .i64) a1) (hr:=by exact UC (by unfold XT;omega)))
  refine Qtg ?_
  (refine Z1 (op:= .add) (r':= .int .i64 ((xs.length+1:Nat):Int)) (u:= .int .i64 (xs.length:Nat)) (v:= .int .i64 ([v].length:Nat)) ?_ (hr':=by exact congrArg (Value.int .i64) a1) (hr:=by exact UC (by unfold XT;omega)))
  refine Qug ?_
  (refine Z1 (op:= .add) (r':= .int .i64 ((i+1:Nat):Int)) (u:= .int .i64 (i:Nat)) (v:= .int .i64 ([v].length:Nat)) ?_ (hr':=by exact congrArg (Value.int .i64) a2) (hr:=by exact UC (by unfold XT;omega)))
  refine Zc (lb:=i+1) (hb:=xs.length+1) (m:=xs.length-i) (c':=c-(i+1)) (o':=(i+1)*6) ?_ (ho':=by exact s3)
  (refine X9e (hg:=JSa) (hx:=JSb) (hy:=JSb) (hL:=JSb) (hsz:=JSw) (ho:=JSs) (hp:=JSb) (hT:=JSb) (hd:=JSb) ?_ (hys:= ?hys31) (hcs:= ?hcs32) (hf:=by exact Tryz.func250) (h1:=by exact(by kernel_rfl)) (h2:=by exact(by kernel_rfl)) (h3:=by exact(by kernel_rfl)) (h4:=by exact(by kernel_rfl));(case hys31=>exact(by simp));(case hcs32=>exact hne))
  refine W2_ ?_;refine QCa ?_
  (refine Z1 (op:= .add) (r':= .int .i64 ((i+1:Nat):Int)) (u:= .int .i64 (i:Nat)) (v:= .int .i64 ([v].length:Nat)) ?_ (hr':=by exact congrArg (Value.int .i64) a2) (hr:=by exact UC (by unfold XT;omega)))
  refine Zc (lb:=i+1) (hb:=xs.length+1) (m:=xs.length-i) (c':=c-(i+1)) (o':=(i+1)*6) ?_ (ho':=by exact s3);refine W2_ ?_;refine Zc (lb:=i) (hb:=xs.length+1) (m:=xs.length+1-i) (c':=c-i) (o':=i*6) ?_ (ho':=by exact s1);refine Zd (m:=xs.length-i) (cs':=X2T 6 i xs T) ?_ (hc:=by exact cA) (hcs:=by exact e1);refine W5_ ?_;refine Zc (lb:=i) (hb:=xs.length+1) (m:=xs.length+1-i) (c':=c-i) (o':=i*6) ?_ (ho':=by exact s1);refine W1_ ?_;refine Ze (m:=1) (cs':=X2g 6 i xs v T) ?_ (hcs:=by exact e2);refine W6_ ?_
  show AWP Tryz.prog E _ _ _
  refine Qvg ?_
  (show AWP Tryz.prog E _ _ _;refine X1 ?_;exact(show Xy _ _ _ _ _ from⟨_,St.le_refl _,⟨rfl,trivial⟩,Xn ⟨rfl,rfl,trivial⟩⟩))
 have e5:=X4l hz T hi
 have e6:(List.map some xs.flatten++T).take (xs.length*6)=xs.flatten.map some:=List.take_left' (Uq hz)
 have l5:(xs.take i).length=i:=by rw[List.length_take];omega
 refine W8_ ?_;refine Zc (lb:=i) (hb:=xs.length) (m:=xs.length-i) (c':=c-i) (o':=i*6) ?_ (ho':=by exact s1);refine Qsg ?_
 (refine Z1 (op:= .add) (r':= .int .i64 ((xs.length+1:Nat):Int)) (u:= .int .i64 (xs.length:Nat)) (v:= .int .i64 ([v].length:Nat)) ?_ (hr':=by exact congrArg (Value.int .i64) a1) (hr:=by exact UC (by unfold XT;omega)))
 refine Qwg ?_
 (refine Z1 (op:= .add) (r':= .int .i64 ((xs.length+1:Nat):Int)) (u:= .int .i64 (xs.length:Nat)) (v:= .int .i64 ([v].length:Nat)) ?_ (hr':=by exact congrArg (Value.int .i64) a1) (hr:=by exact UC (by unfold XT;omega)))
 refine W1_ ?_
 (refine Z1 (op:= .sub) (r':= .int .i64 ((xs.length+1-i:Nat):Int)) (u:= .int .i64 ((xs.length+1:Nat):Int)) (v:= .int .i64 (i:Nat)) ?_ (hr':=by exact congrArg (Value.int .i64) a3) (hr:=by exact Yl (by unfold XT;omega)))
 (refine Zf (γ:=110) (n':=xs.length+1) (xs:=xs.take i) ?_ (hxs:= ?hxs33) (hxl:= ?hxl34) (hxz:=by exact X08 hz i);(case hxs33=>exact e5);(case hxl34=>exact l5));refine W3_ ?_
 show AWP Tryz.prog E _ _ _
 refine Qxg ?_;(refine X1f (k:=i) (hg:=JSa) (hx:=JSb) (hL:=JSb) (hlo:=JSb) (hn:=JSe) (hT:=JSb) (hd:=JSb) ?_ (hk:= ?hk35);(case hk35=>exact(by simp;omega)));refine W1_ ?_
 (refine X2R (m:=1) (hg:=JSa) (hx:=JSb) (hL:=JSb) (hn:=JSe) (hy:=JSb) (hsrc:=JSf) (hT:=JSb) (hd:=JSb) ?_ (hk:= ?hk36) (hm:= ?hm37);(case hk36=>exact(by simp;omega));(case hm37=>exact(by simp;omega)))
 refine W6_ ?_
 (refine Z1 (op:= .add) (r':= .int .i64 ((i+1:Nat):Int)) (u:= .int .i64 (i:Nat)) (v:= .int .i64 ([v].length:Nat)) ?_ (hr':=by exact congrArg (Value.int .i64) a2) (hr:=by exact UC (by unfold XT;omega)))
 (refine X1f (k:=i+1) (hg:=JSa) (hx:=JSb) (hL:=JSb) (hlo:=JSb) (hn:=JSe) (hT:=JSb) (hd:=JSb) ?_ (hk:= ?hk38);(case hk38=>exact(by simp;omega)));refine W3_ ?_
 (refine X2R (m:=xs.length-i) (hg:=JSa) (hx:=JSb) (hL:=JSb) (hn:=JSe) (hy:=JSb) (hsrc:=JSf) (hT:=JSb) (hd:=JSb) ?_ (hk:= ?hk39) (hm:= ?hm40);(case hk39=>exact(by simp;omega));(case hm40=>exact(by simp;omega)))
 refine W6_ ?_
 (show AWP Tryz.prog E _ _ _;refine X1 ?_;exact(show Xy _ _ _ _ _ from⟨_,St.le_refl _,⟨rfl,trivial⟩,Xn ⟨rfl,congrArg (AObj.row _) (X8n hi (by rw[List.length_replicate]) hlt),trivial⟩⟩))
theorem XqR (xs:List (List D)) (i:Nat) (hz:∀x∈xs,x.length=3) (hi:i<xs.length) (hx:xs.length≤5000):
  Con Tryz.prog 169 [(1,.row 3 xs)] [.own 1 xs.length,ai (i:Nat),ai ((i+1:Nat):Int)] [(1,.dead),(110,.row 3 (xs.take i++xs.drop (i+1)))] (.own 110 (xs.length-1)):=by
 refine Xg (xs:=[.own 110 (xs.length-1)]) Tryz.func169 rfl Tryz.ntmps169 rfl rfl rfl (fun E=> ?_)
 refine X2z 0 1 120 rfl (by omega) rfl rfl rfl rfl (fun c k hc1 hc2 hc3 _=> ?_)
 have hT:(List.replicate k (none:Option D)).length=k:=List.length_replicate
 generalize List.replicate k (none:Option D)=T at*
 have hlen:(List.map some xs.flatten++T).length=xs.length*3+k:=by rw[List.length_append,hT];exact congrArg (· +k) (Uq hz)
 have s0:(if c=0 then 0 else 0+0*3)=0:=by split<;>rfl
 obtain⟨off,ho⟩:∃off,(if c=i+1 then 0 else 0+(i+1)*3)=off:=⟨_,rfl⟩
 have s5:(if c=xs.length-1 then 0 else 0+(xs.length-1)*3)=(xs.length-1)*3:=by rw[if_neg (by omega),Nat.zero_add]
 have e1:=X7D (T:=T) hz hi hc1 ho
 have e2:=X6U (T:=T) hz hi hc1 ho
 have e3:=X8R (T:=T) hi hc1 ho hz
 have lA:=X8b (T:=T) hz hi
 have cA:X0a (((List.map some xs.flatten++T).drop off).take ((xs.length-(i+1))*3))=true:=by rw[show List.map some xs.flatten=fl xs from rfl,e2];exact X41 _
 have e4:=fun W V=>X8Z hz hi W V
 have hln:=X8X hi
 have hok:∀x∈xs.take i++xs.drop (i+1),x.length=3:=fun x hx=>(List.mem_append.1 hx).elim (X08 hz i x) (X1W hz _ x)
 generalize hdA:X2p 3 i xs ((fl xs++T).drop (i*3+(xs.length-(i+1))*3))=A at*
 have e4:=fun V=>(hdA ▸ e4 _ V:(A.take ((xs.length-1)*3)++V).take ((xs.length-1)*3)=_)
 clear hdA
 refine Qyg ?_;refine X8I (lb:=i) (hb:=i+1) (mb:=xs.length) (sz:=3) (hg:=JSa) (hx:=JSb) (hlo:=JSb) (hhi:=JSb) (hmx:=JSb) (hlh:=JSs) (hh:=JSs) (hm:=JSs) (hT:=JSb) (hd:=JSb) ?_;refine Qzg ?_;(refine Zg (n':=xs.length-1) (cs':=A) ?_ (hc:= ?hc41) (hcs:= ?hcs42);(case hc41=>exact cA);(case hcs42=>exact e1));refine QAg ?_;refine Zc (lb:=xs.length-1) (hb:=xs.length) (m:=1) (c':=c-(xs.length-1)) (o':=(xs.length-1)*3) ?_ (ho':=by exact s5)
 (refine X9h (cs':=A.take ((xs.length-1)*3)++(List.replicate (1*3) none++A.drop ((xs.length-1)*3+1*3))) (sz:=3) (hg:=JSa) (hx:=JSb) (hL:=JSb) (hn:=JSs) (hb:=JSs) (hB:=JSc) (hT:=JSb) ?_ (hcs:= ?hcs43);(case hcs43=>exact List.append_assoc _ _ _))
 refine W6_ ?_
 show AWP Tryz.prog E _ _ _
 refine QBg ?_
 (show AWP Tryz.prog E _ _ _;refine X1 ?_;exact(show Xy _ _ _ _ _ from⟨_,St.le_refl _,⟨rfl,trivial⟩,Xn ⟨rfl,rfl,trivial⟩⟩))
theorem Xpn (xs:List (List D)) (i:Nat) (hz:∀x∈xs,x.length=5) (hi:i<xs.length) (hx:xs.length≤5000):
  Con Tryz.prog 176 [(1,.row 5 xs)] [.own 1 xs.length,ai (i:Nat),ai ((i+1:Nat):Int)] [(1,.dead),(110,.row 5 (xs.take i++xs.drop (i+1)))] (.own 110 (xs.length-1)):=by
 refine Xg (xs:=[.own 110 (xs.length-1)]) Tryz.func176 rfl Tryz.ntmps176 rfl rfl rfl (fun E=> ?_)
 refine X2z 0 1 120 rfl (by omega) rfl rfl rfl rfl (fun c k hc1 hc2 hc3 _=> ?_)
 have hT:(List.replicate k (none:Option D)).length=k:=List.length_replicate
 generalize List.replicate k (none:Option D)=T at*
 have hlen:(List.map some xs.flatten++T).length=xs.length*5+k:=by rw[List.length_append,hT];exact congrArg (· +k) (Uq hz)
 have s0:(if c=0 then 0 else 0+0*5)=0:=by split<;>rfl
 obtain⟨off,ho⟩:∃off,(if c=i+1 then 0 else 0+(i+1)*5)=off:=⟨_,rfl⟩
 have s5:(if c=xs.length-1 then 0 else 0+(xs.length-1)*5)=(xs.length-1)*5:=by rw[if_neg (by omega),Nat.zero_add]
 have e1:=X7D (T:=T) hz hi hc1 ho
 have e2:=X6U (T:=T) hz hi hc1 ho
 have e3:=X8R (T:=T) hi hc1 ho hz
 have lA:=X8b (T:=T) hz hi
 have cA:X0a (((List.map some xs.flatten++T).drop off).take ((xs.length-(i+1))*5))=true:=by rw[show List.map some xs.flatten=fl xs from rfl,e2];exact X41 _
 have e4:=fun W V=>X8Z hz hi W V
 have hln:=X8X hi
 have hok:∀x∈xs.take i++xs.drop (i+1),x.length=5:=fun x hx=>(List.mem_append.1 hx).elim (X08 hz i x) (X1W hz _ x)
 generalize hdA:X2p 5 i xs ((fl xs++T).drop (i*5+(xs.length-(i+1))*5))=A at*
 have e4:=fun V=>(hdA ▸ e4 _ V:(A.take ((xs.length-1)*5)++V).take ((xs.length-1)*5)=_)
 clear hdA
 refine Qyg ?_;refine X8I (lb:=i) (hb:=i+1) (mb:=xs.length) (sz:=5) (hg:=JSa) (hx:=JSb) (hlo:=JSb) (hhi:=JSb) (hmx:=JSb) (hlh:=JSs) (hh:=JSs) (hm:=JSs) (hT:=JSb) (hd:=JSb) ?_;refine Qzg ?_;(refine Zg (n':=xs.length-1) (cs':=A) ?_ (hc:= ?hc44) (hcs:= ?hcs45);(case hc44=>exact cA);(case hcs45=>exact e1));refine QAg ?_;refine Zc (lb:=xs.length-1) (hb:=xs.length) (m:=1) (c':=c-(xs.length-1)) (o':=(xs.length-1)*5) ?_ (ho':=by exact s5)
 (refine X9h (cs':=A.take ((xs.length-1)*5)++(List.replicate (1*5) none++A.drop ((xs.length-1)*5+1*5))) (sz:=5) (hg:=JSa) (hx:=JSb) (hL:=JSb) (hn:=JSs) (hb:=JSs) (hB:=JSc) (hT:=JSb) ?_ (hcs:= ?hcs46);(case hcs46=>exact List.append_assoc _ _ _))
 refine W6_ ?_
 show AWP Tryz.prog E _ _ _
 refine QBg ?_
 (show AWP Tryz.prog E _ _ _;refine X1 ?_;exact(show Xy _ _ _ _ _ from⟨_,St.le_refl _,⟨rfl,trivial⟩,Xn ⟨rfl,rfl,trivial⟩⟩))
theorem Xmb (xs:List (List D)) (i:Nat) (hz:∀x∈xs,x.length=1) (hi:i<xs.length) (hx:xs.length≤5000):
  Con Tryz.prog 172 [(1,.row 1 xs)] [.own 1 xs.length,ai (i:Nat),ai ((i+1:Nat):Int)] [(1,.dead),(110,.row 1 (xs.take i++xs.drop (i+1)))] (.own 110 (xs.length-1)):=by
 refine Xg (xs:=[.own 110 (xs.length-1)]) Tryz.func172 rfl Tryz.ntmps172 rfl rfl rfl (fun E=> ?_)
 refine X2z 0 1 120 rfl (by omega) rfl rfl rfl rfl (fun c k hc1 hc2 hc3 _=> ?_)
 have hT:(List.replicate k (none:Option D)).length=k:=List.length_replicate
 generalize List.replicate k (none:Option D)=T at*
 have hlen:(List.map some xs.flatten++T).length=xs.length*1+k:=by rw[List.length_append,hT];exact congrArg (· +k) (Uq hz)
 have s0:(if c=0 then 0 else 0+0*1)=0:=by split<;>rfl
 obtain⟨off,ho⟩:∃off,(if c=i+1 then 0 else 0+(i+1)*1)=off:=⟨_,rfl⟩
 have s5:(if c=xs.length-1 then 0 else 0+(xs.length-1)*1)=(xs.length-1)*1:=by rw[if_neg (by omega),Nat.zero_add]
 have e1:=X7D (T:=T) hz hi hc1 ho
 have e2:=X6U (T:=T) hz hi hc1 ho
 have e3:=X8R (T:=T) hi hc1 ho hz
 have lA:=X8b (T:=T) hz hi
 have cA:X0a (((List.map some xs.flatten++T).drop off).take ((xs.length-(i+1))*1))=true:=by rw[show List.map some xs.flatten=fl xs from rfl,e2];exact X41 _
 have e4:=fun W V=>X8Z hz hi W V
 have hln:=X8X hi
 have hok:∀x∈xs.take i++xs.drop (i+1),x.length=1:=fun x hx=>(List.mem_append.1 hx).elim (X08 hz i x) (X1W hz _ x)
 generalize hdA:X2p 1 i xs ((fl xs++T).drop (i*1+(xs.length-(i+1))*1))=A at*
 have e4:=fun V=>(hdA ▸ e4 _ V:(A.take ((xs.length-1)*1)++V).take ((xs.length-1)*1)=_)
 clear hdA
 refine Qyg ?_;refine X8I (lb:=i) (hb:=i+1) (mb:=xs.length) (sz:=1) (hg:=JSa) (hx:=JSb) (hlo:=JSb) (hhi:=JSb) (hmx:=JSb) (hlh:=JSs) (hh:=JSs) (hm:=JSs) (hT:=JSb) (hd:=JSb) ?_;refine Qzg ?_;(refine Zg (n':=xs.length-1) (cs':=A) ?_ (hc:= ?hc47) (hcs:= ?hcs48);(case hc47=>exact cA);(case hcs48=>exact e1));refine QAg ?_;refine Zc (lb:=xs.length-1) (hb:=xs.length) (m:=1) (c':=c-(xs.length-1)) (o':=(xs.length-1)*1) ?_ (ho':=by exact s5)
 (refine X9h (cs':=A.take ((xs.length-1)*1)++(List.replicate (1*1) none++A.drop ((xs.length-1)*1+1*1))) (sz:=1) (hg:=JSa) (hx:=JSb) (hL:=JSb) (hn:=JSs) (hb:=JSs) (hB:=JSc) (hT:=JSb) ?_ (hcs:= ?hcs49);(case hcs49=>exact List.append_assoc _ _ _))
 refine W6_ ?_
 show AWP Tryz.prog E _ _ _
 refine QBg ?_
 (show AWP Tryz.prog E _ _ _;refine X1 ?_;exact(show Xy _ _ _ _ _ from⟨_,St.le_refl _,⟨rfl,trivial⟩,Xn ⟨rfl,rfl,trivial⟩⟩))
theorem Xo0 (xs:List (List D)) (i:Nat) (hz:∀x∈xs,x.length=6) (hi:i<xs.length) (hx:xs.length≤5000):
  Con Tryz.prog 213 [(1,.row 6 xs)] [.own 1 xs.length,ai (i:Nat),ai ((i+1:Nat):Int)] [(1,.dead),(110,.row 6 (xs.take i++xs.drop (i+1)))] (.own 110 (xs.length-1)):=by
 refine Xg (xs:=[.own 110 (xs.length-1)]) Tryz.func213 rfl Tryz.ntmps213 rfl rfl rfl (fun E=> ?_)
 refine X2z 0 1 120 rfl (by omega) rfl rfl rfl rfl (fun c k hc1 hc2 hc3 _=> ?_)
 have hT:(List.replicate k (none:Option D)).length=k:=List.length_replicate
 generalize List.replicate k (none:Option D)=T at*
 have hlen:(List.map some xs.flatten++T).length=xs.length*6+k:=by rw[List.length_append,hT];exact congrArg (· +k) (Uq hz)
 have s0:(if c=0 then 0 else 0+0*6)=0:=by split<;>rfl
 obtain⟨off,ho⟩:∃off,(if c=i+1 then 0 else 0+(i+1)*6)=off:=⟨_,rfl⟩
 have s5:(if c=xs.length-1 then 0 else 0+(xs.length-1)*6)=(xs.length-1)*6:=by rw[if_neg (by omega),Nat.zero_add]
 have e1:=X7D (T:=T) hz hi hc1 ho
 have e2:=X6U (T:=T) hz hi hc1 ho
 have e3:=X8R (T:=T) hi hc1 ho hz
 have lA:=X8b (T:=T) hz hi
 have cA:X0a (((List.map some xs.flatten++T).drop off).take ((xs.length-(i+1))*6))=true:=by rw[show List.map some xs.flatten=fl xs from rfl,e2];exact X41 _
 have e4:=fun W V=>X8Z hz hi W V
 have hln:=X8X hi
 have hok:∀x∈xs.take i++xs.drop (i+1),x.length=6:=fun x hx=>(List.mem_append.1 hx).elim (X08 hz i x) (X1W hz _ x)
 generalize hdA:X2p 6 i xs ((fl xs++T).drop (i*6+(xs.length-(i+1))*6))=A at*
 have e4:=fun V=>(hdA ▸ e4 _ V:(A.take ((xs.length-1)*6)++V).take ((xs.length-1)*6)=_)
 clear hdA
 refine Qyg ?_;refine X8I (lb:=i) (hb:=i+1) (mb:=xs.length) (sz:=6) (hg:=JSa) (hx:=JSb) (hlo:=JSb) (hhi:=JSb) (hmx:=JSb) (hlh:=JSs) (hh:=JSs) (hm:=JSs) (hT:=JSb) (hd:=JSb) ?_;refine Qzg ?_;(refine Zg (n':=xs.length-1) (cs':=A) ?_ (hc:= ?hc50) (hcs:= ?hcs51);(case hc50=>exact cA);(case hcs51=>exact e1));refine QAg ?_;refine Zc (lb:=xs.length-1) (hb:=xs.length) (m:=1) (c':=c-(xs.length-1)) (o':=(xs.length-1)*6) ?_ (ho':=by exact s5)
 (refine X9h (cs':=A.take ((xs.length-1)*6)++(List.replicate (1*6) none++A.drop ((xs.length-1)*6+1*6))) (sz:=6) (hg:=JSa) (hx:=JSb) (hL:=JSb) (hn:=JSs) (hb:=JSs) (hB:=JSc) (hT:=JSb) ?_ (hcs:= ?hcs52);(case hcs52=>exact List.append_assoc _ _ _))
 refine W6_ ?_
 show AWP Tryz.prog E _ _ _
 refine QBg ?_
 (show AWP Tryz.prog E _ _ _;refine X1 ?_;exact(show Xy _ _ _ _ _ from⟨_,St.le_refl _,⟨rfl,trivial⟩,Xn ⟨rfl,rfl,trivial⟩⟩))
end Go.Fw

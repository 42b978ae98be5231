/- Opening what came in: from the reading of an argument to data over the world's own cells. -/
import Derived.OpenShut
import Derived.Deep.Slices
import Derived.Deep.Strs
import Derived.KernelRfl
import Derived.Test.YtpbgjcbkhgfmkaaGreatDoorM38
set_option maxHeartbeats 16000000
namespace Go.Fw
open Go Go.ChangeShapes Go.WideShapes Go.Deep List
set_option linter.unusedVariables false
section
variable {H:Type}{enc:TypeId×Value->H}{P:Program}{W:World}
theorem Xm1 {α:Type}{t e:TypeId}{sz:Nat}{p:α->Prop}{f:α->List D} (ht:P.underlying t=some (.slice e)) (hz:P.cellsOf e=sz) (h0:0<sz) (ho:Opens enc P W e p f):
  Opens enc P W t (fun l:List α=> ∀r∈l,p r) (fun l=>[.sl sz (l.map f)]):=by
 refine⟨fun n cs x hx=> ?_⟩;rcases open_slice ht hx with ⟨rfl,_⟩|⟨a,len,cap,m,n',DD,Pl,rfl,_,hl,hm,hmm,rfl,hel⟩
 ·refine⟨[],by simp,?_⟩
  grind [VK,D.rep]
 simp only[if_true] at hmm;subst hmm;have lH:∀i,i<len->∃r,p r/\(f r).length=sz/\∀j d,(f r)[j]? =some d->∃u,W.cell? ((a.add (i*sz)).add j)=some u/\d.rep W.cell? u:=by
  intro i hi;obtain⟨cs',h1,h2⟩:=hel i (by omega);obtain⟨r,h3,h4⟩:=ho.op _ _ _ h2;obtain⟨_,h5,h6⟩:=World.cells?_some h1
  grind [XcW,XfY]
 obtain⟨l,h1,h2⟩:=Xfm len lH;refine⟨l,fun r hr=> ?_,?_⟩
 ·grind [getElem?_of_mem]
 simp only[VK,D.rep];refine⟨⟨some a,m,by grind,by grind,hm,?_⟩,TV⟩;by_cases jO:len=0
 ·grind
 right;obtain⟨b,o,sp⟩:=a;have hsp:sp=none:=by
  obtain⟨r,hr⟩:∃r,l[0]? =some r:=⟨_,getElem?_eq_getElem (by omega)⟩
  obtain⟨_,hlen,hcell⟩:=h2 0 r hr;obtain⟨d,hd⟩:∃d,(f r)[0]? =some d:=⟨_,getElem?_eq_getElem (by omega)⟩
  obtain⟨u,hu,_⟩:=hcell 0 d hd;simpa [Addr.add] using World.cell?_spot hu
 grind [X9s,X6K,Vf]
end
open Go
set_option linter.unusedSimpArgs false
def X3n (d:ak):Bool:=decide (d.aa.length<=60/\d.pending.length<=30)&&(d.aa.all (fun s=>decide (s.length<=100))&&d.pending.all fun w=>decide (w.b.length<=100))
theorem XaU {d:ak} (h:X3n d=true):d.aa.length<=60/\d.pending.length<=30:=by
 unfold X3n at h;rw[Bool.and_eq_true,decide_eq_true_eq] at h;exact h.1
open Go Go.Proofs Tryz
theorem Xno:prog.cellsOf 78=1:=by kernel_rfl
theorem Xqe:prog.cellsOf 22=1:=by kernel_rfl
theorem Xpf:prog.cellsOf 23=1:=by kernel_rfl
theorem Xn6:prog.cellsOf 80=2:=by kernel_rfl
theorem Xrg:prog.cellsOf 25=3:=by kernel_rfl
theorem opU8 {H:Type}{enc:TypeId×Value->H}{W:World}:Opens enc prog W 5 (fun _:UInt8=>True) (fun b=>[.v (.int .u8 b.toNat)]):=
 (XsI underlying5).to (fun n=>UInt8.ofNat n.toNat) fun a ha=>⟨trivial,by
  have:=bounds_u8 ha
  grind [UInt8.toNat_ofNat']⟩
theorem opens_bytes {H:Type}{enc:TypeId×Value->H}{W:World}:Opens enc prog W 78 (fun _:List UInt8=>True) (fun l=>[Xg l]):=
 (Xm1 underlying78 (show prog.cellsOf 5=1 by kernel_rfl) (by decide) (opU8)).to id fun _ _=>⟨trivial,rfl⟩
section
variable {H:Type}{enc:TypeId×Value->H}{W:World}
theorem Xtj:Opens enc prog W 22 (fun _:List (List UInt8)=>True) (fun l=>[XL l]):=
 (Xm1 underlying22 Xno (by decide) opens_bytes).to id fun _ _=>⟨TV,rfl⟩
theorem XrX:Opens enc prog W 80 (fun _:Wr=>True) cWr:=
 (Xb6 underlying80 Xn6 (X3t rfl X8O (X9E underlying3) (X3t rfl Xno opens_bytes Xbm))).to (fun r=>⟨r.1,r.2.1⟩) fun r h=>⟨TV,rfl⟩
theorem Xt5:Opens enc prog W 23 (fun _:List Wr=>True) (fun l=>[XS l]):=
 (Xm1 underlying23 Xn6 (by decide) XrX).to id fun _ h=>⟨TV,rfl⟩
def Xnb (d:ak):List D:=[XL d.aa,XS d.pending,.v (.bool d.on)]
theorem XaW:Opens enc prog W 25 (fun _:ak=>True) Xnb:=
 (Xb6 underlying25 Xrg (X3t rfl Xqe Xtj (X3t rfl Xpf Xt5 (X3t rfl XkJ (Xmw underlying4) Xbm)))).to (fun r=>⟨r.1,r.2.1,r.2.2.1⟩) fun r h=>⟨TV,rfl⟩
theorem XbS (d:ak):XU d= .agg ((Xnb d).map .d):=rfl
end
set_option maxRecDepth 100000
theorem Xbr (d:ak):Con prog 13 [] [XU d] [] (ab (X3n d)):=by
 refine ZC1 func13 ntmps13 fun E=> ?_;obtain⟨secs,ag,on⟩:=d;have h1:(secs.map XV).length=secs.length:=LM ..;have h2:(ag.map cWr).length=ag.length:=LM ..;unfold X3n;simp only;by_cases q0:secs.length<=60
 case neg=>
  have pT:((secs.map XV).length:Int)>60:=by omega
  rw[DF (fun h=>q0 h.1),Bool.false_and];refine Yq ?_
  (show AWP prog E _ _ _;refine X2 ?_;exact(show Xa _ _ _ _ _ from⟨_,St.le_refl _,⟨rfl,TV⟩,X4 _⟩))
 have pT:¬((secs.map XV).length:Int)>60:=by omega
 by_cases q1:ag.length<=30
 case neg=>
  have dI:((ag.map cWr).length:Int)>30:=by omega
  rw[DF (fun h=>q1 h.2),Bool.false_and];refine Yq ?_
  (show AWP prog E _ _ _;refine X2 ?_;exact(show Xa _ _ _ _ _ from⟨_,St.le_refl _,⟨rfl,TV⟩,X4 _⟩))
 have dI:¬((ag.map cWr).length:Int)>30:=by omega
 rw[DT ⟨q0,q1⟩,Bool.true_and];generalize hG:(secs.all fun s=>decide (s.length<=100))=G;generalize hH:(ag.all fun w=>decide (w.b.length<=100))=H;refine U1 ?_
 refine Xn (fun i:Nat=>i<=secs.length/\((secs.drop i).all fun s=>decide (s.length<=100))=G) (fun i=>⟨44,[(1,.ptr 100 0),(3,ai i)],[(100,.box [.d (XL secs),.d (XS ag),ab on])]⟩) (fun i=>secs.length-i) 0 ⟨Nat.zero_le _,hG⟩
  (ZL0) ?_
 rintro i ⟨hi,hg⟩;by_cases hil:i<secs.length
 case pos=>
  have hn:(i:Int)<(secs.map XV).length:=by omega
  obtain⟨x,hx⟩:=Xu (l:=secs) hil;have au:(secs.map XV)[i]? =some (XV x):=XM hx;rw[Xam hx] at hg;have hxl:(x.map X5).length=x.length:=LM ..;clear hx;by_cases h:x.length<=100
  ·rw[DT h,Bool.true_and] at hg;have h':¬((x.map X5).length:Int)>100:=by omega
   refine Vb ?_;exact Qwc
  ·rw[DF h,Bool.false_and] at hg;subst hg;have h':((x.map X5).length:Int)>100:=by omega
   rw[Bool.false_and];refine YY ?_
   (show AWP prog E _ _ _;refine X2 ?_;exact(show Xa _ _ _ _ _ from⟨_,St.le_refl _,⟨rfl,TV⟩,X4 _⟩))
 obtain rfl:i=secs.length:=by omega
 have hn:¬((secs.length:Nat):Int)<(secs.map XV).length:=by omega
 rw[drop_length,all_nil] at hg;subst hg;rw[Bool.true_and];refine Yv ?_
 refine Xn (fun i:Nat=>i<=ag.length/\((ag.drop i).all fun w=>decide (w.b.length<=100))=H) (fun i=>⟨44,[(1,.ptr 100 0),(4,ai i)],[(100,.box [.d (XL secs),.d (XS ag),ab on])]⟩) (fun i=>ag.length-i) 0 ⟨Nat.zero_le _,hH⟩
  (ZL0) ?_
 rintro i ⟨hi',hg⟩;by_cases hil:i<ag.length
 case pos=>
  have hn:(i:Int)<(ag.map cWr).length:=by omega
  obtain⟨x,hx⟩:=Xu (l:=ag) hil;have au:(ag.map cWr)[i]? =some (cWr x):=XM hx;rw[Xam hx] at hg;obtain⟨xa,x⟩:=x;have hxl:(x.map X5).length=x.length:=LM ..;simp only[cWr,Xg] at au hg;clear hx;by_cases h:x.length<=100
  ·rw[DT h,Bool.true_and] at hg;have h':¬((x.map X5).length:Int)>100:=by omega
   refine UP ?_;exact Qwc
  ·rw[DF h,Bool.false_and] at hg;subst hg;have h':((x.map X5).length:Int)>100:=by omega
   refine YT ?_
   (show AWP prog E _ _ _;refine X2 ?_;exact(show Xa _ _ _ _ _ from⟨_,St.le_refl _,⟨rfl,TV⟩,X4 _⟩))
 obtain rfl:i=ag.length:=by omega
 have hn:¬((ag.length:Nat):Int)<(ag.map cWr).length:=by omega
 rw[drop_length,all_nil] at hg;subst hg;refine Yx ?_
 (show AWP prog E _ _ _;refine X2 ?_;exact(show Xa _ _ _ _ _ from⟨_,St.le_refl _,⟨rfl,TV⟩,X4 _⟩))
end Go.Fw

/- What the laws' helpers compute, in plain Lean. -/
import Derived.KernelRfl
import Derived.Test.YtfmfekakaeafhaaGreatDoorP42
import Derived.Test.YtfmfekakaeafhaaGreatDoorP47
set_option linter.all false
set_option maxHeartbeats 16000000
namespace Go.Fw
open Go List
open List renaming length->J
def X4P (d:ak):Bool:=decide (J d.aa<=60/\J d.pending<=30)&&(d.aa.all (fun s=>decide (J s<=100))&&d.pending.all fun w=>decide (J w.b<=100))
def Xhc {d:ak} (h:X4P d=true):J d.aa<=60/\J d.pending<=30:=by
 unfold X4P at h;rw[Bool.and_eq_true,decide_eq_true_eq] at h;exact h.1
open Go Go.Proofs Tryz
open List renaming length->J
set_option maxRecDepth 100000
def Xgz (d:ak):Con prog 7 [] [XY d] [] (ab (X4P d)):=by
 refine ZC1 func7 ntmps7 fun E=> ?_;obtain⟨secs,af,on⟩:=d;have h1:J (secs.map Yd)=J secs:=LM ..;have h2:J (af.map cWr)=J af:=LM ..;unfold X4P;simp only;by_cases q0:J secs<=60
 case neg=>
  have qy:(J (secs.map Yd):Int)>60:=Oa
  rw[DF (fun h=>q0 h.1),Bool.false_and];refine YA ?_
  (exact Zz2)
 have qy:¬(J (secs.map Yd):Int)>60:=Oa
 by_cases q1:J af<=30
 case neg=>
  have dF:(J (af.map cWr):Int)>30:=Oa
  rw[DF (fun h=>q1 h.2),Bool.false_and];refine YA ?_
  (exact Zz2)
 have dF:¬(J (af.map cWr):Int)>30:=Oa
 rw[DT ⟨q0,q1⟩,Bool.true_and];generalize hG:(secs.all fun s=>decide (J s<=100))=G;generalize hH:(af.all fun w=>decide (J w.b<=100))=H;refine YT ?_
 refine Xl (fun i:Nat=>i<=J secs/\((secs.drop i).all fun s=>decide (J s<=100))=G) (fun i=>⟨44,[(1,.ptr 100 0),(3,ai i)],[(100,.box [.d (XS secs),.d (XW af),ab on])]⟩) (fun i=>J secs-i) 0 ⟨Nat.zero_le _,hG⟩
  (ZL0) ?_
 rintro i ⟨hi,hg⟩;by_cases hil:i<J secs
 case pos=>
  have hn:(i:Int)<J (secs.map Yd):=Oa
  obtain⟨x,hx⟩:=Xn (l:=secs) hil;have au:(secs.map Yd)[i]? =some (Yd x):=XC hx;rw[Xca hx] at hg;have hxl:J (x.map X6)=J x:=LM ..;clear hx;by_cases h:J x<=100
  ·rw[DT h,Bool.true_and] at hg;have h':¬(J (x.map X6):Int)>100:=by omega
   refine UI ?_;exact Qle
  ·rw[DF h,Bool.false_and] at hg;subst hg;have h':(J (x.map X6):Int)>100:=by omega
   rw[Bool.false_and];refine U7 ?_
   (exact Zz2)
 obtain rfl:i=J secs:=Oa
 have hn:¬((J secs:Nat):Int)<J (secs.map Yd):=Oa
 rw[drop_length,all_nil] at hg;subst hg;rw[Bool.true_and];refine Yb ?_
 refine Xl (fun i:Nat=>i<=J af/\((af.drop i).all fun w=>decide (J w.b<=100))=H) (fun i=>⟨44,[(1,.ptr 100 0),(4,ai i)],[(100,.box [.d (XS secs),.d (XW af),ab on])]⟩) (fun i=>J af-i) 0 ⟨Nat.zero_le _,hH⟩
  (ZL0) ?_
 rintro i ⟨hi',hg⟩;by_cases hil:i<J af
 case pos=>
  have hn:(i:Int)<J (af.map cWr):=Oa
  obtain⟨x,hx⟩:=Xn (l:=af) hil;have au:(af.map cWr)[i]? =some (cWr x):=XC hx;rw[Xca hx] at hg;obtain⟨xa,x⟩:=x;have hxl:J (x.map X6)=J x:=LM ..;simp only[cWr,Xc] at au hg;clear hx;by_cases h:J x<=100
  ·rw[DT h,Bool.true_and] at hg;have h':¬(J (x.map X6):Int)>100:=by omega
   refine UK ?_;exact Qle
  ·rw[DF h,Bool.false_and] at hg;subst hg;have h':(J (x.map X6):Int)>100:=by omega
   refine YG ?_
   (exact Zz2)
 obtain rfl:i=J af:=Oa
 have hn:¬((J af:Nat):Int)<J (af.map cWr):=Oa
 rw[drop_length,all_nil] at hg;subst hg;refine Ya ?_
 (exact Zz2)
def Xhz:prog.cellsOf 63=1:=Oh
def Xqy:prog.cellsOf 22=1:=Oh
def Xqc:prog.cellsOf 23=1:=Oh
def Xly:prog.cellsOf 65=2:=Oh
def XvN:prog.cellsOf 25=3:=Oh
section
variable {H:Type}{enc:TypeId×Value->H}{W:World}
def Xsq:Opens enc prog W 22 (fun _:List (List UInt8)=>True) (fun l=>[XS l]):=
 (Xe4 underlying22 Xhz Oi Xo3).to id fun _ _=>⟨TV,rfl⟩
def Xzj:Opens enc prog W 65 (fun _:Wr=>True) cWr:=
 (X4b underlying65 Xly (UQ rfl X10 (X0X underlying3) (UQ rfl Xhz Xo3 X47))).to (fun r=>⟨r.1,r.2.1⟩) fun r h=>⟨TV,rfl⟩
def Xrx:Opens enc prog W 23 (fun _:List Wr=>True) (fun l=>[XW l]):=
 (Xe4 underlying23 Xly Oi Xzj).to id fun _ h=>⟨TV,rfl⟩
def Xnz (d:ak):List D:=[XS d.aa,XW d.pending,.v (.bool d.on)]
def Xel:Opens enc prog W 25 (fun _:ak=>True) Xnz:=
 (X4b underlying25 XvN (UQ rfl Xqy Xsq (UQ rfl Xqc Xrx (UQ rfl XfQ (XgT underlying4) X47)))).to (fun r=>⟨r.1,r.2.1,r.2.2.1⟩) fun r h=>⟨TV,rfl⟩
theorem XgD (d:ak):XY d= .agg ((Xnz d).map .d):=rfl
end
end Go.Fw

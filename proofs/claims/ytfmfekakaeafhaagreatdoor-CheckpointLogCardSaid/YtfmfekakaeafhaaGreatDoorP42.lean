/- Layout, valid states, usable disks; the program's and the reference's. -/
import Derived.KernelRfl
import Derived.Test.YtfmfekakaeafhaaGreatDoorP29
import Derived.Test.YtfmfekakaeafhaaGreatDoorP38
import Derived.Test.YtfmfekakaeafhaaGreatDoorP40
set_option linter.all false
set_option maxHeartbeats 16000000
namespace Go.Fw
open Go Go.Proofs Tryz List
open List renaming length->J
set_option maxRecDepth 100000
def Xgo (d:ak):Con prog 36 [] [XY d] [] (ai (UH d)):=by
 refine ZC1 func36 ntmps36 fun E=> ?_;have h1:=X5J d;have h2:=X6n (J d.aa:Nat);obtain⟨r,hr⟩:∃r,r=UH d:=⟨_,rfl⟩
 rw[<-hr];unfold UH at hr;generalize X0x (J d.aa:Nat)=L at*;obtain⟨L1,L2,L3⟩:=L;simp only at h2 hr;generalize UF d=v at*;have hm:J (d.aa.map Yd)=J d.aa:=Oc
 obtain⟨secs,af,on⟩:=d;simp only at*;rw[<-hm] at h2;refine XG ?_;refine YQ rfl ?_ ?_<;>intro hq;refine W4_ ?_;(clear h1 h2;(try simp only at*);simp[*] at hr;subst hr;(exact Zz2));refine W8_ ?_;refine YQ rfl ?_ ?_<;>intro hq;refine W4_ ?_;(clear h1 h2;(try simp only at*);simp[*] at hr;subst hr;(exact Zz2));refine Y5 ?_;refine YQ rfl ?_ ?_<;>intro hq;refine W4_ ?_;(clear h1 h2;(try simp only at*);simp[*] at hr;subst hr;(exact Zz2));refine W5_ ?_
 (clear h1 h2;(try simp only at*);simp[*] at hr;subst hr;(exact Zz2))
def XhU (d:ak) (f t ep tail:Int):Con prog 85 [] [XY d,ai f,ai t,ai ep,ai tail] [] (ai (Ua d f t ep tail)):=by
 refine ZC1 func85 ntmps85 fun E=> ?_;have hv:=X5J d;by_cases q1:UF d=false
 ·have e:Ua d f t ep tail=1:=by unfold Ua;rw[PI q1]
  rw[e];rw[q1] at hv;obtain⟨secs,af,on⟩:=d;refine Yb ?_
  (exact Zz2)
 have dF:UF d=true:=ID
 rw[dF] at hv;have aL:=(X2j dF).2.1;by_cases q2:d.on=false
 ·have e:Ua d f t ep tail=22:=by unfold Ua;rw[NI q1,PI q2]
  rw[e];obtain⟨secs,af,on⟩:=d;simp only at q2;subst q2;refine XM ?_
  (exact Zz2)
 have hm:J (d.aa.map Yd)=J d.aa:=Oc
 have e3:f<0\/t<=f\/(J d.aa:Int)<t->Ua d f t ep tail=1:=fun h=>by unfold Ua;rw[NI q1,NI q2,PI h]
 have e4:¬(f<0\/t<=f\/(J d.aa:Int)<t)->ep<0\/1000000000000000<ep\/tail<0\/(t-f)*64<tail->Ua d f t ep tail=1:=fun h h'=>by unfold Ua;rw[NI q1,NI q2,NI h,PI h']
 have e5:¬(f<0\/t<=f\/(J d.aa:Int)<t)->¬(ep<0\/1000000000000000<ep\/tail<0\/(t-f)*64<tail)->Ua d f t ep tail=0:=fun h h'=>by unfold Ua;rw[NI q1,NI q2,NI h,NI h']
 generalize Ua d f t ep tail=r at*;obtain⟨secs,af,on⟩:=d;obtain rfl:on=true:=by simpa using q2
 simp only at hm aL e3 e4 e5;clear q1 q2 dF;by_cases a1:f<0
 ·obtain rfl:=e3 (.inl a1);clear e3 e4 e5;refine Qoa ?_
  (exact Zz2)
 by_cases a2:t<=f
 ·obtain rfl:=e3 (.inr (.inl a2));clear e3 e4 e5;refine Qoa ?_
  (exact Zz2)
 by_cases a3:(J secs:Int)<t
 ·obtain rfl:=e3 (.inr (.inr a3));have qa:(J (secs.map Yd):Int)<t:=by omega
  clear e3 e4 e5;refine Qoa ?_
  (exact Zz2)
 have qa:¬(J (secs.map Yd):Int)<t:=Oa
 have e4:=e4 Oa;have e5:=e5 Oa;clear e3;by_cases b1:ep<0
 ·obtain rfl:=e4 (.inl b1);clear e4 e5;refine Qoa ?_
  (exact Zz2)
 by_cases b2:1000000000000000<ep
 ·obtain rfl:=e4 (.inr (.inl b2));clear e4 e5;refine Qoa ?_
  (exact Zz2)
 by_cases b3:tail<0
 ·obtain rfl:=e4 (.inr (.inr (.inl b3)));clear e4 e5;refine Qoa ?_
  (exact Zz2)
 by_cases b4:(t-f)*64<tail
 ·obtain rfl:=e4 (.inr (.inr (.inr b4)));clear e4 e5;refine Qoa ?_
  (exact Zz2)
 obtain rfl:=e5 Oa;clear e4 e5;refine X4 ?_;refine YT ?_
 (exact Zz2)
def Xl1 (d:ak) (f t:Int) (hd:DOk d) (hf:Vx d) (h1:0<=f) (h2:f<=t) (h3:t<=J d.aa):Con prog 86 [] [XY d,ai f,ai t] [(130,.row 1 ((XV d f t).map X6))] (.own 130 (J ((XV d f t).map X6))):=by
 refine ZC1 func86 ntmps86 fun E=> ?_;obtain⟨F,rfl⟩:∃F:Nat,f=F:=⟨f.toNat,Oa⟩
 obtain⟨N,rfl⟩:∃N:Nat,t=((F+N:Nat):Int):=⟨(t-F).toNat,Oa⟩
 have hS:XV d (F:Nat) ((F+N:Nat):Int)=Ug d F N:=by
  unfold XV;rw[Int.toNat_natCast,show(((F+N:Nat):Int)-(F:Nat)).toNat=N by omega]
 rw[hS];have hr:=fun a=>Xgk d a (X9M hd.v hf);have hlen:=fun i (hi:i<=N)=>X1j hd i F Oa;have fM:=X95 d;have bh:=fun i (hi:i<N)=>X66 hd (a:=F+i) Oa;have aL:=hf.1;clear hS hf hd;obtain⟨secs,af,on⟩:=d;generalize hB:Ug ⟨secs,af,on⟩ F=B at*;refine Yr ?_;refine X8 (Uo 7 130 1 rfl rfl rfl) ?_
 refine Xl (fun i:Nat=>i<=N) (fun i=>⟨27,[(2,ai ((F+N:Nat):Int)),(3,.ptr 100 0),(7,.own 130 (J ((B i).map X6))),(8,ai ((F+i:Nat):Int))],[(100,.box [.d (XS secs),.d (XW af),ab on]),(130,.row 1 ((B i).map X6))]⟩) (fun i=>N-i) 0 (Nat.zero_le _)
  (X9 rfl ⟨JL,JL,(by rw[<-hB];exact ZzV),JL,TV⟩ ⟨rfl,(by rw[<-hB];rfl),TV⟩) ?_
 intro i hi;have bx:=hlen i hi;have hroom:J ((B i).map X6)<=1000000:=Oj
 by_cases hil:i<N
 case neg=>
  obtain rfl:i=N:=Oa
  have hn:¬((F+i:Nat):Int)<((F+i:Nat):Int):=Oa
  refine XD ?_
  (exact Zz1 rfl ⟨_,ZzS,⟨rfl,TV⟩,Xm ⟨rfl,TV⟩⟩)
 have hn:((F+i:Nat):Int)<((F+N:Nat):Int):=Oa
 have fE:=hr ((F+i:Nat):Int);have hst:B (i+1)=B i++(YZ ⟨secs,af,on⟩ ((F+i:Nat):Int)).1:=by rw[<-hB];exact fM i F
 have hrl:=bh i hil;generalize (YZ ⟨secs,af,on⟩ ((F+i:Nat):Int)).1=R at*;generalize (YZ ⟨secs,af,on⟩ ((F+i:Nat):Int)).2=R2 at*;have dW:J (R.map X6)<=64:=Oj
 clear hr fM hlen bh hB;refine UA ?_;refine⟨i+1,hil,Oa,?_⟩;dsimp only;rw[hst,map_append];exact X9 rfl ⟨JL,JL,ZzQ OC,JL,TV⟩ ⟨rfl,rfl,TV⟩
def Xzw:prog.cellsOf 5=1:=Oh
section
variable {H:Type}{enc:TypeId×Value->H}{W:World}
def Xo3:Opens enc prog W 63 (fun _:List UInt8=>True) (fun l=>[Xc l]):=
 (Xe4 underlying63 Xzw Oi (XsO underlying5)).to id fun _ _=>⟨TV,rfl⟩
end
end Go.Fw

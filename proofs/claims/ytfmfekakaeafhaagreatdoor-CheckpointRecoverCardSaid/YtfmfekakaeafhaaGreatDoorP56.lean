/- A sector, Clean of the reference. -/
import Derived.Test.YtfmfekakaeafhaaGreatDoorP42
import Derived.Test.YtfmfekakaeafhaaGreatDoorP44
import Derived.Test.YtfmfekakaeafhaaGreatDoorP45
set_option linter.all false
set_option maxHeartbeats 32000000
namespace Go.Fw
open Go Go.Proofs Tryz List
open List renaming length->J
set_option maxRecDepth 100000
def X54 (b:List UInt8):List UInt8:=b++replicate (64-J b) 0
def Xpd (b:List UInt8) (hb:J b<=64):Con prog 100 [] [.d (Xc b)] [(130,.row 1 ((X54 b).map X6))] (.own 130 64):=by
 refine ZC1 func100 ntmps100 fun E=> ?_;unfold Xc;have hE:∀n,J b+n=64->X54 b=b++replicate n 0:=fun n h=>by unfold X54;rw[show 64-J b=n by omega]
 have iL:J (b.map X6)=J b:=LM ..;refine W6_ ?_;refine Qqc ?_;refine W6_ ?_
 refine Xl (fun i:Nat=>J b+i<=64) (fun i=>⟨14,[(2,aq),(3,.own 130 (J b+i))],[(130,.row 1 ((b++replicate i 0).map X6))]⟩) (fun i=>64-(J b+i)) 0 Oa
  (X9 rfl ⟨JL,ZzQ (by refine Eq.trans (b:=AVal.own 130 (0+J (b.map X6))) rfl ?_;rw[iL,Nat.zero_add];rfl),TV⟩ ⟨(by refine Eq.trans (b:=AObj.row 1 ([]++b.map X6)) rfl ?_;simp),TV⟩) ?_
 intro i hi;have hrl:J ((b++replicate i 0).map X6)=J b+i:=by rw[LM,LA,length_replicate]
 by_cases hil:J b+i<64
 ·have hn:((J b+i:Nat):Int)<64:=by omega
  have hst:(b++replicate (i+1) 0).map X6=(b++replicate i 0).map X6++[[.v (.int .u8 0)]]:=by
   rw[replicate_succ',<-AS,map_append];rfl
  refine Yr ?_;refine⟨i+1,Oa,Oa,?_⟩;rw[hst];exact X9 rfl ⟨JL,ZzQ (by refine Eq.trans (b:=AVal.own 130 (J ((b++replicate i 0).map X6)+1)) rfl ?_;rw[hrl,Nat.add_assoc]),TV⟩ ⟨rfl,TV⟩
 have hn:¬((J b+i:Nat):Int)<64:=Oa
 rw[hE i Oa];refine XD ?_;exact X3 ⟨_,Xe 2 (y:= .own 130 64) (ZzQ (by refine Eq.trans (b:=AVal.own 130 (J b+i)) rfl ?_;rw[show J b+i=64 by omega])),⟨rfl,TV⟩,Xm ⟨rfl,TV⟩⟩
def XmB {b:List UInt8} (h1:0<J b) (h2:J b<=64):X54 b=YI b:=by
 unfold X54 YI;rw[show (64-J b%64)%64=64-J b by omega]
def XnN (a c:Int) (b:List UInt8) (h:∀x∈[a,c,(J b:Nat),(XP b:Nat)],0<=x/\x<=9223372036854775807):Con prog 83 [] [ai a,ai c,.d (Xc b)] [] (.d (Xc (Vj a c (J b:Nat) (XP b:Nat)))):=by
 refine ZC1 func83 ntmps83 fun E=> ?_;obtain⟨s1,s2⟩:=XiO h;have hu:=XeN fun x hx=>(h x hx).2;have hf:=XnD (X0n [a,c,(J b:Nat),(XP b:Nat)]) (by simp only[LC,length_nil] at hu;omega);have hF:=Xdp a c (J b:Nat) (XP b:Nat) h;have h4:4<=J (VX a c (J b:Nat) (XP b:Nat)):=Xko _;have hp:Con prog 100 [] [.d (Xc (VX a c (J b:Nat) (XP b:Nat)))] [(132,.row 1 ((X54 (VX a c (J b:Nat) (XP b:Nat))).map X6))] (.own 132 64):=YU 130 132 (Xpd (VX a c (J b:Nat) (XP b:Nat)) Oa);rw[XmB Oa Oa] at hp;rw[show Yx (X0n [a,c,(J b:Nat),(XP b:Nat)])=VX a c (J b:Nat) (XP b:Nat) from rfl] at hf;have s4:J ((YI (VX a c (J b:Nat) (XP b:Nat))).map X6)=64:=by rw[LM];exact s1
 have s3:((YI (VX a c (J b:Nat) (XP b:Nat))).map X6).take 63++[[D.v (.int .u8 1)]]++((YI (VX a c (J b:Nat) (XP b:Nat))).map X6).drop (63+1)=(Vj a c (J b:Nat) (XP b:Nat)).map X6:=by
  rw[<-s2,map_set,set_eq_take_append_cons_drop,PI Oa,AS];rfl
 have u1:=X8j a (h a Oc).2;have u2:=X3m c (h c Oc).2;have u3:=X3m (J b:Nat) (h (J b:Nat) Oc).2;have u4:=X3m (XP b:Nat) (h (XP b:Nat) Oc).2;have t1:=X0g (n:=a) (h a Oc);have t2:=X0g (n:=c) (h c Oc);have t3:=X0g (n:=(J b:Nat)) (h (J b:Nat) Oc);have t4:=X0g (n:=(XP b:Nat)) (h (XP b:Nat) Oc);have aU:=Xd5 b;have iL:J (b.map X6)=J b:=LM ..;have hB:(X0n [a,c,(J b:Nat),(XP b:Nat)]).map X6=(Xq a).map X6++(Xq c).map X6++(Xq (J b:Nat)).map X6++(Xq (XP b:Nat)).map X6:=by simp[X0n]
 have bh:J ((Xq a).map X6)=J (Xq a):=LM ..;have l2:J ((Xq c).map X6)<=10:=by rw[LM];exact t2
 have l3:J ((Xq (J b:Nat)).map X6)<=10:=Jy
 have l4:J ((Xq (XP b:Nat)).map X6)<=10:=by rw[LM];exact t4
 unfold Xc at*;rw[<-s3];rw[hB] at hf;rw[<-bh] at u1 t1;rw[<-iL] at u3;clear s1 s2 s3 hF hu h h4 hB t2 t3 t4 bh;generalize (YI (VX a c (J b:Nat) (XP b:Nat))).map X6=P at*;generalize (VX a c (J b:Nat) (XP b:Nat)).map X6=F at*;rw[iL] at u3;generalize (Xq a).map X6=W1 at*;generalize (Xq c).map X6=W2 at*;generalize (Xq (J b:Nat)).map X6=W3 at*;generalize (Xq (XP b:Nat)).map X6=W4 at*;rw[<-iL] at u3;refine W7_ ?_;refine Z5 (ag:=u1) ?_;refine W6_ ?_;refine Z5 (ag:=u2) ?_;refine W8_ ?_;refine Z5 (ag:=u3) ?_;refine W8_ ?_;refine Z5 (ag:=u4) ?_;refine W4_ ?_;refine Qdc ?_;refine X8 (XX 7 130 rfl rfl Ou) ?_;have s5:64=J P:=s4.symm;refine W9_ ?_;refine Xke (hg:=JSa) (hx:=JSb) (hL:=JSb) (hi:=JSb) (hn:=JSe) (hlt:=JSh) (hT:=JSb) (hd:=JSb) ?_ (hk:=by exact(show(63:Int)=((63:Nat):Int) from rfl));refine W3_ ?_;refine X8 (XI 132 rfl) ?_;refine X8 (XX 8 132 rfl rfl (by simp only[LA,LT,LD,LC,length_nil];omega)) ?_;refine W4_ ?_
 (exact Zz2)
end Go.Fw

/- Changes put: the program's. -/
import Derived.Test.YtpbgjcbkhgfmkaaGreatDoorM12
set_option maxHeartbeats 32000000
namespace Go.Fw
open Go Go.Proofs Tryz List
set_option maxRecDepth 100000
set_option linter.unusedVariables false
set_option linter.unusedSimpArgs false
theorem Xbo {c:Chg} (h:YD c=0):(1<=c.op/\c.op<=8)/\(1<=c.id/\c.id<=1000000)/\(c.op=6->(1<=c.src/\c.src<=1000000)/\1<=c.dst/\c.dst<=1000000)/\(YS c.op=true->c.name.length<=20)/\
  (YL c.op=true->Xk 8 c.v=true/\(Yh c.v).length<=111):=by
 unfold YD at h;split at h
 ·omega
 rename_i h1;split at h
 ·omega
 rename_i h2;split at h
 ·omega
 rename_i h3;split at h
 ·omega
 rename_i h4;split at h
 ·omega
 rename_i h5;have i1:decide (1<=c.op/\c.op<=8)=true:=by
  cases hd:decide (1<=c.op/\c.op<=8) with
  |true=>rfl
  |false=>exact absurd (.inl hd) h1
 have i2:idV c.id=true:=by
  cases hd:idV c.id with
  |true=>rfl
  |false=>exact absurd (.inr hd) h1
 refine⟨of_decide_eq_true i1,of_decide_eq_true i2,fun h6=> ?_,fun hn=> ?_,fun hv=> ?_⟩
 ·have j1:idV c.src=true:=by
   cases hd:idV c.src with
   |true=>rfl
   |false=>exact absurd (.inl ⟨h6,.inl hd⟩) h2
  have j2:idV c.dst=true:=by
   cases hd:idV c.dst with
   |true=>rfl
   |false=>exact absurd (.inl ⟨h6,.inr hd⟩) h2
  exact⟨of_decide_eq_true j1,of_decide_eq_true j2⟩
 ·have j1:Y8 c.name=true:=by
   cases hd:Y8 c.name with
   |true=>rfl
   |false=>exact absurd ⟨hn,hd⟩ h4
  unfold Y8 at j1;simp at j1;omega
 ·have j1:Xk 8 c.v=true/\(c.v.kind=0\/c.v.kind=1\/c.v.kind=2\/c.v.kind=4):=by
   cases hz:V4 c.v with
   |true=>
    unfold V4 at hz;simp at hz;exact⟨hz.1,.inl hz.2⟩
   |false=>
    cases hp:Ui c.v with
    |true=>
     unfold Ui X8c at hp;simp at hp;exact⟨hp.2,.inr hp.1⟩
    |false=>exact absurd ⟨hv,hz,hp⟩ h5
  obtain⟨op,id,src,dst,name,⟨k,n,d,s,l⟩⟩:=c;simp only[Val.kind] at j1 |-;exact⟨j1.1,XrJ j1.1 (by omega) (by omega)⟩
def Xa8 (op:Int):Bool×Bool×Bool:=(decide (op=6),decide (op≠1/\op≠2/\op≠7),decide (op≠1/\op≠2/\op≠7/\op≠3/\op≠4/\op≠6))
theorem Xjd (op:Int):Con prog 288 [] [ai op] [] (.tup [ab (Xa8 op).1,ab (Xa8 op).2.1,ab (Xa8 op).2.2]):=by
 refine ZCt func288 ntmps288 fun E=> ?_;by_cases k1:op=1
 ·subst k1;refine U1 ?_;exact Qga
 by_cases k2:op=2
 ·subst k2;refine UD ?_;exact Qga
 by_cases k7:op=7
 ·subst k7;refine X07 ?_;exact Qga
 by_cases k3:op=3
 ·subst k3;refine Qp ?_;exact Qga
 by_cases k4:op=4
 ·subst k4;refine X7 ?_;refine W8_ ?_;exact Qga
 by_cases k6:op=6
 ·subst k6;refine X7 ?_;refine XG ?_;exact Qga
 rw[show Xa8 op=(false,true,true) by unfold Xa8;rw[DF (by omega),DT (by omega),DT (by omega)]];refine X7 ?_;refine Yx ?_;exact Qga
theorem XtX (c:Chg) (h:YD c=0):Con prog 240 [] [Xz c] [(130,.row 1 ((U2 c).map X5))] (.own 130 ((U2 c).map X5).length):=by
 obtain⟨⟨bT,bU⟩,hid,dw,hnm,hvl⟩:=Xbo h;obtain⟨op,id,src,dst,name,v⟩:=c;simp only at bT bU hid dw hnm hvl;have dH:=X30 id (by omega);have jK:(Xl id).length<=10:=by rw[X2k (by omega)];exact X1Y (by omega)
 have hf:=Xjd op;clear h;by_cases k1:op=1
 ·subst k1;clear bT bU;have hput:U2 ⟨1,id,src,dst,name,v⟩=UInt8.ofNat 1::(Xl id):=by unfold U2;simp[YS,YL]
  rw[hput];clear hput;generalize Xl id=w0 at*;obtain⟨vk,vn,vd,vs,vl⟩:=v;simp only[Xz,XC] at*;refine ZC1 func240 ntmps240 fun E=> ?_;refine Yw ?_;refine Z0 (u:=nj 1) (r:=n8 1) ?_ (hr:=by exact Uf rfl rfl);refine QLa ?_;refine YT ?_;refine X2 ⟨_,Xe 2 (y:= .own 130 ((UInt8.ofNat 1::(w0)).map X5).length) (AVal.le_of_eq ?_),⟨rfl,TV⟩,Xj ⟨?_,TV⟩⟩
  ·refine Qa ?_;congr 1;simp only[LA,LM,LC,length_nil]<;>omega
  ·refine Qpa ?_;simp only[map_append,map_cons,map_nil,AS,cons_append,nil_append]<;>rfl
 by_cases k2:op=2
 ·subst k2;clear bT bU;have hput:U2 ⟨2,id,src,dst,name,v⟩=UInt8.ofNat 2::(Xl id):=by unfold U2;simp[YS,YL]
  rw[hput];clear hput;generalize Xl id=w0 at*;obtain⟨vk,vn,vd,vs,vl⟩:=v;simp only[Xz,XC] at*;refine ZC1 func240 ntmps240 fun E=> ?_;refine Yw ?_;refine Z0 (u:=nj 2) (r:=n8 2) ?_ (hr:=by exact Uf rfl rfl);refine QLa ?_;refine YT ?_;refine X2 ⟨_,Xe 2 (y:= .own 130 ((UInt8.ofNat 2::(w0)).map X5).length) (AVal.le_of_eq ?_),⟨rfl,TV⟩,Xj ⟨?_,TV⟩⟩
  ·refine Qa ?_;congr 1;simp only[LA,LM,LC,length_nil]<;>omega
  ·refine Qpa ?_;simp only[map_append,map_cons,map_nil,AS,cons_append,nil_append]<;>rfl
 by_cases k3:op=3
 ·subst k3;clear bT bU;have hnm:=hnm rfl;have cE:=X76 name (by omega);have cz:(Ym name).length<=30:=by
   have:=X6P (n:=name.length) (by omega);unfold Ym;rw[LA];omega
  have hput:U2 ⟨3,id,src,dst,name,v⟩=UInt8.ofNat 3::(Xl id++Ym name):=by unfold U2;simp[YS,YL]
  rw[hput];clear hput;generalize Xl id=w0 at*;generalize Ym name=w1 at*;obtain⟨vk,vn,vd,vs,vl⟩:=v;simp only[Xz,XC] at*;refine ZC1 func240 ntmps240 fun E=> ?_;refine Yw ?_;refine Z0 (u:=nj 3) (r:=n8 3) ?_ (hr:=by exact Uf rfl rfl);refine QLa ?_;refine X07 ?_;refine X2 ⟨_,Xe 2 (y:= .own 130 ((UInt8.ofNat 3::(w0++w1)).map X5).length) (AVal.le_of_eq ?_),⟨rfl,TV⟩,Xj ⟨?_,TV⟩⟩
  ·refine Qa ?_;congr 1;simp only[LA,LM,LC,length_nil]<;>omega
  ·refine Qpa ?_;simp only[map_append,map_cons,map_nil,AS,cons_append,nil_append]<;>rfl
 by_cases k4:op=4
 ·subst k4;clear bT bU;have hnm:=hnm rfl;have cE:=X76 name (by omega);have cz:(Ym name).length<=30:=by
   have:=X6P (n:=name.length) (by omega);unfold Ym;rw[LA];omega
  have hput:U2 ⟨4,id,src,dst,name,v⟩=UInt8.ofNat 4::(Xl id++Ym name):=by unfold U2;simp[YS,YL]
  rw[hput];clear hput;generalize Xl id=w0 at*;generalize Ym name=w1 at*;obtain⟨vk,vn,vd,vs,vl⟩:=v;simp only[Xz,XC] at*;refine ZC1 func240 ntmps240 fun E=> ?_;refine Yw ?_;refine Qsa ?_;refine QLa ?_;refine X07 ?_;refine X2 ⟨_,Xe 2 (y:= .own 130 ((UInt8.ofNat 4::(w0++w1)).map X5).length) (AVal.le_of_eq ?_),⟨rfl,TV⟩,Xj ⟨?_,TV⟩⟩
  ·refine Qa ?_;congr 1;simp only[LA,LM,LC,length_nil]<;>omega
  ·refine Qpa ?_;simp only[map_append,map_cons,map_nil,AS,cons_append,nil_append]<;>rfl
 by_cases k5:op=5
 ·subst k5;clear bT bU;have hnm:=hnm rfl;have cE:=X76 name (by omega);have cz:(Ym name).length<=30:=by
   have:=X6P (n:=name.length) (by omega);unfold Ym;rw[LA];omega
  have hvl:=hvl rfl;have aD:=XhA v (by omega);have hlv:(UB v).length<=111:=by
   unfold UB;rw[PI hvl.1];exact hvl.2
  have hput:U2 ⟨5,id,src,dst,name,v⟩=UInt8.ofNat 5::(Xl id++Ym name++UB v):=by unfold U2;simp[YS,YL]
  rw[hput];clear hput;generalize Xl id=w0 at*;generalize Ym name=w1 at*;generalize UB v=w2 at*;obtain⟨vk,vn,vd,vs,vl⟩:=v;simp only[Xz,XC] at*;refine ZC1 func240 ntmps240 fun E=> ?_;refine Yw ?_;refine Qta ?_;refine QLa ?_;refine QMa ?_;refine X2 ⟨_,Xe 2 (y:= .own 130 ((UInt8.ofNat 5::(w0++w1++w2)).map X5).length) (AVal.le_of_eq ?_),⟨rfl,TV⟩,Xj ⟨?_,TV⟩⟩
  ·refine Qa ?_;congr 1;simp only[LA,LM,LC,length_nil]<;>omega
  ·refine Qpa ?_;simp only[map_append,map_cons,map_nil,AS,cons_append,nil_append]<;>rfl
 by_cases k6:op=6
 ·subst k6;clear bT bU;have dw:=dw rfl;have hps:=X30 src (by omega);have jZ:=X30 dst (by omega);have hls:(Xl src).length<=10:=by rw[X2k (by omega)];exact X1Y (by omega)
  have sV:(Xl dst).length<=10:=by rw[X2k (by omega)];exact X1Y (by omega)
  have hnm:=hnm rfl;have cE:=X76 name (by omega);have cz:(Ym name).length<=30:=by
   have:=X6P (n:=name.length) (by omega);unfold Ym;rw[LA];omega
  have hput:U2 ⟨6,id,src,dst,name,v⟩=UInt8.ofNat 6::(Xl id++Xl src++Xl dst++Ym name):=by unfold U2;simp[YS,YL]
  rw[hput];clear hput;generalize Xl id=w0 at*;generalize Xl src=w1 at*;generalize Xl dst=w2 at*;generalize Ym name=w3 at*;obtain⟨vk,vn,vd,vs,vl⟩:=v;simp only[Xz,XC] at*;refine ZC1 func240 ntmps240 fun E=> ?_;refine Yw ?_;refine Qua ?_;refine QLa ?_;refine XG ?_;refine Z3 (af:=hps) ?_;refine W7_ ?_;refine Z3 (af:=jZ) ?_;refine YT ?_;refine X2 ⟨_,Xe 2 (y:= .own 130 ((UInt8.ofNat 6::(w0++w1++w2++w3)).map X5).length) (AVal.le_of_eq ?_),⟨rfl,TV⟩,Xj ⟨?_,TV⟩⟩
  ·refine Qa ?_;congr 1;simp only[LA,LM,LC,length_nil]<;>omega
  ·refine Qpa ?_;simp only[map_append,map_cons,map_nil,AS,cons_append,nil_append]<;>rfl
 by_cases k7:op=7
 ·subst k7;clear bT bU;have hput:U2 ⟨7,id,src,dst,name,v⟩=UInt8.ofNat 7::(Xl id):=by unfold U2;simp[YS,YL]
  rw[hput];clear hput;generalize Xl id=w0 at*;obtain⟨vk,vn,vd,vs,vl⟩:=v;simp only[Xz,XC] at*;refine ZC1 func240 ntmps240 fun E=> ?_;refine Yw ?_;refine Qva ?_;refine QLa ?_;refine YT ?_;refine X2 ⟨_,Xe 2 (y:= .own 130 ((UInt8.ofNat 7::(w0)).map X5).length) (AVal.le_of_eq ?_),⟨rfl,TV⟩,Xj ⟨?_,TV⟩⟩
  ·refine Qa ?_;congr 1;simp only[LA,LM,LC,length_nil]<;>omega
  ·refine Qpa ?_;simp only[map_append,map_cons,map_nil,AS,cons_append,nil_append]<;>rfl
 by_cases k8:op=8
 ·subst k8;clear bT bU;have hnm:=hnm rfl;have cE:=X76 name (by omega);have cz:(Ym name).length<=30:=by
   have:=X6P (n:=name.length) (by omega);unfold Ym;rw[LA];omega
  have hvl:=hvl rfl;have aD:=XhA v (by omega);have hlv:(UB v).length<=111:=by
   unfold UB;rw[PI hvl.1];exact hvl.2
  have hput:U2 ⟨8,id,src,dst,name,v⟩=UInt8.ofNat 8::(Xl id++Ym name++UB v):=by unfold U2;simp[YS,YL]
  rw[hput];clear hput;generalize Xl id=w0 at*;generalize Ym name=w1 at*;generalize UB v=w2 at*;obtain⟨vk,vn,vd,vs,vl⟩:=v;simp only[Xz,XC] at*;refine ZC1 func240 ntmps240 fun E=> ?_;refine Yw ?_;refine Qwa ?_;refine QLa ?_;refine QMa ?_;refine X2 ⟨_,Xe 2 (y:= .own 130 ((UInt8.ofNat 8::(w0++w1++w2)).map X5).length) (AVal.le_of_eq ?_),⟨rfl,TV⟩,Xj ⟨?_,TV⟩⟩
  ·refine Qa ?_;congr 1;simp only[LA,LM,LC,length_nil]<;>omega
  ·refine Qpa ?_;simp only[map_append,map_cons,map_nil,AS,cons_append,nil_append]<;>rfl
 omega
theorem XnI (c:Chg) (h:YD c=0):Con prog 240 [] [Xz c] [] (.d (Xg (U2 c))):=(XtX c h).data (by simp)
def X33 (k n:Int):Bool:=if k=3\/k=5 then decide (n=1\/n=2\/n=4) else if k=7 then decide (0<=n/\n<=4000) else decide (n=0)
def k9 (k:Int) (nb:Bool) (key src dst:List UInt8) (vn vk vs vd:Bool):Int:=
 if decide (1<=k/\k<=7)=false\/nb=false then 1
 else if (X24 k=false/\key≠[])\/(k≠6/\(src≠[]\/dst≠[])) then 1
 else if vn=false\/(X24 k=true/\vk=false)\/(src≠[]/\vs=false)\/(dst≠[]/\vd=false) then 6 else 0
theorem Xgg (r:Rul):Uk r=k9 r.kind (X33 r.kind r.n) r.key r.src r.dst (Y8 r.name) (Y8 r.key) (Y8 r.src) (Y8 r.dst):=rfl
abbrev X4Z (k n:Int) (name key src dst:List UInt8):AVal:= .agg [ai k,ai n,.d (.v (.string (X6 name))),.d (.v (.string (X6 key))),.d (.v (.string (X6 src))),.d (.v (.string (X6 dst)))]
def Yu (r:Rul):AVal:=X4Z r.kind r.n r.name r.key r.src r.dst
def ktS (n:Int):List UInt8:=if n=1 then [98,111,111,108] else if n=2 then [105,110,116] else if n=4 then [115,116,114] else []
theorem XvO (n:Int):Con prog 170 [] [ai n] [] (.d (.v (.string (X6 (ktS n))))):=by
 refine ZC1 func170 ntmps170 fun E=> ?_;by_cases h1:n=1
 ·subst h1;exact QM
 by_cases h2:n=2
 ·subst h2;exact Qk
 by_cases h4:n=4
 ·subst h4;refine UV ?_;exact Zr0
 rw[show ktS n=[] by simp[ktS,h1,h2,h4]];refine UD ?_;exact Zr0
def X0T (ky nu en ok:Bool) (n:Int) (key src dst:List UInt8):Bool:= !ok||(!ky&&decide (key≠[]))||(!nu&&decide (n≠0))||(!en&&(decide (src≠[])||decide (dst≠[])))
def YQ (a ky nu:Bool) (k n:Int) (kt src dst:List UInt8) (vn vk vs vd:Bool):Int:=
 if a=true then 1 else if k=7/\(n<0\/4000<n) then 1 else if ky=true/\nu=true/\kt=[] then 1
 else if vn=false\/(ky=true/\vk=false) then 6 else if (src≠[]/\vs=false)\/(dst≠[]/\vd=false) then 6 else 0
theorem Xpj (k n:Int) (key src dst:List UInt8) (vn vk vs vd:Bool):k9 k (X33 k n) key src dst vn vk vs vd=
  YQ (X0T (X2x k).1 (X2x k).2.1 (X2x k).2.2.1 (X2x k).2.2.2 n key src dst) (X2x k).1 (X2x k).2.1 k n (ktS n) src dst vn vk vs vd:=by
 by_cases hk:1<=k/\k<=7
 ·have h7:k=1\/k=2\/k=3\/k=4\/k=5\/k=6\/k=7:=by omega
  have hn:n=0\/n=1\/n=2\/n=4\/(n≠0/\n≠1/\n≠2/\n≠4):=by omega
  rcases h7 with rfl|rfl|rfl|rfl|rfl|rfl|rfl
  all_goals
   unfold k9 YQ X0T X2x X33 X24;by_cases h1:key=[]<;>by_cases h2:src=[]<;>by_cases h3:dst=[]
   all_goals rcases hn with rfl|rfl|rfl|rfl|⟨n0,n1,n2,n4⟩
   all_goals first
    |(simp[ktS, *];done)
    |(by_cases m1:n<0<;>by_cases m2:4000<n<;>simp[ktS, *]<;>omega)
    |(cases vn<;>cases vk<;>cases vs<;>cases vd<;>simp[ktS, *])
 ·unfold k9 YQ X0T X2x;simp[hk]
theorem X7u (r:Rul):Con prog 112 [] [Yu r] [] (ai (Uk r)):=by
 rw[Xgg,Xpj];obtain⟨k,n,name,key,src,dst⟩:=r;simp only[Yu];have hn:=X6I name;have hk:=X6I key;have hs:=X6I src;have hd:=X6I dst;have ht:=XvO n;have hf:=Xvx k;generalize Y8 name=vn at*;generalize Y8 key=vk at*;generalize Y8 src=vs at*;generalize Y8 dst=vd at*;generalize ktS n=kt at*;generalize X2x k=u at*;obtain⟨ky,nu,en,ok⟩:=u;simp only at hf;show Con _ _ _ _ _ (ai (YQ (X0T ky nu en ok n key src dst) ky nu k n kt src dst vn vk vs vd));generalize ha:X0T ky nu en ok n key src dst=a;refine ZC1 func112 ntmps112 fun E=> ?_;refine Yf ?_;refine XfC ?_;refine X8n ?_;refine X6x ⟨102,[(1,.ptr 100 0),(3,.ptr 101 0),(11,ab a)],[(100,.box [ai k,ai n,.d (.v (.string (X6 name))),.d (.v (.string (X6 key))),.d (.v (.string (X6 src))),.d (.v (.string (X6 dst)))]),(101,.box [ab ky,ab nu,ab en])]⟩ ?_ ?_
 ·refine W6_ ?_;refine YJ rfl (fun hq=> ?_) (fun hq=> ?_);refine W1_ ?_;((clear hf ht hn hk hs hd;refine Xb rfl ⟨AVal.le_refl _,AVal.le_refl _,AVal.le_of_eq (CG ab (by subst ha;simp[X0T, *])),TV⟩ ⟨rfl,rfl,TV⟩));refine W6_ ?_;refine Ut rfl rfl (fun hq=> ?_) (fun hq=> ?_);refine XQ ?_;refine Ut rfl rfl (fun hq=> ?_) (fun hq=> ?_);refine XR ?_;refine Ut rfl rfl (fun hq=> ?_) (fun hq=> ?_);refine QH ?_;refine W4_ ?_;((clear hf ht hn hk hs hd;refine Xb rfl ⟨AVal.le_refl _,AVal.le_refl _,AVal.le_of_eq (CG ab (by subst ha;simp[X0T, *])),TV⟩ ⟨rfl,rfl,TV⟩));refine W4_ ?_;refine Yb rfl rfl (fun hq=> ?_) (fun hq=> ?_);refine W7_ ?_;((clear hf ht hn hk hs hd;refine Xb rfl ⟨AVal.le_refl _,AVal.le_refl _,AVal.le_of_eq (CG ab (by subst ha;simp[X0T, *])),TV⟩ ⟨rfl,rfl,TV⟩));refine W7_ ?_;((clear hf ht hn hk hs hd;refine Xb rfl ⟨AVal.le_refl _,AVal.le_refl _,AVal.le_of_eq (CG ab (by subst ha;simp[X0T, *])),TV⟩ ⟨rfl,rfl,TV⟩));refine W6_ ?_;refine Vt rfl (fun hq=> ?_) (fun hq=> ?_);refine W1_ ?_;((clear hf ht hn hk hs hd;refine Xb rfl ⟨AVal.le_refl _,AVal.le_refl _,AVal.le_of_eq (CG ab (by subst ha;simp[X0T, *])),TV⟩ ⟨rfl,rfl,TV⟩));refine W5_ ?_;refine Ut rfl rfl (fun hq=> ?_) (fun hq=> ?_);refine QH ?_;refine W4_ ?_;((clear hf ht hn hk hs hd;refine Xb rfl ⟨AVal.le_refl _,AVal.le_refl _,AVal.le_of_eq (CG ab (by subst ha;simp[X0T, *])),TV⟩ ⟨rfl,rfl,TV⟩));refine W4_ ?_;refine Yb rfl rfl (fun hq=> ?_) (fun hq=> ?_);refine W7_ ?_;((clear hf ht hn hk hs hd;refine Xb rfl ⟨AVal.le_refl _,AVal.le_refl _,AVal.le_of_eq (CG ab (by subst ha;simp[X0T, *])),TV⟩ ⟨rfl,rfl,TV⟩));refine W7_ ?_;((clear hf ht hn hk hs hd;refine Xb rfl ⟨AVal.le_refl _,AVal.le_refl _,AVal.le_of_eq (CG ab (by subst ha;simp[X0T, *])),TV⟩ ⟨rfl,rfl,TV⟩));refine W6_ ?_;refine Vt rfl (fun hq=> ?_) (fun hq=> ?_);refine W1_ ?_;((clear hf ht hn hk hs hd;refine Xb rfl ⟨AVal.le_refl _,AVal.le_refl _,AVal.le_of_eq (CG ab (by subst ha;simp[X0T, *])),TV⟩ ⟨rfl,rfl,TV⟩));refine W6_ ?_;refine Ut rfl rfl (fun hq=> ?_) (fun hq=> ?_);refine XR ?_;refine Ut rfl rfl (fun hq=> ?_) (fun hq=> ?_);refine QH ?_;refine W4_ ?_;((clear hf ht hn hk hs hd;refine Xb rfl ⟨AVal.le_refl _,AVal.le_refl _,AVal.le_of_eq (CG ab (by subst ha;simp[X0T, *])),TV⟩ ⟨rfl,rfl,TV⟩));refine W4_ ?_;refine Yb rfl rfl (fun hq=> ?_) (fun hq=> ?_);refine W7_ ?_;((clear hf ht hn hk hs hd;refine Xb rfl ⟨AVal.le_refl _,AVal.le_refl _,AVal.le_of_eq (CG ab (by subst ha;simp[X0T, *])),TV⟩ ⟨rfl,rfl,TV⟩));refine W7_ ?_;((clear hf ht hn hk hs hd;refine Xb rfl ⟨AVal.le_refl _,AVal.le_refl _,AVal.le_of_eq (CG ab (by subst ha;simp[X0T, *])),TV⟩ ⟨rfl,rfl,TV⟩));refine W6_ ?_
  refine Vt rfl (fun hq=> ?_) (fun hq=> ?_);refine W1_ ?_;((clear hf ht hn hk hs hd;refine Xb rfl ⟨AVal.le_refl _,AVal.le_refl _,AVal.le_of_eq (CG ab (by subst ha;simp[X0T, *])),TV⟩ ⟨rfl,rfl,TV⟩));refine W5_ ?_;refine Ut rfl rfl (fun hq=> ?_) (fun hq=> ?_);refine QH ?_;refine W4_ ?_;((clear hf ht hn hk hs hd;refine Xb rfl ⟨AVal.le_refl _,AVal.le_refl _,AVal.le_of_eq (CG ab (by subst ha;simp[X0T, *])),TV⟩ ⟨rfl,rfl,TV⟩));refine W4_ ?_;refine Yb rfl rfl (fun hq=> ?_) (fun hq=> ?_);refine W7_ ?_;((clear hf ht hn hk hs hd;refine Xb rfl ⟨AVal.le_refl _,AVal.le_refl _,AVal.le_of_eq (CG ab (by subst ha;simp[X0T, *])),TV⟩ ⟨rfl,rfl,TV⟩));refine W7_ ?_
  ((clear hf ht hn hk hs hd;refine Xb rfl ⟨AVal.le_refl _,AVal.le_refl _,AVal.le_of_eq (CG ab (by subst ha;simp[X0T, *])),TV⟩ ⟨rfl,rfl,TV⟩))
 clear ha hf;obtain⟨r,hr⟩:∃r,r=YQ a ky nu k n kt src dst vn vk vs vd:=⟨_,rfl⟩
 rw[<-hr];refine X20 rfl (fun hq=> ?_) (fun hq=> ?_);refine W4_ ?_;(clear ht hn hk hs hd;simp[YQ, *] at hr;subst hr;exact Zr0);refine W6_ ?_;refine Yb rfl rfl (fun hq=> ?_) (fun hq=> ?_);refine W4_ ?_;refine Yb rfl rfl (fun hq=> ?_) (fun hq=> ?_);refine XR ?_;(clear ht hn hk hs hd;simp[YQ, *] at hr;subst hr;exact Zr0);refine W7_ ?_;refine Vt rfl (fun hq=> ?_) (fun hq=> ?_);refine W4_ ?_;(clear ht hn hk hs hd;simp[YQ, *] at hr;subst hr;exact Zr0);refine W5_ ?_;refine X59 rfl rfl (fun hq=> ?_) (fun hq=> ?_);refine W4_ ?_;refine X59 rfl rfl (fun hq=> ?_) (fun hq=> ?_);refine W7_ ?_;refine Vt rfl (fun hq=> ?_) (fun hq=> ?_);refine W4_ ?_;(clear ht hn hk hs hd;simp[YQ, *] at hr;subst hr;exact Zr0);refine W5_ ?_;refine QNa ?_;refine YJ rfl (fun hq=> ?_) (fun hq=> ?_);refine W6_ ?_;(clear ht hn hk hs hd;simp[YQ, *] at hr;subst hr;exact Zr0);refine QOa ?_;refine YJ rfl (fun hq=> ?_) (fun hq=> ?_);refine W4_ ?_;(clear ht hn hk hs hd;simp[YQ, *] at hr;subst hr;exact Zr0);refine W7_ ?_;refine Yb rfl rfl (fun hq=> ?_) (fun hq=> ?_);refine QPa ?_;refine YJ rfl (fun hq=> ?_) (fun hq=> ?_);refine W6_ ?_;(clear ht hn hk hs hd;simp[YQ, *] at hr;subst hr;exact Zr0);refine W5_ ?_;refine Yb rfl rfl (fun hq=> ?_) (fun hq=> ?_);refine QHa ?_;refine YJ rfl (fun hq=> ?_) (fun hq=> ?_);refine W4_ ?_;(clear ht hn hk hs hd;simp[YQ, *] at hr;subst hr;exact Zr0);refine W5_ ?_;(clear ht hn hk hs hd;simp[YQ, *] at hr;subst hr;exact Zr0);refine XQ ?_;(clear ht hn hk hs hd;simp[YQ, *] at hr;subst hr;exact Zr0);refine XQ ?_;refine Yb rfl rfl (fun hq=> ?_) (fun hq=> ?_);refine QHa ?_;refine YJ rfl (fun hq=> ?_) (fun hq=> ?_);refine W4_ ?_;(clear ht hn hk hs hd;simp[YQ, *] at hr;subst hr;exact Zr0);refine W5_ ?_;(clear ht hn hk hs hd;simp[YQ, *] at hr;subst hr;exact Zr0);refine XQ ?_;(clear ht hn hk hs hd;simp[YQ, *] at hr;subst hr;exact Zr0);refine XQ ?_;refine QNa ?_;refine YJ rfl (fun hq=> ?_) (fun hq=> ?_);refine W6_ ?_;(clear ht hn hk hs hd;simp[YQ, *] at hr;subst hr;exact Zr0);refine QOa ?_;refine YJ rfl (fun hq=> ?_) (fun hq=> ?_);refine W4_ ?_;(clear ht hn hk hs hd;simp[YQ, *] at hr;subst hr;exact Zr0);refine W7_ ?_;refine Yb rfl rfl (fun hq=> ?_) (fun hq=> ?_);refine QPa ?_;refine YJ rfl (fun hq=> ?_) (fun hq=> ?_);refine W6_ ?_;(clear ht hn hk hs hd;simp[YQ, *] at hr;subst hr;exact Zr0);refine W5_ ?_;refine Yb rfl rfl (fun hq=> ?_) (fun hq=> ?_);refine QHa ?_;refine YJ rfl (fun hq=> ?_) (fun hq=> ?_);refine W4_ ?_;(clear ht hn hk hs hd;simp[YQ, *] at hr;subst hr;exact Zr0);refine W5_ ?_;(clear ht hn hk hs hd;simp[YQ, *] at hr;subst hr;exact Zr0);refine XQ ?_;(clear ht hn hk hs hd;simp[YQ, *] at hr;subst hr;exact Zr0);refine XQ ?_;refine Yb rfl rfl (fun hq=> ?_) (fun hq=> ?_);refine QHa ?_;refine YJ rfl (fun hq=> ?_) (fun hq=> ?_);refine W4_ ?_
 (clear ht hn hk hs hd;simp[YQ, *] at hr;subst hr;exact Zr0);refine W5_ ?_;(clear ht hn hk hs hd;simp[YQ, *] at hr;subst hr;exact Zr0);refine XQ ?_;(clear ht hn hk hs hd;simp[YQ, *] at hr;subst hr;exact Zr0);refine Yv ?_;refine QNa ?_;refine YJ rfl (fun hq=> ?_) (fun hq=> ?_);refine W6_ ?_;(clear ht hn hk hs hd;simp[YQ, *] at hr;subst hr;exact Zr0);refine YR ?_;refine Yb rfl rfl (fun hq=> ?_) (fun hq=> ?_);refine QPa ?_;refine YJ rfl (fun hq=> ?_) (fun hq=> ?_);refine W6_ ?_;(clear ht hn hk hs hd;simp[YQ, *] at hr;subst hr;exact Zr0);refine W5_ ?_;refine Yb rfl rfl (fun hq=> ?_) (fun hq=> ?_);refine QHa ?_;refine YJ rfl (fun hq=> ?_) (fun hq=> ?_);refine W4_ ?_;(clear ht hn hk hs hd;simp[YQ, *] at hr;subst hr;exact Zr0);refine W5_ ?_;(clear ht hn hk hs hd;simp[YQ, *] at hr;subst hr;exact Zr0);refine XQ ?_;(clear ht hn hk hs hd;simp[YQ, *] at hr;subst hr;exact Zr0);refine XQ ?_;refine Yb rfl rfl (fun hq=> ?_) (fun hq=> ?_);refine QHa ?_;refine YJ rfl (fun hq=> ?_) (fun hq=> ?_);refine W4_ ?_;(clear ht hn hk hs hd;simp[YQ, *] at hr;subst hr;exact Zr0);refine W5_ ?_;(clear ht hn hk hs hd;simp[YQ, *] at hr;subst hr;exact Zr0);refine XQ ?_;(clear ht hn hk hs hd;simp[YQ, *] at hr;subst hr;exact Zr0);refine QH ?_;refine XA ?_;refine X59 rfl rfl (fun hq=> ?_) (fun hq=> ?_);refine W4_ ?_;refine X59 rfl rfl (fun hq=> ?_) (fun hq=> ?_);refine W7_ ?_;refine Vt rfl (fun hq=> ?_) (fun hq=> ?_);refine W4_ ?_;(clear ht hn hk hs hd;simp[YQ, *] at hr;subst hr;exact Zr0);refine W5_ ?_;refine QNa ?_;refine YJ rfl (fun hq=> ?_) (fun hq=> ?_);refine W6_ ?_;(clear ht hn hk hs hd;simp[YQ, *] at hr;subst hr;exact Zr0);refine QOa ?_;refine YJ rfl (fun hq=> ?_) (fun hq=> ?_);refine W4_ ?_;(clear ht hn hk hs hd;simp[YQ, *] at hr;subst hr;exact Zr0);refine W7_ ?_;refine Yb rfl rfl (fun hq=> ?_) (fun hq=> ?_);refine QPa ?_;refine YJ rfl (fun hq=> ?_) (fun hq=> ?_);refine W6_ ?_;(clear ht hn hk hs hd;simp[YQ, *] at hr;subst hr;exact Zr0);refine W5_ ?_;refine Yb rfl rfl (fun hq=> ?_) (fun hq=> ?_);refine QHa ?_;refine YJ rfl (fun hq=> ?_) (fun hq=> ?_);refine W4_ ?_;(clear ht hn hk hs hd;simp[YQ, *] at hr;subst hr;exact Zr0);refine W5_ ?_;(clear ht hn hk hs hd;simp[YQ, *] at hr;subst hr;exact Zr0);refine XQ ?_;(clear ht hn hk hs hd;simp[YQ, *] at hr;subst hr;exact Zr0);refine XQ ?_;refine Yb rfl rfl (fun hq=> ?_) (fun hq=> ?_);refine QHa ?_;refine YJ rfl (fun hq=> ?_) (fun hq=> ?_);refine W4_ ?_;(clear ht hn hk hs hd;simp[YQ, *] at hr;subst hr;exact Zr0);refine W5_ ?_;(clear ht hn hk hs hd;simp[YQ, *] at hr;subst hr;exact Zr0);refine XQ ?_;(clear ht hn hk hs hd;simp[YQ, *] at hr;subst hr;exact Zr0);refine XQ ?_;refine QNa ?_;refine YJ rfl (fun hq=> ?_) (fun hq=> ?_);refine W6_ ?_;(clear ht hn hk hs hd;simp[YQ, *] at hr;subst hr;exact Zr0);refine QOa ?_
 refine YJ rfl (fun hq=> ?_) (fun hq=> ?_);refine W4_ ?_;(clear ht hn hk hs hd;simp[YQ, *] at hr;subst hr;exact Zr0);refine W7_ ?_;refine Yb rfl rfl (fun hq=> ?_) (fun hq=> ?_);refine QPa ?_;refine YJ rfl (fun hq=> ?_) (fun hq=> ?_);refine W6_ ?_;(clear ht hn hk hs hd;simp[YQ, *] at hr;subst hr;exact Zr0);refine W5_ ?_;refine Yb rfl rfl (fun hq=> ?_) (fun hq=> ?_);refine QHa ?_;refine YJ rfl (fun hq=> ?_) (fun hq=> ?_);refine W4_ ?_;(clear ht hn hk hs hd;simp[YQ, *] at hr;subst hr;exact Zr0);refine W5_ ?_;(clear ht hn hk hs hd;simp[YQ, *] at hr;subst hr;exact Zr0);refine XQ ?_;(clear ht hn hk hs hd;simp[YQ, *] at hr;subst hr;exact Zr0);refine XQ ?_;refine Yb rfl rfl (fun hq=> ?_) (fun hq=> ?_);refine QHa ?_;refine YJ rfl (fun hq=> ?_) (fun hq=> ?_);refine W4_ ?_;(clear ht hn hk hs hd;simp[YQ, *] at hr;subst hr;exact Zr0);refine W5_ ?_;(clear ht hn hk hs hd;simp[YQ, *] at hr;subst hr;exact Zr0);refine XQ ?_;(clear ht hn hk hs hd;simp[YQ, *] at hr;subst hr;exact Zr0);refine Yv ?_;refine QNa ?_;refine YJ rfl (fun hq=> ?_) (fun hq=> ?_);refine W6_ ?_;(clear ht hn hk hs hd;simp[YQ, *] at hr;subst hr;exact Zr0);refine YR ?_;refine Yb rfl rfl (fun hq=> ?_) (fun hq=> ?_);refine QPa ?_;refine YJ rfl (fun hq=> ?_) (fun hq=> ?_);refine W6_ ?_;(clear ht hn hk hs hd;simp[YQ, *] at hr;subst hr;exact Zr0);refine W5_ ?_;refine Yb rfl rfl (fun hq=> ?_) (fun hq=> ?_);refine QHa ?_;refine YJ rfl (fun hq=> ?_) (fun hq=> ?_);refine W4_ ?_;(clear ht hn hk hs hd;simp[YQ, *] at hr;subst hr;exact Zr0);refine W5_ ?_;(clear ht hn hk hs hd;simp[YQ, *] at hr;subst hr;exact Zr0);refine XQ ?_;(clear ht hn hk hs hd;simp[YQ, *] at hr;subst hr;exact Zr0);refine XQ ?_;refine Yb rfl rfl (fun hq=> ?_) (fun hq=> ?_);refine QHa ?_;refine YJ rfl (fun hq=> ?_) (fun hq=> ?_);refine W4_ ?_;(clear ht hn hk hs hd;simp[YQ, *] at hr;subst hr;exact Zr0);refine W5_ ?_;(clear ht hn hk hs hd;simp[YQ, *] at hr;subst hr;exact Zr0);refine XQ ?_
 (clear ht hn hk hs hd;simp[YQ, *] at hr;subst hr;exact Zr0)
theorem XwU (c:Chg):Con prog 165 [] [Xz c] [] (.d (Xg (VT c))):=by
 refine ZC1 func165 ntmps165 fun E=> ?_;have hc:=X6k c;unfold VT;by_cases h:YD c=0
 ·have hp:=XnI c h;rw[h] at hc;rw[PI h];generalize U2 c=w at*;obtain⟨op,id,src,dst,name,⟨k,n,d,s,l⟩⟩:=c;simp only[Xz] at*;exact QM
 ·rw[NI h];generalize YD c=e at*;obtain⟨op,id,src,dst,name,⟨k,n,d,s,l⟩⟩:=c;simp only[Xz] at*;exact Qxa
abbrev cS (s:List UInt8):List D:=[.v (.string (X6 s))]
def X3l (l:List (List UInt8)):List UInt8:=(l.map Ym).flatten
theorem Xrl {l:List (List UInt8)}{i:Nat}{x:List UInt8} (h:l[i]? =some x):X3l (l.take (i+1))=X3l (l.take i)++Ym x:=by
 unfold X3l;rw[take_add_one,h];simp
variable{s:List UInt8}
theorem X23 (h:s.length<=20):(Ym s).length<=30:=by
 have:=X6P (n:=s.length) (by omega);unfold Ym;rw[LA];omega
theorem XgW:∀{l:List (List UInt8)},(∀x∈l,x.length<=20)->(X3l l).length<=30*l.length
 |[],_=>by simp[X3l]
 |x::r,h=>by
  have h1:=X23 (h x (by simp));have h2:=XgW (l:=r) fun y hy=>h y (by simp[hy]);unfold X3l at*;simp only[map_cons,flatten_cons,LA,LC];omega
theorem XwX (r:Rul) (h:Uk r=0) (hn: -9223372036854775808<=r.n/\r.n<=9223372036854775807) (hl:r.name.length<=20/\r.key.length<=20/\r.src.length<=20/\r.dst.length<=20) (hk:1<=r.kind/\r.kind<=7):
  Con prog 236 [] [Yu r] [(130,.row 1 ((VE r).map X5))] (.own 130 ((VE r).map X5).length):=by
 obtain⟨k,n,name,key,src,dst⟩:=r;simp only at hn hl hk;obtain⟨m,rfl⟩:∃m:Nat,k=m:=⟨k.toNat,by omega⟩
 simp only[Yu] at*;clear h;refine ZC1 func236 ntmps236 fun E=> ?_;have e8:n8 (m%256)=n8 (UInt8.ofNat m).toNat:=by rw[X1k (by omega),Nat.mod_eq_of_lt (by omega)]
 have hL:∀x∈[name,key,src,dst],x.length<=20:=by
  intro x hx;simp only[mem_cons,not_mem_nil,or_false] at hx;rcases hx with rfl|rfl|rfl|rfl<;>omega
 have hput:VE ⟨m,n,name,key,src,dst⟩=(UInt8.ofNat m::X3l [name,key,src,dst])++U5 n:=by
  unfold VE X3l;simp
 have dH:=X75 n hn;have bf:=X7o hn;rw[hput];clear hput;refine W9_ ?_;(refine Z0 (u:=nj m) (r:=n8 (UInt8.ofNat m).toNat) ?_ (hr:=by exact by rw[<-e8];exact Uf rfl rfl));refine QKa ?_;refine Yf ?_;generalize gZ:[name,key,src,dst]=L at*;have uO:L.length=4:=by rw[<-gZ];rfl
 have hlm:(L.map cS).length=L.length:=by simp
 refine Xn (fun i:Nat=>i<=L.length) (fun i=>⟨34,[(1,.ptr 100 0),(3,.own 130 ((UInt8.ofNat m::X3l (L.take i)).map X5).length),(18,.d (.sl 1 (L.map cS))),(19,ai (L.map cS).length),(20,ai i)],
   [(100,.box [ai m,ai n,.d (.v (.string (X6 name))),.d (.v (.string (X6 key))),.d (.v (.string (X6 src))),.d (.v (.string (X6 dst)))]),(130,.row 1 ((UInt8.ofNat m::X3l (L.take i)).map X5))]⟩) (fun i=>L.length-i) 0 (by omega)
  (by subst gZ;exact Xb rfl ⟨JL,JL,JL,JL,JL,TV⟩ ⟨rfl,rfl,TV⟩) ?_
 intro i hi;have hlen:((UInt8.ofNat m::X3l (L.take i)).map X5).length<=200:=by
  have h1:=XgW (l:=L.take i) fun x hx=>hL x (mem_of_mem_take hx);have h2:(L.take i).length<=4:=by simp;omega
  simp only[LM,LC];omega
 by_cases hil:i<L.length
 case neg=>
  obtain rfl:i=L.length:=by omega
  rw[take_length] at hlen |-;have dF:¬((L.length:Nat):Int)<(L.map cS).length:=by omega
  generalize UInt8.ofNat m::X3l L=B at*;generalize U5 n=w at*;refine Yg ?_;refine X2 ⟨_,Xe 2 (y:= .own 130 ((B++w).map X5).length) (AVal.le_of_eq ?_),⟨rfl,TV⟩,Xj ⟨?_,TV⟩⟩
  ·refine Qa ?_;congr 1;simp only[LA,LM]<;>omega
  ·refine Qpa ?_;simp only[map_append]
 have dF:(i:Int)<(L.map cS).length:=by omega
 obtain⟨x,hx⟩:=Xu (l:=L) hil;have bw:(L.map cS)[i]? =some (cS x):=XM hx;have hxl:=hL x (mem_of_getElem? hx);have hps:=X76 x (by omega);have uj:=X23 hxl;have bO:=Xrl hx;generalize Ym x=w at*;refine XY ?_;refine⟨i+1,by omega,by omega,?_⟩
 try dsimp only
 rw[bO];refine Xb rfl ⟨JL,(by refine AVal.le_of_eq ?_;refine Eq.trans (b:=AVal.own 130 (_+_)) rfl ?_;congr 1;simp only[LA,LM,LC]<;>omega),JL,JL,JL,TV⟩ ⟨rfl,?_,TV⟩;refine Qpa ?_;simp only[map_append,map_cons,cons_append]
theorem XbI (h:Y8 s=true):s.length<=20:=by
 unfold Y8 at h;simp at h;omega
theorem X7v {r:Rul} (h:Uk r=0):(-9223372036854775808<=r.n/\r.n<=9223372036854775807)/\(r.name.length<=20/\r.key.length<=20/\r.src.length<=20/\r.dst.length<=20)/\(1<=r.kind/\r.kind<=7):=by
 rw[Xgg] at h;unfold k9 at h;split at h
 ·omega
 rename_i h1;split at h
 ·omega
 rename_i h2;split at h
 ·omega
 rename_i h3;have i1:1<=r.kind/\r.kind<=7:=by
  cases hd:decide (1<=r.kind/\r.kind<=7) with
  |true=>exact of_decide_eq_true hd
  |false=>exact absurd (.inl hd) h1
 have i2:X33 r.kind r.n=true:=by
  cases hd:X33 r.kind r.n with
  |true=>rfl
  |false=>exact absurd (.inr hd) h1
 have nm:Y8 r.name=true:=by
  cases hd:Y8 r.name with
  |true=>rfl
  |false=>exact absurd (.inl hd) h3
 have ky:r.key.length<=20:=by
  by_cases hk:X24 r.kind=true
  ·refine XbI (s:=r.key) ?_;cases hd:Y8 r.key with
   |true=>rfl
   |false=>exact absurd (.inr (.inl ⟨hk,hd⟩)) h3
  ·by_cases he:r.key=[]
   ·rw[he];simp
   ·exact absurd (.inl ⟨by simpa using hk,he⟩) h2
 have sr:r.src.length<=20:=by
  by_cases he:r.src=[]
  ·rw[he];simp
  ·refine XbI (s:=r.src) ?_;cases hd:Y8 r.src with
   |true=>rfl
   |false=>exact absurd (.inr (.inr (.inl ⟨he,hd⟩))) h3
 have ds:r.dst.length<=20:=by
  by_cases he:r.dst=[]
  ·rw[he];simp
  ·refine XbI (s:=r.dst) ?_;cases hd:Y8 r.dst with
   |true=>rfl
   |false=>exact absurd (.inr (.inr (.inr ⟨he,hd⟩))) h3
 refine⟨?_,⟨XbI nm,ky,sr,ds⟩,i1⟩;unfold X33 at i2;split at i2
 ·have:=of_decide_eq_true i2;omega
 ·split at i2
  ·have:=of_decide_eq_true i2;omega
  ·have:=of_decide_eq_true i2;omega
theorem Xgy (r:Rul) (h:Uk r=0):Con prog 236 [] [Yu r] [] (.d (Xg (VE r))):=
 (XwX r h (X7v h).1 (X7v h).2.1 (X7v h).2.2).data (by simp)
theorem Xs0 (r:Rul):Con prog 163 [] [Yu r] [] (.d (Xg (VS r))):=by
 refine ZC1 func163 ntmps163 fun E=> ?_;have hc:=X7u r;unfold VS;by_cases h:Uk r=0
 ·have hp:=Xgy r h;rw[h] at hc;rw[PI h];generalize VE r=w at*;obtain⟨k,n,name,key,src,dst⟩:=r;simp only[Yu] at*;exact QM
 ·rw[NI h];generalize Uk r=e at*;obtain⟨k,n,name,key,src,dst⟩:=r;simp only[Yu] at*;exact Qxa
def Xs:Chg->List D
 |⟨op,id,src,dst,name,.mk k n d s l⟩=>[.v (.int .i64 op),.v (.int .i64 id),.v (.int .i64 src),.v (.int .i64 dst),.v (.string (X6 name)),.v (.int .i64 k),.v (.int .i64 n),.v (.int .i64 d),.v (.string (X6 s)),.sl 5 (XX l)]
def Xbf (c:Chg):Prop:=c.name.length<=9223372036854775807/\UJ c.v
end Go.Fw

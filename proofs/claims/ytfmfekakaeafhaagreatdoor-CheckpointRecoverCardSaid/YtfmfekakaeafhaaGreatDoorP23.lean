/- The check of a change: the program's. -/
import Derived.Test.YtfmfekakaeafhaaGreatDoorP19
set_option linter.all false
set_option maxHeartbeats 32000000
namespace Go.Fw
open Go Go.Proofs Tryz List
open List renaming length->J
set_option maxRecDepth 100000
def Yw (u:Bool×Bool×Bool×Bool) (i si di:Bool) (src dst:Int) (name:List UInt8) (nv zv pv:Bool):Int:=
 if u.2.2.2=false\/i=false then 1
 else if (u.1=true/\(si=false\/di=false))\/(u.1=false/\(src≠0\/dst≠0)) then 1
 else if (u.2.1=false/\name≠[])\/(u.2.2.1=false/\zv=false) then 1
 else if u.2.1=true/\nv=false then 6 else if u.2.2.1=true/\zv=false/\pv=false then 8 else 0
theorem Xi2 (c:Chg):YE c=Yw (X4F c.op) (idV c.id) (idV c.src) (idV c.dst) c.src c.dst c.name (Yc c.name) (Vf c.v) (U9 c.v):=by
 unfold YE Yw X4F;simp only[decide_eq_true_eq,decide_eq_false_iff_not]
abbrev Uv (op id src dst:Int) (name:List UInt8) (k n d:Int) (s:List UInt8) (l:List Val):AVal:= .agg [ai op,ai id,ai src,ai dst,.d (.v (.string (X7 name))),ai k,ai n,ai d,.d (.v (.string (X7 s))),.d (.sl 5 (XR l))]
def Xu:Chg->AVal
 |⟨op,id,src,dst,name,.mk k n d s l⟩=>Uv op id src dst name k n d s l
def X63 (c:Chg):Con prog 177 [] [Xu c] [] (ai (YE c)):=by
 rw[Xi2];obtain⟨op,id,src,dst,name,v⟩:=c;have hf:=Xry op;have hi:=XfY id;have hs:=XfY src;have hd:=XfY dst;have hn:=X7a name;have hz:=Xf7 v;have hp:=XlV v;generalize idV id=i at*;generalize idV src=si at*;generalize idV dst=di at*;generalize Yc name=nv at*;generalize Vf v=zv at*;generalize U9 v=pv at*;obtain⟨k,n,d,s,l⟩:=v;simp only[Xu,Xt] at*;refine ZC1 func177 ntmps177 fun E=> ?_;generalize X4F op=u at*;obtain⟨en,nm,vl,ok⟩:=u;simp only at hf;obtain⟨r,hr⟩:∃r,r=Yw (en,nm,vl,ok) i si di src dst name nv zv pv:=⟨_,rfl⟩
 rw[<-hr];refine YA ?_;refine Ux rfl rfl ?_ ?_<;>intro hq;refine W7_ ?_;refine YQ rfl ?_ ?_<;>intro hq;refine W4_ ?_;(clear hf hi hs hd hn hz hp;simp[Yw, *] at hr;subst hr;exact Zr0);refine W5_ ?_;refine X5f rfl rfl ?_ ?_<;>intro hq;refine W5_ ?_;refine Ux rfl rfl ?_ ?_<;>intro hq;refine W7_ ?_;refine Ux rfl rfl ?_ ?_<;>intro hq;refine W8_ ?_;refine QF ?_;refine XG ?_;refine Ux rfl rfl ?_ ?_<;>intro hq;refine W9_ ?_;refine Ux rfl rfl ?_ ?_<;>intro hq;refine Y5 ?_;refine YQ rfl ?_ ?_<;>intro hq;refine W4_ ?_;(clear hf hi hs hd hn hz hp;simp[Yw, *] at hr;subst hr;exact Zr0);refine XB ?_;refine Ux rfl rfl ?_ ?_<;>intro hq;refine XK ?_;(clear hf hi hs hd hn hz hp;simp[Yw, *] at hr;subst hr;exact Zr0);refine W7_ ?_;refine YQ rfl ?_ ?_<;>intro hq;refine W4_ ?_;(clear hf hi hs hd hn hz hp;simp[Yw, *] at hr;subst hr;exact Zr0);refine W5_ ?_;(clear hf hi hs hd hn hz hp;simp[Yw, *] at hr;subst hr;exact Zr0);refine W8_ ?_;refine YQ rfl ?_ ?_<;>intro hq;refine W4_ ?_;(clear hf hi hs hd hn hz hp;simp[Yw, *] at hr;subst hr;exact Zr0);refine XG ?_;refine YQ rfl ?_ ?_<;>intro hq;refine W4_ ?_;(clear hf hi hs hd hn hz hp;simp[Yw, *] at hr;subst hr;exact Zr0);refine YA ?_;(clear hf hi hs hd hn hz hp;simp[Yw, *] at hr;subst hr;exact Zr0);refine W5_ ?_;refine Ye rfl rfl ?_ ?_<;>intro hq;refine W4_ ?_;refine Qu ?_;refine W9_ ?_;(clear hf hi hs hd hn hz hp;simp[Yw, *] at hr;subst hr;exact Zr0);refine W4_ ?_;refine Ux rfl rfl ?_ ?_<;>intro hq;refine UA ?_;refine Ux rfl rfl ?_ ?_<;>intro hq;refine XK ?_;(clear hf hi hs hd hn hz hp;simp[Yw, *] at hr;subst hr;exact Zr0);refine W7_ ?_;refine YQ rfl ?_ ?_<;>intro hq;refine W4_ ?_;(clear hf hi hs hd hn hz hp;simp[Yw, *] at hr;subst hr;exact Zr0);refine W5_ ?_;(clear hf hi hs hd hn hz hp;simp[Yw, *] at hr;subst hr;exact Zr0);refine W8_ ?_;refine YQ rfl ?_ ?_<;>intro hq;refine W4_ ?_;(clear hf hi hs hd hn hz hp;simp[Yw, *] at hr;subst hr;exact Zr0);refine X17 ?_;(clear hf hi hs hd hn hz hp;simp[Yw, *] at hr;subst hr;exact Zr0);refine W4_ ?_;refine Qva ?_;refine W9_ ?_;(clear hf hi hs hd hn hz hp;simp[Yw, *] at hr;subst hr;exact Zr0);refine XB ?_;refine Qva ?_;refine W9_ ?_;(clear hf hi hs hd hn hz hp;simp[Yw, *] at hr;subst hr;exact Zr0);refine Qpc ?_;refine Ye rfl rfl ?_ ?_<;>intro hq;refine XK ?_;(clear hf hi hs hd hn hz hp;simp[Yw, *] at hr;subst hr;exact Zr0);refine W8_ ?_;refine VI rfl ?_ ?_<;>intro hq;refine W4_ ?_;(clear hf hi hs hd hn hz hp;simp[Yw, *] at hr;subst hr;exact Zr0);refine W6_ ?_;refine Ux rfl rfl ?_ ?_<;>intro hq;refine W9_ ?_;refine Ux rfl rfl ?_ ?_<;>intro hq;refine Y5 ?_
 refine YQ rfl ?_ ?_<;>intro hq;refine W4_ ?_;(clear hf hi hs hd hn hz hp;simp[Yw, *] at hr;subst hr;exact Zr0);refine XB ?_;refine Ux rfl rfl ?_ ?_<;>intro hq;refine XK ?_;(clear hf hi hs hd hn hz hp;simp[Yw, *] at hr;subst hr;exact Zr0);refine W7_ ?_;refine YQ rfl ?_ ?_<;>intro hq;refine W4_ ?_;(clear hf hi hs hd hn hz hp;simp[Yw, *] at hr;subst hr;exact Zr0);refine W5_ ?_;(clear hf hi hs hd hn hz hp;simp[Yw, *] at hr;subst hr;exact Zr0);refine W8_ ?_;refine YQ rfl ?_ ?_<;>intro hq;refine W4_ ?_;(clear hf hi hs hd hn hz hp;simp[Yw, *] at hr;subst hr;exact Zr0);refine XG ?_;refine YQ rfl ?_ ?_<;>intro hq;refine W4_ ?_;(clear hf hi hs hd hn hz hp;simp[Yw, *] at hr;subst hr;exact Zr0);refine YA ?_;(clear hf hi hs hd hn hz hp;simp[Yw, *] at hr;subst hr;exact Zr0);refine W5_ ?_;refine Ye rfl rfl ?_ ?_<;>intro hq;refine W4_ ?_;refine Qu ?_;refine W9_ ?_;(clear hf hi hs hd hn hz hp;simp[Yw, *] at hr;subst hr;exact Zr0);refine W4_ ?_;refine Ux rfl rfl ?_ ?_<;>intro hq;refine UA ?_;refine Ux rfl rfl ?_ ?_<;>intro hq;refine XK ?_;(clear hf hi hs hd hn hz hp;simp[Yw, *] at hr;subst hr;exact Zr0);refine W7_ ?_;refine YQ rfl ?_ ?_<;>intro hq;refine W4_ ?_;(clear hf hi hs hd hn hz hp;simp[Yw, *] at hr;subst hr;exact Zr0);refine W5_ ?_;(clear hf hi hs hd hn hz hp;simp[Yw, *] at hr;subst hr;exact Zr0);refine W8_ ?_;refine YQ rfl ?_ ?_<;>intro hq;refine W4_ ?_;(clear hf hi hs hd hn hz hp;simp[Yw, *] at hr;subst hr;exact Zr0);refine X17 ?_;(clear hf hi hs hd hn hz hp;simp[Yw, *] at hr;subst hr;exact Zr0);refine XG ?_
 (clear hf hi hs hd hn hz hp;simp[Yw, *] at hr;subst hr;exact Zr0)
def XbQ {c:Chg} (h:YE c=0):(1<=c.op/\c.op<=8)/\(1<=c.id/\c.id<=1000000)/\(c.op=6->(1<=c.src/\c.src<=1000000)/\1<=c.dst/\c.dst<=1000000)/\(YO c.op=true->J c.name<=20)/\
  (YL c.op=true->Xj 8 c.v=true/\J (Yl c.v)<=111):=by
 unfold YE at h;split at h
 ·omega
 rename_i h1;split at h
 ·omega
 rename_i h2;split at h
 ·omega
 rename_i h3;split at h
 ·omega
 rename_i h4;split at h
 ·omega
 rename_i h5;have i1:decide (1<=c.op/\c.op<=8)=true:=by
  cases hd:decide (1<=c.op/\c.op<=8) with
  |true=>rfl
  |false=>exact absurd (.inl hd) h1
 have i2:idV c.id=true:=by
  cases hd:idV c.id with
  |true=>rfl
  |false=>exact absurd (.inr hd) h1
 refine⟨of_decide_eq_true i1,of_decide_eq_true i2,fun h6=> ?_,fun hn=> ?_,fun hv=> ?_⟩
 ·have j1:idV c.src=true:=by
   cases hd:idV c.src with
   |true=>rfl
   |false=>exact absurd (.inl ⟨h6,.inl hd⟩) h2
  have j2:idV c.dst=true:=by
   cases hd:idV c.dst with
   |true=>rfl
   |false=>exact absurd (.inl ⟨h6,.inr hd⟩) h2
  exact⟨of_decide_eq_true j1,of_decide_eq_true j2⟩
 ·have j1:Yc c.name=true:=by
   cases hd:Yc c.name with
   |true=>rfl
   |false=>exact absurd ⟨hn,hd⟩ h4
  unfold Yc at j1;simp at j1;omega
 ·have j1:Xj 8 c.v=true/\(c.v.kind=0\/c.v.kind=1\/c.v.kind=2\/c.v.kind=4):=by
   cases hz:Vf c.v with
   |true=>
    unfold Vf at hz;simp at hz;exact⟨hz.1,.inl hz.2⟩
   |false=>
    cases hp:U9 c.v with
    |true=>
     unfold U9 X8Q at hp;simp at hp;exact⟨hp.2,.inr hp.1⟩
    |false=>exact absurd ⟨hv,hz,hp⟩ h5
  obtain⟨op,id,src,dst,name,⟨k,n,d,s,l⟩⟩:=c;simp only[Val.kind] at j1 |-;exact⟨j1.1,XxL j1.1 Oa Oa⟩
def X9Z (op:Int):Bool×Bool×Bool:=(decide (op=6),decide (op≠1/\op≠2/\op≠7),decide (op≠1/\op≠2/\op≠7/\op≠3/\op≠4/\op≠6))
def XiE (op:Int):Con prog 259 [] [ai op] [] (.tup [ab (X9Z op).1,ab (X9Z op).2.1,ab (X9Z op).2.2]):=by
 refine ZCt func259 ntmps259 fun E=> ?_;by_cases k1:op=1
 ·subst k1;refine YT ?_;exact QM
 by_cases k2:op=2
 ·subst k2;exact QX
 by_cases k7:op=7
 ·subst k7;refine X04 ?_;exact QM
 by_cases k3:op=3
 ·subst k3;refine Qia ?_;exact QM
 by_cases k4:op=4
 ·subst k4;refine X4 ?_;refine W8_ ?_;exact QM
 by_cases k6:op=6
 ·subst k6;refine QZ ?_;exact QM
 rw[show X9Z op=(false,true,true) by unfold X9Z;rw[DF Oa,DT Oa,DT Oa]];refine QWa ?_;exact QM
def XyW (c:Chg) (h:YE c=0):Con prog 212 [] [Xu c] [(130,.row 1 ((U3 c).map X6))] (.own 130 (J ((U3 c).map X6))):=by
 obtain⟨⟨bU,bV⟩,hid,dS,hnm,hvl⟩:=XbQ h;obtain⟨op,id,src,dst,name,v⟩:=c;simp only at bU bV hid dS hnm hvl;have fY:=X3f id Oa;have kg:J (Xq id)<=10:=OB
 have hf:=XiE op;clear h;by_cases k1:op=1
 ·subst k1;clear bU bV;have hput:U3 ⟨1,id,src,dst,name,v⟩=UInt8.ofNat 1::(Xq id):=by unfold U3;simp[YO,YL]
  rw[hput];clear hput;generalize Xq id=w0 at*;obtain⟨vk,vn,vd,vs,vl⟩:=v;simp only[Xu,Xt] at*;refine ZC1 func212 ntmps212 fun E=> ?_;refine YJ ?_;refine Z1 (u:=nj 1) (r:=n8 1) ?_ (hr:=OM);refine Qqc ?_;refine Uf ?_;refine X3 ⟨_,Xe 2 (y:= .own 130 (J ((UInt8.ofNat 1::(w0)).map X6))) (ZzQ ?_),⟨rfl,TV⟩,Xm ⟨?_,TV⟩⟩
  ·refine Qb ?_;congr 1;simp only[LA,LM,LC,length_nil]<;>omega
  ·refine QKa ?_;simp only[map_append,map_cons,map_nil,AS,cons_append,nil_append]<;>rfl
 by_cases k2:op=2
 ·subst k2;clear bU bV;have hput:U3 ⟨2,id,src,dst,name,v⟩=UInt8.ofNat 2::(Xq id):=by unfold U3;simp[YO,YL]
  rw[hput];clear hput;generalize Xq id=w0 at*;obtain⟨vk,vn,vd,vs,vl⟩:=v;simp only[Xu,Xt] at*;refine ZC1 func212 ntmps212 fun E=> ?_;refine YJ ?_;refine Z1 (u:=nj 2) (r:=n8 2) ?_ (hr:=OM);refine Qqc ?_;refine Uf ?_;refine X3 ⟨_,Xe 2 (y:= .own 130 (J ((UInt8.ofNat 2::(w0)).map X6))) (ZzQ ?_),⟨rfl,TV⟩,Xm ⟨?_,TV⟩⟩
  ·refine Qb ?_;congr 1;simp only[LA,LM,LC,length_nil]<;>omega
  ·refine QKa ?_;simp only[map_append,map_cons,map_nil,AS,cons_append,nil_append]<;>rfl
 by_cases k3:op=3
 ·subst k3;clear bU bV;have hnm:=hnm rfl;have cJ:=X7F name Oa;have dO:J (Ys name)<=30:=by
   have:=X6U (n:=J name) Oa;unfold Ys;rw[LA];omega
  have hput:U3 ⟨3,id,src,dst,name,v⟩=UInt8.ofNat 3::(Xq id++Ys name):=OY
  rw[hput];clear hput;generalize Xq id=w0 at*;generalize Ys name=w1 at*;obtain⟨vk,vn,vd,vs,vl⟩:=v;simp only[Xu,Xt] at*;refine ZC1 func212 ntmps212 fun E=> ?_;refine YJ ?_;refine Z1 (u:=nj 3) (r:=n8 3) ?_ (hr:=OM);refine Qqc ?_;refine X0r ?_;refine X3 ⟨_,Xe 2 (y:= .own 130 (J ((UInt8.ofNat 3::(w0++w1)).map X6))) (ZzQ ?_),⟨rfl,TV⟩,Xm ⟨?_,TV⟩⟩
  ·refine Qb ?_;congr 1;simp only[LA,LM,LC,length_nil]<;>omega
  ·refine QKa ?_;simp only[map_append,map_cons,map_nil,AS,cons_append,nil_append]<;>rfl
 by_cases k4:op=4
 ·subst k4;clear bU bV;have hnm:=hnm rfl;have cJ:=X7F name Oa;have dO:J (Ys name)<=30:=by
   have:=X6U (n:=J name) Oa;unfold Ys;rw[LA];omega
  have hput:U3 ⟨4,id,src,dst,name,v⟩=UInt8.ofNat 4::(Xq id++Ys name):=OY
  rw[hput];clear hput;generalize Xq id=w0 at*;generalize Ys name=w1 at*;obtain⟨vk,vn,vd,vs,vl⟩:=v;simp only[Xu,Xt] at*;refine ZC1 func212 ntmps212 fun E=> ?_;refine YJ ?_;refine Qrc ?_;refine X0r ?_;refine X3 ⟨_,Xe 2 (y:= .own 130 (J ((UInt8.ofNat 4::(w0++w1)).map X6))) (ZzQ ?_),⟨rfl,TV⟩,Xm ⟨?_,TV⟩⟩
  ·refine Qb ?_;congr 1;simp only[LA,LM,LC,length_nil]<;>omega
  ·refine QKa ?_;simp only[map_append,map_cons,map_nil,AS,cons_append,nil_append]<;>rfl
 by_cases k5:op=5
 ·subst k5;clear bU bV;have hnm:=hnm rfl;have cJ:=X7F name Oa;have dO:J (Ys name)<=30:=by
   have:=X6U (n:=J name) Oa;unfold Ys;rw[LA];omega
  have hvl:=hvl rfl;have aE:=Xkx v Oa;have hlv:J (UP v)<=111:=by
   unfold UP;rw[PI hvl.1];exact hvl.2
  have hput:U3 ⟨5,id,src,dst,name,v⟩=UInt8.ofNat 5::(Xq id++Ys name++UP v):=OY
  rw[hput];clear hput;generalize Xq id=w0 at*;generalize Ys name=w1 at*;generalize UP v=w2 at*;obtain⟨vk,vn,vd,vs,vl⟩:=v;simp only[Xu,Xt] at*;refine ZC1 func212 ntmps212 fun E=> ?_;refine YJ ?_;refine Qsc ?_;refine QS ?_;refine X3 ⟨_,Xe 2 (y:= .own 130 (J ((UInt8.ofNat 5::(w0++w1++w2)).map X6))) (ZzQ ?_),⟨rfl,TV⟩,Xm ⟨?_,TV⟩⟩
  ·refine Qb ?_;congr 1;simp only[LA,LM,LC,length_nil]<;>omega
  ·refine QKa ?_;simp only[map_append,map_cons,map_nil,AS,cons_append,nil_append]<;>rfl
 by_cases k6:op=6
 ·subst k6;clear bU bV;have dS:=dS rfl;have hps:=X3f src Oa;have pR:=X3f dst Oa;have hls:J (Xq src)<=10:=by rw[X2z Oa];exact X2n Oa
  have tP:J (Xq dst)<=10:=OB
  have hnm:=hnm rfl;have cJ:=X7F name Oa;have dO:J (Ys name)<=30:=by
   have:=X6U (n:=J name) Oa;unfold Ys;rw[LA];omega
  have hput:U3 ⟨6,id,src,dst,name,v⟩=UInt8.ofNat 6::(Xq id++Xq src++Xq dst++Ys name):=OY
  rw[hput];clear hput;generalize Xq id=w0 at*;generalize Xq src=w1 at*;generalize Xq dst=w2 at*;generalize Ys name=w3 at*;obtain⟨vk,vn,vd,vs,vl⟩:=v;simp only[Xu,Xt] at*;refine ZC1 func212 ntmps212 fun E=> ?_;refine YJ ?_;refine Qtc ?_;refine QWa ?_;refine X3 ⟨_,Xe 2 (y:= .own 130 (J ((UInt8.ofNat 6::(w0++w1++w2++w3)).map X6))) (ZzQ ?_),⟨rfl,TV⟩,Xm ⟨?_,TV⟩⟩
  ·refine Qb ?_;congr 1;simp only[LA,LM,LC,length_nil]<;>omega
  ·refine QKa ?_;simp only[map_append,map_cons,map_nil,AS,cons_append,nil_append]<;>rfl
 by_cases k7:op=7
 ·subst k7;clear bU bV;have hput:U3 ⟨7,id,src,dst,name,v⟩=UInt8.ofNat 7::(Xq id):=by unfold U3;simp[YO,YL]
  rw[hput];clear hput;generalize Xq id=w0 at*;obtain⟨vk,vn,vd,vs,vl⟩:=v;simp only[Xu,Xt] at*;refine ZC1 func212 ntmps212 fun E=> ?_;refine YJ ?_;refine Quc ?_;refine Uf ?_;refine X3 ⟨_,Xe 2 (y:= .own 130 (J ((UInt8.ofNat 7::(w0)).map X6))) (ZzQ ?_),⟨rfl,TV⟩,Xm ⟨?_,TV⟩⟩
  ·refine Qb ?_;congr 1;simp only[LA,LM,LC,length_nil]<;>omega
  ·refine QKa ?_;simp only[map_append,map_cons,map_nil,AS,cons_append,nil_append]<;>rfl
 by_cases k8:op=8
 ·subst k8;clear bU bV;have hnm:=hnm rfl;have cJ:=X7F name Oa;have dO:J (Ys name)<=30:=by
   have:=X6U (n:=J name) Oa;unfold Ys;rw[LA];omega
  have hvl:=hvl rfl;have aE:=Xkx v Oa;have hlv:J (UP v)<=111:=by
   unfold UP;rw[PI hvl.1];exact hvl.2
  have hput:U3 ⟨8,id,src,dst,name,v⟩=UInt8.ofNat 8::(Xq id++Ys name++UP v):=OY
  rw[hput];clear hput;generalize Xq id=w0 at*;generalize Ys name=w1 at*;generalize UP v=w2 at*;obtain⟨vk,vn,vd,vs,vl⟩:=v;simp only[Xu,Xt] at*;refine ZC1 func212 ntmps212 fun E=> ?_;refine YJ ?_;refine Qvc ?_;refine QS ?_;refine X3 ⟨_,Xe 2 (y:= .own 130 (J ((UInt8.ofNat 8::(w0++w1++w2)).map X6))) (ZzQ ?_),⟨rfl,TV⟩,Xm ⟨?_,TV⟩⟩
  ·refine Qb ?_;congr 1;simp only[LA,LM,LC,length_nil]<;>omega
  ·refine QKa ?_;simp only[map_append,map_cons,map_nil,AS,cons_append,nil_append]<;>rfl
 omega
def Xne (c:Chg) (h:YE c=0):Con prog 212 [] [Xu c] [] (.d (Xc (U3 c))):=(XyW c h).data Oc
def XbD (c:Chg) (hok:U1 c.v):Con prog 161 [] [Xu c] [] (ai (YE c)):=by
 rw[Xi2];obtain⟨op,id,src,dst,name,v⟩:=c;have hf:=XsJ op;have hw:=XrO op;have hi:=Xgr id;have hs:=Xgr src;have hd:=Xgr dst;have hn:=Xei name;have hz:=Xpe v hok;have hp:=Xjn v hok;generalize idV id=i at*;generalize idV src=si at*;generalize idV dst=di at*;generalize Yc name=nv at*;generalize Vf v=zv at*;generalize U9 v=pv at*;obtain⟨k,n,d,s,l⟩:=v;simp only[Xu,Xt] at*;refine ZC1 func161 ntmps161 fun E=> ?_;rw[show X4F op=(decide (op=6),YO op,YL op,decide (1<=op/\op<=8)) from rfl];clear hok;generalize YO op=nm at*;generalize YL op=vl at*;generalize hlo:decide (1<=op/\op<=8)=ok;obtain⟨r,hr⟩:∃r,r=Yw (decide (op=6),nm,vl,ok) i si di src dst name nv zv pv:=⟨_,rfl⟩
 rw[<-hr];have h1:op<1->ok=false:=fun h=>by rw[<-hlo];exact DF Oa
 have h2:8<op->ok=false:=fun h=>by rw[<-hlo];exact DF Oa
 have h3:¬op<1->¬8<op->ok=true:=fun h k=>by rw[<-hlo];exact DT Oa
 clear hlo;refine XG ?_;refine Ye rfl rfl ?_ ?_<;>intro hq;refine Yr ?_;refine QF ?_;refine W8_ ?_;refine Qv ?_;(clear hf hw hi hs hd hn hz hp;simp[Yw, *] at hr;subst hr;exact Zr0);refine W5_ ?_;refine Ye rfl rfl ?_ ?_<;>intro hq;refine XB ?_;refine QF ?_;refine W8_ ?_;refine Qv ?_;(clear hf hw hi hs hd hn hz hp;simp[Yw, *] at hr;subst hr;exact Zr0);refine W6_ ?_;refine Ux rfl rfl ?_ ?_<;>intro hq;refine W5_ ?_;refine Ux rfl rfl ?_ ?_<;>intro hq;refine XB ?_;refine Ux rfl rfl ?_ ?_<;>intro hq;refine Yr ?_;refine Ye rfl rfl ?_ ?_<;>intro hq;refine W5_ ?_;refine Ux rfl rfl ?_ ?_<;>intro hq;refine W7_ ?_;refine Ux rfl rfl ?_ ?_<;>intro hq;refine W8_ ?_;refine QF ?_;refine YS ?_;refine YQ rfl ?_ ?_<;>intro hq;refine W4_ ?_;(clear hf hw hi hs hd hn hz hp;simp[Yw, *] at hr;subst hr;exact Zr0);refine XD ?_;refine Ux rfl rfl ?_ ?_<;>intro hq;refine XG ?_;(clear hf hw hi hs hd hn hz hp;simp[Yw, *] at hr;subst hr;exact Zr0);refine W6_ ?_;refine YQ rfl ?_ ?_<;>intro hq;refine W4_ ?_;(clear hf hw hi hs hd hn hz hp;simp[Yw, *] at hr;subst hr;exact Zr0);refine W5_ ?_;(clear hf hw hi hs hd hn hz hp;simp[Yw, *] at hr;subst hr;exact Zr0);refine Qwc ?_;(clear hf hw hi hs hd hn hz hp;simp[Yw, *] at hr;subst hr;exact Zr0);refine XB ?_;refine Qva ?_;refine W8_ ?_;(clear hf hw hi hs hd hn hz hp;simp[Yw, *] at hr;subst hr;exact Zr0);refine Qpc ?_;refine Ye rfl rfl ?_ ?_<;>intro hq;refine XG ?_;(clear hf hw hi hs hd hn hz hp;simp[Yw, *] at hr;subst hr;exact Zr0);refine W7_ ?_;refine VI rfl ?_ ?_<;>intro hq;refine W4_ ?_;(clear hf hw hi hs hd hn hz hp;simp[Yw, *] at hr;subst hr;exact Zr0);refine XD ?_;refine YQ rfl ?_ ?_<;>intro hq;refine W4_ ?_;(clear hf hw hi hs hd hn hz hp;simp[Yw, *] at hr;subst hr;exact Zr0);refine XD ?_;refine Ux rfl rfl ?_ ?_<;>intro hq;refine XG ?_;(clear hf hw hi hs hd hn hz hp;simp[Yw, *] at hr;subst hr;exact Zr0);refine W6_ ?_;refine YQ rfl ?_ ?_<;>intro hq;refine W4_ ?_;(clear hf hw hi hs hd hn hz hp;simp[Yw, *] at hr;subst hr;exact Zr0);refine W5_ ?_;(clear hf hw hi hs hd hn hz hp;simp[Yw, *] at hr;subst hr;exact Zr0);refine W7_ ?_;refine YQ rfl ?_ ?_<;>intro hq;refine W4_ ?_;(clear hf hw hi hs hd hn hz hp;simp[Yw, *] at hr;subst hr;exact Zr0);refine W8_ ?_;refine Ye rfl rfl ?_ ?_<;>intro hq;refine W5_ ?_;refine Ux rfl rfl ?_ ?_<;>intro hq;refine W7_ ?_;refine Ux rfl rfl ?_ ?_<;>intro hq;refine W8_ ?_;refine QF ?_;refine YS ?_;refine YQ rfl ?_ ?_<;>intro hq;refine W4_ ?_;(clear hf hw hi hs hd hn hz hp;simp[Yw, *] at hr;subst hr;exact Zr0);refine XM ?_;(clear hf hw hi hs hd hn hz hp;simp[Yw, *] at hr;subst hr;exact Zr0)
 refine Qwc ?_;(clear hf hw hi hs hd hn hz hp;simp[Yw, *] at hr;subst hr;exact Zr0);refine XB ?_;refine Qva ?_;refine W8_ ?_;(clear hf hw hi hs hd hn hz hp;simp[Yw, *] at hr;subst hr;exact Zr0);refine Qpc ?_;refine Ye rfl rfl ?_ ?_<;>intro hq;refine XG ?_;(clear hf hw hi hs hd hn hz hp;simp[Yw, *] at hr;subst hr;exact Zr0);refine W7_ ?_;refine VI rfl ?_ ?_<;>intro hq;refine W4_ ?_;(clear hf hw hi hs hd hn hz hp;simp[Yw, *] at hr;subst hr;exact Zr0);refine XD ?_;refine YQ rfl ?_ ?_<;>intro hq;refine W4_ ?_;(clear hf hw hi hs hd hn hz hp;simp[Yw, *] at hr;subst hr;exact Zr0);refine XM ?_;(clear hf hw hi hs hd hn hz hp;simp[Yw, *] at hr;subst hr;exact Zr0);refine W6_ ?_;refine Ye rfl rfl ?_ ?_<;>intro hq;refine W5_ ?_;refine Qv ?_;(clear hf hw hi hs hd hn hz hp;simp[Yw, *] at hr;subst hr;exact Zr0);refine W5_ ?_;refine Ux rfl rfl ?_ ?_<;>intro hq;refine Yr ?_;refine Ye rfl rfl ?_ ?_<;>intro hq;refine W5_ ?_;refine Ux rfl rfl ?_ ?_<;>intro hq;refine W7_ ?_;refine Ux rfl rfl ?_ ?_<;>intro hq;refine W8_ ?_;refine QF ?_;refine VM ?_;refine Ux rfl rfl ?_ ?_<;>intro hq;refine XG ?_;(clear hf hw hi hs hd hn hz hp;simp[Yw, *] at hr;subst hr;exact Zr0);refine W6_ ?_;refine YQ rfl ?_ ?_<;>intro hq;refine W4_ ?_;(clear hf hw hi hs hd hn hz hp;simp[Yw, *] at hr;subst hr;exact Zr0);refine W5_ ?_;(clear hf hw hi hs hd hn hz hp;simp[Yw, *] at hr;subst hr;exact Zr0);refine Qwc ?_;(clear hf hw hi hs hd hn hz hp;simp[Yw, *] at hr;subst hr;exact Zr0);refine XB ?_;refine Qva ?_;refine W8_ ?_;(clear hf hw hi hs hd hn hz hp;simp[Yw, *] at hr;subst hr;exact Zr0);refine Qpc ?_;refine Ye rfl rfl ?_ ?_<;>intro hq;refine XG ?_;(clear hf hw hi hs hd hn hz hp;simp[Yw, *] at hr;subst hr;exact Zr0);refine W7_ ?_;refine VI rfl ?_ ?_<;>intro hq;refine W4_ ?_;(clear hf hw hi hs hd hn hz hp;simp[Yw, *] at hr;subst hr;exact Zr0);refine YG ?_;refine Ux rfl rfl ?_ ?_<;>intro hq;refine XG ?_;(clear hf hw hi hs hd hn hz hp;simp[Yw, *] at hr;subst hr;exact Zr0);refine W6_ ?_;refine YQ rfl ?_ ?_<;>intro hq;refine W4_ ?_;(clear hf hw hi hs hd hn hz hp;simp[Yw, *] at hr;subst hr;exact Zr0);refine W5_ ?_;(clear hf hw hi hs hd hn hz hp;simp[Yw, *] at hr;subst hr;exact Zr0);refine W7_ ?_;refine YQ rfl ?_ ?_<;>intro hq;refine W4_ ?_;(clear hf hw hi hs hd hn hz hp;simp[Yw, *] at hr;subst hr;exact Zr0);refine W8_ ?_;refine Ye rfl rfl ?_ ?_<;>intro hq;refine W5_ ?_;refine Ux rfl rfl ?_ ?_<;>intro hq;refine W7_ ?_;refine Ux rfl rfl ?_ ?_<;>intro hq;refine W8_ ?_;refine QF ?_;refine QS ?_;(clear hf hw hi hs hd hn hz hp;simp[Yw, *] at hr;subst hr;exact Zr0);refine Qwc ?_
 (clear hf hw hi hs hd hn hz hp;simp[Yw, *] at hr;subst hr;exact Zr0);refine XB ?_;refine Qva ?_;refine W8_ ?_;(clear hf hw hi hs hd hn hz hp;simp[Yw, *] at hr;subst hr;exact Zr0);refine Qpc ?_;refine Ye rfl rfl ?_ ?_<;>intro hq;refine XG ?_;(clear hf hw hi hs hd hn hz hp;simp[Yw, *] at hr;subst hr;exact Zr0);refine W7_ ?_;refine VI rfl ?_ ?_<;>intro hq;refine W4_ ?_;(clear hf hw hi hs hd hn hz hp;simp[Yw, *] at hr;subst hr;exact Zr0);refine QO ?_;(clear hf hw hi hs hd hn hz hp;simp[Yw, *] at hr;subst hr;exact Zr0);refine W5_ ?_;refine QF ?_;refine W8_ ?_;refine Qv ?_
 (clear hf hw hi hs hd hn hz hp;simp[Yw, *] at hr;subst hr;exact Zr0)
end Go.Fw

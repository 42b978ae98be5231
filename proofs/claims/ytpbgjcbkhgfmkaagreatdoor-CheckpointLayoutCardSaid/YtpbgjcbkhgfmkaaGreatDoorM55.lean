/- Changes and rules put: the reference's. -/
import Derived.Test.YtpbgjcbkhgfmkaaGreatDoorM54
set_option maxHeartbeats 16000000
namespace Go.Fw
open Go Go.Proofs Tryz List
set_option maxRecDepth 100000
set_option linter.unusedVariables false
set_option linter.unusedSimpArgs false
theorem Xk3 (c:Chg) (hok:UJ c.v):Con prog 140 [] [Xz c] [] (.d (Xg (VT c))):=by
 have hc:=Xdp c hok;unfold VT;by_cases h:YD c=0
 case neg=>
  rw[NI h];refine ZC1 func140 ntmps140 fun E=> ?_;generalize YD c=e at*;obtain⟨op,id,src,dst,name,⟨k,n,d,s,l⟩⟩:=c;simp only[Xz] at*;exact Qxa
 rw[PI h];rw[h] at hc;obtain⟨⟨bT,bU⟩,hid,dw,hnm,hvl⟩:=Xbo h;obtain⟨op,id,src,dst,name,v⟩:=c;simp only at bT bU hid dw hnm hvl hok;have dH:=X38 id (by omega);have jK:(Xl id).length<=10:=by rw[X2k (by omega)];exact X1Y (by omega)
 have hf:=Xur op;have hw:=Xt8 op;clear h;by_cases k1:op=1
 ·subst k1;rw[show YS 1=false from rfl] at hf;rw[show YL 1=false from rfl] at hw;clear bT bU;have hput:U2 ⟨1,id,src,dst,name,v⟩=UInt8.ofNat 1::(Xl id):=by unfold U2;simp[YS,YL]
  rw[hput];clear hput hok;generalize Xl id=w0 at*;obtain⟨vk,vn,vd,vs,vl⟩:=v;simp only[Xz,XC] at*;refine ZC1 func140 ntmps140 fun E=> ?_;refine QCb ?_;refine Qke ?_;refine UX ?_;refine Qxb ?_;exact X2 ⟨_,Xe 2 (y:= .d (Xg (UInt8.ofNat 1::(w0)))) (AVal.le_of_eq (by refine Eq.trans (b:=AVal.d (.sl 1 (_))) rfl ?_;show _=AVal.d (.sl 1 ((UInt8.ofNat 1::(w0)).map X5));simp only[map_append,map_cons,map_nil,AS,cons_append,nil_append]<;>rfl)),⟨rfl,TV⟩,X4 _⟩
 by_cases k2:op=2
 ·subst k2;rw[show YS 2=false from rfl] at hf;rw[show YL 2=false from rfl] at hw;clear bT bU;have hput:U2 ⟨2,id,src,dst,name,v⟩=UInt8.ofNat 2::(Xl id):=by unfold U2;simp[YS,YL]
  rw[hput];clear hput hok;generalize Xl id=w0 at*;obtain⟨vk,vn,vd,vs,vl⟩:=v;simp only[Xz,XC] at*;refine ZC1 func140 ntmps140 fun E=> ?_;refine Qzb ?_;refine Qke ?_;refine UX ?_;refine Qxb ?_;exact X2 ⟨_,Xe 2 (y:= .d (Xg (UInt8.ofNat 2::(w0)))) (AVal.le_of_eq (by refine Eq.trans (b:=AVal.d (.sl 1 (_))) rfl ?_;show _=AVal.d (.sl 1 ((UInt8.ofNat 2::(w0)).map X5));simp only[map_append,map_cons,map_nil,AS,cons_append,nil_append]<;>rfl)),⟨rfl,TV⟩,X4 _⟩
 by_cases k3:op=3
 ·subst k3;rw[show YS 3=true from rfl] at hf;rw[show YL 3=false from rfl] at hw;clear bT bU;have hnm:=hnm rfl;have cE:=X4H name (by omega);have cz:=X23 hnm;have hput:U2 ⟨3,id,src,dst,name,v⟩=UInt8.ofNat 3::(Xl id++Ym name):=by unfold U2;simp[YS,YL]
  rw[hput];clear hput hok;generalize Xl id=w0 at*;generalize Ym name=w1 at*;obtain⟨vk,vn,vd,vs,vl⟩:=v;simp only[Xz,XC] at*;refine ZC1 func140 ntmps140 fun E=> ?_;refine Qub ?_;refine Qke ?_;refine Qma ?_;refine Qxb ?_;exact X2 ⟨_,Xe 2 (y:= .d (Xg (UInt8.ofNat 3::(w0++w1)))) (AVal.le_of_eq (by refine Eq.trans (b:=AVal.d (.sl 1 (_))) rfl ?_;show _=AVal.d (.sl 1 ((UInt8.ofNat 3::(w0++w1)).map X5));simp only[map_append,map_cons,map_nil,AS,cons_append,nil_append]<;>rfl)),⟨rfl,TV⟩,X4 _⟩
 by_cases k4:op=4
 ·subst k4;rw[show YS 4=true from rfl] at hf;rw[show YL 4=false from rfl] at hw;clear bT bU;have hnm:=hnm rfl;have cE:=X4H name (by omega);have cz:=X23 hnm;have hput:U2 ⟨4,id,src,dst,name,v⟩=UInt8.ofNat 4::(Xl id++Ym name):=by unfold U2;simp[YS,YL]
  rw[hput];clear hput hok;generalize Xl id=w0 at*;generalize Ym name=w1 at*;obtain⟨vk,vn,vd,vs,vl⟩:=v;simp only[Xz,XC] at*;refine ZC1 func140 ntmps140 fun E=> ?_;refine Yf ?_;refine Qsa ?_;refine Qke ?_;refine Qma ?_;refine Qxb ?_;exact X2 ⟨_,Xe 2 (y:= .d (Xg (UInt8.ofNat 4::(w0++w1)))) (AVal.le_of_eq (by refine Eq.trans (b:=AVal.d (.sl 1 (_))) rfl ?_;show _=AVal.d (.sl 1 ((UInt8.ofNat 4::(w0++w1)).map X5));simp only[map_append,map_cons,map_nil,AS,cons_append,nil_append]<;>rfl)),⟨rfl,TV⟩,X4 _⟩
 by_cases k5:op=5
 ·subst k5;rw[show YS 5=true from rfl] at hf;rw[show YL 5=true from rfl] at hw;clear bT bU;have hnm:=hnm rfl;have cE:=X4H name (by omega);have cz:=X23 hnm;have hvl:=hvl rfl;have aD:=Xgh v hok (by omega);unfold X6L at aD;have hlv:(UB v).length<=111:=by
   unfold UB;rw[PI hvl.1];exact hvl.2
  have hput:U2 ⟨5,id,src,dst,name,v⟩=UInt8.ofNat 5::(Xl id++Ym name++UB v):=by unfold U2;simp[YS,YL]
  rw[hput];clear hput hok;generalize Xl id=w0 at*;generalize Ym name=w1 at*;generalize UB v=w2 at*;obtain⟨vk,vn,vd,vs,vl⟩:=v;simp only[Xz,XC] at*;refine ZC1 func140 ntmps140 fun E=> ?_;refine Yf ?_;refine Qta ?_;refine Qke ?_;refine X7 ?_;refine Z3 (af:=aD) ?_;refine W8_ ?_;refine Qxb ?_;exact X2 ⟨_,Xe 2 (y:= .d (Xg (UInt8.ofNat 5::(w0++w1++w2)))) (AVal.le_of_eq (by refine Eq.trans (b:=AVal.d (.sl 1 (_))) rfl ?_;show _=AVal.d (.sl 1 ((UInt8.ofNat 5::(w0++w1++w2)).map X5));simp only[map_append,map_cons,map_nil,AS,cons_append,nil_append]<;>rfl)),⟨rfl,TV⟩,X4 _⟩
 by_cases k6:op=6
 ·subst k6;rw[show YS 6=true from rfl] at hf;rw[show YL 6=false from rfl] at hw;clear bT bU;have dw:=dw rfl;have hps:=X38 src (by omega);have jZ:=X38 dst (by omega);have hls:(Xl src).length<=10:=by rw[X2k (by omega)];exact X1Y (by omega)
  have sV:(Xl dst).length<=10:=by rw[X2k (by omega)];exact X1Y (by omega)
  have hnm:=hnm rfl;have cE:=X4H name (by omega);have cz:=X23 hnm;have hput:U2 ⟨6,id,src,dst,name,v⟩=UInt8.ofNat 6::(Xl id++Xl src++Xl dst++Ym name):=by unfold U2;simp[YS,YL]
  rw[hput];clear hput hok;generalize Xl id=w0 at*;generalize Xl src=w1 at*;generalize Xl dst=w2 at*;generalize Ym name=w3 at*;obtain⟨vk,vn,vd,vs,vl⟩:=v;simp only[Xz,XC] at*;refine ZC1 func140 ntmps140 fun E=> ?_;refine Yf ?_;refine Qua ?_;refine Qke ?_;refine Yg ?_;refine Z3 (af:=hps) ?_;refine W7_ ?_;refine Z3 (af:=jZ) ?_;refine UD ?_;refine Qxb ?_;exact X2 ⟨_,Xe 2 (y:= .d (Xg (UInt8.ofNat 6::(w0++w1++w2++w3)))) (AVal.le_of_eq (by refine Eq.trans (b:=AVal.d (.sl 1 (_))) rfl ?_;show _=AVal.d (.sl 1 ((UInt8.ofNat 6::(w0++w1++w2++w3)).map X5));simp only[map_append,map_cons,map_nil,AS,cons_append,nil_append]<;>rfl)),⟨rfl,TV⟩,X4 _⟩
 by_cases k7:op=7
 ·subst k7;rw[show YS 7=false from rfl] at hf;rw[show YL 7=false from rfl] at hw;clear bT bU;have hput:U2 ⟨7,id,src,dst,name,v⟩=UInt8.ofNat 7::(Xl id):=by unfold U2;simp[YS,YL]
  rw[hput];clear hput hok;generalize Xl id=w0 at*;obtain⟨vk,vn,vd,vs,vl⟩:=v;simp only[Xz,XC] at*;refine ZC1 func140 ntmps140 fun E=> ?_;refine Yf ?_;refine Qva ?_;refine Qke ?_;refine UX ?_;refine Qxb ?_;exact X2 ⟨_,Xe 2 (y:= .d (Xg (UInt8.ofNat 7::(w0)))) (AVal.le_of_eq (by refine Eq.trans (b:=AVal.d (.sl 1 (_))) rfl ?_;show _=AVal.d (.sl 1 ((UInt8.ofNat 7::(w0)).map X5));simp only[map_append,map_cons,map_nil,AS,cons_append,nil_append]<;>rfl)),⟨rfl,TV⟩,X4 _⟩
 by_cases k8:op=8
 ·subst k8;rw[show YS 8=true from rfl] at hf;rw[show YL 8=true from rfl] at hw;clear bT bU;have hnm:=hnm rfl;have cE:=X4H name (by omega);have cz:=X23 hnm;have hvl:=hvl rfl;have aD:=Xgh v hok (by omega);unfold X6L at aD;have hlv:(UB v).length<=111:=by
   unfold UB;rw[PI hvl.1];exact hvl.2
  have hput:U2 ⟨8,id,src,dst,name,v⟩=UInt8.ofNat 8::(Xl id++Ym name++UB v):=by unfold U2;simp[YS,YL]
  rw[hput];clear hput hok;generalize Xl id=w0 at*;generalize Ym name=w1 at*;generalize UB v=w2 at*;obtain⟨vk,vn,vd,vs,vl⟩:=v;simp only[Xz,XC] at*;refine ZC1 func140 ntmps140 fun E=> ?_;refine Yf ?_;refine Qwa ?_;refine Qke ?_;refine X7 ?_;refine Z3 (af:=aD) ?_;refine W8_ ?_;refine Qxb ?_;exact X2 ⟨_,Xe 2 (y:= .d (Xg (UInt8.ofNat 8::(w0++w1++w2)))) (AVal.le_of_eq (by refine Eq.trans (b:=AVal.d (.sl 1 (_))) rfl ?_;show _=AVal.d (.sl 1 ((UInt8.ofNat 8::(w0++w1++w2)).map X5));simp only[map_append,map_cons,map_nil,AS,cons_append,nil_append]<;>rfl)),⟨rfl,TV⟩,X4 _⟩
 omega
theorem Xmb (r:Rul):Con prog 138 [] [Yu r] [] (.d (Xg (VS r))):=by
 have hc:=X8y r;unfold VS;by_cases h:Uk r=0
 case neg=>
  rw[NI h];refine ZC1 func138 ntmps138 fun E=> ?_;generalize Uk r=e at*;obtain⟨k,n,name,key,src,dst⟩:=r;simp only[Yu] at*;exact Qxa
 rw[PI h];rw[h] at hc;obtain⟨hn,⟨l1,l2,l3,l4⟩,hk⟩:=X7v h;obtain⟨k,n,name,key,src,dst⟩:=r;simp only at hn l1 l2 l3 l4 hk;obtain⟨m,rfl⟩:∃m:Nat,k=m:=⟨k.toNat,by omega⟩
 have e8:n8 (m%256)=n8 (UInt8.ofNat m).toNat:=by rw[X1k (by omega),Nat.mod_eq_of_lt (by omega)]
 have p1:=X4H name (by omega);have p2:=X4H key (by omega);have p3:=X4H src (by omega);have p4:=X4H dst (by omega);have p5:=X6z n hn;have q1:=X23 l1;have q2:=X23 l2;have q3:=X23 l3;have q4:=X23 l4;have q5:=X7o hn;have hput:VE ⟨m,n,name,key,src,dst⟩=UInt8.ofNat m::(Ym name++Ym key++Ym src++Ym dst++U5 n):=rfl;rw[hput];clear hput h;generalize Ym name=w0 at*;generalize Ym key=w1 at*;generalize Ym src=w2 at*;generalize Ym dst=w3 at*;generalize U5 n=w4 at*;simp only[Yu] at*;refine ZC1 func138 ntmps138 fun E=> ?_;refine Yf ?_;(refine Z0 (u:=nj m) (r:=n8 (UInt8.ofNat m).toNat) ?_ (hr:=by exact by rw[<-e8];exact Uf rfl rfl));refine QKa ?_;refine W7_ ?_;refine Z3 (af:=p1) ?_;refine W8_ ?_;refine Z3 (af:=p2) ?_;refine W8_ ?_;refine Z3 (af:=p3) ?_;refine W8_ ?_;refine Z3 (af:=p4) ?_;refine Yv ?_;refine Qxb ?_;exact X2 ⟨_,Xe 2 (y:= .d (Xg (UInt8.ofNat m::(w0++w1++w2++w3++w4)))) (AVal.le_of_eq (by refine Eq.trans (b:=AVal.d (.sl 1 (_))) rfl ?_;show _=AVal.d (.sl 1 ((UInt8.ofNat m::(w0++w1++w2++w3++w4)).map X5));simp only[map_append,map_cons,map_nil,AS,cons_append,nil_append]<;>rfl)),⟨rfl,TV⟩,X4 _⟩
theorem Xgt (l:List ak) (hl:l.length<=9223372036854775807):Con prog 21 [] [.d (.sl 3 (l.map XO)),.d (.sl 3 (l.map XO))] [] (ab true):=by
 refine ZC1 func21 ntmps21 fun E=> ?_;have hlm:(l.map XO).length=l.length:=by simp
 refine Ye ?_
 refine Xn (fun i:Nat=>i<=l.length) (fun i=>⟨27,[(0,.d (.sl 3 (l.map XO))),(1,.d (.sl 3 (l.map XO))),(5,ai i)],[]⟩) (fun i=>l.length-i) 0 (Nat.zero_le _)
  (ZL0) ?_
 intro i hi;by_cases hil:i<l.length
 case neg=>
  have hn:¬(i:Int)<(l.map XO).length:=by omega
  refine XG ?_
  (show AWP prog E _ _ _;refine X2 ?_;exact(show Xa _ _ _ _ _ from⟨_,St.le_refl _,⟨rfl,TV⟩,X4 _⟩))
 have hn:(i:Int)<(l.map XO).length:=by omega
 obtain⟨x,hx⟩:=Xu (l:=l) hil;have au:(l.map XO)[i]? =some (XO x):=XM hx;have hc:=X9j x;clear hx;obtain⟨xs,xp,xo⟩:=x;simp only[XO] at*;refine UV ?_;exact Qac
end Go.Fw

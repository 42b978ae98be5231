/- Changes and rules put: the reference's. -/
import Derived.Test.YtfmfekakaeafhaaGreatDoorP25
import Derived.Test.YtfmfekakaeafhaaGreatDoorP28
set_option linter.all false
set_option maxHeartbeats 16000000
namespace Go.Fw
open Go Go.Proofs Tryz List
open List renaming length->J
set_option maxRecDepth 100000
def XjJ (c:Chg) (hok:U1 c.v):Con prog 98 [] [Xu c] [] (.d (Xc (cw c))):=by
 have hc:=XbD c hok;unfold cw;by_cases h:YE c=0
 case neg=>
  rw[NI h];refine ZC1 func98 ntmps98 fun E=> ?_;generalize YE c=e at*;obtain⟨op,id,src,dst,name,⟨k,n,d,s,l⟩⟩:=c;simp only[Xu] at*;exact QMa
 rw[PI h];rw[h] at hc;obtain⟨⟨bU,bV⟩,hid,dS,hnm,hvl⟩:=XbQ h;obtain⟨op,id,src,dst,name,v⟩:=c;simp only at bU bV hid dS hnm hvl hok;have fY:=X3m id Oa;have kg:J (Xq id)<=10:=OB
 have hf:=Xkd op;have hw:=XmE op;clear h;by_cases k1:op=1
 ·subst k1;rw[show YO 1=false from rfl] at hf;rw[show YL 1=false from rfl] at hw;clear bU bV;have hput:U3 ⟨1,id,src,dst,name,v⟩=UInt8.ofNat 1::(Xq id):=by unfold U3;simp[YO,YL]
  rw[hput];clear hput hok;generalize Xq id=w0 at*;obtain⟨vk,vn,vd,vs,vl⟩:=v;simp only[Xu,Xt] at*;refine ZC1 func98 ntmps98 fun E=> ?_;refine QAc ?_;refine Qua ?_;refine QUc ?_;exact X3 ⟨_,Xe 2 (y:= .d (Xc (UInt8.ofNat 1::(w0)))) (ZzQ (by refine Eq.trans (b:=AVal.d (.sl 1 (_))) rfl ?_;show _=AVal.d (.sl 1 ((UInt8.ofNat 1::(w0)).map X6));simp only[map_append,map_cons,map_nil,AS,cons_append,nil_append]<;>rfl)),⟨rfl,TV⟩,X5 _⟩
 by_cases k2:op=2
 ·subst k2;rw[show YO 2=false from rfl] at hf;rw[show YL 2=false from rfl] at hw;clear bU bV;have hput:U3 ⟨2,id,src,dst,name,v⟩=UInt8.ofNat 2::(Xq id):=by unfold U3;simp[YO,YL]
  rw[hput];clear hput hok;generalize Xq id=w0 at*;obtain⟨vk,vn,vd,vs,vl⟩:=v;simp only[Xu,Xt] at*;refine ZC1 func98 ntmps98 fun E=> ?_;refine QBc ?_;refine Qua ?_;refine QUc ?_;exact X3 ⟨_,Xe 2 (y:= .d (Xc (UInt8.ofNat 2::(w0)))) (ZzQ (by refine Eq.trans (b:=AVal.d (.sl 1 (_))) rfl ?_;show _=AVal.d (.sl 1 ((UInt8.ofNat 2::(w0)).map X6));simp only[map_append,map_cons,map_nil,AS,cons_append,nil_append]<;>rfl)),⟨rfl,TV⟩,X5 _⟩
 by_cases k3:op=3
 ·subst k3;rw[show YO 3=true from rfl] at hf;rw[show YL 3=false from rfl] at hw;clear bU bV;have hnm:=hnm rfl;have cJ:=X56 name Oa;have dO:=X2v hnm;have hput:U3 ⟨3,id,src,dst,name,v⟩=UInt8.ofNat 3::(Xq id++Ys name):=by unfold U3;simp[YO,YL]
  rw[hput];clear hput hok;generalize Xq id=w0 at*;generalize Ys name=w1 at*;obtain⟨vk,vn,vd,vs,vl⟩:=v;simp only[Xu,Xt] at*;refine ZC1 func98 ntmps98 fun E=> ?_;refine QCc ?_;refine Qbb ?_;refine QUc ?_;exact X3 ⟨_,Xe 2 (y:= .d (Xc (UInt8.ofNat 3::(w0++w1)))) (ZzQ (by refine Eq.trans (b:=AVal.d (.sl 1 (_))) rfl ?_;show _=AVal.d (.sl 1 ((UInt8.ofNat 3::(w0++w1)).map X6));simp only[map_append,map_cons,map_nil,AS,cons_append,nil_append]<;>rfl)),⟨rfl,TV⟩,X5 _⟩
 by_cases k4:op=4
 ·subst k4;rw[show YO 4=true from rfl] at hf;rw[show YL 4=false from rfl] at hw;clear bU bV;have hnm:=hnm rfl;have cJ:=X56 name Oa;have dO:=X2v hnm;have hput:U3 ⟨4,id,src,dst,name,v⟩=UInt8.ofNat 4::(Xq id++Ys name):=by unfold U3;simp[YO,YL]
  rw[hput];clear hput hok;generalize Xq id=w0 at*;generalize Ys name=w1 at*;obtain⟨vk,vn,vd,vs,vl⟩:=v;simp only[Xu,Xt] at*;refine ZC1 func98 ntmps98 fun E=> ?_;refine Yh ?_;refine Qrc ?_;refine Qbb ?_;refine QUc ?_;exact X3 ⟨_,Xe 2 (y:= .d (Xc (UInt8.ofNat 4::(w0++w1)))) (ZzQ (by refine Eq.trans (b:=AVal.d (.sl 1 (_))) rfl ?_;show _=AVal.d (.sl 1 ((UInt8.ofNat 4::(w0++w1)).map X6));simp only[map_append,map_cons,map_nil,AS,cons_append,nil_append]<;>rfl)),⟨rfl,TV⟩,X5 _⟩
 by_cases k5:op=5
 ·subst k5;rw[show YO 5=true from rfl] at hf;rw[show YL 5=true from rfl] at hw;clear bU bV;have hnm:=hnm rfl;have cJ:=X56 name Oa;have dO:=X2v hnm;have hvl:=hvl rfl;have aE:=XgC v hok Oa;unfold X7v at aE;have hlv:J (UP v)<=111:=by
   unfold UP;rw[PI hvl.1];exact hvl.2
  have hput:U3 ⟨5,id,src,dst,name,v⟩=UInt8.ofNat 5::(Xq id++Ys name++UP v):=OY
  rw[hput];clear hput hok;generalize Xq id=w0 at*;generalize Ys name=w1 at*;generalize UP v=w2 at*;obtain⟨vk,vn,vd,vs,vl⟩:=v;simp only[Xu,Xt] at*;refine ZC1 func98 ntmps98 fun E=> ?_;refine Yh ?_;refine Qsc ?_;refine Qab ?_;refine QUc ?_;exact X3 ⟨_,Xe 2 (y:= .d (Xc (UInt8.ofNat 5::(w0++w1++w2)))) (ZzQ (by refine Eq.trans (b:=AVal.d (.sl 1 (_))) rfl ?_;show _=AVal.d (.sl 1 ((UInt8.ofNat 5::(w0++w1++w2)).map X6));simp only[map_append,map_cons,map_nil,AS,cons_append,nil_append]<;>rfl)),⟨rfl,TV⟩,X5 _⟩
 by_cases k6:op=6
 ·subst k6;rw[show YO 6=true from rfl] at hf;rw[show YL 6=false from rfl] at hw;clear bU bV;have dS:=dS rfl;have hps:=X3m src Oa;have pR:=X3m dst Oa;have hls:J (Xq src)<=10:=by rw[X2z Oa];exact X2n Oa
  have tP:J (Xq dst)<=10:=OB
  have hnm:=hnm rfl;have cJ:=X56 name Oa;have dO:=X2v hnm;have hput:U3 ⟨6,id,src,dst,name,v⟩=UInt8.ofNat 6::(Xq id++Xq src++Xq dst++Ys name):=OY
  rw[hput];clear hput hok;generalize Xq id=w0 at*;generalize Xq src=w1 at*;generalize Xq dst=w2 at*;generalize Ys name=w3 at*;obtain⟨vk,vn,vd,vs,vl⟩:=v;simp only[Xu,Xt] at*;refine ZC1 func98 ntmps98 fun E=> ?_;refine Yh ?_;refine Qtc ?_;refine Qoa ?_;refine QUc ?_;exact X3 ⟨_,Xe 2 (y:= .d (Xc (UInt8.ofNat 6::(w0++w1++w2++w3)))) (ZzQ (by refine Eq.trans (b:=AVal.d (.sl 1 (_))) rfl ?_;show _=AVal.d (.sl 1 ((UInt8.ofNat 6::(w0++w1++w2++w3)).map X6));simp only[map_append,map_cons,map_nil,AS,cons_append,nil_append]<;>rfl)),⟨rfl,TV⟩,X5 _⟩
 by_cases k7:op=7
 ·subst k7;rw[show YO 7=false from rfl] at hf;rw[show YL 7=false from rfl] at hw;clear bU bV;have hput:U3 ⟨7,id,src,dst,name,v⟩=UInt8.ofNat 7::(Xq id):=by unfold U3;simp[YO,YL]
  rw[hput];clear hput hok;generalize Xq id=w0 at*;obtain⟨vk,vn,vd,vs,vl⟩:=v;simp only[Xu,Xt] at*;refine ZC1 func98 ntmps98 fun E=> ?_;refine Yh ?_;refine Quc ?_;refine Qua ?_;refine QUc ?_;exact X3 ⟨_,Xe 2 (y:= .d (Xc (UInt8.ofNat 7::(w0)))) (ZzQ (by refine Eq.trans (b:=AVal.d (.sl 1 (_))) rfl ?_;show _=AVal.d (.sl 1 ((UInt8.ofNat 7::(w0)).map X6));simp only[map_append,map_cons,map_nil,AS,cons_append,nil_append]<;>rfl)),⟨rfl,TV⟩,X5 _⟩
 by_cases k8:op=8
 ·subst k8;rw[show YO 8=true from rfl] at hf;rw[show YL 8=true from rfl] at hw;clear bU bV;have hnm:=hnm rfl;have cJ:=X56 name Oa;have dO:=X2v hnm;have hvl:=hvl rfl;have aE:=XgC v hok Oa;unfold X7v at aE;have hlv:J (UP v)<=111:=by
   unfold UP;rw[PI hvl.1];exact hvl.2
  have hput:U3 ⟨8,id,src,dst,name,v⟩=UInt8.ofNat 8::(Xq id++Ys name++UP v):=OY
  rw[hput];clear hput hok;generalize Xq id=w0 at*;generalize Ys name=w1 at*;generalize UP v=w2 at*;obtain⟨vk,vn,vd,vs,vl⟩:=v;simp only[Xu,Xt] at*;refine ZC1 func98 ntmps98 fun E=> ?_;refine Yh ?_;refine Qvc ?_;refine Qab ?_;refine QUc ?_;exact X3 ⟨_,Xe 2 (y:= .d (Xc (UInt8.ofNat 8::(w0++w1++w2)))) (ZzQ (by refine Eq.trans (b:=AVal.d (.sl 1 (_))) rfl ?_;show _=AVal.d (.sl 1 ((UInt8.ofNat 8::(w0++w1++w2)).map X6));simp only[map_append,map_cons,map_nil,AS,cons_append,nil_append]<;>rfl)),⟨rfl,TV⟩,X5 _⟩
 omega
def Xnk (r:Rul):Con prog 95 [] [Yu r] [] (.d (Xc (cu r))):=by
 have hc:=X8p r;unfold cu;by_cases h:Uu r=0
 case neg=>
  rw[NI h];refine ZC1 func95 ntmps95 fun E=> ?_;generalize Uu r=e at*;obtain⟨k,n,name,key,src,dst⟩:=r;simp only[Yu] at*;exact QMa
 rw[PI h];rw[h] at hc;obtain⟨hn,⟨l1,l2,l3,l4⟩,hk⟩:=X8o h;obtain⟨k,n,name,key,src,dst⟩:=r;simp only at hn l1 l2 l3 l4 hk;obtain⟨m,rfl⟩:∃m:Nat,k=m:=⟨k.toNat,Oa⟩
 have e8:n8 (m%256)=n8 (UInt8.ofNat m).toNat:=Ia
 have p1:=X56 name Oa;have p2:=X56 key Oa;have p3:=X56 src Oa;have p4:=X56 dst Oa;have p5:=X7p n hn;have q1:=X2v l1;have q2:=X2v l2;have q3:=X2v l3;have q4:=X2v l4;have q5:=X8m hn;have hput:VN ⟨m,n,name,key,src,dst⟩=UInt8.ofNat m::(Ys name++Ys key++Ys src++Ys dst++U5 n):=rfl;rw[hput];clear hput h;generalize Ys name=w0 at*;generalize Ys key=w1 at*;generalize Ys src=w2 at*;generalize Ys dst=w3 at*;generalize U5 n=w4 at*;simp only[Yu] at*;refine ZC1 func95 ntmps95 fun E=> ?_;refine Yh ?_;(refine Z1 (u:=nj m) (r:=n8 (UInt8.ofNat m).toNat) ?_ (hr:=by exact by rw[<-e8];exact Ui rfl rfl));refine Qqc ?_;refine QU ?_;refine QUc ?_;exact X3 ⟨_,Xe 2 (y:= .d (Xc (UInt8.ofNat m::(w0++w1++w2++w3++w4)))) (ZzQ (by refine Eq.trans (b:=AVal.d (.sl 1 (_))) rfl ?_;show _=AVal.d (.sl 1 ((UInt8.ofNat m::(w0++w1++w2++w3++w4)).map X6));simp only[map_append,map_cons,map_nil,AS,cons_append,nil_append]<;>rfl)),⟨rfl,TV⟩,X5 _⟩
end Go.Fw

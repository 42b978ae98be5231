/- Checkpoints, in plain Lean: what the functions compute. -/
import Derived.KernelRfl
import Derived.Test.YtfmfekakaeafhaaGreatDoorP08
import Derived.Test.YtfmfekakaeafhaaGreatDoorP31
import Derived.Test.YtfmfekakaeafhaaGreatDoorP43
import Derived.Test.YtfmfekakaeafhaaGreatDoorP47
set_option linter.all false
set_option maxHeartbeats 64000000
namespace Go.Fw
open Go List
open List renaming length->J
def dj (d:ak) (s:Sta) (l:List Rcd):List ak:=if (YF d s l).2.2≠0 then [] else (Yy d (Xo d:Nat) (J d.aa:Nat) s.ep s.tail l).1
open Go Go.Proofs Tryz
open List renaming length->J
def Xni:prog.cellsOf 99=10:=Oh
section
variable {H:Type}{enc:TypeId×Value->H}{W:World}
def XpX:Opens enc prog W 99 X4G Xp:=
 (X4b underlying99 Xni
  (UQ rfl X10 (X0X underlying3) (UQ rfl X10 (X0X underlying3) (UQ rfl X10 (X0X underlying3) (UQ rfl X10 (X0X underlying3)
   (UQ rfl X5t (X5j underlying9) (UQ rfl Xbi Xk9 X47))))))).to
  (fun r=>⟨r.1,r.2.1,r.2.2.1,r.2.2.2.1,r.2.2.2.2.1,r.2.2.2.2.2.1⟩) fun r h=>⟨⟨h.2.2.2.2.1,h.2.2.2.2.2.1⟩,by
   obtain⟨op,id,src,dst,name,v,u⟩:=r;cases v;rfl⟩
def Xqx:prog.cellsOf 66=1:=Oh
def XoU:prog.cellsOf 70=10:=Oh
def XrT:Opens enc prog W 66 (fun l:List Chg=>(∀c∈l,X4G c)/\J l<=9223372036854775807) (fun l=>[.sl 10 (l.map Xp)]):=
 X4y fun n=>X5c underlying66 Xni Oi fun m _=>XpX.at m
def Xzo:Opens enc prog W 70 X0z Y6:=
 (X4b underlying70 XoU
  (UQ rfl X10 (X0X underlying3) (UQ rfl X10 (X0X underlying3) (UQ rfl Xqx XrT
   (UQ rfl Xg6 Xny (UQ rfl XfQ (XgT underlying4) X47)))))).to
  (fun r=>⟨r.1,r.2.1,r.2.2.1,r.2.2.2.1,r.2.2.2.2.1⟩) fun r h=>⟨⟨h.2.2.1.2,h.2.2.1.1⟩,rfl⟩
set_option maxRecDepth 100000
def Xvw (bs:List (List UInt8)):∀(d:ak) (a:Nat),DOk d->a+J bs<=J d.aa->(∀c∈bs,J c=64)->J d.pending+J bs<=4096->∀x∈cD d a bs,DOk x/\X05 x/\J x.aa=J d.aa:=by
 induction bs with
 |nil=>
  intro d a h _ _ hp x hx;simp only[cD,mem_singleton] at hx;subst hx;exact⟨h,X5x h.v (by simpa using hp),rfl⟩
 |cons b bs ih=>
  intro d a h hl hc hp x hx;rw[LC] at hl hp;rw[cD,mem_cons] at hx;rcases hx with rfl|hx
  ·exact⟨h,X5x h.v Oa,rfl⟩
  ·have:=ih (X0H d a b) (a+1) (X8A h Oa (hc b Oc)) (by show a+1+J bs<=J d.aa;omega) (fun c q=>hc c Ip)
    (by show J (d.pending++[(⟨(a:Nat),b⟩:Wr)])+J bs<=4096;rw[LA,length_singleton];omega) x hx
   exact⟨this.1,this.2.1,this.2.2⟩
variable{d:ak}{ep f t tail:Int}{l:List Rcd}
def Xo6 (hf:Vx d) (h:(Yy d f t ep tail l).2.2=0):∀x∈(Yy d f t ep tail l).1,DOk x/\X05 x/\J x.aa=J d.aa:=by
 obtain⟨s1,s2,s3,s4⟩:=X3N h;obtain⟨hd,h1,h2,h3,h4,h5,h6,h7⟩:=X76 s1;rw[s4];simp only;obtain⟨k1,k2,k3⟩:=X5g (A:=Xv ep l) hd h1 h2 h3 h6 s3;intro x hx;have f1:=hf.1;have f2:=hf.2;unfold X3O at hx;rw[mem_append,mem_singleton] at hx;rcases hx with hx|rfl
 ·exact Xvw _ d _ hd k1 k2 Oa x hx
 ·have hl:=X2J _ d _ hd k1 k2;obtain⟨m1,m2,m3⟩:=X4S hl;exact⟨m1,X5x m1.v (by rw[m3];simp),m2.trans (by rw[(X1n _ d _).1])⟩
def XhL (hf:Vx d):J (Yy d f t ep tail l).1<=5000:=by
 by_cases he:(Yy d f t ep tail l).2.2=0
 ·exact Xbd hf he
 ·rw[(X81 he).1];simp
def Xjm (b:List UInt8) (hb:J b<=1000000):Con prog 125 [] [.d (Xc b)] [] (.d (Xc b)):=by
 refine ZC1 func125 ntmps125 fun E=> ?_;have hlm:J (b.map X6)=J b:=Oc
 generalize hX:b.map X6=xs at*;have e:Xc b= .sl 1 xs:=by rw[<-hX]
 rw[e];refine XA ?_;refine X6i rfl (fun h=> ?_) (fun _=> ?_)
 ·subst h;refine W4_ ?_;refine X3 ?_;exact⟨_,Xe 2 (AVal.le_nil 1),⟨rfl,TV⟩,X5 _⟩
 ·refine W3_ ?_;refine Qqc ?_;refine W4_ ?_;refine X3 ?_;exact⟨_,St.le_trans (XI 130 rfl) (XX 2 130 rfl rfl Oc),⟨rfl,TV⟩,X5 _⟩
def Xre (d:ak) (hl:X05 d):Con prog 70 [] [XY d] [] (XY d):=by
 refine ZC1 func70 ntmps70 fun E=> ?_;obtain⟨secs,af,on⟩:=d;obtain⟨h1,h2,h3,h4⟩:=hl;simp only at h1 h2 h3 h4;have aU:J (secs.map Yd)=J secs:=Oc
 have gH:J (af.map cWr)=J af:=Oc
 refine YJ ?_;refine X8 (X1Y 102 0 120 1 (cs:=[aq,aq,ab on]) rfl rfl rfl rfl rfl) ?_;refine X8 (X1Y 102 1 121 2 (cs:=[.own 120 0,aq,ab on]) rfl rfl rfl rfl rfl) ?_
 refine Xl (fun i:Nat=>i<=J secs) (fun i=>⟨46,[(1,.ptr 100 0),(2,.ptr 101 0),(3,.ptr 102 0),(12,.d (XS secs)),(13,ai (J (secs.map Yd))),(14,ai i)],[(100,.box [.d (XS secs),.d (XW af),ab on]),(101,.box [aq,aq,ab false]),(102,.box [.own 120 (J ((secs.take i).map Yd)),.own 121 0,ab on]),(120,.row 1 ((secs.take i).map Yd)),(121,.row 2 [])]⟩) (fun i=>J secs-i) 0 (Nat.zero_le _)
  (ZL0) ?_
 intro i hi;have hroom:J ((secs.take i).map Yd)<=4096:=IT
 by_cases hil:i<J secs
 case pos=>
  have hn:(i:Int)<J (secs.map Yd):=Oa
  obtain⟨x,hx⟩:=Xn (l:=secs) hil;have au:(secs.map Yd)[i]? =some (Yd x):=XC hx;have hst:(secs.take (i+1)).map Yd=(secs.take i).map Yd++[Yd x]:=by rw[X7H hx,map_append];rfl
  have hc:=Xjm x (by have:=h3 x (mem_of_getElem? hx);omega);clear hx h3 h4;refine YG ?_;refine⟨i+1,hil,Oa,?_⟩;dsimp only;rw[hst];exact X9 rfl JM ⟨rfl,rfl,(by refine Eq.trans (b:=AObj.box [.own 120 (_+_),.own 121 0,ab on]) rfl ?_;rw[LA]),rfl,rfl,TV⟩
 obtain rfl:i=J secs:=Oa
 have hn:¬((J secs:Nat):Int)<J (secs.map Yd):=Oa
 rw[take_length];refine Yr ?_
 refine Xl (fun i:Nat=>i<=J af) (fun i=>⟨46,[(1,.ptr 100 0),(2,.ptr 101 0),(3,.ptr 102 0),(27,.d (XW af)),(28,ai (J (af.map cWr))),(29,ai i)],[(100,.box [.d (XS secs),.d (XW af),ab on]),(101,.box [aq,aq,ab false]),(102,.box [.own 120 (J (secs.map Yd)),.own 121 (J ((af.take i).map cWr)),ab on]),(120,.row 1 (secs.map Yd)),(121,.row 2 ((af.take i).map cWr))]⟩) (fun i=>J af-i) 0 (Nat.zero_le _)
  (ZL0) ?_
 clear hn hi hil hroom;intro i hi;have hroom:J ((af.take i).map cWr)<=4096:=IT
 by_cases hil:i<J af
 case pos=>
  have hn:(i:Int)<J (af.map cWr):=Oa
  obtain⟨x,hx⟩:=Xn (l:=af) hil;have au:(af.map cWr)[i]? =some (cWr x):=XC hx;have hst:(af.take (i+1)).map cWr=(af.take i).map cWr++[cWr x]:=by rw[X7H hx,map_append];rfl
  have hc:=Xjm x.b (by have:=h4 x (mem_of_getElem? hx);omega);clear hx h3 h4;obtain⟨wa,wb⟩:=x;simp only at hc;refine VM ?_;refine⟨i+1,hil,Oa,?_⟩;dsimp only;rw[hst];exact X9 rfl JM ⟨rfl,rfl,(by refine Eq.trans (b:=AObj.box [.own 120 _,.own 121 (_+_),ab on]) rfl ?_;rw[LA]),rfl,rfl,TV⟩
 obtain rfl:i=J af:=Oa
 have hn:¬((J af:Nat):Int)<J (af.map cWr):=Oa
 rw[take_length];refine W8_ ?_;refine X8 (XI 120 rfl) ?_;refine X8 (VR 102 0 120 (cs:=[.own 120 (J (secs.map Yd)),.own 121 (J (af.map cWr)),ab on]) (sz:=1) (xs:=secs.map Yd) rfl rfl rfl rfl) ?_;refine X8 (XI 121 rfl) ?_;refine X8 (VR 102 1 121 (cs:=[.d (XS secs),.own 121 (J (af.map cWr)),ab on]) (sz:=2) (xs:=af.map cWr) rfl rfl rfl rfl) ?_;refine W4_ ?_;exact Qnb
def Xtl (d:ak) (f t ep tail:Int) (l:List Rcd) (hf:Vx d) (hr:∀r∈l,X46 r) (hl:J l<=1000):Con prog 42 [] [XY d,ai f,ai t,ai ep,ai tail,.d (.sl 10 (l.map Y6))]
  [] (.d (.sl 3 ((Yy d f t ep tail l).1.map XO))):=by
 refine ZC1 func42 ntmps42 fun E=> ?_;have c1:=XiT d f t ep tail l hf hr hl;have hok:∀x∈(Yy d f t ep tail l).1,X05 x:=fun x hx=>by
  by_cases he:(Yy d f t ep tail l).2.2=0
  ·exact(Xo6 hf he x hx).2.1
  ·rw[(X81 he).1] at hx;simp at hx
 have iQ:=XhL hf (f:=f) (t:=t) (ep:=ep) (tail:=tail) (l:=l);generalize (Yy d f t ep tail l).1=T at*;generalize (Yy d f t ep tail l).2.1=z at*;generalize (Yy d f t ep tail l).2.2=e at*;clear hf hr;obtain⟨secs,af,on⟩:=d;have hlm:J (T.map XO)=J T:=Oc
 have hall:∀r∈T.map XO,J r=3:=by
  intro r hr;obtain⟨p,_,rfl⟩:=mem_map.1 hr;rfl
 refine UI ?_;clear c1
 refine Xl (fun i:Nat=>i<=J T) (fun i=>⟨43,[(13,.own 133 (J (T.map XO))),(28,.own 133 (J (T.map XO))),(29,ai (J (T.map XO))),(30,ai i)],[(133,.row 3 (T.map XO))]⟩) (fun i=>J T-i) 0 (Nat.zero_le _)
  (ZL0) ?_
 intro i hi;by_cases hil:i<J T
 case neg=>
  have hn:¬(i:Int)<J (T.map XO):=Oa
  refine XG ?_;refine X8 (XI 133 rfl) ?_;refine X8 (XX 12 133 rfl rfl rfl) ?_
  (exact Zz2)
 have hn:(i:Int)<J (T.map XO):=Oa
 have v8:i<J (T.map XO):=Oa
 have h0:0<J (T.map XO):=Oa
 obtain⟨x,hx⟩:=Xn (l:=T) hil;have au:(T.map XO)[i]? =some (XO x):=XC hx;have hpart:=X9U hall au (o:=0) (q:=3) Oa;have hroom:i*3+3<=J (T.map XO)*3:=Oa
 have hys:((T.map XO).flatten.drop (i*3)).take 3=[XS x.aa,XW x.pending,.v (.bool x.on)]:=by
  rw[Nat.add_zero] at hpart;rw[hpart];simp[XO]
 have jx:=Xre x (hok x (mem_of_getElem? hx));clear hx au hpart hall hok;obtain⟨xs,xp,xo⟩:=x;simp only at hys;generalize T.map XO=L at*;refine YS ?_;refine Qbd ?_;refine X5A (q:=3) (ys:=[XS xs,XW xp,.v (.bool xo)]) (hg:=JSa) (hx:=JSb) (hL:=JSb) (hn:=JSe) (h0:=JSh) (ht:=JSb) (hd:=JSb) ?_ (hb:=by exact hroom) (hys:=by exact hys);refine W1_ ?_;refine Qbd ?_;refine XqP (q:=3) (ys:=[XS xs,XW xp,.v (.bool xo)]) (hg:=JSa) (hx:=JSb) (hL:=JSb) (hv:=JSb) (hn:=JSe) (h0:=JSh) (ht:=JSb) ?_ (hb:=by exact hroom) (hys:=by exact hys);refine W5_ ?_;exact QDd
def Xmp (d:ak) (s:Sta) (l:List Rcd) (hs:StaHold s) (hf:Vx d) (hl:J l<=1000) (hr:∀r∈l,X6T r):Con prog 16 [] [XY d,Xz s,.d (.sl 10 (l.map Y6))] [] (.d (.sl 3 ((dj d s l).map XO))):=by
 refine ZC1 func16 ntmps16 fun E=> ?_;have h1:=X98 d s l hs hf hl hr;unfold dj;by_cases q:(YF d s l).2.2=0
 case neg=>
  exact Yt24
 rw[NI Ip];have q1:UH d=0:=by
  by_cases h:UH d=0
  ·exact h
  ·rw[show YF d s l=(Ur,XT,UH d) from PI h] at q;exact absurd q h
 obtain⟨o1,o2,o3⟩:=X82 q1;have aD:=X5r (J d.aa:Nat);rw[X39 o2 o3] at aD;have ht:=Xtl d (Xo d:Nat) (J d.aa:Nat) s.ep s.tail l hf (fun r h=>XcR (hr r h)) hl;have aU:J (d.aa.map Yd)=J d.aa:=LM ..;rw[q] at h1;clear hs hf hr q q1 o1 o2;generalize (YF d s l).1=X at*;generalize (YF d s l).2.1=Y at*;generalize (Yy d (Xo d:Nat) (J d.aa:Nat) s.ep s.tail l).1=TT at*;generalize Xx d=SN at*;generalize Xo d=LN at*;rw[<-aU] at aD ht;obtain⟨xs,xp,xo⟩:=X;obtain⟨⟨yn,ye,ck,cm⟩,yr,yt,yp,yl⟩:=Y;obtain⟨secs,af,on⟩:=d;obtain⟨⟨ns,es,nn,ne⟩,rs,ts,ep,tail⟩:=s;simp only[Xz] at*;generalize TT.map XO=W at*;refine Qma ?_
 (exact Zz2)
def X26 (l:List Rcd):Bool:=decide (J l<=12)&&l.all fun r=>decide (J r.changes<=30)
def Xgx (h:X26 l=true):J l<=12/\∀r∈l,J r.changes<=30:=by
 unfold X26 at h;rw[Bool.and_eq_true,decide_eq_true_eq,all_eq_true] at h;exact⟨h.1,fun r hr=>by simpa using h.2 r hr⟩
def Xhu (l:List Rcd) (hl:J l<=9223372036854775807):Con prog 9 [] [.d (.sl 10 (l.map Y6))] [] (ab (X26 l)):=by
 refine ZC1 func9 ntmps9 fun E=> ?_;have hlm:J (l.map Y6)=J l:=Oc
 unfold X26;by_cases q:J l<=12
 case neg=>
  rw[DF q,Bool.false_and];have q':(J (l.map Y6):Int)>12:=Oa
  refine Yr ?_
  (exact Zz2)
 rw[DT q,Bool.true_and];have q':¬(J (l.map Y6):Int)>12:=Oa
 generalize hG:(l.all fun r=>decide (J r.changes<=30))=G;refine YS ?_
 refine Xl (fun i:Nat=>i<=J l/\((l.drop i).all fun r=>decide (J r.changes<=30))=G) (fun i=>⟨20,[(0,.d (.sl 10 (l.map Y6))),(3,ai i)],[]⟩) (fun i=>J l-i) 0 ⟨Nat.zero_le _,hG⟩
  (ZL0) ?_
 rintro i ⟨hi,hg⟩;by_cases hil:i<J l
 case neg=>
  obtain rfl:i=J l:=Oa
  have hn:¬((J l:Nat):Int)<J (l.map Y6):=Oa
  rw[drop_length,all_nil] at hg;subst hg;refine XD ?_
  (exact Zz2)
 have hn:(i:Int)<J (l.map Y6):=Oa
 obtain⟨x,hx⟩:=Xn (l:=l) hil;have au:(l.map Y6)[i]? =some (Y6 x):=XC hx;rw[Xca hx] at hg;have fk:J (x.changes.map Xp)=J x.changes:=LM ..;obtain⟨kd,ts,cl,⟨k,n,name,key,src,dst⟩,off⟩:=x;simp only[Y6] at au fk hg;clear hx;by_cases h:J cl<=30
 ·rw[DT h,Bool.true_and] at hg;have h':¬(J (cl.map Xp):Int)>30:=by omega
  refine YG ?_;exact Qle
 ·rw[DF h,Bool.false_and] at hg;subst hg;have h':(J (cl.map Xp):Int)>30:=by omega
  refine YT ?_
  (exact Zz2)
def Xfb:Opens enc prog W 33 (fun l:List Rcd=>(∀r∈l,X0z r)/\J l<=9223372036854775807) (fun l=>[.sl 10 (l.map Y6)]):=
 X4y fun n=>X5c underlying33 XoU Oi fun m _=>Xzo.at m
end
end Go.Fw

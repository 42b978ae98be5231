/- States compared; the laws' tests of size. -/
import Derived.KernelRfl
import Derived.Test.YtfmfekakaeafhaaGreatDoorP48
import Derived.Test.YtfmfekakaeafhaaGreatDoorP53
import Derived.Test.YtfmfekakaeafhaaGreatDoorP55
set_option linter.all false
set_option maxHeartbeats 256000000
namespace Go.Fw
open Go Go.Proofs Tryz List
open List renaming length->J
set_option maxRecDepth 100000
def X1g (p:Stp):List D:=[.v (.bool p.save),.sl 10 (p.l.map Y6)]
def Xyp (n:Int) (l:List Stp) (hl:J l<=9223372036854775807) (hr:∀p∈l,J p.l<=9223372036854775807):Con prog 18 [] [ai n,.d (.sl 2 (l.map X1g))] [] (ab (X7w n l)):=by
 refine ZC1 func18 ntmps18 fun E=> ?_;have hlm:J (l.map X1g)=J l:=Oc
 unfold X7w;by_cases q1:n<16
 ·rw[DF Oa,Bool.false_and];refine YA ?_
  (exact Zz2)
 by_cases q2:n>40
 ·rw[DF Oa,Bool.false_and];refine YA ?_
  (exact Zz2)
 by_cases q:J l<=8
 case neg=>
  rw[DF Oa,Bool.false_and];have q':(J (l.map X1g):Int)>8:=Oa
  refine YA ?_
  (exact Zz2)
 rw[DT Oa,Bool.true_and];have q':¬(J (l.map X1g):Int)>8:=Oa
 generalize hG:(l.all fun p=>X26 p.l)=G;refine YT ?_
 refine Xl (fun i:Nat=>i<=J l/\((l.drop i).all fun p=>X26 p.l)=G) (fun i=>⟨30,[(1,.d (.sl 2 (l.map X1g))),(5,ai i)],[]⟩) (fun i=>J l-i) 0 ⟨Nat.zero_le _,hG⟩
  (ZL0) ?_
 rintro i ⟨hi,hg⟩;by_cases hil:i<J l
 case neg=>
  obtain rfl:i=J l:=Oa
  have hn:¬((J l:Nat):Int)<J (l.map X1g):=Oa
  rw[drop_length,all_nil] at hg;subst hg;refine XD ?_
  (exact Zz2)
 have hn:(i:Int)<J (l.map X1g):=Oa
 obtain⟨x,hx⟩:=Xn (l:=l) hil;have au:(l.map X1g)[i]? =some (X1g x):=XC hx;have hf:=Xhu x.l (hr x (mem_of_getElem? hx));rw[Xca hx] at hg;obtain⟨sv,rl⟩:=x;simp only[X1g] at au hf hg;clear hx;generalize X26 rl=b at*;cases b with
 |true=>
  rw[Bool.true_and] at hg;refine YG ?_;exact Qle
 |false=>
  rw[Bool.false_and] at hg;subst hg;refine YT ?_
  (exact Zz2)
def XzD:prog.cellsOf 33=1:=Oh
def Xog:prog.cellsOf 82=2:=Oh
section
variable {H:Type}{enc:TypeId×Value->H}{W:World}
def XxG:Opens enc prog W 48 (fun l:List Int=>J l<=9223372036854775807) (fun l=>[X8H l]):=
 X4y fun n=>(X5c underlying48 X10 Oi fun m _=>(X0X underlying3).at m).to id fun _ h=>⟨h.2,rfl⟩
def Xlg (p:Stp):Prop:=(∀r∈p.l,X0z r)/\J p.l<=9223372036854775807
def Xtk:Opens enc prog W 82 Xlg X1g:=
 (X4b underlying82 Xog
  (UQ rfl XfQ (XgT underlying4) (UQ rfl XzD Xfb X47))).to
  (fun r=>⟨r.1,r.2.1⟩) fun r h=>⟨h.2.1,rfl⟩
def Xsb:Opens enc prog W 47 (fun l:List Stp=>(∀p∈l,Xlg p)/\J l<=9223372036854775807) (fun l=>[.sl 2 (l.map X1g)]):=
 X4y fun n=>X5c underlying47 Xog Oi fun m _=>Xtk.at m
end
def X60 (d:ak) (s:Sta):AVal:= .agg [.d (XS d.aa),.d (XW d.pending),ab d.on,.d (.sl 3 (s.g.nodes.map Xi)),.d (.sl 5 (s.g.aj.map Xk)),ai s.g.nn,ai s.g.ne,.d (.sl 6 (s.rules.map Xh)),ai s.ts,ai s.ep,ai s.tail]
def Xt4 (d:ak) (s:Sta) (hd:DOk d) (hp:d.pending=[]) (aQ:16<=J d.aa) (hl:J d.aa<=2000) (h0:0<=s.tail/\s.tail<=262144) (hz:X4x (XV d (Xo d:Nat) (J d.aa:Nat)) s.tail.toNat):Con prog 44 [] [X60 d s] [] (ab true):=by
 refine ZC1 func44 ntmps44 fun E=> ?_;have aD:=X6n (J d.aa:Nat);rw[X39 aQ Oa] at aD;have aY:=fun i h1 h2=>Xui hd hp aQ hz (i:=i) h1 h2;obtain⟨l1,l2,l3⟩:=X0m aQ;have hsz:∀b∈d.aa,J b=64:=(X2j hd.v).2.2.1;have aU:J (d.aa.map Yd)=J d.aa:=LM ..;rw[<-aU] at aD;obtain⟨T,hT⟩:∃T:Nat,s.tail=T:=⟨s.tail.toNat,Oa⟩
 rw[hT,Int.toNat_natCast] at aY;have bN:T<=262144:=Oa
 clear hd hp hz h0;generalize Xx d=SN at*;generalize Xo d=LN at*;obtain⟨secs,af,on⟩:=d;obtain⟨⟨ns,es,nn,ne⟩,rs,ts,ep,tail⟩:=s;simp only at hT l1 aU aQ hl aY hsz;subst hT;simp only[X60] at*;refine YA ?_;refine ZBM LN 64 ?_;refine W3_ ?_;clear aD
 refine Xl (fun i:Nat=>LN*64<=i/\i<=J secs*64) (fun i=>⟨58,[(1,.ptr 100 0),(4,ai (LN:Nat)),(6,ai i)],[(100,.box [.d (XS secs),.d (XW af),ab on,.d (.sl 3 (ns.map Xi)),.d (.sl 5 (es.map Xk)),ai nn,ai ne,.d (.sl 6 (rs.map Xh)),ai ts,ai ep,ai (T:Nat)])]⟩) (fun i=>J secs*64-i) (LN*64) ⟨Nat.le_refl _,Oa⟩
  (ZL0) ?_
 rintro i ⟨h1,h2⟩;by_cases hil:i<J secs*64
 case neg=>
  have hn:¬(i:Int)<((J (secs.map Yd)*64:Nat):Int):=Oa
  refine W8_ ?_;refine ZBM (J (secs.map Yd)) 64 ?_;refine W8_ ?_
  (exact Zz2)
 have hn:(i:Int)<((J (secs.map Yd)*64:Nat):Int):=Oa
 obtain⟨b,hb⟩:∃b,secs[i/64]? =some b:=⟨_,getElem?_eq_getElem Oa⟩
 have hbc:(secs.map Yd)[i/64]? =some (Yd b):=XC hb;have bx:=hsz b (mem_of_getElem? hb);have iL:J (b.map X6)=J b:=LM ..;simp only[Yd] at hbc;by_cases hT:LN*64+T<=i
 case neg=>
  have uH:¬(i:Int)≥((LN*64+T:Nat):Int):=Oa
  clear aY;refine W8_ ?_;refine ZBM (J (secs.map Yd)) 64 ?_;refine XG ?_;refine ZBq i 64 ?_;refine W8_ ?_;refine ZBM LN 64 ?_;refine W3_ ?_;refine ZBA (LN*64) T ?_;refine W8_ ?_;refine Qu ?_;refine Qt ?_;refine XA ?_;exact⟨i+1,⟨Oa,Oa⟩,Oa,ZL0⟩
 obtain⟨b',g1,g2,g3⟩:=aY i hT hil;rw[hb] at g1;cases g1;have ng:(b.map X6)[i%64]? =some (X6 0):=XC g3;have uH:(i:Int)≥((LN*64+T:Nat):Int):=Oa
 have hm':¬((i%64:Nat):Int)≥(J (b.map X6):Nat):=Oa
 simp only[X6] at ng;clear aY;refine W8_ ?_;refine ZBM (J (secs.map Yd)) 64 ?_;refine XG ?_;refine ZBq i 64 ?_;refine W8_ ?_;refine ZBM LN 64 ?_;refine W3_ ?_;refine ZBA (LN*64) T ?_;refine W3_ ?_;refine Z4 (op:= .rem) (r':=ni (i%64)) (u:=ni i) (v:=ni 64) ?_ (hr:=OE);refine W6_ ?_;refine Z4 (op:= .rem) (r':=ni (i%64)) (u:=ni i) (v:=ni 64) ?_ (hr:=OE);refine XK ?_;exact⟨i+1,⟨Oa,Oa⟩,Oa,ZL0⟩
structure AftC (n:Int) (x:ak×Sta):Prop where
 hold:StaHold x.2
 few:Vx x.1
 short:J x.1.aa<=2000/\J x.1.pending<=500
 zero:Con prog 44 [] [X60 x.1 x.2] [] (ab true)
 rcv:Con prog 22 [] [XY x.1] [] (.tup [Xz x.2,ai 0])
 same:Con prog 14 [] [Xz x.2,Xz x.2] [] (ab true)
 af:J (x.1.pending.map cWr)=0
def Xh7 {n:Int}{x:ak×Sta} (h:After n x):AftC n x:=by
 obtain⟨s0,m,g,hm⟩:=h.g;obtain⟨k1,k2,k3,k4⟩:=g.kept;have hr:=Xsa h;have hh:=X6j k1;have hf:=g.log.few;have hrc:=X9z x.1 hf;rw[hr] at hrc;have hz:X4x (XV x.1 (Xo x.1:Nat) (J x.1.aa:Nat)) x.2.tail.toNat:=by
  have h1:=g.log.str;have h2:=g.log.tl;have h3:=g.log.room;unfold X4x;rw[h1,h2,Int.toNat_natCast,drop_left' rfl,LA,length_replicate];congr 1;omega
 exact⟨hh,hf,⟨hf.1,by rw[h.af];simp⟩,Xt4 x.1 x.2 g.log.ok h.af g.lay g.log.len ⟨k3,k4⟩ hz,hrc,X8E x.2 hh,by rw[h.af];rfl⟩
def XrJ (n:Int) (l:List Stp) (hb:X7w n l=true) (hr:∀p∈l,∀r∈p.l,X0z r):Con prog 19 [] [ai n,.d (.sl 2 (l.map X1g))] [] (.tup [X60 (U4 n l).1 (U4 n l).2,ab true]):=by
 refine ZCt func19 ntmps19 fun E=> ?_;obtain⟨b1,b2,b3,b4⟩:=XiN hb;have hF:=XkV n Oa;have dh:=XnX (n:=n) b1 Oa;have sJ:=(Xea (n:=n) b1 Oa).1;rw[sJ] at hF;have hlm:J (l.map X1g)=J l:=Oc
 have hrun:U4 n l=l.foldl X2Y ((X0F n).1,(X0F n).2.1):=rfl;generalize U4 n l=X at*;generalize (X0F n).1=D0 at*;generalize (X0F n).2.1=S0 at*;unfold X60;refine X0r ?_;clear hF
 refine Xl (ι:=Nat×ak×Sta) (fun q=>q.1<=J l/\X=(l.drop q.1).foldl X2Y q.2/\After n q.2) (fun q=>⟨98,[(1,.d (.sl 2 (l.map X1g))),(4,.ptr 100 0),(9,.ptr 103 0),(10,ab true),(11,ai q.1)],[(100,.box [aq,aq,ab false,aq,aq,ai 0,ai 0,aq,ai 0,ai 0,ai 0]),(103,.box [.d (XS q.2.1.aa),.d (XW q.2.1.pending),ab q.2.1.on,.d (.sl 3 (q.2.2.g.nodes.map Xi)),.d (.sl 5 (q.2.2.g.aj.map Xk)),ai q.2.2.g.nn,ai q.2.2.g.ne,.d (.sl 6 (q.2.2.rules.map Xh)),ai q.2.2.ts,ai q.2.2.ep,ai q.2.2.tail])]⟩) (fun q=>J l-q.1) (0,D0,S0) ⟨Nat.zero_le _,by simpa using hrun,dh⟩
  (ZL0) ?_
 clear hrun dh sJ hb;rintro⟨i,x⟩ ⟨hi,hg,hA⟩;simp only at hi hg hA;by_cases hil:i<J l
 case neg=>
  have hn:¬(i:Int)<J (l.map X1g):=Oa
  rw[drop_of_length_le Oa,foldl_nil] at hg;subst hg;refine YV ?_;exact X3 ⟨_,ZzS,⟨⟨100,0,_,rfl,rfl,.inr ⟨11,_,rfl,rfl,rfl,rfl⟩⟩,rfl,TV⟩,X5 _⟩
 have hn:(i:Int)<J (l.map X1g):=Oa
 obtain⟨p,hp⟩:=Xn (l:=l) hil;have aX:(l.map X1g)[i]? =some (X1g p):=XC hp;have gH:=mem_of_getElem? hp;have mM:=b4 p gH;obtain⟨hrF,hrl⟩:=XgK mM (hr p gH);have dP:l.drop i=p::l.drop (i+1):=by
  obtain⟨h1,h2⟩:=GS.1 hp;rw[drop_eq_getElem_cons h1,h2]
 rw[dP,foldl_cons] at hg;have hN:=XhN hA mM;have C:=Xh7 hA;have CN:=Xh7 hN;have c1:=X98 x.1 x.2 p.l C.hold C.few hrl hrF;have c2:=Xpc x.1 x.2 C.hold C.short;have c3:=CN.rcv;have c4:=CN.same;have c5:=CN.zero;have c6:=CN.af;clear CN C dP hrF hrl mM gH hr b4 hA;unfold X60 at c5;obtain⟨sv,rl⟩:=p;simp only[X1g] at aX c1;cases sv with
 |true=>
  by_cases he:(Up x.1 x.2).2.2=0
  ·have hx:X2Y x ⟨true,rl⟩=((Up x.1 x.2).1,(Up x.1 x.2).2.1):=by
    unfold X2Y;simp only[if_true];rw[PI he]
   rw[hx] at c3 c4 c5 c6 hN hg;rw[he] at c2;generalize YF x.1 x.2 rl=A at*;generalize (Up x.1 x.2).1=Y at*;generalize (Up x.1 x.2).2.1=Z at*;clear hx he;simp only at c3 c4 c5 c6;have c7:(J (Y.pending.map cWr):Int)=0:=Oa
   refine QYa ?_;refine W3_ ?_;refine Qef ?_;exact⟨(i+1,Y,Z),⟨Od,hg,hN⟩,Od,ZL0⟩
  ·have hx:X2Y x ⟨true,rl⟩=x:=by
    unfold X2Y;simp only[if_true];rw[NI he]
   rw[hx] at c3 c4 c5 c6 hN hg;generalize YF x.1 x.2 rl=A at*;generalize Up x.1 x.2=B at*;have c7:(J (x.1.pending.map cWr):Int)=0:=Oa
   refine X4 ?_;refine UA ?_;refine Qef ?_;exact⟨(i+1,x),⟨Od,hg,hN⟩,Od,ZL0⟩
 |false=>
  clear c2;by_cases he:(YF x.1 x.2 rl).2.2=0
  ·have hx:X2Y x ⟨false,rl⟩=((YF x.1 x.2 rl).1,(YF x.1 x.2 rl).2.1):=by
    unfold X2Y;simp only[Bool.false_eq_true,if_false];rw[PI he]
   rw[hx] at c3 c4 c5 c6 hN hg;rw[he] at c1;generalize (YF x.1 x.2 rl).1=Y at*;generalize (YF x.1 x.2 rl).2.1=Z at*;clear hx he;simp only at c3 c4 c5 c6;have c7:(J (Y.pending.map cWr):Int)=0:=Oa
   refine X4 ?_;refine UI ?_;refine Qef ?_;exact⟨(i+1,Y,Z),⟨Od,hg,hN⟩,Od,ZL0⟩
  ·have hx:X2Y x ⟨false,rl⟩=x:=by
    unfold X2Y;simp only[Bool.false_eq_true,if_false];rw[NI he]
   rw[hx] at c3 c4 c5 c6 hN hg;generalize YF x.1 x.2 rl=A at*;have c7:(J (x.1.pending.map cWr):Int)=0:=Oa
   refine X4 ?_;refine YV ?_;refine Qef ?_;exact⟨(i+1,x),⟨Od,hg,hN⟩,Od,ZL0⟩
def Xk3 (x y z:Int):Int:=if x≠0 then x else if y≠0 then y else z
def Xck (a b:Val):Int:=Xk3 (YD a.kind b.kind) (YD a.n b.n) (Ul a.s b.s)
def XmY (y k c f:Int):Int:=if y≠0 then y else if k=2 then c else f
def lR (a b:Val):Int:=XmY (YD (X0p a.kind) (X0p b.kind)) a.kind (Xaa a.n b.n) (Xck a b)
open Classical in
noncomputable def dK {α:Type} (f:α->α->Bool) (l l':List α):Bool:=decide (J l=J l'/\∀(i:Nat) x y,l[i]? =some x->l'[i]? =some y->f x y=true)
def Xc2 {α:Type}{f:α->α->Bool}{l l':List α} (h:J l≠J l'):dK f l l'=false:=by
 classical
 exact DF fun q=>h q.1
variable{i:Nat}
def X3y {α:Type}{f:α->α->Bool}{l l':List α}{x y:α} (hx:l[i]? =some x) (hy:l'[i]? =some y) (h:f x y=false):dK f l l'=false:=by
 classical
 exact DF fun q=>by have:=q.2 i x y hx hy;rw[h] at this;cases this
def Xaj {α:Type}{f:α->α->Bool}{l l':List α} (hl:J l=J l') (h:∀j,j<J l->∀x y,l[j]? =some x->l'[j]? =some y->f x y=true):dK f l l'=true:=by
 classical
 exact DT ⟨hl,fun i x y hx hy=>h i (GS.1 hx).1 x y hx hy⟩
def Xak {α:Type}{f:α->α->Bool}{l l':List α}{x y:α} (hx:l[i]? =some x) (hy:l'[i]? =some y) (h:f x y=true) (hI:∀j,j<i->∀x y,l[j]? =some x->l'[j]? =some y->f x y=true):
  ∀j,j<i+1->∀x y,l[j]? =some x->l'[j]? =some y->f x y=true:=by
 intro j hj u v hu hv;by_cases q:j=i
 ·subst q;rw[hx] at hu;rw[hy] at hv;cases hu;cases hv;exact h
 ·exact hI j Oa u v hu hv
def Xt0 (s t:List UInt8):Con prog 298 [] [Xa s,Xa t] [] (ai (Ul s t)):=by
 refine ZC1 func298 ntmps298 fun E=> ?_;unfold Ul;cases h1:Op.bytesLess s t with
 |true=>
  rw[PI rfl];refine W9_ ?_;exact QHc
 |false=>
  exact Yt31
def Xqw (a b:Val) (ha:a.d=0/\a.l=[]) (hb:b.d=0/\b.l=[]):Con prog 252 [] [Xt a,Xt b] [] (ai (Xck a b)):=by
 refine ZC1 func252 ntmps252 fun E=> ?_;obtain⟨k,n,d,s,l⟩:=a;obtain⟨k',n',d',s',l'⟩:=b;obtain⟨rfl,rfl⟩:d=0/\l=[]:=ha;obtain⟨rfl,rfl⟩:d'=0/\l'=[]:=hb;have h1:=Xdg k k';have h2:=Xdg n n';have h3:=X6S 0;have h4:=Xt0 s s';have h5:=Xns [] Oc Oc;obtain⟨r,hr⟩:∃r,r=Xck (.mk k n 0 s []) (.mk k' n' 0 s' []):=⟨_,rfl⟩
 rw[<-hr];unfold Xck at hr;simp only[Xt,Val.kind,Val.n,Val.s] at*;generalize YD k k'=x1 at*;generalize YD n n'=x2 at*;generalize Ul s s'=x3 at*;unfold Xk3 at hr;by_cases q1:x1=0
 case neg=>
  rw[PI q1] at hr;subst hr;exact QB
 subst q1;rw[NI Oc] at hr;by_cases q2:x2=0
 case neg=>
  rw[PI q2] at hr;subst hr;refine Qka ?_;exact Zr0
 subst q2;rw[NI Oc] at hr;subst hr;by_cases q3:r=0
 case neg=>
  refine X4 ?_;refine X1B ?_;exact Zr0
 subst q3;refine QYa ?_;exact QEa
def Xzt (a b:Val) (ha:U9 a=true) (hb:U9 b=true) (oa:U1 a) (ob:U1 b):Con prog 194 [] [Xt a,Xt b] [] (ai (lR a b)):=by
 refine ZC1 func194 ntmps194 fun E=> ?_;have va:=X5I a oa;have vb:=X5I b ob;have na:=Xeq a oa;have nb:=Xeq b ob;unfold X6s Xhr at na nb;obtain⟨r,hr⟩:∃r,r=lR a b:=⟨_,rfl⟩
 rw[<-hr];obtain⟨k,n,d,s,l⟩:=a;obtain⟨k',n',d',s',l'⟩:=b;obtain⟨p1,p2,p3,p4,p5,p6,p7,p8⟩:=XdO ha;obtain⟨q1,q2,q3,q4,q5,q6,q7,q8⟩:=XdO hb;have hf:=Xqw (.mk k n d s l) (.mk k' n' d' s' l') ⟨p3,p4⟩ ⟨q3,q4⟩;rw[p1] at va na;rw[q1] at vb nb;rw[NI Oc] at na nb;have c1:=XaD k;have c2:=XaD k';have ci:=Xdg (X0p k) (X0p k');have hN:k=2->k'=2->Con prog 256 [] [X3V n 1,X3V n' 1] [] (ai (Xaa n n')):=fun e e'=>Xz1 n n' (by have:=p8 e;omega) (by have:=q8 e';omega);have hkk:YD (X0p k) (X0p k')=0->(k=2↔k'=2):=by
  intro h;unfold YD X0p at h;rcases p2 with rfl|rfl|rfl<;>rcases q2 with rfl|rfl|rfl<;>simp at h |-
 unfold lR at hr;simp only[Xt,Val.kind,Val.n,Val.d,Val.s] at*;clear ha hb p1 q1 oa ob p5 p6 p7 p8 q5 q6 q7 q8 p3 p4 q3 q4;by_cases w0:k=2/\k'=2
 ·obtain⟨rfl,rfl⟩:=w0;have ce:=X6S (X0p 2);have hy:YD (X0p 2) (X0p 2)=0:=by simp[YD]
  have hc:=hN rfl rfl;rw[hy] at hr;simp only[if_true,eq_self_iff_true,X3V] at na nb hc;obtain rfl:r=Xaa n n':=hr;clear hN hkk hf c2 ci hy;generalize X0p 2=z at*;refine QYa ?_;exact Qdb
 generalize X0p k=z1 at*;generalize X0p k'=z2 at*;generalize YD z1 z2=y at*;unfold XmY at hr;by_cases w1:y=0
 case neg=>
  rw[PI w1] at hr;subst hr;clear hN hkk hf na nb;exact QGa
 subst w1;rw[NI Oc] at hr;have w2:¬k=2:=fun e=>w0 ⟨e,(hkk rfl).1 e⟩;have w3:¬k'=2:=fun e=>w2 ((hkk rfl).2 e);have w4:¬k=3:=Oa
 have w5:¬k'=3:=Oa
 rw[NI w2] at hr;simp only[w2,w3,w4,w5,if_false,X3V] at na nb;subst hr;clear hN hkk;refine QYa ?_;exact QNa
abbrev jW (x y:List UInt8):Bool:=decide (x=y)
def Xye (l l':List (List UInt8)) (hl:J l<=9223372036854775807) (hl':J l'<=9223372036854775807):Con prog 123 [] [.d (.sl 1 (l.map Xf)),.d (.sl 1 (l'.map Xf))] [] (ab (dK jW l l')):=by
 refine ZC1 func123 ntmps123 fun E=> ?_;have hlm:J (l.map Xf)=J l:=Oc
 have dI:J (l'.map Xf)=J l':=Oc
 obtain⟨r,hr⟩:∃r,r=dK jW l l':=⟨_,rfl⟩
 rw[<-hr];by_cases hL:J l=J l'
 case neg=>
  obtain rfl:r=false:=hr.trans (Xc2 hL);have hL':¬((J (l.map Xf):Int)=J (l'.map Xf)):=Oa
  refine Yh ?_;exact Zr0
 have hL':((J (l.map Xf):Int)=J (l'.map Xf)):=Oa
 refine Y5 ?_
 refine Xl (fun i:Nat=>i<=J l/\∀j,j<i->∀x y,l[j]? =some x->l'[j]? =some y->jW x y=true) (fun i=>⟨26,[(0,.d (.sl 1 (l.map Xf))),(1,.d (.sl 1 (l'.map Xf))),(5,ai i)],[]⟩) (fun i=>J l-i) 0 ⟨Nat.zero_le _,fun j h=>absurd h (Nat.not_lt_zero _)⟩
  (ZL0) ?_
 rintro i ⟨hi,hI⟩;by_cases hil:i<J l
 case neg=>
  obtain rfl:i=J l:=Oa
  obtain rfl:r=true:=hr.trans (Xaj hL hI);have hn:¬((J l:Nat):Int)<J (l.map Xf):=Oa
  exact Qh
 have hn:(i:Int)<J (l.map Xf):=Oa
 obtain⟨x,hx⟩:=Xn (l:=l) hil;obtain⟨y,hy⟩:=Xn (l:=l') (by omega:i<J l');have au:(l.map Xf)[i]? =some (Xf x):=XC hx;have cz:(l'.map Xf)[i]? =some (Xf y):=XC hy;have hB:decide (x≠y)= !(jW x y):=by simp[jW]
 cases cG:jW x y with
 |false=>
  obtain rfl:r=false:=hr.trans (X3y hx hy cG);rw[cG] at hB;have hB:decide (x≠y)=true:=hB;clear hr hI hx hy cG;refine YG ?_;exact Zr0
 |true=>
  rw[cG] at hB;have hB:decide (x≠y)=false:=hB;refine UK ?_;exact⟨i+1,⟨hil,Xak hx hy cG hI⟩,Oa,ZL0⟩
def iB (x y:Prp):Bool:=decide (x.key=y.key)&&decide (lR x.v y.v=0)
def Xiu (l l':List Prp) (hl:J l<=9223372036854775807) (hl':J l'<=9223372036854775807) (hp:∀p∈l,U9 p.v=true/\U1 p.v) (hp':∀p∈l',U9 p.v=true/\U1 p.v):Con prog 124 [] [.d (.sl 6 (l.map Xb)),.d (.sl 6 (l'.map Xb))] [] (ab (dK iB l l')):=by
 refine ZC1 func124 ntmps124 fun E=> ?_;have hlm:J (l.map Xb)=J l:=Oc
 have dI:J (l'.map Xb)=J l':=Oc
 obtain⟨r,hr⟩:∃r,r=dK iB l l':=⟨_,rfl⟩
 rw[<-hr];by_cases hL:J l=J l'
 case neg=>
  obtain rfl:r=false:=hr.trans (Xc2 hL);have hL':¬((J (l.map Xb):Int)=J (l'.map Xb)):=Oa
  refine Yh ?_;exact Zr0
 have hL':((J (l.map Xb):Int)=J (l'.map Xb)):=Oa
 refine Y5 ?_
 refine Xl (fun i:Nat=>i<=J l/\∀j,j<i->∀x y,l[j]? =some x->l'[j]? =some y->iB x y=true) (fun i=>⟨42,[(0,.d (.sl 6 (l.map Xb))),(1,.d (.sl 6 (l'.map Xb))),(5,ai i)],[]⟩) (fun i=>J l-i) 0 ⟨Nat.zero_le _,fun j h=>absurd h (Nat.not_lt_zero _)⟩
  (ZL0) ?_
 rintro i ⟨hi,hI⟩;by_cases hil:i<J l
 case neg=>
  obtain rfl:i=J l:=Oa
  obtain rfl:r=true:=hr.trans (Xaj hL hI);have hn:¬((J l:Nat):Int)<J (l.map Xb):=Oa
  exact Qh
 have hn:(i:Int)<J (l.map Xb):=Oa
 obtain⟨x,hx⟩:=Xn (l:=l) hil;obtain⟨y,hy⟩:=Xn (l:=l') (by omega:i<J l');have au:(l.map Xb)[i]? =some (Xb x):=XC hx;have cz:(l'.map Xb)[i]? =some (Xb y):=XC hy;obtain⟨a1,a2⟩:=hp x (mem_of_getElem? hx);obtain⟨b1,b2⟩:=hp' y (mem_of_getElem? hy);have ho:=Xzt x.v y.v a1 b1 a2 b2;clear a1 a2 b1 b2 hp hp';by_cases hk:x.key=y.key
 case neg=>
  obtain rfl:r=false:=hr.trans (X3y hx hy (by unfold iB;rw[DF hk];rfl));clear hr hI hx hy ho;obtain⟨key,⟨vk,vn,vd,vs,vl⟩⟩:=x;obtain⟨key',⟨wk,wn,wd,ws,wl⟩⟩:=y;simp only[Xb,UB,Xt] at au cz hk;have hB:decide (key≠key')=true:=DT hk;refine Qia ?_;exact Zr0
 by_cases hz:lR x.v y.v=0
 case neg=>
  obtain rfl:r=false:=hr.trans (X3y hx hy (by unfold iB;rw[DF hz,Bool.and_false]));clear hr hI hx hy;generalize lR x.v y.v=z at*;obtain⟨key,⟨vk,vn,vd,vs,vl⟩⟩:=x;obtain⟨key',⟨wk,wn,wd,ws,wl⟩⟩:=y;simp only[Xb,UB,Xt] at au cz hk ho;have hB:decide (key≠key')=false:=by simp[hk]
  refine Qia ?_;exact Zr0
 have cG:iB x y=true:=by unfold iB;rw[DT hk,DT hz];rfl
 have nC:=Xak hx hy cG hI;rw[hz] at ho;clear hr hI hx hy hz cG;obtain⟨key,⟨vk,vn,vd,vs,vl⟩⟩:=x;obtain⟨key',⟨wk,wn,wd,ws,wl⟩⟩:=y;simp only[Xb,UB,Xt] at au cz hk ho;have hB:decide (key≠key')=false:=by simp[hk]
 refine Qla ?_;exact Qff
noncomputable def jX (x y:Nod):Bool:=decide (x.id=y.id)&&(dK jW x.labels y.labels&&dK iB x.props y.props)
noncomputable def iN (x y:Edg):Bool:=decide (x.id=y.id)&&(decide (x.src=y.src)&&(decide (x.dst=y.dst)&&(decide (x.typ=y.typ)&&dK iB x.props y.props)))
structure GraPlain (g:Gra):Prop where
 h:GraHold g
 ns:∀n∈g.nodes,∀p∈n.props,U9 p.v=true
 es:∀e∈g.aj,∀p∈e.props,U9 p.v=true
def XpA (ns:List Nod) (es:List Edg) (nn ne:Int) (ms:List Nod) (fs:List Edg) (mm me:Int) (hg:GraPlain ⟨ns,es,nn,ne⟩) (hh:GraPlain ⟨ms,fs,mm,me⟩):Con prog 69 [] [.agg [.d (.sl 3 (ns.map Xi)),.d (.sl 5 (es.map Xk)),ai nn,ai ne],.agg [.d (.sl 3 (ms.map Xi)),.d (.sl 5 (fs.map Xk)),ai mm,ai me]] [] (ab (dK jX ns ms&&dK iN es fs)):=by
 refine ZC1 func69 ntmps69 fun E=> ?_;have dO:J (ns.map Xi)=J ns:=Oc
 have hle:J (es.map Xk)=J es:=Oc
 have hlm:J (ms.map Xi)=J ms:=Oc
 have hlf:J (fs.map Xk)=J fs:=Oc
 have ax:=hg.h.nl;have hel:=hg.h.el;have hml:=hh.h.nl;have hfl:=hh.h.el;simp only at ax hel hml hfl;obtain⟨r,hr⟩:∃r,r=(dK jX ns ms&&dK iN es fs):=⟨_,rfl⟩
 rw[<-hr];by_cases hN:J ns=J ms
 case neg=>
  obtain rfl:r=false:=hr.trans (by rw[Xc2 hN,Bool.false_and]);have mu:¬((J (ns.map Xi):Int)=J (ms.map Xi)):=Oa
  exact QIa
 have mu:((J (ns.map Xi):Int)=J (ms.map Xi)):=Oa
 by_cases hE:J es=J fs
 case neg=>
  obtain rfl:r=false:=hr.trans (by rw[Xc2 (l:=es) hE,Bool.and_false]);have uI:¬((J (es.map Xk):Int)=J (fs.map Xk)):=Oa
  exact QIa
 have uI:((J (es.map Xk):Int)=J (fs.map Xk)):=Oa
 refine VM ?_
 refine Xl (fun i:Nat=>i<=J ns/\∀j,j<i->∀x y,ns[j]? =some x->ms[j]? =some y->jX x y=true) (fun i=>⟨116,[(2,.ptr 100 0),(3,.ptr 101 0),(5,ai i)],[(100,.box [.d (.sl 3 (ns.map Xi)),.d (.sl 5 (es.map Xk)),ai nn,ai ne]),(101,.box [.d (.sl 3 (ms.map Xi)),.d (.sl 5 (fs.map Xk)),ai mm,ai me])]⟩) (fun i=>J ns-i) 0 ⟨Nat.zero_le _,fun j h=>absurd h (Nat.not_lt_zero _)⟩
  (ZL0) ?_
 rintro i ⟨hi,hI⟩;by_cases hil:i<J ns
 case pos=>
  have hn:(i:Int)<J (ns.map Xi):=Oa
  obtain⟨x,hx⟩:=Xn (l:=ns) hil;obtain⟨y,hy⟩:=Xn (l:=ms) (by omega:i<J ms);have au:(ns.map Xi)[i]? =some (Xi x):=XC hx;have cz:(ms.map Xi)[i]? =some (Xi y):=XC hy;have h1:=hg.h.nodes x (mem_of_getElem? hx);have h2:=hh.h.nodes y (mem_of_getElem? hy);have p1:=hg.ns x (mem_of_getElem? hx);have p2:=hh.ns y (mem_of_getElem? hy);have c1:=Xye x.labels y.labels h1.1 h2.1;have c2:=Xiu x.props y.props h1.2.2.1 h2.2.2.1 (fun p hp=>⟨p1 p hp,(h1.2.2.2 p hp).2⟩) (fun p hp=>⟨p2 p hp,(h2.2.2.2 p hp).2⟩);clear h1 h2 p1 p2;by_cases k1:x.id=y.id
  case neg=>
   obtain rfl:r=false:=hr.trans (by rw[X3y hx hy (by unfold jX;rw[DF k1,Bool.false_and]),Bool.false_and]);clear hr hI hx hy c1 c2;obtain⟨id,labels,props⟩:=x;obtain⟨id',labels',props'⟩:=y;simp only[Xi] at au cz k1;refine Qma ?_;exact Zr0
  cases k2:dK jW x.labels y.labels with
  |false=>
   obtain rfl:r=false:=hr.trans (by rw[X3y hx hy (by unfold jX;rw[k2,Bool.false_and,Bool.and_false]),Bool.false_and]);rw[k2] at c1;clear hr hI hx hy c2 k2;obtain⟨id,labels,props⟩:=x;obtain⟨id',labels',props'⟩:=y;simp only[Xi] at au cz k1 c1;refine Qma ?_;exact Zr0
  |true=>
   rw[k2] at c1;cases k3:dK iB x.props y.props with
   |false=>
    obtain rfl:r=false:=hr.trans (by rw[X3y hx hy (by unfold jX;rw[k3,Bool.and_false,Bool.and_false]),Bool.false_and]);rw[k3] at c2;clear hr hI hx hy k2 k3;obtain⟨id,labels,props⟩:=x;obtain⟨id',labels',props'⟩:=y;simp only[Xi] at au cz k1 c1 c2;refine Qma ?_;exact Zr0
   |true=>
    rw[k3] at c2;have nC:=Xak hx hy (by unfold jX;rw[DT k1,k2,k3];rfl) hI;clear hr hI hx hy k2 k3;obtain⟨id,labels,props⟩:=x;obtain⟨id',labels',props'⟩:=y;simp only[Xi] at au cz k1 c1 c2;refine QUa ?_;exact Qff
 obtain rfl:i=J ns:=Oa
 have hY:=Xaj hN hI;rw[hY,Bool.true_and] at hr;have hn:¬((J ns:Nat):Int)<J (ns.map Xi):=Oa
 clear hY;refine Yb ?_;clear hi hil hn hI hN
 refine Xl (fun i:Nat=>i<=J es/\∀j,j<i->∀x y,es[j]? =some x->fs[j]? =some y->iN x y=true) (fun i=>⟨116,[(2,.ptr 100 0),(3,.ptr 101 0),(8,ai i)],[(100,.box [.d (.sl 3 (ns.map Xi)),.d (.sl 5 (es.map Xk)),ai nn,ai ne]),(101,.box [.d (.sl 3 (ms.map Xi)),.d (.sl 5 (fs.map Xk)),ai mm,ai me])]⟩) (fun i=>J es-i) 0 ⟨Nat.zero_le _,fun j h=>absurd h (Nat.not_lt_zero _)⟩
  (ZL0) ?_
 rintro i ⟨hi,hI⟩;by_cases hil:i<J es
 case pos=>
  have hn:(i:Int)<J (es.map Xk):=Oa
  obtain⟨x,hx⟩:=Xn (l:=es) hil;obtain⟨y,hy⟩:=Xn (l:=fs) (by omega:i<J fs);have au:(es.map Xk)[i]? =some (Xk x):=XC hx;have cz:(fs.map Xk)[i]? =some (Xk y):=XC hy;have h1:=hg.h.aj x (mem_of_getElem? hx);have h2:=hh.h.aj y (mem_of_getElem? hy);have p1:=hg.es x (mem_of_getElem? hx);have p2:=hh.es y (mem_of_getElem? hy);have c2:=Xiu x.props y.props h1.2.1 h2.2.1 (fun p hp=>⟨p1 p hp,(h1.2.2 p hp).2⟩) (fun p hp=>⟨p2 p hp,(h2.2.2 p hp).2⟩);clear h1 h2 p1 p2;by_cases k1:x.id=y.id
  case neg=>
   obtain rfl:r=false:=hr.trans (X3y hx hy (by unfold iN;rw[DF k1];simp));clear hr hI hx hy c2;obtain⟨id,src,dst,typ,props⟩:=x;obtain⟨id',src',dst',typ',props'⟩:=y;simp only[Xk] at au cz k1;refine QBa ?_;exact Zr0
  by_cases k2:x.src=y.src
  case neg=>
   obtain rfl:r=false:=hr.trans (X3y hx hy (by unfold iN;rw[DF k2];simp));clear hr hI hx hy c2;obtain⟨id,src,dst,typ,props⟩:=x;obtain⟨id',src',dst',typ',props'⟩:=y;simp only[Xk] at au cz k1 k2;refine QBa ?_;exact Zr0
  by_cases k3:x.dst=y.dst
  case neg=>
   obtain rfl:r=false:=hr.trans (X3y hx hy (by unfold iN;rw[DF k3];simp));clear hr hI hx hy c2;obtain⟨id,src,dst,typ,props⟩:=x;obtain⟨id',src',dst',typ',props'⟩:=y;simp only[Xk] at au cz k1 k2 k3;refine QBa ?_;exact Zr0
  by_cases k4:x.typ=y.typ
  case neg=>
   obtain rfl:r=false:=hr.trans (X3y hx hy (by unfold iN;rw[DF k4];simp));clear hr hI hx hy c2;obtain⟨id,src,dst,typ,props⟩:=x;obtain⟨id',src',dst',typ',props'⟩:=y;simp only[Xk] at au cz k1 k2 k3 k4;have hB:decide (typ≠typ')=true:=DT k4;refine QBa ?_;exact Zr0
  cases k5:dK iB x.props y.props with
  |false=>
   rw[k5] at c2;obtain rfl:r=false:=hr.trans (X3y hx hy (by unfold iN;rw[k5];simp));clear hr hI hx hy;obtain⟨id,src,dst,typ,props⟩:=x;obtain⟨id',src',dst',typ',props'⟩:=y;simp only[Xk] at au cz k1 k2 k3 k4 c2;have hB:decide (typ≠typ')=false:=by simp[k4]
   refine QBa ?_;exact Zr0
  |true=>
   rw[k5] at c2;have nC:=Xak hx hy (by unfold iN;rw[DT k1,DT k2,DT k3,DT k4,k5];rfl) hI;clear hr hI hx hy k5;obtain⟨id,src,dst,typ,props⟩:=x;obtain⟨id',src',dst',typ',props'⟩:=y;simp only[Xk] at au cz k1 k2 k3 k4 c2;have hB:decide (typ≠typ')=false:=by simp[k4]
   refine X4 ?_;refine VM ?_;exact Qff
 obtain rfl:i=J es:=Oa
 obtain rfl:r=true:=hr.trans (Xaj hE hI);have hn:¬((J es:Nat):Int)<J (es.map Xk):=Oa
 exact QFa
def Xts (g h:Gra) (hg:GraPlain g) (hh:GraPlain h):∃b,Con prog 41 [] [XZ g,XZ h] [] (ab b):=by
 obtain⟨ns,es,nn,ne⟩:=g;obtain⟨ms,fs,mm,me⟩:=h;have hc:=XpA ns es nn ne ms fs mm me hg hh;generalize (dK jX ns ms&&dK iN es fs)=b at hc;unfold XZ;simp only;by_cases q1:nn=mm
 case neg=>
  exact Yt73
 by_cases q2:ne=me
 case neg=>
  exact Yt73
 refine⟨b,VQ (xs:=[ab b]) func41 rfl ntmps41 rfl rfl rfl (fun E=> ?_)⟩;exact QB
def XmW {g:Gra} (h:GV g):GraPlain g:=⟨X49 h,fun n hn p hp=>(h.nodes n hn).2.2.pv p hp,fun e he p hp=>(h.aj e he).2.2.2.2.2.pv p hp⟩
def XpT (s t:Sta) (hs:YH s=true) (ht:YH t=true):∃b,Con prog 14 [] [Xz s,Xz t] [] (ab b):=by
 obtain⟨gb,hg⟩:=Xts s.g t.g (XmW (Vz.1 hs).1) (XmW (Vz.1 ht).1);have hl:=(X6j hs).rl;have hl':=(X6j ht).rl;clear hs ht;obtain⟨⟨ns,es,nn,ne⟩,l,ts,ep,tail⟩:=s;obtain⟨⟨ms,fs,mm,me⟩,l',ts',kU,tail'⟩:=t;simp only[Xz,XZ] at*;have hlm:J (l.map Xh)=J l:=Oc
 have dI:J (l'.map Xh)=J l':=Oc
 cases gb with
 |false=>
  exact Yt17
 |true=>
  by_cases q1:J l=J l'
  case neg=>
   have dF:¬((J (l.map Xh):Int)=J (l'.map Xh)):=Oa
   exact Yt17
  have dF:((J (l.map Xh):Int)=J (l'.map Xh)):=Oa
  by_cases q2:ts=ts'
  case neg=>
   exact Yt17
  by_cases q3:ep=kU
  case neg=>
   exact Yt17
  by_cases q4:tail=tail'
  case neg=>
   exact Yt17
  obtain⟨r,hr⟩:∃r,r=dK jB l l':=⟨_,rfl⟩
  refine⟨r,VQ (xs:=[ab r]) func14 rfl ntmps14 rfl rfl rfl (fun E=> ?_)⟩;refine QZ ?_;clear hg
  refine Xl (fun i:Nat=>i<=J l/\∀j,j<i->∀x y,l[j]? =some x->l'[j]? =some y->jB x y=true) (fun i=>⟨60,[(2,.ptr 100 0),(3,.ptr 101 0),(5,ai i)],[(100,.box [.d (.sl 3 (ns.map Xi)),.d (.sl 5 (es.map Xk)),ai nn,ai ne,.d (.sl 6 (l.map Xh)),ai ts,ai ep,ai tail]),(101,.box [.d (.sl 3 (ms.map Xi)),.d (.sl 5 (fs.map Xk)),ai mm,ai me,.d (.sl 6 (l'.map Xh)),ai ts',ai kU,ai tail'])]⟩) (fun i=>J l-i) 0 ⟨Nat.zero_le _,fun j h=>absurd h (Nat.not_lt_zero _)⟩
   (ZL0) ?_
  rintro i ⟨hi,hI⟩;by_cases hil:i<J l
  case neg=>
   obtain rfl:i=J l:=Oa
   obtain rfl:r=true:=hr.trans (Xaj q1 hI);have hn:¬((J l:Nat):Int)<J (l.map Xh):=Oa
   refine Ya ?_
   (exact Zz2)
  have hn:(i:Int)<J (l.map Xh):=Oa
  obtain⟨x,hx⟩:=Xn (l:=l) hil;obtain⟨y,hy⟩:=Xn (l:=l') (by omega:i<J l');have au:(l.map Xh)[i]? =some (Xh x):=XC hx;have cz:(l'.map Xh)[i]? =some (Xh y):=XC hy;cases cG:jB x y with
  |false=>
   obtain rfl:r=false:=hr.trans (X3y hx hy cG);clear hr hI hx hy;obtain⟨xk,xn,cK,gF,dZ,e7⟩:=x;obtain⟨yk,yn,yname,ykey,ysrc,ydst⟩:=y;simp only[Xh] at au cz;have hz:X2g [.int .i64 xk,.int .i64 xn,.string (X7 cK),.string (X7 gF),.string (X7 dZ),.string (X7 e7)] [.int .i64 yk,.int .i64 yn,.string (X7 yname),.string (X7 ykey),.string (X7 ysrc),.string (X7 ydst)]=false:=cG;clear cG;refine V4 ?_;refine X3Z (us:=[.int .i64 xk,.int .i64 xn,.string (X7 cK),.string (X7 gF),.string (X7 dZ),.string (X7 e7)]) (vs:=[.int .i64 yk,.int .i64 yn,.string (X7 yname),.string (X7 ykey),.string (X7 ysrc),.string (X7 ydst)]) (r:=false) (hg:=JSa) (hx:=JSb) (hy:=JSb) (hcs:=JSb) (aP:=JSb) (hu:=JSb) (hv:=JSb) (hd:=JSb) ?_ (hk:=by exact X4h) (hr:=by exact hz);refine W6_ ?_
   (exact Zz2)
  |true=>
   have nC:=Xak hx hy cG hI;clear hr hI hx hy;obtain⟨xk,xn,cK,gF,dZ,e7⟩:=x;obtain⟨yk,yn,yname,ykey,ysrc,ydst⟩:=y;simp only[Xh] at au cz;have hz:X2g [.int .i64 xk,.int .i64 xn,.string (X7 cK),.string (X7 gF),.string (X7 dZ),.string (X7 e7)] [.int .i64 yk,.int .i64 yn,.string (X7 yname),.string (X7 ykey),.string (X7 ysrc),.string (X7 ydst)]=true:=cG;clear cG;refine V4 ?_;refine X3Z (us:=[.int .i64 xk,.int .i64 xn,.string (X7 cK),.string (X7 gF),.string (X7 dZ),.string (X7 e7)]) (vs:=[.int .i64 yk,.int .i64 yn,.string (X7 yname),.string (X7 ykey),.string (X7 ysrc),.string (X7 ydst)]) (r:=true) (hg:=JSa) (hx:=JSb) (hy:=JSb) (hcs:=JSb) (aP:=JSb) (hu:=JSb) (hv:=JSb) (hd:=JSb) ?_ (hk:=by exact X4h) (hr:=by exact hz);refine W8_ ?_;exact Qff
def Xza (s:Sta) (l:List Rcd) (k:Nat) (tl:Int) (hs:YH s=true) (hl:J l<=1000) (hr:∀r∈l,X0z r) (hk:k<=J l) (h0:(Yf s (l.take k)).2=0) (ht:YH (UD (Yf s (l.take k)).1 tl)=true):Con prog 23 [] [Xz s,.d (.sl 10 (l.map Y6)),Xz (UD (Yf s (l.take k)).1 tl)] [] (ab true):=by
 refine ZC1 func23 ntmps23 fun E=> ?_;have hlm:J (l.map Y6)=J l:=Oc
 have hsh:=X6j hs;have aT:=fun i:Nat=>X8U s (l.take i) hsh Oz (fun r h=>hr r (mem_of_mem_take h));have hkp:∀i,(Yf s (l.take i)).2=0->YH (Yf s (l.take i)).1=true:=fun i h=>(Xaz (l.take i) s hs h).v;have fK:=X8E (UD (Yf s (l.take k)).1 tl) (X6j ht);have gq:=fun(x:Sta) (hx:YH x=true)=>XpT x (UD (Yf s (l.take k)).1 tl) hx ht;have hpk:=aT k;have htb:=(Vz.1 ht).2.2.2.2.2.2;have oq:∀x,YH x=true->YH (UD x tl)=true:=fun x h=>by
  rw[Vz] at h |-;exact⟨h.1,h.2.1,h.2.2.1,h.2.2.2.1,h.2.2.2.2.1,h.2.2.2.2.2.1,htb⟩
 rw[h0] at hpk;clear ht htb h0 hsh;generalize Yf s (l.take k)=Y at*;obtain⟨⟨⟨yn,ye,ck,cm⟩,yr,yt,yp,yl⟩,e0⟩:=Y;obtain⟨P,hP⟩:∃P:Nat->Sta×Int,∀i,Yf s (l.take i)=P i:=⟨_,fun _=>rfl⟩
 simp only[hP] at aT hkp;clear hs hP hr;obtain⟨⟨ns,es,nn,ne⟩,rs,ts,ep,tail⟩:=s;simp only[Xz,UD] at*;refine XG ?_
 refine Xl (fun i:Nat=>i<=k) (fun i=>⟨34,[(1,.d (.sl 10 (l.map Y6))),(3,.ptr 100 0),(5,.ptr 101 0),(7,ai i)],[(100,.box [.d (.sl 3 (ns.map Xi)),.d (.sl 5 (es.map Xk)),ai nn,ai ne,.d (.sl 6 (rs.map Xh)),ai ts,ai ep,ai tail]),(101,.box [.d (.sl 3 (yn.map Xi)),.d (.sl 5 (ye.map Xk)),ai ck,ai cm,.d (.sl 6 (yr.map Xh)),ai yt,ai yp,ai tl])]⟩) (fun i=>k-i) 0 (Nat.zero_le _)
  (ZL0) ?_
 intro i hi;have hn:(i:Int)<=J (l.map Y6):=Oa
 have hil:i<=J (l.map Y6):=Oa
 have hO:((l.map Y6).take i).drop 0=(l.take i).map Y6:=I1
 by_cases hik:i=k
 ·subst hik;clear aT gq hkp oq;refine Qgf ?_;refine UI ?_
  (exact Zz2)
 have hp:=aT i;have hv:=hkp i;clear aT hkp hpk fK;generalize P i=Z at*;obtain⟨z,ze⟩:=Z;simp only at hp hv;by_cases hz:ze=0
 case neg=>
  clear gq oq hv;obtain⟨⟨zn,zs,uJ,uK⟩,zr,zt,zp,zl⟩:=z;simp only at hp;refine Qgf ?_;refine Uf ?_;exact⟨i+1,Oa,Oa,ZL0⟩
 subst hz;obtain⟨b,hb⟩:=gq _ (oq z (hv rfl));clear gq oq hv;obtain⟨⟨zn,zs,uJ,uK⟩,zr,zt,zp,zl⟩:=z;simp only at hp hb;cases b with
 |true=>
  refine Qgf ?_;refine UI ?_
  (exact Zz2)
 |false=>
  refine Qgf ?_;refine Uf ?_;exact⟨i+1,Oa,Oa,ZL0⟩
structure StpsOk (l:List Stp):Prop where
 len:J l<=9223372036854775807
 rl:∀p∈l,J p.l<=9223372036854775807
 ok:∀p∈l,∀r∈p.l,X0z r
def Xz8 {x:ak}{keep:List Int} (h:DOk x):X05 (V5 x keep):=by
 obtain⟨c1,c2,c3⟩:=X70 h keep;have e:(Vk (V5 x keep)).aa=(V5 x keep).aa/\(Vk (V5 x keep)).pending=(V5 x keep).pending:=by unfold Vk;split<;>exact⟨rfl,rfl⟩
 have:=X5x c1.v (by rw[c3];simp);unfold X05 at*
 rwa [e.1,e.2] at this
def Xqv (n:Int) (l:List Stp) (last:List Rcd) (a:UInt8) (keep:List Int) (h:StpsOk l) (bz:J last<=9223372036854775807) (hlr:∀r∈last,X0z r) (hk:J keep<=9223372036854775807):Con prog 4 [] [ai n,.d (.sl 2 (l.map X1g)),.d (.sl 10 (last.map Y6)),.d (.v (.int .u8 (a.toNat:Int))),.d (X8H keep)] [] (ab true):=by
 refine ZC1 func4 ntmps4 fun E=> ?_;have hb:=Xyp n l h.len h.rl;have ha:=XbC;have cG:=Xhu last bz;have hkm:J (keep.map X8q)=J keep:=LM ..;unfold X8H;by_cases q:X7w n l=true
 case neg=>
  rw[show X7w n l=false by simpa using q] at hb;refine U7 ?_
  (exact Zz2)
 rw[q] at hb;by_cases q2:X26 last=true
 case neg=>
  rw[show X26 last=false by simpa using q2] at cG;refine U7 ?_
  (exact Zz2)
 rw[q2] at cG;by_cases qk:J keep<=60
 case neg=>
  have uL:(J (keep.map X8q):Int)>60:=Oa
  refine U7 ?_
  (exact Zz2)
 have uL:¬(J (keep.map X8q):Int)>60:=Oa
 obtain⟨f1,f2⟩:=XgK q2 hlr;have f3:=Xlb q2;have hf:=XrJ n l q h.ok;obtain⟨b1,b2,b3,b4⟩:=XiN q;have hA:After n (U4 n l):=XhC l _ (XnX b1 Oa) b4;have C:=Xh7 hA;have ht:=Xmp (U4 n l).1 (U4 n l).2 last C.hold C.few f2 f1;obtain⟨s0,m,g,hm⟩:=hA.g;have iQ:J ((dj (U4 n l).1 (U4 n l).2 last).map XO)=J (dj (U4 n l).1 (U4 n l).2 last):=LM ..;by_cases qe:J (dj (U4 n l).1 (U4 n l).2 last)=0
 ·rw[eq_nil_of_length_eq_zero qe] at ht;simp only[map_nil] at ht;clear g hm C hA f1 f2 f3 hlr;generalize (U4 n l).1=X at*;generalize (U4 n l).2=Y at*;unfold X60 at hf;obtain⟨xs,xp,xo⟩:=X;obtain⟨⟨ns,es,nn,ne⟩,rs,ts,ep,tail⟩:=Y;simp only[Xz] at*;have bH:((J ([]:List (List D)):Nat):Int)=0:=rfl;refine X4 ?_;refine YT ?_
  (exact Zz2)
 have he:(YF (U4 n l).1 (U4 n l).2 last).2.2=0:=by
  by_cases c:(YF (U4 n l).1 (U4 n l).2 last).2.2=0
  ·exact c
  ·rw[show dj (U4 n l).1 (U4 n l).2 last=[] by unfold dj;rw[PI c]] at qe;exact absurd rfl qe
 obtain⟨x,hx⟩:∃x,(dj (U4 n l).1 (U4 n l).2 last)[a.toNat%J (dj (U4 n l).1 (U4 n l).2 last)]? =some x:=⟨_,getElem?_eq_getElem (Nat.mod_lt _ Oa)⟩
 have au:((dj (U4 n l).1 (U4 n l).2 last).map XO)[a.toNat%J (dj (U4 n l).1 (U4 n l).2 last)]? =some (XO x):=XC hx;have bu:=mem_of_getElem? hx;have eT:dj (U4 n l).1 (U4 n l).2 last=(Yy (U4 n l).1 (Xo (U4 n l).1:Nat) (J (U4 n l).1.aa:Nat) (U4 n l).2.ep (U4 n l).2.tail last).1:=by unfold dj;rw[NI (by simp[he])]
 have eS:(Yy (U4 n l).1 (Xo (U4 n l).1:Nat) (J (U4 n l).1.aa:Nat) (U4 n l).2.ep (U4 n l).2.tail last).2.2=0:=by
  by_cases c:(Yy (U4 n l).1 (Xo (U4 n l).1:Nat) (J (U4 n l).1.aa:Nat) (U4 n l).2.ep (U4 n l).2.tail last).2.2=0
  ·exact c
  ·rw[eT,(X81 c).1] at qe;exact absurd rfl qe
 have qD:J (dj (U4 n l).1 (U4 n l).2 last)<=5000:=by rw[eT];exact Xbd C.few eS
 obtain⟨k1,k2,k3⟩:=Xo6 C.few eS x (by rw[<-eT];exact bu);obtain⟨c1,c2,c3⟩:=X70 k1 keep;have dA:=XtN x keep k2;have o6:=Xwg (V5 x keep) (Xz8 k1);have jA:=X9z (Vk (V5 x keep)) ⟨by rw[c2,k3];exact C.few.1,by rw[c3];simp⟩;obtain⟨j,j1,j2,j3⟩:=g.torn he (fun r hr=>by
  rcases mem_append.1 hr with h|h
  ·exact hm r h
  ·exact f3 r h) hx keep
 obtain⟨s1,m1,hR⟩:=Rec.of j3;have hpf:=Xza (U4 n l).2 last j ((U4 n l).2.tail+J (Xv s0.ep (last.take j))) g.kept.1 f2 hlr j1 j2 hR.kept.1;rw[j3] at jA;have hall:∀r∈(dj (U4 n l).1 (U4 n l).2 last).map XO,J r=3:=fun r hr=>by obtain⟨y,_,rfl⟩:=mem_map.1 hr;rfl
 clear g hm C hA bu k1 k2 k3 c1 c2 c3 he hx eT eS hR j1 j2 j3 f1 f2 f3 hlr;rw[<-iQ] at au qe qD;generalize (dj (U4 n l).1 (U4 n l).2 last).map XO=T at*;generalize Vk (V5 x keep)=y' at*;generalize V5 x keep=y at*;generalize UD (Yf (U4 n l).2 (last.take j)).1 ((U4 n l).2.tail+J (Xv s0.ep (last.take j)))=R at*;generalize (U4 n l).1=X at*;generalize (U4 n l).2=Y at*;unfold X60 at hf;obtain⟨xs,xp,xo⟩:=X;obtain⟨⟨ns,es,nn,ne⟩,rs,ts,ep,tail⟩:=Y;obtain⟨⟨rn,re,rnn,rne⟩,rr,rt,rp,rl⟩:=R;simp only[Xz] at*;have hal:=a.toNat_lt;unfold XO at au;refine X4 ?_;refine UI ?_;refine Z4 (op:= .rem) (r':=ni (a.toNat%J T)) (u:=ni a.toNat) (v:=ni (J T)) ?_ (hr:=by exact Va qe);refine UR ?_
 (exact Zz2)
end Go.Fw

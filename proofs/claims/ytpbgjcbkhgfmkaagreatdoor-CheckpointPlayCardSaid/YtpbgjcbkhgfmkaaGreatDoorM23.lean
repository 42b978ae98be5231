/- The disk: W40j. -/
import Derived.Test.YtpbgjcbkhgfmkaaGreatDoorM22
set_option maxHeartbeats 32000000
namespace Go.Fw
open Go Go.Proofs Tryz List
set_option maxRecDepth 100000
set_option linter.unusedVariables false
set_option linter.unusedSimpArgs false
theorem X5s (d:ak) (hl:Vp d):Con prog 80 [] [XU d] [] (X0O (XU (Uw d).1) (Uw d).2):=by
 refine ZCt func80 ntmps80 fun E=> ?_;by_cases hu:V8 d=0
 ·rw[show Uw d=(⟨V5 d (fun _=>64),[],d.on⟩,0) by simp[Uw,hu]];have hok:=X4e (X9z hu).1;refine Qkc ?_;refine XR ?_;refine Z3 (af:=Xlj d hl) ?_;refine Z3 (af:=Xvy d.aa d.pending d.on hok hl.1 hl.2.1) ?_;refine Z3 (af:=XrA (V5 d (fun _=>64)) d.aa.length (X3U _ _ _ _) d.on) ?_;exact Qmc
 ·rw[show Uw d=(YU,V8 d) by simp[Uw,hu]];refine Qkc ?_;exact Qoc
theorem X4P (d:ak) (a:Int) (b:List UInt8) (hl:Vp d) (bu:b.length<=4096):Con prog 79 [] [XU d,ai a,.d (Xg b)] [] (X0O (XU (Vs d a b).1) (Vs d a b).2):=by
 refine ZCt func79 ntmps79 fun E=> ?_;by_cases hu:V8 d=0
 ·have hp:=hl.2.1;by_cases h1:a<0
  ·rw[show Vs d a b=(YU,1) by simp[Vs,hu];omega];refine Qkc ?_;exact Qpc
  by_cases h2:(d.aa.length:Int)<=a
  ·rw[show Vs d a b=(YU,1) by simp[Vs,hu];omega];refine Qkc ?_;exact Qpc
  by_cases h3:b.length≠64
  ·rw[show Vs d a b=(YU,1) by simp[Vs,hu];omega];refine Qkc ?_;exact Qpc
  have h3:b.length=64:=by simpa using h3
  rw[show Vs d a b=(⟨d.aa,d.pending++[⟨a,b⟩],d.on⟩,0) by simp only[Vs,hu];rw[NI (by simp),PI ⟨by omega,by omega,h3⟩]];refine Qkc ?_;refine UV ?_;refine Z3 (af:=Xlj d hl) ?_;refine XA ?_;(refine Z3 (af:=Xm4 (b.map X5) (by simp;omega)) ?_);refine XA ?_;refine Z3 (af:=XpZ ⟨d.aa,d.pending++[⟨a,b⟩],d.on⟩ (d.pending.map cWr++[cWr ⟨a,b⟩]) ((d.pending.map cWr).length+1) (by simp) (by simp)) ?_;exact Qmc
 ·rw[show Vs d a b=(YU,V8 d) by simp[Vs,hu]];refine Qkc ?_;exact Qoc
theorem Xp7 (d:ak):Con prog 105 [] [.agg [.d (XS d.pending),.d (XL d.aa),ab d.on]] [] (XU d):=by
 refine ZC1 func105 ntmps105 fun E=> ?_;refine Yv ?_;exact Qqc
variable{b:List UInt8}{a c e:Int}{d:ak}{g:Gra}{s:Sta}
theorem XsU {r:List UInt8} (hb:b.length=64) (hr:r.length=64):take (min (map X5 b).length (map X5 r).length) (map X5 b)++drop (min (map X5 b).length (map X5 r).length) (map X5 r)=map X5 b:=by
 rw[LM,LM,hb,hr,take_of_length_le (by simp[hb]),drop_of_length_le (by simp[hr])];simp
theorem X7D {s:List UInt8} (hok:okW d.aa d.pending) (hs:s.length=64):∀k,(Vx d.pending a s k).length=64
 |0=>hs
 |k+1=>by
  simp only[Vx];split
  ·rename_i w hw;split
   ·exact(hok.2 w (mem_of_getElem? hw)).2.2
   ·exact X7D hok hs k
  ·exact X7D hok hs k
theorem XuC (n:Int):Con prog 61 [] [ai n] [] (X0O (XU (Uy n).1) (Uy n).2):=by
 refine ZCt func61 ntmps61 fun E=> ?_;by_cases h1:n<1
 ·rw[show Uy n=(YU,1) by unfold Uy;rw[NI (by omega)]];exact Qrc
 by_cases h2:4096<n
 ·rw[show Uy n=(YU,1) by unfold Uy;rw[NI (by omega)]];exact Qrc
 obtain⟨m,rfl⟩:∃m:Nat,n=m:=⟨n.toNat,by omega⟩
 rw[show Uy (m:Int)=(⟨replicate m Yy,[],true⟩,0) by unfold Uy;rw[PI (by omega),Int.toNat_natCast]];refine Vb ?_;refine X8 (X2y 101 1 121 1 (cs:=[aq,aq,ab true]) rfl rfl rfl rfl rfl) ?_
 refine Xn (fun k:Nat=>k<=m) (fun k=>⟨25,[(2,.ptr 100 0),(4,.ptr 101 0),(13,ai m),(14,ai k)],[(100,.box [aq,aq,ab false]),(101,.box [aq,.own 121 k,ab true]),(121,.row 1 ((replicate k Yy).map XV))]⟩) (fun k=>m-k) 0 (by omega)
  (Xb rfl ⟨JL,JL,JL,JL,TV⟩ ⟨rfl,rfl,rfl,TV⟩) ?_
 intro k hk;refine W5_ ?_;refine X20 rfl (fun h=> ?_) (fun h=> ?_)
 ·have h:=of_decide_eq_true h;refine Yg ?_;refine⟨k+1,by omega,by omega,Xb rfl ⟨JL,JL,JL,JL,TV⟩ ⟨rfl,?_,?_,TV⟩⟩
  ·refine Eq.trans (b:=AObj.box [aq,.own 121 _,ab true]) rfl ?_;congr 3;simp
  ·refine Eq.trans (b:=AObj.row 1 (_++[_])) rfl ?_;rw[show replicate (k+1) Yy=replicate k Yy++[Yy] from replicate_succ',map_append];rfl
 have h:=of_decide_eq_false h;obtain rfl:k=m:=by omega
 refine X8 (XP 121 rfl) ?_;refine X8 (X03 101 1 121 (cs:=[aq,.own 121 k,ab true]) (sz:=1) (xs:=(replicate k Yy).map XV) rfl rfl rfl (by simp)) ?_;refine X8 (Xq 101 (cs:=[aq,.d (XL (replicate k Yy)),ab true]) (cs':=[.d (XS []),.d (XL (replicate k Yy)),ab true]) rfl ⟨AVal.le_nil 2,AVal.le_refl _,AVal.le_refl _,TV⟩ rfl) ?_;refine W4_ ?_;refine Z3 (af:=Xp7 ⟨replicate k Yy,[],true⟩) ?_;refine W3_ ?_;exact Qq
theorem Xmk (d:ak) (k:Nat) (hl:Vp d) (hu:V8 d=0) (hk:k<d.aa.length):Con prog 78 [] [XU d,ai (k:Nat)] [(110,.row 1 ((Yo d (k:Nat)).1.map X5))] (X0O (.own 110 64) (Yo d (k:Nat)).2):=by
 refine ZCt func78 ntmps78 fun E=> ?_;have hp:=hl.2.1;obtain⟨s,hs⟩:=Xu (l:=d.aa) (k:=k) (by omega);have aK:=hl.2.2.1 s (mem_of_getElem? hs);refine Qkc ?_;refine UP ?_;(refine Z3 (af:=Xjc (s.map X5) (by simp;omega)) ?_);refine XK ?_;have hok:=X4e (X9z hu).1;rw[show Yo d (k:Int)=(Vx d.pending k s d.pending.length,0) by unfold Yo;rw[NI (by simpa using hu),PI (by omega),Int.toNat_natCast,hs];rfl]
 refine Xn (fun j:Nat=>j<=d.pending.length) (fun j=>⟨47,[(1,ai k),(2,.ptr 100 0),(7,.own 110 64),(31,.d (XS d.pending)),(32,ai (d.pending.map cWr).length),(33,ai j)],[(100,.box [.d (XL d.aa),.d (XS d.pending),ab d.on]),(110,.row 1 ((Vx d.pending k s j).map X5))]⟩) (fun j=>d.pending.length-j) 0 (by omega)
  (Xb rfl ⟨JL,JL,(by refine AVal.le_of_eq ?_;refine Eq.trans (b:=AVal.own 110 _) rfl ?_;simp[hok.1 s (mem_of_getElem? hs)]),JL,JL,JL,TV⟩ ⟨rfl,rfl,TV⟩) ?_
 intro j hj;refine W5_ ?_;refine X20 rfl (fun h=> ?_) (fun h=> ?_)
 ·have h:=of_decide_eq_true h;simp only[LM] at h;obtain⟨⟨at_,b⟩,hw⟩:=Xu (l:=d.pending) (k:=j) (by omega);obtain⟨b1,b2,b3⟩:=hok.2 _ (mem_of_getElem? hw);simp only at b1 b2 b3;have bu:=X7D (a:=(k:Int)) hok (hok.1 s (mem_of_getElem? hs)) j;by_cases aY:at_=(k:Int)
  ·subst aY;refine YY ?_;refine⟨j+1,by omega,by omega,Xb rfl ⟨JL,JL,JL,JL,JL,JL,TV⟩ ⟨rfl,?_,TV⟩⟩;refine Eq.trans (b:=AObj.row 1 _) rfl ?_;simp only[Vx,hw,if_true];exact CG (AObj.row 1) (XsU b3 bu)
  ·refine UU ?_;refine⟨j+1,by omega,by omega,Xb rfl ⟨JL,JL,JL,JL,JL,JL,TV⟩ ⟨rfl,?_,TV⟩⟩;refine Eq.trans (b:=AObj.row 1 _) rfl ?_;simp[Vx,hw,aY]
 have h:=of_decide_eq_false h;simp only[LM] at h;obtain rfl:j=d.pending.length:=by omega
 have bu:=X7D (a:=(k:Int)) hok (hok.1 s (mem_of_getElem? hs)) d.pending.length;refine W7_ ?_;exact X2 ⟨_,St.le_refl _,⟨rfl,rfl,TV⟩,Xj ⟨rfl,TV⟩⟩
theorem Xwx {k:Nat} (hu:V8 d=0) (hk:k<d.aa.length):(Yo d (k:Nat)).1.length=64:=by
 obtain⟨s,hs⟩:=Xu (l:=d.aa) hk;have hok:=X4e (X9z hu).1;rw[show Yo d (k:Int)=(Vx d.pending k s d.pending.length,0) by unfold Yo;rw[NI (by simpa using hu),PI (by omega),Int.toNat_natCast,hs];rfl];exact X7D hok (hok.1 s (mem_of_getElem? hs)) _
theorem XfB (d:ak) (a:Int) (hl:Vp d):Con prog 78 [] [XU d,ai a] [] (X0O (.d (Xg (Yo d a).1)) (Yo d a).2):=by
 by_cases hs:V8 d=0/\0<=a/\a<d.aa.length
 ·obtain⟨hu,h0,h1⟩:=hs;obtain⟨k,rfl⟩:∃k:Nat,a=k:=⟨a.toNat,by omega⟩
  exact(Xmk d k hl hu (by omega)).dataT (by rw[LM,Xwx hu (by omega)])
 refine ZCt func78 ntmps78 fun E=> ?_;by_cases hu:V8 d=0
 ·have hp:=hl.2.1;by_cases h1:a<0
  ·rw[show Yo d a=([],1) by simp[Yo,hu];omega];refine Qkc ?_;exact Qtc
  by_cases h2:(d.aa.length:Int)<=a
  ·rw[show Yo d a=([],1) by simp[Yo,hu];omega];refine Qkc ?_;exact Qtc
  exact absurd ⟨hu,by omega,by omega⟩ hs
 ·rw[show Yo d a=([],V8 d) by simp[Yo,hu]];refine Qkc ?_;refine XG ?_;exact Qsc
def Xy (s:Sta):AVal:= .agg [.d (.sl 3 (s.g.nodes.map Xm)),.d (.sl 5 (s.g.aj.map Xr)),ai s.g.nn,ai s.g.ne,.d (.sl 6 (s.rules.map Xh)),ai s.ts,ai s.ep,ai s.tail]
theorem X6c {n:Int} (h:n<16\/4096<n):VA n=(0,0,false):=PI h
theorem X9k {m:Nat} (h1:14<=m) (h2:m<=4094):VA ((m+2:Nat):Int)=(((m/4:Nat):Int),((2+2*(m/4):Nat):Int),true):=by
 unfold VA;rw[NI (by omega)];refine Prod.ext ?_ (Prod.ext ?_ rfl)
 ·show(((m+2:Nat):Int)-2)/4=((m/4:Nat):Int)
  omega
 ·show 2+2*((((m+2:Nat):Int)-2)/4)=((2+2*(m/4):Nat):Int)
  omega
theorem X37 (h1:16<=d.aa.length) (h2:d.aa.length<=4096):VA (d.aa.length:Nat)=(((Xt d:Nat):Int),((X9 d:Nat):Int),true):=by
 obtain⟨m,hm⟩:∃m,d.aa.length=m+2:=⟨d.aa.length-2,by omega⟩
 have e1:Xt d=m/4:=by unfold Xt;rw[hm];rfl
 have e2:X9 d=2+2*(m/4):=by unfold X9;rw[e1]
 rw[e1,e2,hm];exact X9k (by omega) (by omega)
theorem X3P (n:Int):Con prog 30 [] [ai n] [] (.tup [ai (VA n).1,ai (VA n).2.1,ab (VA n).2.2]):=by
 refine ZCt func30 ntmps30 fun E=> ?_;by_cases h1:n<16
 ·rw[X6c (.inl h1)];refine UU ?_
  (show AWP prog E _ _ _;refine X2 ?_;exact(show Xa _ _ _ _ _ from⟨_,St.le_refl _,⟨rfl,rfl,rfl,TV⟩,X4 _⟩))
 by_cases h2:4096<n
 ·rw[X6c (.inr h2)];refine UU ?_
  (show AWP prog E _ _ _;refine X2 ?_;exact(show Xa _ _ _ _ _ from⟨_,St.le_refl _,⟨rfl,rfl,rfl,TV⟩,X4 _⟩))
 obtain⟨m,rfl⟩:∃m:Nat,n=((m+2:Nat):Int):=⟨(n-2).toNat,by omega⟩
 rw[X9k (by omega) (by omega)];refine Ye ?_;refine ZBs (((m+2):Nat):Int) ((2:Nat):Int) ((m:Nat):Int) ?_;refine ZBq m 4 ?_;refine W6_ ?_;refine ZBM 2 (m/4) ?_;refine ZBA 2 (2*(m/4)) ?_;refine W4_ ?_
 (show AWP prog E _ _ _;refine X2 ?_;exact(show Xa _ _ _ _ _ from⟨_,St.le_refl _,⟨rfl,rfl,rfl,TV⟩,X4 _⟩))
theorem X56 (n:Int):Con prog 31 [] [ai n] [] (.tup [ai (VA n).1,ai (VA n).2.1,ab (VA n).2.2]):=by
 refine ZCt func31 ntmps31 fun E=> ?_;by_cases h1:n<16
 ·rw[X6c (.inl h1)];refine UU ?_
  (show AWP prog E _ _ _;refine X2 ?_;exact(show Xa _ _ _ _ _ from⟨_,St.le_refl _,⟨rfl,rfl,rfl,TV⟩,X4 _⟩))
 by_cases h2:4096<n
 ·rw[X6c (.inr h2)];refine UU ?_
  (show AWP prog E _ _ _;refine X2 ?_;exact(show Xa _ _ _ _ _ from⟨_,St.le_refl _,⟨rfl,rfl,rfl,TV⟩,X4 _⟩))
 obtain⟨m,rfl⟩:∃m:Nat,n=((m+2:Nat):Int):=⟨(n-2).toNat,by omega⟩
 rw[X9k (by omega) (by omega)];refine Ye ?_;refine ZBs (((m+2):Nat):Int) ((2:Nat):Int) ((m:Nat):Int) ?_;refine ZBq m 4 ?_;refine W6_ ?_;refine ZBM 2 (m/4) ?_;refine ZBA 2 (2*(m/4)) ?_;refine W4_ ?_
 (show AWP prog E _ _ _;refine X2 ?_;exact(show Xa _ _ _ _ _ from⟨_,St.le_refl _,⟨rfl,rfl,rfl,TV⟩,X4 _⟩))
structure StaHold (s:Sta):Prop where
 g:GraHold s.g
 rl:s.rules.length<=9223372036854775807
theorem Xa1 (s:Sta) (h:StaHold s):Con prog 45 [] [Xy s] [] (ab (YN s)):=by
 refine ZC1 func45 ntmps45 fun E=> ?_;have h1:=Xct s.g h.g;have h2:=Xe5 s.rules h.rl;obtain⟨r,hr⟩:∃r,r=YN s:=⟨_,rfl⟩
 rw[<-hr];unfold YN at hr;generalize X0n s.g=e1 at*;generalize X0W s.rules=e2 at*;clear h;obtain⟨⟨ns,es,nn,ne⟩,rs,ts,ep,tail⟩:=s;simp only[Xy,Y6] at*;refine XR ?_;refine Yb rfl rfl (fun hq=> ?_) (fun hq=> ?_);refine W5_ ?_;refine X59 rfl rfl (fun hq=> ?_) (fun hq=> ?_);refine W5_ ?_;refine Yb rfl rfl (fun hq=> ?_) (fun hq=> ?_);refine W5_ ?_;refine Yb rfl rfl (fun hq=> ?_) (fun hq=> ?_);refine W5_ ?_;refine Yb rfl rfl (fun hq=> ?_) (fun hq=> ?_);refine W5_ ?_;refine Yb rfl rfl (fun hq=> ?_) (fun hq=> ?_);refine W5_ ?_;refine Yb rfl rfl (fun hq=> ?_) (fun hq=> ?_);refine W6_ ?_;(clear h1 h2;(try simp only at*);simp[*] at hr;subst hr;exact Zr0);refine W6_ ?_;(clear h1 h2;(try simp only at*);simp[*] at hr;subst hr;exact Zr0);refine XK ?_;(clear h1 h2;(try simp only at*);simp[*] at hr;subst hr;exact Zr0);refine Yg ?_;(clear h1 h2;(try simp only at*);simp[*] at hr;subst hr;exact Zr0);refine Ye ?_;(clear h1 h2;(try simp only at*);simp[*] at hr;subst hr;exact Zr0);refine XY ?_;(clear h1 h2;(try simp only at*);simp[*] at hr;subst hr;exact Zr0);refine UP ?_;(clear h1 h2;(try simp only at*);simp[*] at hr;subst hr;exact Zr0);refine X07 ?_
 (clear h1 h2;(try simp only at*);simp[*] at hr;subst hr;exact Zr0)
theorem Xcg (d:ak):Con prog 44 [] [XU d] [] (ai (Uo d)):=by
 refine ZC1 func44 ntmps44 fun E=> ?_;have h1:=Xa5 d;have h2:=X3P (d.aa.length:Nat);obtain⟨r,hr⟩:∃r,r=Uo d:=⟨_,rfl⟩
 rw[<-hr];unfold Uo at hr;generalize VA (d.aa.length:Nat)=L at*;obtain⟨L1,L2,L3⟩:=L;simp only at h2 hr;generalize Ux d=v at*;have hm:(d.aa.map XV).length=d.aa.length:=by simp
 obtain⟨secs,ag,on⟩:=d;simp only at*;rw[<-hm] at h2;refine XG ?_;refine YJ rfl (fun hq=> ?_) (fun hq=> ?_);refine W4_ ?_;(clear h1 h2;(try simp only at*);simp[*] at hr;subst hr;(show AWP prog E _ _ _;refine X2 ?_;exact(show Xa _ _ _ _ _ from⟨_,St.le_refl _,⟨rfl,TV⟩,X4 _⟩)));refine W7_ ?_;refine YJ rfl (fun hq=> ?_) (fun hq=> ?_);refine W4_ ?_;(clear h1 h2;(try simp only at*);simp[*] at hr;subst hr;(show AWP prog E _ _ _;refine X2 ?_;exact(show Xa _ _ _ _ _ from⟨_,St.le_refl _,⟨rfl,TV⟩,X4 _⟩)));refine Ye ?_;refine YJ rfl (fun hq=> ?_) (fun hq=> ?_);refine W4_ ?_;(clear h1 h2;(try simp only at*);simp[*] at hr;subst hr;(show AWP prog E _ _ _;refine X2 ?_;exact(show Xa _ _ _ _ _ from⟨_,St.le_refl _,⟨rfl,TV⟩,X4 _⟩)));refine W5_ ?_
 (clear h1 h2;(try simp only at*);simp[*] at hr;subst hr;(show AWP prog E _ _ _;refine X2 ?_;exact(show Xa _ _ _ _ _ from⟨_,St.le_refl _,⟨rfl,TV⟩,X4 _⟩)))
open Go
theorem Xkv:∀(l:List Chg) (g:Gra) (k:Nat),(VO g k l).2.2=0->∀c∈l,YD c=0
 |[],_,_,_,c,h=>by simp at h
 |x::r,g,k,h,c,hc=>by
  rw[VO] at h;by_cases q:(YM g x).2≠0
  ·rw[PI q] at h;exact absurd h q
  rw[NI q] at h;rcases mem_cons.1 hc with rfl|hc
  ·unfold YM at q;by_cases z:YD c≠0
   ·rw[PI z] at q;exact absurd z q
   ·simpa using z
  ·exact Xkv r _ _ h c hc
theorem XcE (v:GV g):∀c∈X0i g,YD c=0:=by
 obtain⟨h,h1,_⟩:=Xnw v;exact Xkv (X0i g) UA 0 (by rw[h1 0])
theorem X2v {α β:Type}{w:α->List β}{k:Nat}:∀{l:List α},(∀x∈l,(w x).length<=k)->(l.map w).flatten.length<=k*l.length
 |[],_=>by simp
 |x::r,h=>by
  have h1:=h x (by simp);have h2:=X2v (l:=r) fun y hy=>h y (by simp[hy]);simp only[map_cons,flatten_cons,LA,LC,Nat.mul_add,Nat.mul_one];omega
theorem Xbj (v:GV g):(X0i g).length<=150000:=by
 have h1:=X2v (w:=dy) (k:=24) (l:=g.nodes) fun n hn=>by
  have pv:=(v.nodes n hn).2.2;have:=pv.ll;have:=pv.pl;unfold dy X52 Va;simp only[LA,LM];omega
 have h2:=X2v (w:=dU) (k:=16) (l:=g.aj) fun n hn=>by
  have:=(v.aj n hn).2.2.2.2.2.pl;unfold dU Va;simp only[LM];omega
 have h3:=v.nl;have h4:=v.el;unfold X0i X0H X1r;simp only[LA,LM];omega
def okK (p:List Rul×List Chg×Int×Int):Prop:=((∀r∈p.1,Uk r=0)/\p.1.length<=9223372036854775807)/\(((∀c∈p.2.1,YD c=0)/\p.2.1.length<=9223372036854775807)/\(okN p.2.2.1/\okN p.2.2.2))
def wK (p:List Rul×List Chg×Int×Int):List UInt8:=X5n VS p.1++(X5n VT p.2.1++(Xl p.2.2.1++Xl p.2.2.2))
theorem Xtk:X3z okK wK X66:=X7L (XiA XxG) fun _=>X7L (XiA Xo7) fun _=>X7L X6H fun _=>X6H
theorem XrR {rs:List Rul} (v:GV g) (hr:SchV rs):X66 ⟨0,Xv g rs,0,0⟩=((rs,X0i g,g.nn,g.ne),⟨0,Xv g rs,((Xv g rs).length:Nat),0⟩):=by
 have hl:=hr.len;have hs:=Xbj v;have hn:=v.nn;have he:=v.ne;have h:=Xtk ⟨0,Xv g rs,0,0⟩ 0 (rs,X0i g,g.nn,g.ne) [] ⟨⟨hr.ok,by simp only;omega⟩,⟨XcE v,by simp only;omega⟩,⟨by simp only;omega,by simp only;omega⟩,⟨by simp only;omega,by simp only;omega⟩⟩ rfl rfl ⟨Nat.zero_le _,by
  simp only[drop_zero,append_nil];rfl⟩
 rw[h];simp only[Nat.zero_add];rfl
theorem Vk:YN s=true↔GV s.g/\SchV s.rules/\0<=s.ts/\s.ts<=1000000000000000/\1<=s.ep/\s.ep<=1000000000000000/\0<=s.tail/\s.tail<=262144:=by
 unfold YN;rw[Bool.and_eq_true,Bool.and_eq_true,decide_eq_true_eq,decide_eq_true_eq,X5Q,X6u]
theorem XiP (hv:YN s=true):X1E (Xv s.g s.rules) s.ts s.ep=(⟨s.g,s.rules,s.ts,s.ep,0⟩,true):=by
 obtain⟨v,hr,h1,h2,h3,h4,h5,h6⟩:=Vk.1 hv;obtain⟨a1,a2,a3⟩:=XqE v;unfold X1E;rw[XrR v hr];simp only;rw[NI (by simp)];unfold X8i;rw[NI (by simp[a1])];simp only[a2,a3];rw[show YN ⟨⟨s.g.nodes,s.g.aj,s.g.nn,s.g.ne⟩,s.rules,s.ts,s.ep,0⟩=true from Vk.2 ⟨v,hr,h1,h2,h3,h4,Int.le_refl _,by simp only;omega⟩];simp
theorem XjP {ts ep:Int} (h:X1E b ts ep=(s,true)):YN s=true/\Xv s.g s.rules=b/\s.ts=ts/\s.ep=ep/\s.tail=0:=by
 unfold X1E at h;simp only at h;by_cases c:(X66 ⟨0,b,0,0⟩).2.e≠0\/(X66 ⟨0,b,0,0⟩).2.a≠b.length
 ·rw[PI c] at h;simp at h
 rw[NI c] at h;generalize X66 ⟨0,b,0,0⟩=p at h;unfold X8i at h;by_cases d:(V9 UA p.1.2.1).2.2≠0
 ·rw[PI d] at h;simp at h
 rw[NI d] at h;simp only[Prod.mk.injEq,Bool.and_eq_true,decide_eq_true_eq] at h;obtain⟨rfl,h1,h2⟩:=h;exact⟨h1,h2,rfl,rfl,rfl⟩
theorem XbX (a b c e:Int) (h:∀x∈[a,b,c,e],0<=x/\x<=9223372036854775807):(VL a b c e).length<=54:=by
 have h1:=X2v (w:=Xl) (k:=10) (l:=[a,b,c,e]) fun x hx=>X09 (h x hx);have h2:(X04 [a,b,c,e]).length<=40:=by unfold X04;simpa using h1
 have h3:=X09 (n:=((X04 [a,b,c,e]).length:Nat)) (by omega);have h4:=X3Q (X04 [a,b,c,e]);unfold VL Yn;simp only[LA];omega
theorem X6h {b:Int} (h:∀x∈[a,b,c,e],0<=x/\x<=9223372036854775807):(UI a b c e).length=64:=by
 have:=XbX a b c e h;unfold UI;simp only[LA,length_replicate,length_singleton];omega
def Xre (p:Int×Int×Int×Int):Prop:=okN p.1/\(okN p.2.1/\(okN p.2.2.1/\okN p.2.2.2))
def wH4 (p:Int×Int×Int×Int):List UInt8:=Xl p.1++(Xl p.2.1++(Xl p.2.2.1++Xl p.2.2.2))
theorem XsN:X3z Xre wH4 Xax:=X7L X6H fun _=>X7L X6H fun _=>X7L X6H fun _=>X6H
theorem Xbd {b:Int} (ha:okN a) (hb:okN b) (hc:okN c) (he:okN e):YZ (UI a b c e)=((a,b,c,e),true):=by
 have hu:(X04 [a,b,c,e]).length<=40:=by
  have h1:=X2v (w:=Xl) (k:=10) (l:=[a,b,c,e]) fun x hx=>X09 (by
   simp only[mem_cons,mem_nil_iff,or_false] at hx;rcases hx with rfl|rfl|rfl|rfl
   ·exact ha
   ·exact hb
   ·exact hc
   ·exact he)
  unfold X04;simpa using h1
 have hf:=X7U (s:=X04 [a,b,c,e]) (by omega) [] (replicate (63-(VL a b c e).length) 0++[1]);have hf:cj (UI a b c e) 0=(X04 [a,b,c,e],((Yn (X04 [a,b,c,e])).length:Int),0):=by simpa [UI,VL] using hf
 have hp:=XsN ⟨0,X04 [a,b,c,e],0,0⟩ 0 (a,b,c,e) [] ⟨ha,hb,hc,he⟩ rfl rfl ⟨Nat.zero_le _,by simp[X04,wH4]⟩;unfold YZ;rw[hf];simp only;rw[NI (by simp)];rw[hp];simp[X04,wH4]
theorem XlF (ns:List Nod) (h:∀n∈ns,n.labels.length<=8/\n.props.length<=16/\∀p∈n.props,Ui p.v=true):(X0H ns).length<=25*ns.length:=by
 unfold X0H;rw[LA,LM];have:=X2v (w:=dy) (k:=24) (l:=ns) fun x hx=>by
  have:=h x hx;unfold dy X52 Va;rw[LA,LM,LM];omega
 omega
theorem XnW (xs:List (List D)) (ns:List Nod) (C2:List (List D)) (nn ne:Int) (hok:∀n∈ns,n.labels.length<=8/\n.props.length<=16/\∀p∈n.props,Ui p.v=true) (hl:ns.length<=4000) (hx:xs.length<=50000):Con prog 238 (oS xs) [.ptr 0 0,.agg [.d (.sl 3 []),.d (.sl 5 []),ai 1,ai 1],.agg [.d (.sl 3 (ns.map Xm)),.d (.sl 5 C2),ai nn,ai ne]] (oS (xs++(X0H ns).map Xs)) (.tup []):=by
 refine X0I (xs:=[]) func238 rfl ntmps238 rfl rfl rfl (fun E=> ?_);have hlm:(ns.map Xm).length=ns.length:=by simp
 obtain⟨X,hX⟩:∃X:Nat->List (List D),∀i,xs++((ns.take i).map fU).map Xs=X i:=⟨_,fun _=>rfl⟩
 have bz:xs=X 0:=by rw[<-hX];simp
 have aU:∀i,(X i).length<=54000:=fun i=>by rw[<-hX,LA,LM,LM,LT];omega
 have bk:∀i x,ns[i]? =some x->X i++[Xs (fU x)]=X (i+1):=fun i x hs=>by rw[<-hX,<-hX,X19 hs,map_append,map_append,AS];rfl
 obtain⟨Y,hY⟩:∃Y:Nat->List (List D),∀i,X ns.length++(((ns.take i).map dy).flatten).map Xs=Y i:=⟨_,fun _=>rfl⟩
 have dV:X ns.length=Y 0:=by rw[<-hY];simp
 have lM:xs++(X0H ns).map Xs=Y ns.length:=by rw[<-hY,<-hX,take_length];unfold X0H;rw[map_append,AS]
 have dJ:∀i,(Y i).length<=54000+24*4000:=fun i=>by
  have h1:=aU ns.length;have h2:=X2v (w:=dy) (k:=24) (l:=ns.take i) fun x hx=>by
   have:=hok x (mem_of_mem_take hx);unfold dy X52 Va;rw[LA,LM,LM];omega
  rw[<-hY,LA,LM];have h3:(ns.take i).length<=ns.length:=by rw[LT];omega
  omega
 have dz:∀i x,ns[i]? =some x->Y i++(dy x).map Xs=Y (i+1):=fun i x hs=>by rw[<-hY,<-hY,X19 hs,map_append,flatten_append,map_append,AS];simp
 rw[lM];clear hX hY lM hx;rw[bz];clear bz;generalize hC:ns.map Xm=C at*;refine XG ?_
 refine Xn (fun i:Nat=>i<=ns.length) (fun i=>⟨85,[(0,.ptr 0 0),(4,.ptr 100 0),(5,.ptr 101 0),(15,.d (.sl 3 C)),(16,ai C.length),(17,ai i)],[(0,.box [.own 1 (X i).length]),(1,.row 10 (X i)),(100,.box [.d (.sl 3 []),.d (.sl 5 []),ai 1,ai 1]),(101,.box [.d (.sl 3 C),.d (.sl 5 C2),ai nn,ai ne])]⟩) (fun i=>ns.length-i) 0 (Nat.zero_le _)
  (ZL0) ?_
 intro i hi;by_cases hil:i<ns.length
 case pos=>
  have hn:(i:Int)<C.length:=by omega
  obtain⟨x,hx⟩:=Xu (l:=ns) hil;have au:C[i]? =some (Xm x):=by rw[<-hC];exact XM hx
  have hc:=Xio [] 1 1 x.id;simp only[Y6,map_nil] at hc;have ha:=Xak (X i) (fU x) (by have:=aU i;omega);rw[bk i x hx] at ha;clear bk aU dz dJ dV hC hok hx;obtain⟨id,labels,props⟩:=x;simp only[Xm,fU,Xz,zV] at au ha hc;refine Qo ?_;exact Qac
 obtain rfl:i=ns.length:=by omega
 have hn:¬((ns.length:Nat):Int)<C.length:=by omega
 rw[dV];clear bk aU hi hil;refine Yx ?_
 refine Xn (fun i:Nat=>i<=ns.length) (fun i=>⟨85,[(0,.ptr 0 0),(4,.ptr 100 0),(5,.ptr 101 0),(37,.d (.sl 3 C)),(38,ai C.length),(39,ai i)],[(0,.box [.own 1 (Y i).length]),(1,.row 10 (Y i)),(100,.box [.d (.sl 3 []),.d (.sl 5 []),ai 1,ai 1]),(101,.box [.d (.sl 3 C),.d (.sl 5 C2),ai nn,ai ne])]⟩) (fun i=>ns.length-i) 0 (Nat.zero_le _)
  (ZL0) ?_
 clear hn;intro i hi;by_cases hil:i<ns.length
 case neg=>
  obtain rfl:i=ns.length:=by omega
  have hn:¬((ns.length:Nat):Int)<C.length:=by omega
  exact Qjc
 have hn:(i:Int)<C.length:=by omega
 obtain⟨x,hx⟩:=Xu (l:=ns) hil;have au:C[i]? =some (Xm x):=by rw[<-hC];exact XM hx
 have hc:=Xio [] 1 1 x.id;simp only[Y6,map_nil] at hc;have oU:=dJ i;have lN:=hok x (mem_of_getElem? hx);have bY:=Xcm [] (by simp);have ey:=Xcm x.props (by omega);have hm0:=Xey (Y i) 4 x.id (x.labels.map Xf);have ej:=Xey (Y i) 5 x.id ((x.props.map Prp.key).map Xf);have hm2:=XxJ (Y i) 3 x.id x.labels (by omega);have oV:=Xkk (Y i++x.labels.map fun s=>Xs ⟨3,x.id,0,0,s,zV⟩) 5 x.id x.props lN.2.2 (by rw[LA,LM];omega);have hst:=dz i x hx;rw[show (dy x).map Xs=(x.labels.map fun s=>Xs ⟨3,x.id,0,0,s,zV⟩)++(Va 5 x.id x.props).map Xs by unfold dy X52;rw[map_append,map_map];rfl,<-AS] at hst;rw[hst] at oV;generalize (Y i++x.labels.map fun s=>Xs ⟨3,x.id,0,0,s,zV⟩)=W at*;simp only[map_nil] at bY;clear dz dJ dV hC hok hx hst oU lN;obtain⟨id,labels,props⟩:=x;simp only[Xm] at*;refine X1V ?_;refine Z3 (af:=hm0) ?_;refine W8_ ?_;refine Z3 (af:=bY) ?_;refine W2_ ?_;refine Z3 (af:=ey) ?_;refine Z3 (af:=ej) ?_;refine XA ?_;refine Z3 (af:=hm2) ?_;refine Yx ?_;exact Qac
theorem Xr5 (xs:List (List D)) (es:List Edg) (C2:List (List D)) (nn ne:Int) (hok:∀e∈es,e.props.length<=16/\∀p∈e.props,Ui p.v=true) (hl:es.length<=4000) (hx:xs.length<=50000):Con prog 239 (oS xs) [.ptr 0 0,.agg [.d (.sl 3 []),.d (.sl 5 []),ai 1,ai 1],.agg [.d (.sl 3 C2),.d (.sl 5 (es.map Xr)),ai nn,ai ne]] (oS (xs++(X1r es).map Xs)) (.tup []):=by
 refine X0I (xs:=[]) func239 rfl ntmps239 rfl rfl rfl (fun E=> ?_);have hlm:(es.map Xr).length=es.length:=by simp
 obtain⟨X,hX⟩:∃X:Nat->List (List D),∀i,xs++((es.take i).map fV).map Xs=X i:=⟨_,fun _=>rfl⟩
 have bz:xs=X 0:=by rw[<-hX];simp
 have aU:∀i,(X i).length<=54000:=fun i=>by rw[<-hX,LA,LM,LM,LT];omega
 have bk:∀i x,es[i]? =some x->X i++[Xs (fV x)]=X (i+1):=fun i x hs=>by rw[<-hX,<-hX,X19 hs,map_append,map_append,AS];rfl
 obtain⟨Y,hY⟩:∃Y:Nat->List (List D),∀i,X es.length++(((es.take i).map dU).flatten).map Xs=Y i:=⟨_,fun _=>rfl⟩
 have dV:X es.length=Y 0:=by rw[<-hY];simp
 have lM:xs++(X1r es).map Xs=Y es.length:=by rw[<-hY,<-hX,take_length];unfold X1r;rw[map_append,AS]
 have dJ:∀i,(Y i).length<=54000+16*4000:=fun i=>by
  have h1:=aU es.length;have h2:=X2v (w:=dU) (k:=16) (l:=es.take i) fun x hx=>by
   have:=hok x (mem_of_mem_take hx);unfold dU Va;rw[LM];omega
  rw[<-hY,LA,LM];have h3:(es.take i).length<=es.length:=by rw[LT];omega
  omega
 have dz:∀i x,es[i]? =some x->Y i++(dU x).map Xs=Y (i+1):=fun i x hs=>by rw[<-hY,<-hY,X19 hs,map_append,flatten_append,map_append,AS];simp
 rw[lM];clear hX hY lM hx;rw[bz];clear bz;generalize hC:es.map Xr=C at*;refine XG ?_
 refine Xn (fun i:Nat=>i<=es.length) (fun i=>⟨88,[(0,.ptr 0 0),(4,.ptr 100 0),(5,.ptr 101 0),(15,.d (.sl 5 C)),(16,ai C.length),(17,ai i)],[(0,.box [.own 1 (X i).length]),(1,.row 10 (X i)),(100,.box [.d (.sl 3 []),.d (.sl 5 []),ai 1,ai 1]),(101,.box [.d (.sl 3 C2),.d (.sl 5 C),ai nn,ai ne])]⟩) (fun i=>es.length-i) 0 (Nat.zero_le _)
  (ZL0) ?_
 intro i hi;by_cases hil:i<es.length
 case pos=>
  have hn:(i:Int)<C.length:=by omega
  obtain⟨x,hx⟩:=Xu (l:=es) hil;have au:C[i]? =some (Xr x):=by rw[<-hC];exact XM hx
  have hc:=XgC [] 1 1 x.id;simp only[Y6,map_nil] at hc;have ha:=Xak (X i) (fV x) (by have:=aU i;omega);rw[bk i x hx] at ha;clear bk aU dz dJ dV hC hok hx;obtain⟨id,src,dst,typ,props⟩:=x;simp only[Xr,fV,Xz,zV] at au ha hc;refine Qya ?_;exact Qac
 obtain rfl:i=es.length:=by omega
 have hn:¬((es.length:Nat):Int)<C.length:=by omega
 rw[dV];clear bk aU hi hil;refine Yx ?_
 refine Xn (fun i:Nat=>i<=es.length) (fun i=>⟨88,[(0,.ptr 0 0),(4,.ptr 100 0),(5,.ptr 101 0),(48,.d (.sl 5 C)),(49,ai C.length),(50,ai i)],[(0,.box [.own 1 (Y i).length]),(1,.row 10 (Y i)),(100,.box [.d (.sl 3 []),.d (.sl 5 []),ai 1,ai 1]),(101,.box [.d (.sl 3 C2),.d (.sl 5 C),ai nn,ai ne])]⟩) (fun i=>es.length-i) 0 (Nat.zero_le _)
  (ZL0) ?_
 clear hn;intro i hi;by_cases hil:i<es.length
 case neg=>
  obtain rfl:i=es.length:=by omega
  have hn:¬((es.length:Nat):Int)<C.length:=by omega
  exact Qjc
 have hn:(i:Int)<C.length:=by omega
 obtain⟨x,hx⟩:=Xu (l:=es) hil;have au:C[i]? =some (Xr x):=by rw[<-hC];exact XM hx
 have hc:=XgC [] 1 1 x.id;simp only[Y6,map_nil] at hc;have oU:=dJ i;have lN:=hok x (mem_of_getElem? hx);have bY:=Xcm [] (by simp);have ey:=Xcm x.props (by omega);have ej:=Xey (Y i) 8 x.id ((x.props.map Prp.key).map Xf);have oV:=Xkk (Y i) 8 x.id x.props lN.2 (by omega);have hst:=dz i x hx;unfold dU at hst;rw[hst] at oV;simp only[map_nil] at bY;clear dz dJ dV hC hok hx hst oU lN;obtain⟨id,src,dst,typ,props⟩:=x;simp only[Xr] at*;refine Qla ?_;refine Z3 (af:=bY) ?_;refine W2_ ?_;refine Z3 (af:=ey) ?_;refine Yg ?_;exact Qac
theorem Xqg (xs:List (List D)) (B1 B2:List (List D)) (nn ne:Int):Con prog 237 (oS xs) [.ptr 0 0,.agg [.d (.sl 3 []),.d (.sl 5 []),ai 1,ai 1],.agg [.d (.sl 3 B1),.d (.sl 5 B2),ai nn,ai ne]] (oS xs) (.tup []):=by
 refine X0I (xs:=[]) func237 rfl ntmps237 rfl rfl rfl (fun E=> ?_);refine XG ?_
 refine Xn (fun _:Unit=>True) (fun _=>⟨63,[(0,.ptr 0 0),(4,.ptr 100 0),(16,ai 0),(17,ai 0)],[(0,.box [.own 1 xs.length]),(1,.row 10 xs),(100,.box [.d (.sl 3 []),.d (.sl 5 []),ai 1,ai 1])]⟩) (fun _=>0) () trivial
  (ZL0) ?_
 intro _ _;refine Yx ?_
 refine Xn (fun _:Unit=>True) (fun _=>⟨63,[(0,.ptr 0 0),(43,ai 0),(44,ai 0)],oS xs⟩) (fun _=>0) () trivial
  (ZL0) ?_
 intro _ _;exact Qjc
end Go.Fw

/- Values that are valid, second part. -/
import Derived.Test.YtfmfekakaeafhaaGreatDoorP11
set_option linter.all false
set_option maxHeartbeats 16000000
namespace Go.Fw
open Go Go.Proofs Tryz List
open List renaming length->J
set_option maxRecDepth 100000
def X3t (k d:Int) (s:List UInt8) (n:Nat):Bool:=(decide (k≠3)&&decide (d≠0))||((decide (k≠4)&&decide (s≠[]))||(decide (k≠8)&&(decide (k≠7)&&decide ((0:Int)<(n:Nat)))))
def UU (m:Nat) (k n d:Int) (s:List UInt8) (l:List Val):Bool:=
 if k=0 then decide (n=0) else if k=1 then decide (n=0)||decide (n=1) else if k=2 then inV n
 else if k=3 then decide (2<=d)&&X1E n d else if k=4 then decide (n=0)&&(decide (((X7 s).size:Int)<=100)&&decide (X4E s<0))
 else if k=5 then decide (1<=n)&&decide (n<=1000000) else if k=6 then decide (1<=n)&&decide (n<=1000000)
 else if k=8 then !decide (n≠0)&&(!decide ((64:Int)<J (XR l))&&(!decide ((8:Int)<=(8-m:Nat))&&X0V (m-1) l))
 else if k=7 then decide (n=0)&&X1P l else false
def XsN {m:Nat} (hm:m<=8) (k n d:Int) (s:List UInt8) (l:List Val):Xj m (.mk k n d s l)=(!X3t k d s (J (XR l))&&UU m k n d s l):=by
 have hs:decide (X4E s<0)=X2s s:=by
  cases hv:X2s s with
  |true=>exact DT (XmN.2 hv)
  |false=>exact DF (fun h=>by rw[XmN.1 h] at hv;simp at hv)
 have hz:(X7 s).size=J s:=rfl;have h8:(8:Int)<=(8-m:Nat)↔¬1<=m:=Oa
 have pQ:(64:Int)<(J l:Nat)↔¬J l<=64:=Oa
 have h0:(0:Int)<(J l:Nat)↔¬l=[]:=by
  cases l with
  |nil=>simp
  |cons a b=>simp<;>omega
 have gZ:(J s:Int)<=100↔J s<=100:=Oa
 rw[Xj];unfold X3t UU X1P inV;rw[hs,hz,X1M];simp only[h8,pQ,h0,gZ,show ∀a b:Int,(a==b)=decide (a=b) from fun _ _=>rfl];have hk:k=0\/k=1\/k=2\/k=3\/k=4\/k=5\/k=6\/k=7\/k=8\/(k≠0/\k≠1/\k≠2/\k≠3/\k≠4/\k≠5/\k≠6/\k≠7/\k≠8):=Oa
 rcases hk with rfl|rfl|rfl|rfl|rfl|rfl|rfl|rfl|rfl|⟨q0,q1,q2,q3,q4,q5,q6,q7,q8⟩
 all_goals first|(simp[*,Bool.and_assoc];done)|(clear h8 pQ h0 gZ;by_cases a:J l<=64<;>by_cases b:1<=m<;>simp[a,b,Bool.and_assoc])
def XvM (v:Val) (ih:∀x∈v.l,Xcz x):Xcz v:=by
 obtain⟨k,n,d,s,l⟩:=v;intro m hm;refine ZC1 func279 ntmps279 fun E=> ?_;rw[XsN hm];have hlen:=X1M l;have hsz:(X7 s).size=J s:=rfl;have hp:Xge l:=Xrm l ih;unfold Xge at hp;simp only[Val.l] at ih;simp only[Xt];refine W7_ ?_;refine X4q ⟨142,[(1,ai (8-m:Nat)),(2,.ptr 100 0),(4,ab false),(40,ab (X3t k d s (J (XR l))))],[(100,.box [ai k,ai n,ai d,.d (.v (.string (X7 s))),.d (.sl 5 (XR l))])]⟩ ?_ ?_
 ·clear ih hp;refine W5_ ?_;refine Ye rfl rfl ?_ ?_<;>intro hq;refine W5_ ?_;refine Ye rfl rfl ?_ ?_<;>intro hq;refine W4_ ?_;refine QF ?_;refine W7_ ?_;refine QF ?_;refine W2_ ?_;refine Qu ?_;refine W3_ ?_;(exact X9 rfl ⟨ZzV,ZzV,ZzV,ZzQ (CG ab On),TV⟩ ⟨rfl,TV⟩);refine W4_ ?_;refine Ye rfl rfl ?_ ?_<;>intro hq;refine W6_ ?_;refine Ye rfl rfl ?_ ?_<;>intro hq;refine W4_ ?_;refine QF ?_;refine W2_ ?_;refine Qu ?_;refine W3_ ?_;(exact X9 rfl ⟨ZzV,ZzV,ZzV,ZzQ (CG ab On),TV⟩ ⟨rfl,TV⟩);refine W4_ ?_;refine Ye rfl rfl ?_ ?_<;>intro hq;refine W5_ ?_;refine Ye rfl rfl ?_ ?_<;>intro hq;refine W7_ ?_;(exact X9 rfl ⟨ZzV,ZzV,ZzV,ZzQ (CG ab On),TV⟩ ⟨rfl,TV⟩);refine W7_ ?_;(exact X9 rfl ⟨ZzV,ZzV,ZzV,ZzQ (CG ab On),TV⟩ ⟨rfl,TV⟩);refine XG ?_;(exact X9 rfl ⟨ZzV,ZzV,ZzV,ZzQ (CG ab On),TV⟩ ⟨rfl,TV⟩);refine YJ ?_;(exact X9 rfl ⟨ZzV,ZzV,ZzV,ZzQ (CG ab On),TV⟩ ⟨rfl,TV⟩);refine Ya ?_;refine Ye rfl rfl ?_ ?_<;>intro hq;refine W4_ ?_;refine QF ?_;refine W2_ ?_;refine Qu ?_;refine W3_ ?_;(exact X9 rfl ⟨ZzV,ZzV,ZzV,ZzQ (CG ab On),TV⟩ ⟨rfl,TV⟩);refine Yr ?_
  (exact X9 rfl ⟨ZzV,ZzV,ZzV,ZzQ (CG ab On),TV⟩ ⟨rfl,TV⟩)
 generalize X3t k d s (J (XR l))=b;cases b with
 |true=>
  rw[Bool.not_true,Bool.false_and];refine W5_ ?_;exact Zr0
 |false=>
  rw[Bool.not_false,Bool.true_and];by_cases hk:k=8
  case neg=>
   refine XD ?_;refine VI rfl ?_ ?_<;>intro hq;refine W7_ ?_
   (exact X3 ⟨_,Xe 4 (y:=ab (UU m k n d s l)) (ZzQ (CG ab Of)),⟨rfl,TV⟩,X5 _⟩)
   refine W5_ ?_;refine VI rfl ?_ ?_<;>intro hq;refine W6_ ?_;refine Ye rfl rfl ?_ ?_<;>intro hq;refine W6_ ?_
   (exact X3 ⟨_,Xe 4 (y:=ab (UU m k n d s l)) (ZzQ (CG ab Of)),⟨rfl,TV⟩,X5 _⟩)
   refine W6_ ?_
   (exact X3 ⟨_,Xe 4 (y:=ab (UU m k n d s l)) (ZzQ (CG ab Of)),⟨rfl,TV⟩,X5 _⟩)
   refine W5_ ?_;refine VI rfl ?_ ?_<;>intro hq;refine W4_ ?_;refine Z5 (ag:=Xa9 n) ?_;refine W2_ ?_
   (exact X3 ⟨_,Xe 4 (y:=ab (UU m k n d s l)) (ZzQ (CG ab Of)),⟨rfl,TV⟩,X5 _⟩)
   refine W5_ ?_;refine VI rfl ?_ ?_<;>intro hq;refine W6_ ?_;refine Ye rfl rfl ?_ ?_<;>intro hq;refine W5_ ?_;refine Z5 (ag:=XzL n d) ?_;refine W3_ ?_
   (exact X3 ⟨_,Xe 4 (y:=ab (UU m k n d s l)) (ZzQ (CG ab Of)),⟨rfl,TV⟩,X5 _⟩)
   refine W9_ ?_
   (exact X3 ⟨_,Xe 4 (y:=ab (UU m k n d s l)) (ZzQ (CG ab Of)),⟨rfl,TV⟩,X5 _⟩)
   refine W5_ ?_;refine VI rfl ?_ ?_<;>intro hq;refine W6_ ?_;refine Ye rfl rfl ?_ ?_<;>intro hq;refine W6_ ?_;refine Ye rfl rfl ?_ ?_<;>intro hq;refine W2_ ?_;refine Z5 (ag:=XrU s Oa) ?_;refine W4_ ?_
   (exact X3 ⟨_,Xe 4 (y:=ab (UU m k n d s l)) (ZzQ (CG ab Of)),⟨rfl,TV⟩,X5 _⟩)
   refine W7_ ?_
   (exact X3 ⟨_,Xe 4 (y:=ab (UU m k n d s l)) (ZzQ (CG ab Of)),⟨rfl,TV⟩,X5 _⟩)
   refine XK ?_
   (exact X3 ⟨_,Xe 4 (y:=ab (UU m k n d s l)) (ZzQ (CG ab Of)),⟨rfl,TV⟩,X5 _⟩)
   refine W6_ ?_;refine VI rfl ?_ ?_<;>intro hq;refine W8_ ?_;refine Ye rfl rfl ?_ ?_<;>intro hq;refine W6_ ?_
   (exact X3 ⟨_,Xe 4 (y:=ab (UU m k n d s l)) (ZzQ (CG ab Of)),⟨rfl,TV⟩,X5 _⟩)
   refine W6_ ?_
   (exact X3 ⟨_,Xe 4 (y:=ab (UU m k n d s l)) (ZzQ (CG ab Of)),⟨rfl,TV⟩,X5 _⟩)
   refine W4_ ?_;refine VI rfl ?_ ?_<;>intro hq;refine W6_ ?_;refine Ye rfl rfl ?_ ?_<;>intro hq;refine W6_ ?_
   (exact X3 ⟨_,Xe 4 (y:=ab (UU m k n d s l)) (ZzQ (CG ab Of)),⟨rfl,TV⟩,X5 _⟩)
   refine W6_ ?_
   (exact X3 ⟨_,Xe 4 (y:=ab (UU m k n d s l)) (ZzQ (CG ab Of)),⟨rfl,TV⟩,X5 _⟩)
   refine XB ?_;refine VI rfl ?_ ?_<;>intro hq;refine W6_ ?_;refine Ye rfl rfl ?_ ?_<;>intro hq;refine W6_ ?_
   (exact X3 ⟨_,Xe 4 (y:=ab (UU m k n d s l)) (ZzQ (CG ab Of)),⟨rfl,TV⟩,X5 _⟩)
   refine W6_ ?_
   (exact X3 ⟨_,Xe 4 (y:=ab (UU m k n d s l)) (ZzQ (CG ab Of)),⟨rfl,TV⟩,X5 _⟩)
   refine W5_ ?_
   (exact X3 ⟨_,Xe 4 (y:=ab (UU m k n d s l)) (ZzQ (CG ab Of)),⟨rfl,TV⟩,X5 _⟩)
  refine X4 ?_;refine YA ?_;refine Ye rfl rfl ?_ ?_<;>intro hq;refine Ya ?_
  (exact X3 ⟨_,Xe 4 (y:=ab (UU m k n d s l)) (ZzQ (CG ab Of)),⟨rfl,TV⟩,X5 _⟩)
  refine W6_ ?_;refine Ye rfl rfl ?_ ?_<;>intro hq;refine W9_ ?_
  (exact X3 ⟨_,Xe 4 (y:=ab (UU m k n d s l)) (ZzQ (CG ab Of)),⟨rfl,TV⟩,X5 _⟩)
  refine W4_ ?_;refine VI rfl ?_ ?_<;>intro hq;refine W4_ ?_
  (exact X3 ⟨_,Xe 4 (y:=ab (UU m k n d s l)) (ZzQ (CG ab Of)),⟨rfl,TV⟩,X5 _⟩)
  refine XA ?_;have hT:UU m k n d s l=X0V (m-1) (l.drop 0):=by clear hlen hsz hp;simp only[ne_eq,Classical.not_not] at*;simp[UU, *]
  have fm:1<=m:=Oa
  rw[hT];clear hT
  refine Xl (fun i:Nat=>i<=J l/\X0V (m-1) (l.drop 0)=X0V (m-1) (l.drop i)) (fun i=>⟨142,[(1,ai (8-m:Nat)),(120,.d (.sl 5 (XR l))),(121,ai (J l)),(122,ai i)],[]⟩) (fun i=>J l-i) 0 ⟨Oa,rfl⟩
   (X9 rfl ⟨JL,JL,O8,JL,TV⟩ trivial) ?_
  rintro i ⟨hi,aE⟩;by_cases hlt:i<J l
  ·obtain⟨x,hx⟩:=Xn (l:=l) hlt;have ie:=X6h hx;have dQ:=ih x (mem_of_getElem? hx) (m-1) Oa;have hst:=Xnc (m:=m-1) hx;have e8:nj (8-m+1)=nj (8-(m-1)):=CG nj Oa;obtain⟨k',n',d',s',q'⟩:=x;simp only[Xt] at dQ;rw[UB] at ie;cases cj:Xj (m-1) (.mk k' n' d' s' q') with
   |true=>
    rw[cj] at dQ;rw[cj,Bool.true_and] at hst;refine YV ?_;(refine Z3 (op:= .add) (r':=nj (8-(m-1))) (u:=nj (8-m)) (v:=nj 1) ?_ (hr':=by exact e8) (hr:=OT));refine W9_ ?_;exact⟨i+1,⟨Oa,aE.trans hst⟩,Oa,X9 rfl ⟨JL,JL,JL,JL,TV⟩ TV⟩
   |false=>
    rw[cj] at dQ;rw[cj,Bool.false_and] at hst;rw[aE,hst];refine YV ?_;(refine Z3 (op:= .add) (r':=nj (8-(m-1))) (u:=nj (8-m)) (v:=nj 1) ?_ (hr':=by exact e8) (hr:=OT));exact QE
  obtain rfl:i=J l:=Oa
  rw[aE,drop_length,X0V];exact Qn
def Xiq:∀v:Val,Xcz v
 | .mk k n d s l=>XvM (.mk k n d s l) fun x hx=>Xiq x
termination_by v=>SizeOf.sizeOf v
decreasing_by
 have h1:=sizeOf_lt_of_mem (show x∈l from hx);simp only[Val.mk.sizeOf_spec];omega
def X2B (v:Val):Con prog 226 [] [Xt v] [] (ab (Xj 8 v)):=by
 refine ZC1 func226 ntmps226 fun E=> ?_;have h:=Xiq v 8 Oa;obtain⟨k,n,d,s,l⟩:=v;simp only[Xt,Nat.sub_self] at h;exact Qn
def Xq5 (v:Val) (hok:U1 v) (ih:∀x∈v.l,XaK x):XaK v:=by
 obtain⟨k,n,d,s,l⟩:=v;intro m hm;rw[U1] at hok;simp only[Val.l] at ih;refine ZC1 func278 ntmps278 fun E=> ?_;have hlen:=X1M l;by_cases bT:k=0
 ·subst bT;have hb:=Xwo 0 n d s l;by_cases hn0:n=0
  case neg=>
   exact Yt23
  by_cases iG:d=0
  case neg=>
   exact Yt23
  by_cases hs0:s=[]
  case neg=>
   exact Yt23
  by_cases jE:J l=0
  case neg=>
   rw[show (decide (n=0)&&decide (d=0)&&decide (s=[])&&decide (J l=0))=false by simp[*]] at hb;have bh:0<J l:=Oa
   rw[show Xj m (.mk 0 n d s l)=false by rw[Xj];simp[*]];exact QCa
  rw[show (decide (n=0)&&decide (d=0)&&decide (s=[])&&decide (J l=0))=true by simp[*]] at hb;rw[show Xj m (.mk 0 n d s l)=true by rw[Xj];simp[*]];exact QCa
 by_cases cq:k=1
 ·subst cq;have hb:=Xbe 1 n d s l;by_cases iG:d=0
  case neg=>
   exact Yt52
  by_cases hs0:s=[]
  case neg=>
   exact Yt52
  by_cases jE:J l=0
  case neg=>
   rw[show (decide (d=0)&&decide (s=[])&&decide (J l=0))=false by simp[*]] at hb;have bh:0<J l:=Oa
   rw[show Xj m (.mk 1 n d s l)=false by rw[Xj];simp[*]];exact QDa
  rw[show (decide (d=0)&&decide (s=[])&&decide (J l=0))=true by simp[*]] at hb;by_cases hn:n=0
  ·rw[show Xj m (.mk 1 n d s l)=true by rw[Xj];simp[*]];refine X4 ?_;exact Zr0
  by_cases fq:n=1
  ·rw[show Xj m (.mk 1 n d s l)=true by rw[Xj];simp[*]];refine X4 ?_;exact X3 ⟨_,Xe 4 (y:=ab true) (ZzQ (by refine Eq.trans (b:=ab (decide (n=1))) rfl ?_;exact CG ab (DT fq))),⟨rfl,TV⟩,X5 _⟩
  ·rw[show Xj m (.mk 1 n d s l)=false by rw[Xj];simp[*]];refine X4 ?_;exact X3 ⟨_,Xe 4 (y:=ab false) (ZzQ (by refine Eq.trans (b:=ab (decide (n=1))) rfl ?_;exact CG ab (DF fq))),⟨rfl,TV⟩,X5 _⟩
 by_cases hk2:k=2
 ·subst hk2;have hb:=Xbe 2 n d s l;by_cases iG:d=0
  case neg=>
   exact Yt44
  by_cases hs0:s=[]
  case neg=>
   exact Yt44
  by_cases jE:J l=0
  case neg=>
   rw[show (decide (d=0)&&decide (s=[])&&decide (J l=0))=false by simp[*]] at hb;have bh:0<J l:=Oa
   rw[show Xj m (.mk 2 n d s l)=false by rw[Xj];simp[*]];refine QO ?_;exact Zr0
  rw[show (decide (d=0)&&decide (s=[])&&decide (J l=0))=true by simp[*]] at hb;rw[show Xj m (.mk 2 n d s l)=inV n by rw[Xj];simp[inV, *]];refine X17 ?_;refine Z5 (ag:=Xzr n) ?_;exact QEa
 by_cases jF:k=3
 ·subst jF;have hb:=Xqa 3 n d s l;by_cases hs0:s=[]
  case neg=>
   rw[show (decide (s=[])&&decide (J l=0))=false by simp[*]] at hb;rw[show Xj m (.mk 3 n d s l)=false by rw[Xj];simp[*]];exact QGa
  by_cases jE:J l=0
  case neg=>
   rw[show (decide (s=[])&&decide (J l=0))=false by simp[*]] at hb;have bh:0<J l:=Oa
   rw[show Xj m (.mk 3 n d s l)=false by rw[Xj];simp[*]];exact QGa
  rw[show (decide (s=[])&&decide (J l=0))=true by simp[*]] at hb;by_cases hd:2<=d
  ·rw[show Xj m (.mk 3 n d s l)=X1E n d by rw[Xj];simp[*]];refine Qxa ?_;refine Z5 (ag:=Xdb n d) ?_;exact QEa
  ·rw[show Xj m (.mk 3 n d s l)=false by rw[Xj];simp[*]];exact QGa
 by_cases iH:k=4
 ·subst iH;have hb:=XyT 4 n d s l;by_cases hn0:n=0
  case neg=>
   exact Yt47
  by_cases iG:d=0
  case neg=>
   exact Yt47
  by_cases jE:J l=0
  case neg=>
   rw[show (decide (n=0)&&decide (d=0)&&decide (J l=0))=false by simp[*]] at hb;have bh:0<J l:=Oa
   rw[show Xj m (.mk 4 n d s l)=false by rw[Xj];simp[*]];refine X4 ?_;exact Qe
  rw[show (decide (n=0)&&decide (d=0)&&decide (J l=0))=true by simp[*]] at hb;rw[show Xj m (.mk 4 n d s l)=(X2s s&&decide (J s<=100)) by rw[Xj];simp[*,Bool.and_comm]];refine QHa ?_;refine Z5 (ag:=XsS s hok.1) ?_;exact QEa
 by_cases kz:k=5
 ·subst kz;have hb:=Xbe 5 n d s l;by_cases iG:d=0
  case neg=>
   exact Yt46
  by_cases hs0:s=[]
  case neg=>
   exact Yt46
  by_cases jE:J l=0
  case neg=>
   rw[show (decide (d=0)&&decide (s=[])&&decide (J l=0))=false by simp[*]] at hb;have bh:0<J l:=Oa
   rw[show Xj m (.mk 5 n d s l)=false by rw[Xj];simp[*]];refine X4 ?_;exact QB
  rw[show (decide (d=0)&&decide (s=[])&&decide (J l=0))=true by simp[*]] at hb;by_cases hn:1<=n
  case neg=>
   rw[show Xj m (.mk 5 n d s l)=false by rw[Xj];simp[*]];refine X4 ?_;exact QB
  rw[show Xj m (.mk 5 n d s l)=decide (n<=1000000) by rw[Xj];simp[*]];refine X4 ?_;exact QB
 by_cases kC:k=6
 ·subst kC;have hb:=Xbe 6 n d s l;by_cases iG:d=0
  case neg=>
   exact Yt53
  by_cases hs0:s=[]
  case neg=>
   exact Yt53
  by_cases jE:J l=0
  case neg=>
   rw[show (decide (d=0)&&decide (s=[])&&decide (J l=0))=false by simp[*]] at hb;have bh:0<J l:=Oa
   rw[show Xj m (.mk 6 n d s l)=false by rw[Xj];simp[*]];exact QAa
  rw[show (decide (d=0)&&decide (s=[])&&decide (J l=0))=true by simp[*]] at hb;by_cases hn:1<=n
  case neg=>
   rw[show Xj m (.mk 6 n d s l)=false by rw[Xj];simp[*]];exact QAa
  rw[show Xj m (.mk 6 n d s l)=decide (n<=1000000) by rw[Xj];simp[*]];exact QAa
 by_cases ja:k=7
 ·subst ja;have hb:=Xjl 7 n d s l;by_cases hn0:n=0
  case neg=>
   exact Yt26
  by_cases iG:d=0
  case neg=>
   exact Yt26
  by_cases hs0:s=[]
  case neg=>
   exact Yt26
  rw[show (decide (n=0)&&decide (d=0)&&decide (s=[]))=true by simp[*]] at hb;rw[show Xj m (.mk 7 n d s l)=X1P l by rw[Xj];simp[X1P, *]];refine X4 ?_;refine YT ?_;refine Z5 (ag:=XqO l hok.2.1 ih) ?_;exact QEa
 by_cases gw:k=8
 ·subst gw;have hb:=Xjl 8 n d s l;by_cases hn0:n=0
  case neg=>
   exact Yt21
  by_cases iG:d=0
  case neg=>
   exact Yt21
  by_cases hs0:s=[]
  case neg=>
   exact Yt21
  rw[show (decide (n=0)&&decide (d=0)&&decide (s=[]))=true by simp[*]] at hb;rw[show Xj m (.mk 8 n d s l)=(decide (1<=m/\J l<=64)&&X0V (m-1) l) by rw[Xj];simp[*,and_comm]];refine X4 ?_;refine VM ?_;refine Z5 (ag:=XpV l m hm hok.2.1 ih) ?_;exact QEa
 rw[show Xj m (.mk k n d s l)=false by rw[Xj];simp[*]];refine X4 ?_;exact QIa
def Xl0:∀v:Val,XvY v
 | .mk k n d s l=>fun hok=>Xq5 (.mk k n d s l) hok fun x hx=>Xl0 x (Xcg Ja hx)
termination_by v=>SizeOf.sizeOf v
decreasing_by
 have h1:=sizeOf_lt_of_mem (show x∈l from hx);simp only[Val.mk.sizeOf_spec];omega
def X5I (v:Val) (hok:U1 v):Con prog 224 [] [Xt v] [] (ab (Xj 8 v)):=by
 refine ZC1 func224 ntmps224 fun E=> ?_;have h:=Xl0 v hok 8 Oa;obtain⟨k,n,d,s,l⟩:=v;simp only[Xt] at h;exact Qn
end Go.Fw

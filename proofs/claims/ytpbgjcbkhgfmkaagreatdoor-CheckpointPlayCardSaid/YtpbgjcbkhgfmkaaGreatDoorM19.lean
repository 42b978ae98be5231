/- The program's check of a graph. -/
import Derived.Test.YtpbgjcbkhgfmkaaGreatDoorM18
set_option maxHeartbeats 32000000
namespace Go.Fw
open Go Go.Proofs Tryz List
set_option maxRecDepth 100000
set_option linter.unusedVariables false
set_option linter.unusedSimpArgs false
def X0g (n:Nod):AVal:= .agg [ai n.id,.d (.sl 1 (n.labels.map Xf)),.d (.sl 6 (n.props.map Xd))]
def XgR (n:Nod):Prop:=n.labels.length<=9223372036854775807/\(∀s∈n.labels,s.length<=9223372036854775807)/\n.props.length<=9223372036854775807/\∀p∈n.props,X9X p
def XkX (e:Edg):Prop:=e.typ.length<=9223372036854775807/\e.props.length<=9223372036854775807/\∀p∈e.props,X9X p
structure GraHold (g:Gra):Prop where
 nl:g.nodes.length<=9223372036854775807
 el:g.aj.length<=9223372036854775807
 nodes:∀n∈g.nodes,XgR n
 aj:∀e∈g.aj,XkX e
variable{l ns:List Nod}{d ne nn x y:Int}{es:List Edg}{i j n:Nat}{s:Rd}
theorem Xk7 {n:Nod}:X1Z nn (V3 l 0) n=if n.id<1\/nn<=n.id then 1 else X1c n.labels n.props:=by
 unfold X1Z V3;rw[NI (by simp)]
theorem XgG {p n:Nod} (h:l[j]? =some p):X1Z nn (V3 l (j+1)) n=if n.id<=p.id then 26 else if n.id<1\/nn<=n.id then 1 else X1c n.labels n.props:=by
 unfold X1Z;rw[X50,h];simp
theorem Xlh {l:List Edg}{n:Edg}:X2T ns ne (V3 l 0) n=if n.id<1\/ne<=n.id then 1
 else if V1 ns n.src=false\/V1 ns n.dst=false then 10 else if Y8 n.typ=false then 6 else X1c [] n.props:=by
 unfold X2T V3;rw[NI (by simp)]
theorem Xks {l:List Edg}{p n:Edg} (h:l[j]? =some p):X2T ns ne (V3 l (j+1)) n=if n.id<=p.id then 26 else if n.id<1\/ne<=n.id then 1
 else if V1 ns n.src=false\/V1 ns n.dst=false then 10 else if Y8 n.typ=false then 6 else X1c [] n.props:=by
 unfold X2T;rw[X50,h];simp
theorem Xeg (h:x<y):YP x y= -1:=PI h
theorem Xf0 (h:¬x<y):¬YP x y<0:=by
 unfold YP;rw[NI h];split<;>decide
theorem Xex:decide (YP x y=0)=decide (x=y):=by
 unfold YP;by_cases h:x<y
 ·rw[PI h,DF (by decide),DF (by omega)]
 ·rw[NI h];by_cases h':y<x
  ·rw[PI h',DF (by decide),DF (by omega)]
  ·rw[NI h',DT rfl,DT (by omega)]
theorem XhF (x:Nod) (n:Int):Con prog 223 [] [X0g x,ai n] [] (ai (YP x.id n)):=by
 refine ZC1 func223 ntmps223 fun E=> ?_;have hc:=X5A x.id n;obtain⟨id,labels,props⟩:=x;simp only[X0g] at hc |-;generalize YP id n=q at*;exact Qw
theorem Xo4 (l:List Nod) (n:Int) (hl:l.length<=4294967296) (hr:Xbw l):Con prog 222 [] [.d (.sl 3 (l.map Xm)),ai n,.fn 223 []] [] (.tup [ai (Xge l n),ab (V1 l n)]):=by
 refine ZCt func222 ntmps222 fun E=> ?_;have hlm:(l.map Xm).length=l.length:=by simp
 refine YR ?_
 refine Xn (ι:=Nat×Nat) (fun q=>q.1<=q.2/\q.2<=l.length/\(∀(k:Nat) (x:Nod),k<q.1->l[k]? =some x->x.id<n)/\(∀(k:Nat) (x:Nod),q.2<=k->l[k]? =some x->n<=x.id)) (fun q=>⟨49,[(0,.d (.sl 3 (l.map Xm))),(1,ai n),(2,.fn 223 []),(8,ai (l.map Xm).length),(9,ai q.1),(10,ai q.2)],[]⟩) (fun q=>q.2-q.1) (0,l.length)
  ⟨Nat.zero_le _,Nat.le_refl _,fun k x h=>absurd h (Nat.not_lt_zero _),fun k x h hx=>absurd (GS.1 hx).1 (Nat.not_lt.2 h)⟩
  (Xb rfl ⟨JL,JL,JL,JL,JL,AVal.le_of_eq (by show ai _=ai _;rw[hlm]),TV⟩ trivial) ?_
 rintro⟨i,j⟩ ⟨h1,h2,h3,h4⟩;simp only at h1 h2 h3 h4;by_cases hij:i<j
 case neg=>
  obtain rfl:i=j:=by omega
  have aN:=Xxh h2 h3 (fun x hx=>by have:=h4 i x (Nat.le_refl _) hx;omega);have bh:=Xsj hr h3 h4;rw[aN,bh];have dR:¬(i:Int)<(i:Nat):=by omega
  by_cases hil:i<l.length
  ·have dS:(i:Int)<(l.map Xm).length:=by omega
   obtain⟨x,hx⟩:=Xu (l:=l) hil;have au:(l.map Xm)[i]? =some (Xm x):=XM hx;have hc:=XhF x n;have hd:decide (∃y,l[i]? =some y/\y.id=n)=decide (YP x.id n=0):=by rw[Xex,hx];simp
   rw[hd];generalize YP x.id n=c at*;obtain⟨id,labels,props⟩:=x;simp only[X0g,Xm] at hc au;refine QRb ?_
   first|exact X2 ⟨_,St.le_refl _,⟨rfl,rfl,TV⟩,X4 _⟩|exact X2 ⟨_,St.le_refl _,⟨⟨rfl,rfl,TV⟩,TV⟩,X4 _⟩
  ·have dS:¬(i:Int)<(l.map Xm).length:=by omega
   have hd:decide (∃y,l[i]? =some y/\y.id=n)=false:=by
    refine DF ?_;rintro⟨y,hy,_⟩;exact hil (GS.1 hy).1
   rw[hd];refine YY ?_
   first|exact X2 ⟨_,St.le_refl _,⟨rfl,rfl,TV⟩,X4 _⟩|exact X2 ⟨_,St.le_refl _,⟨⟨rfl,rfl,TV⟩,TV⟩,X4 _⟩
 have dR:(i:Int)<(j:Nat):=by omega
 obtain⟨x,hx⟩:=Xu (l:=l) (k:=(i+j)/2) (by omega);have au:(l.map Xm)[(i+j)/2]? =some (Xm x):=XM hx;have hc:=XhF x n;have e2:n64 ((i+j)/2^1)=n64 ((i+j)/2):=rfl;have hid:x.id=x.id:=rfl;by_cases hlt:x.id<n
 ·have hinv:∀(k:Nat) (y:Nod),k<(i+j)/2+1->l[k]? =some y->y.id<n:=fun k y hk hy=>by
   by_cases e:k=(i+j)/2
   ·subst e;rw[hx] at hy;injection hy with hy;subst hy;exact hlt
   ·have:=hr k ((i+j)/2) y x hy hx (by omega);omega
  rw[Xeg hlt] at hc;obtain⟨id,labels,props⟩:=x;simp only[X0g,Xm] at hc au;refine QSb ?_;(refine Z0 (u:=ni (i+j)) (r:=n64 (i+j)) ?_ (hr:=by exact Uj rfl rfl (by rw[YG];omega)));refine QTb ?_;(refine Z0 (u:=n64 ((i+j)/2)) (r:=ni ((i+j)/2)) ?_ (hr:=by exact Uj rfl rfl (by rw[YO];omega)));exact QUb
 ·have hinv:∀(k:Nat) (y:Nod),(i+j)/2<=k->l[k]? =some y->n<=y.id:=fun k y hk hy=>by
   by_cases e:k=(i+j)/2
   ·subst e;rw[hx] at hy;injection hy with hy;subst hy;omega
   ·have:=hr ((i+j)/2) k x y hx hy (by omega);omega
  have hge:=Xf0 hlt;generalize YP x.id n=c at*;obtain⟨id,labels,props⟩:=x;simp only[X0g,Xm] at hc au;refine QSb ?_;(refine Z0 (u:=ni (i+j)) (r:=n64 (i+j)) ?_ (hr:=by exact Uj rfl rfl (by rw[YG];omega)));refine QTb ?_;(refine Z0 (u:=n64 ((i+j)/2)) (r:=ni ((i+j)/2)) ?_ (hr:=by exact Uj rfl rfl (by rw[YO];omega)));exact QWb
theorem Xgw (l:List Nod) (n:Int) (hl:l.length<=4294967296) (hr:Xbw l):Con prog 142 [] [.d (.sl 3 (l.map Xm)),ai n] [] (ab (V1 l n)):=by
 refine ZC1 func142 ntmps142 fun E=> ?_;have hs:=Xo4 l n hl hr;generalize Xge l n=a at*;generalize V1 l n=b at*;exact QM
theorem Xbg (h:2000<ns.length\/4000<es.length):X0n ⟨ns,es,nn,ne⟩=4:=PI h
theorem X6e (h1:¬2000<ns.length) (h2:¬4000<es.length) (h:nn<1\/1000001<nn\/ne<1\/1000001<ne):X0n ⟨ns,es,nn,ne⟩=1:=by
 unfold X0n;simp only;rw[NI (fun q=>q.elim h1 h2),PI h]
theorem XgY (h1:¬2000<ns.length) (h2:¬4000<es.length) (a1:¬nn<1) (a2:¬1000001<nn) (a3:¬ne<1) (a4:¬1000001<ne):
  X0n ⟨ns,es,nn,ne⟩=if X12 nn none ns≠0 then X12 nn none ns else X2b ns ne none es:=by
 unfold X0n;simp only;rw[NI (fun q=>q.elim h1 h2),NI (by omega)]
theorem Xct (g:Gra) (hok:GraHold g):Con prog 89 [] [Y6 g] [] (ai (X0n g)):=by
 obtain⟨ns,es,nn,ne⟩:=g;obtain⟨ax,hel,hnh,heh⟩:=hok;simp only at ax hel hnh heh;unfold Y6;simp only;refine ZC1 func89 ntmps89 fun E=> ?_;have hlm:(ns.map Xm).length=ns.length:=by simp
 have hle:(es.map Xr).length=es.length:=by simp
 by_cases h1:2000<ns.length
 ·rw[Xbg (.inl h1)];have dD:(2000:Int)<(ns.map Xm).length:=by omega
  exact QT
 have dD:¬(2000:Int)<(ns.map Xm).length:=by omega
 by_cases h2:4000<es.length
 ·rw[Xbg (.inr h2)];have ek:(4000:Int)<(es.map Xr).length:=by omega
  exact QT
 have ek:¬(4000:Int)<(es.map Xr).length:=by omega
 by_cases a1:nn<1
 ·rw[X6e h1 h2 (.inl a1)];exact QXb
 by_cases a2:1000001<nn
 ·rw[X6e h1 h2 (.inr (.inl a2))];exact QXb
 by_cases a3:ne<1
 ·rw[X6e h1 h2 (.inr (.inr (.inl a3)))];exact QXb
 by_cases a4:1000001<ne
 ·rw[X6e h1 h2 (.inr (.inr (.inr a4)))];exact QXb
 rw[XgY h1 h2 a1 a2 a3 a4];generalize hN:X12 nn none ns=N;generalize hM:X2b ns ne none es=M;refine X7 ?_;refine XG ?_
 refine Xn (fun i:Nat=>i<=ns.length/\X12 nn (V3 ns i) (ns.drop i)=N) (fun i=>⟨135,[(1,.ptr 100 0),(38,.d (.sl 3 (ns.map Xm))),(39,ai (ns.map Xm).length),(40,ai i)],[(100,.box [.d (.sl 3 (ns.map Xm)),.d (.sl 5 (es.map Xr)),ai nn,ai ne])]⟩) (fun i=>ns.length-i) 0 ⟨Nat.zero_le _,by simpa [V3] using hN⟩
  (ZL0) ?_
 rintro i ⟨hi,hg⟩;by_cases hil:i<ns.length
 case pos=>
  have hn:(i:Int)<(ns.map Xm).length:=by omega
  obtain⟨x,hx⟩:=Xu (l:=ns) hil;have au:(ns.map Xm)[i]? =some (Xm x):=XM hx;have fT:=hnh x (mem_of_getElem? hx);have aR:=Xic x.labels x.props fT.1 fT.2.2.2;rw[Xnq hx] at hg;clear fT;by_cases h0:i=0
  ·subst h0;rw[Xk7] at hg;obtain⟨id,labels,props⟩:=x;simp only[Xm] at au aR hg;by_cases q2:id<1
   ·rw[PI (show id<1\/nn<=id from .inl q2),PI (by decide)] at hg;subst hg;rw[PI (by decide)];refine Qya ?_;exact Zr0
   by_cases q3:nn<=id
   ·rw[PI (show id<1\/nn<=id from .inr q3),PI (by decide)] at hg;subst hg;rw[PI (by decide)];refine Qya ?_;exact Zr0
   rw[NI (show ¬(id<1\/nn<=id) from fun h=>h.elim q2 q3)] at hg;generalize X1c labels props=e at*;by_cases he:e=0
   ·subst he;rw[NI (by simp)] at hg;refine X7 ?_;refine X00 ?_;exact QOb
   ·rw[PI he] at hg;subst hg;rw[PI he];refine X7 ?_;refine X00 ?_;exact Zr0
  ·obtain⟨j,rfl⟩:∃j,i=j+1:=⟨i-1,by omega⟩
   obtain⟨p,hp⟩:=Xu (l:=ns) (k:=j) (by omega);have cO:(ns.map Xm)[j]? =some (Xm p):=XM hp;rw[XgG hp] at hg;clear hp;obtain⟨id,labels,props⟩:=x;obtain⟨pid,plabels,pprops⟩:=p;simp only[Xm] at au aR hg cO;by_cases q1:id<=pid
   ·rw[PI q1,PI (by decide)] at hg;subst hg;rw[PI (by decide)];refine QPb ?_;exact Ql
   rw[NI q1] at hg;by_cases q2:id<1
   ·rw[PI (show id<1\/nn<=id from .inl q2),PI (by decide)] at hg;subst hg;rw[PI (by decide)];refine QPb ?_;exact QK
   by_cases q3:nn<=id
   ·rw[PI (show id<1\/nn<=id from .inr q3),PI (by decide)] at hg;subst hg;rw[PI (by decide)];refine QPb ?_;exact QK
   rw[NI (show ¬(id<1\/nn<=id) from fun h=>h.elim q2 q3)] at hg;generalize X1c labels props=e at*;by_cases he:e=0
   ·subst he;rw[NI (by simp)] at hg;refine QPb ?_;refine Qr ?_;exact QQb
   ·rw[PI he] at hg;subst hg;rw[PI he];refine QPb ?_;refine Qr ?_;exact Zr0
 obtain rfl:i=ns.length:=by omega
 have hn:¬((ns.length:Nat):Int)<(ns.map Xm).length:=by omega
 rw[drop_length,X12] at hg;subst hg;rw[NI (by simp)];have hris:=(Xij ns none hN).2;refine Yg ?_
 refine Xn (fun i:Nat=>i<=es.length/\X2b ns ne (V3 es i) (es.drop i)=M) (fun i=>⟨135,[(1,.ptr 100 0),(79,.d (.sl 5 (es.map Xr))),(80,ai (es.map Xr).length),(81,ai i)],[(100,.box [.d (.sl 3 (ns.map Xm)),.d (.sl 5 (es.map Xr)),ai nn,ai ne])]⟩) (fun i=>es.length-i) 0 ⟨Nat.zero_le _,by simpa [V3] using hM⟩
  (ZL0) ?_
 clear hi hil hn;rintro i ⟨hi,hg⟩;by_cases hil:i<es.length
 case neg=>
  obtain rfl:i=es.length:=by omega
  have hn:¬((es.length:Nat):Int)<(es.map Xr).length:=by omega
  rw[drop_length,X2b] at hg;subst hg;exact Ql
 have hn:(i:Int)<(es.map Xr).length:=by omega
 obtain⟨x,hx⟩:=Xu (l:=es) hil;have au:(es.map Xr)[i]? =some (Xr x):=XM hx;have fT:=heh x (mem_of_getElem? hx);have aR:=Xic [] x.props (by simp) fT.2.2;have hs1:=Xgw ns x.src (by omega) hris;have bV:=Xgw ns x.dst (by omega) hris;have hnm:=X6I x.typ;rw[XnC hx] at hg;clear fT;by_cases h0:i=0
 ·subst h0;rw[Xlh] at hg;obtain⟨id,src,dst,typ,props⟩:=x;simp only[Xr] at au aR hg hs1 bV hnm;simp only[map_nil] at aR;generalize V1 ns src=b1 at*;generalize V1 ns dst=b2 at*;generalize Y8 typ=b3 at*;generalize X1c [] props=e at*;by_cases q2:id<1
  ·rw[PI (show id<1\/ne<=id from .inl q2),PI (by decide)] at hg;subst hg;refine Qya ?_;exact Zr0
  by_cases q3:ne<=id
  ·rw[PI (show id<1\/ne<=id from .inr q3),PI (by decide)] at hg;subst hg;refine Qya ?_;exact Zr0
  rw[NI (show ¬(id<1\/ne<=id) from fun h=>h.elim q2 q3)] at hg;cases b1 with
  |false=>
   rw[PI (show false=false\/b2=false from .inl rfl),PI (by decide)] at hg;subst hg;refine QUa ?_;refine Z3 (af:=hs1) ?_;exact QW
  |true=>
   cases b2 with
   |false=>
    rw[PI (show true=false\/false=false from .inr rfl),PI (by decide)] at hg;subst hg;refine QYb ?_;exact QD
   |true=>
    rw[NI (show ¬(true=false\/true=false) by simp)] at hg;cases b3 with
    |false=>
     rw[PI (show false=false from rfl),PI (by decide)] at hg;subst hg;refine QYb ?_;refine Yf ?_;exact Zr0
    |true=>
     rw[NI (show ¬true=false by simp)] at hg;by_cases he:e=0
     ·subst he;rw[NI (by simp)] at hg;refine QYb ?_;refine UD ?_;exact QOb
     ·rw[PI he] at hg;subst hg;refine QYb ?_;refine UD ?_;exact Zr0
 ·obtain⟨j,rfl⟩:∃j,i=j+1:=⟨i-1,by omega⟩
  obtain⟨p,hp⟩:=Xu (l:=es) (k:=j) (by omega);have cO:(es.map Xr)[j]? =some (Xr p):=XM hp;rw[Xks hp] at hg;clear hp;obtain⟨id,src,dst,typ,props⟩:=x;obtain⟨pid,psrc,pdst,ptyp,pprops⟩:=p;simp only[Xr] at au aR hg cO hs1 bV hnm;simp only[map_nil] at aR;generalize V1 ns src=b1 at*;generalize V1 ns dst=b2 at*;generalize Y8 typ=b3 at*;generalize X1c [] props=e at*;by_cases q1:id<=pid
  ·rw[PI q1,PI (by decide)] at hg;subst hg;refine QPb ?_;exact Ql
  rw[NI q1] at hg;by_cases q2:id<1
  ·rw[PI (show id<1\/ne<=id from .inl q2),PI (by decide)] at hg;subst hg;refine QPb ?_;exact QK
  by_cases q3:ne<=id
  ·rw[PI (show id<1\/ne<=id from .inr q3),PI (by decide)] at hg;subst hg;refine QPb ?_;exact QK
  rw[NI (show ¬(id<1\/ne<=id) from fun h=>h.elim q2 q3)] at hg;cases b1 with
  |false=>
   rw[PI (show false=false\/b2=false from .inl rfl),PI (by decide)] at hg;subst hg;refine QPb ?_;refine UP ?_;refine Z3 (af:=hs1) ?_;exact QW
  |true=>
   cases b2 with
   |false=>
    rw[PI (show true=false\/false=false from .inr rfl),PI (by decide)] at hg;subst hg;refine QZb ?_;exact QD
   |true=>
    rw[NI (show ¬(true=false\/true=false) by simp)] at hg;cases b3 with
    |false=>
     rw[PI (show false=false from rfl),PI (by decide)] at hg;subst hg;refine QZb ?_;refine Yf ?_;exact Zr0
    |true=>
     rw[NI (show ¬true=false by simp)] at hg;by_cases he:e=0
     ·subst he;rw[NI (by simp)] at hg;refine QZb ?_;refine UD ?_;exact QQb
     ·rw[PI he] at hg;subst hg;refine QZb ?_;refine UD ?_;exact Zr0
theorem Xm3 {n:Int} (h:n<=9223372036854775807):(Xl n).length<=10:=by
 by_cases h0:0<=n
 ·exact X09 ⟨h0,h⟩
 ·unfold Xl;rw[PI (by omega)];simp
theorem Xwa {l:List Int} (h:l[i]? =some x):(X04 (l.take (i+1))).map X5=(X04 (l.take i)).map X5++(Xl x).map X5:=by
 rw[X19 h];simp[X04]
theorem Xd3 {l:List Int} (h:∀x∈l,x<=9223372036854775807):(X04 l).length<=10*l.length:=Xjs fun x hx=>Xm3 (h x hx)
theorem XcA {α:Type}{w:α->List UInt8}{l:List α}{x:α}{u:List UInt8} (h:l[i]? =some x):(u++((l.take (i+1)).map w).flatten).map X5=(u++((l.take i).map w).flatten).map X5++(w x).map X5:=by
 rw[X19 h];simp
open Go
def X4t (s:Rd):Prop:=0<=s.a/\s.a<=s.c.length
structure GoR {α:Type} (d:Int) (f:Rd->α×Rd):Prop where
 ok:∀s,X4t s->X4t (f s).2
 go:∀s,X4t s->(f s).2.e=0->s.a+d<=(f s).2.a
theorem XdX {α:Type}{z:α}{f:List UInt8->Int->α×Int×Int} (hd:0<=d) (h:∀(c:List UInt8) (a:Int) (x:α) (e:Int),f c a=(x,e,0)->a+d<=e/\e<=c.length):GoR d (X1J z f):=by
 refine⟨fun s hs=> ?_,fun s hs he=> ?_⟩
 ·unfold X1J;by_cases q:s.e=0
  ·rw[NI (by simp[q])];simp only[Rd.put];by_cases q2:(f s.c s.a).2.2=0
   ·have:=h s.c s.a _ _ (by rw[<-q2]);rw[PI q2];exact⟨Int.le_trans hs.1 (Int.le_trans (Int.le_add_of_nonneg_right hd) this.1),by show(f s.c s.a).2.1<=s.c.length;exact this.2⟩
   ·rw[NI q2];exact hs
  ·rw[PI q];exact hs
 ·have hs0:=(Xan z f).back he;unfold X1J at he |-;rw[NI (by simp[hs0])] at he |-;simp only[Rd.put] at he |-;rw[PI he];exact(h s.c s.a _ _ (by rw[<-he])).1
theorem XeZ:GoR 1 YF:=XdX (by omega) fun c a x e h=>by
 obtain⟨h1,_,_,h2⟩:=X4M h;exact⟨by omega,h1.2.2.1⟩
theorem Xhp {α:Type}{f:Rd->α×Rd} (hp:PartR f) (hg:GoR 1 f):∀(n:Nat) (s:Rd),X4t s->((VY f n s).1.length:Int)<=s.c.length-s.a+1
 |0,s,hs=>by have:=hs.2;simp only[VY,length_nil];omega
 |n+1,s,hs=>by
  have h0:=hs.2;rw[VY];by_cases q:s.e=0
  ·rw[NI (by simp[q])];simp only[LC];have hc:=(hp.keep s).2;by_cases q2:(f s).2.e=0
   ·have h1:=Xhp hp hg n (f s).2 (hg.ok s hs);have h2:=hg.go s hs q2;rw[hc] at h1;omega
   ·rw[XdU q2];simp only[length_nil];omega
  ·rw[PI q];simp only[length_nil];omega
theorem XlZ {α:Type}{f:Rd->α×Rd} (hg:GoR d f):∀(n:Nat) (s:Rd),X4t s->X4t (VY f n s).2
 |0,s,hs=>hs
 |n+1,s,hs=>by
  rw[VY];split
  ·exact hs
  ·exact XlZ hg n _ (hg.ok s hs)
theorem X5R (s:Rd):∃m:Nat,(YF s).1=m/\m<=9223372036854775807:=by
 unfold YF X1J;by_cases q:s.e=0
 ·rw[NI (by simp[q])];simp only;by_cases q2:(XB s.c s.a).2.2=0
  ·obtain⟨_,h1,h2,_⟩:=X4M (b:=s.c) (a:=s.a) (n:=(XB s.c s.a).1) (e:=(XB s.c s.a).2.1) (by rw[<-q2]);exact⟨(XB s.c s.a).1.toNat,by omega,by omega⟩
  ·exact⟨0,by rw[XhQ q2];rfl,by omega⟩
 ·rw[PI q];exact⟨0,rfl,by omega⟩
theorem Xn4 {α:Type}{f:Rd->α×Rd} (h:s.e=0):VY f (n+1) s=((f s).1::(VY f n (f s).2).1,(VY f n (f s).2).2):=by
 rw[VY,NI (by simp[h])]
theorem Xj8 {α:Type}{f:Rd->α×Rd}{acc:List α}{L:List α×Rd} (h1:acc++(VY f n s).1=L.1) (h2:(VY f n s).2=L.2) (h:n=0\/s.e≠0):L=(acc,s):=by
 have:VY f n s=([],s):=by
  rcases h with rfl|h
  ·rfl
  ·exact XdU h
 rw[this] at h1 h2;simp only[append_nil] at h1;exact Prod.ext h1.symm h2.symm
theorem Xny {α:Type}{f:Rd->α×Rd}{acc:List α}{L:List α×Rd} (h1:acc++(VY f n s).1=L.1) (hl:L.1.length<=1073741825):acc.length<=1073741825:=by
 have:=CG length h1;simp only[LA] at this;omega
theorem Xfr {α:Type}{f:Rd->α×Rd} (hp:PartR f) (hg:GoR 1 f) {n:Nat}{s:Rd} (hs:X4t s) (hc:s.c.length<=1073741824):(VY f n s).1.length<=1073741825:=by
 have:=Xhp hp hg n s hs;have:=hs.1;omega
theorem Xc7:GraHold ⟨[],[],1,1⟩:=⟨by simp,by simp,by simp,by simp⟩
theorem Xsy:∀(k:SK) (u:Value),X1n u=some k->X5x u u=true:=by
 intro k u h;cases u<;>simp[X1n] at h<;>simp[X5x]
theorem XqB (us:List Value) (ks:List SK) (h:us.map X1n=ks.map some):X2W us us=true:=by
 induction us generalizing ks with
 |nil=>rfl
 |cons u us ih=>
  cases ks with
  |nil=>simp at h
  |cons k ks=>
   simp only[map_cons,cons.injEq] at h;unfold X2W;rw[Xsy k u h.1,ih ks h.2];rfl
theorem Xwh (b:List UInt8) (hb:b.length<=1073741824):X0z (rdS b).1:=by
 have h1:X0z (rdX b).1:=by
  unfold rdX;simp only;split
  ·have hz:=fun h=>XaC (b:=b) (a:=(rnS b (rkI b 0 0 3).2.1 (rkI b 0 0 3).2.2).2.1) (e:=(rnS b (rkI b 0 0 3).2.1 (rkI b 0 0 3).2.2).2.2) h;have:=Xcx (b:=b) (rnS b (rnS b (rkI b 0 0 3).2.1 (rkI b 0 0 3).2.2).2.1 (rnS b (rkI b 0 0 3).2.1 (rkI b 0 0 3).2.2).2.2).1.toNat _ _ (fun h=>hz h);exact⟨by simp only;omega,this.1⟩
  ·split<;>exact⟨by simp,by simp⟩
 unfold rdS;generalize rdX b=X at*;obtain⟨x,a,e⟩:=X;by_cases he:e=0
 ·subst he;by_cases ha:a<b.length
  ·rw[XlL ha];exact⟨by simp,by simp⟩
  ·by_cases h3:UH x=0
   ·rw[XdA ha h3];exact h1
   ·rw[Xj6 ha h3];exact⟨by simp,by simp⟩
 ·rw[Xis he];exact⟨by simp,by simp⟩
theorem Xw7 (l:List (List UInt8)) (hl:l.length<=9223372036854775807):Con prog 149 [] [.d (.sl 1 (l.map Xf)),.d (.sl 1 (l.map Xf))] [] (ab true):=by
 refine ZC1 func149 ntmps149 fun E=> ?_;have hlm:(l.map Xf).length=l.length:=by simp
 refine Ye ?_
 refine Xn (fun i:Nat=>i<=l.length) (fun i=>⟨26,[(0,.d (.sl 1 (l.map Xf))),(1,.d (.sl 1 (l.map Xf))),(5,ai i)],[]⟩) (fun i=>l.length-i) 0 (Nat.zero_le _)
  (ZL0) ?_
 intro i hi;by_cases hil:i<l.length
 case neg=>
  obtain rfl:i=l.length:=by omega
  have hn:¬((l.length:Nat):Int)<(l.map Xf).length:=by omega
  exact Qy
 have hn:(i:Int)<(l.map Xf).length:=by omega
 obtain⟨x,hx⟩:=Xu (l:=l) hil;have au:(l.map Xf)[i]? =some (Xf x):=XM hx;clear hx;refine UP ?_;exact Qac
theorem XgP (l:List Prp) (hok:∀p∈l,UJ p.v) (hl:l.length<=9223372036854775807):Con prog 150 [] [.d (.sl 6 (l.map Xd)),.d (.sl 6 (l.map Xd))] [] (ab true):=by
 refine ZC1 func150 ntmps150 fun E=> ?_;have hlm:(l.map Xd).length=l.length:=by simp
 refine Ye ?_
 refine Xn (fun i:Nat=>i<=l.length) (fun i=>⟨42,[(0,.d (.sl 6 (l.map Xd))),(1,.d (.sl 6 (l.map Xd))),(5,ai i)],[]⟩) (fun i=>l.length-i) 0 (Nat.zero_le _)
  (ZL0) ?_
 intro i hi;by_cases hil:i<l.length
 case neg=>
  obtain rfl:i=l.length:=by omega
  have hn:¬((l.length:Nat):Int)<(l.map Xd).length:=by omega
  exact Qy
 have hn:(i:Int)<(l.map Xd).length:=by omega
 obtain⟨x,hx⟩:=Xu (l:=l) hil;have au:(l.map Xd)[i]? =some (Xd x):=XM hx;have ho:=Xgc x.v (hok x (mem_of_getElem? hx));unfold X7T at ho;obtain⟨key,⟨vk,vn,vd,vs,vl⟩⟩:=x;simp only[Xd,UT,XC] at au ho;clear hx;refine X07 ?_;refine Z3 (af:=ho) ?_;refine XA ?_;exact Qac
theorem XwV (ns:List Nod) (es:List Edg) (nn ne:Int) (hg:GraHold ⟨ns,es,nn,ne⟩):Con prog 95 [] [.agg [.d (.sl 3 (ns.map Xm)),.d (.sl 5 (es.map Xr)),ai nn,ai ne],.agg [.d (.sl 3 (ns.map Xm)),.d (.sl 5 (es.map Xr)),ai nn,ai ne]] [] (ab true):=by
 refine ZC1 func95 ntmps95 fun E=> ?_;have cz:(ns.map Xm).length=ns.length:=by simp
 have hle:(es.map Xr).length=es.length:=by simp
 have ax:=hg.nl;have hel:=hg.el;simp only at ax hel;refine X00 ?_
 refine Xn (fun i:Nat=>i<=ns.length) (fun i=>⟨116,[(2,.ptr 100 0),(3,.ptr 101 0),(5,ai i)],[(100,.box [.d (.sl 3 (ns.map Xm)),.d (.sl 5 (es.map Xr)),ai nn,ai ne]),(101,.box [.d (.sl 3 (ns.map Xm)),.d (.sl 5 (es.map Xr)),ai nn,ai ne])]⟩) (fun i=>ns.length-i) 0 (Nat.zero_le _)
  (ZL0) ?_
 intro i hi;by_cases hil:i<ns.length
 case pos=>
  have hn:(i:Int)<(ns.map Xm).length:=by omega
  obtain⟨x,hx⟩:=Xu (l:=ns) hil;have au:(ns.map Xm)[i]? =some (Xm x):=XM hx;have hh:=hg.nodes x (mem_of_getElem? hx);have c1:=Xw7 x.labels hh.1;have c2:=XgP x.props (fun p hp=>(hh.2.2.2 p hp).2) hh.2.2.1;clear hh;obtain⟨id,labels,props⟩:=x;simp only[Xm] at au c1 c2;clear hx;refine QUa ?_;exact Qac
 obtain rfl:i=ns.length:=by omega
 have hn:¬((ns.length:Nat):Int)<(ns.map Xm).length:=by omega
 refine Yv ?_;clear hi hil hn
 refine Xn (fun i:Nat=>i<=es.length) (fun i=>⟨116,[(2,.ptr 100 0),(3,.ptr 101 0),(8,ai i)],[(100,.box [.d (.sl 3 (ns.map Xm)),.d (.sl 5 (es.map Xr)),ai nn,ai ne]),(101,.box [.d (.sl 3 (ns.map Xm)),.d (.sl 5 (es.map Xr)),ai nn,ai ne])]⟩) (fun i=>es.length-i) 0 (Nat.zero_le _)
  (ZL0) ?_
 intro i hi;by_cases hil:i<es.length
 case pos=>
  have hn:(i:Int)<(es.map Xr).length:=by omega
  obtain⟨x,hx⟩:=Xu (l:=es) hil;have au:(es.map Xr)[i]? =some (Xr x):=XM hx;have hh:=hg.aj x (mem_of_getElem? hx);have c2:=XgP x.props (fun p hp=>(hh.2.2 p hp).2) hh.2.1;clear hh;obtain⟨id,src,dst,typ,props⟩:=x;simp only[Xr] at au c2;clear hx;refine X7 ?_;refine X00 ?_;exact Qac
 obtain rfl:i=es.length:=by omega
 have hn:¬((es.length:Nat):Int)<(es.map Xr).length:=by omega
 exact QW
theorem XqR (g:Gra) (hg:GraHold g):Con prog 52 [] [Y6 g,Y6 g] [] (ab true):=by
 obtain⟨ns,es,nn,ne⟩:=g;have hc:=XwV ns es nn ne hg;unfold Y6;simp only;refine ZC1 func52 ntmps52 fun E=> ?_;exact QK
theorem XeX:Con prog 63 [] [] [] (Y6 ⟨[],[],1,1⟩):=by
 refine ZC1 func63 ntmps63 fun E=> ?_;unfold Y6;simp only[map_nil];refine W9_ ?_;exact X2 ⟨_,Xq 100 (cs':=[.d (.sl 3 []),.d (.sl 5 []),ai 1,ai 1]) rfl JM rfl,⟨⟨100,0,_,rfl,rfl,.inr ⟨4,_,rfl,rfl,rfl,rfl⟩⟩,TV⟩,X4 _⟩
end Go.Fw

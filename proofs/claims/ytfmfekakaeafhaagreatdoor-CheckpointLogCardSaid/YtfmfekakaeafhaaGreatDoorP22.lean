/- Labels and properties checked; the program's and the reference's. -/
import Derived.Test.YtfmfekakaeafhaaGreatDoorP19
import Derived.Test.YtfmfekakaeafhaaGreatDoorP20
set_option linter.all false
set_option maxHeartbeats 32000000
namespace Go.Fw
open Go Go.Proofs Tryz List
open List renaming length->J
set_option maxRecDepth 100000
def X7C (p:Prp):Prop:=J p.key<=9223372036854775807/\U1 p.v
variable{i j:Nat}{es:List Edg}{l ps:List Prp}{ls:List (List UInt8)}{n:Nod}{ne nn x y:Int}{ns:List Nod}
def X1A {α:Type}{l:List α}{x:α} (h:l[i]? =some x):l.take (i+1)=l.take i++[x]:=by
 obtain⟨hi,rfl⟩:=GS.1 h;rw[take_add_one,getElem?_eq_getElem hi];rfl
def Xkn {x:Prp} (h:l[i]? =some x):((l.take (i+1)).map Prp.key).map Xf=((l.take i).map Prp.key).map Xf++[Xf x.key]:=by
 rw[X1A h];simp
def XxR (ps:List Prp) (hl:J ps<=4294967296):Con prog 242 [] [.d (.sl 6 (ps.map Xb))] [] (.d (.sl 1 ((ps.map Prp.key).map Xf))):=by
 refine ZC1 func242 ntmps242 fun E=> ?_;have hlm:J (ps.map Xb)=J ps:=Oc
 refine XD ?_;refine X8 (Uo 3 130 1 rfl rfl rfl) ?_
 refine Xl (fun i:Nat=>i<=J ps) (fun i=>⟨20,[(0,.d (.sl 6 (ps.map Xb))),(3,.own 130 (J (((ps.take i).map Prp.key).map Xf))),(4,ai i)],[(130,.row 1 (((ps.take i).map Prp.key).map Xf))]⟩) (fun i=>J ps-i) 0 (Nat.zero_le _)
  (X9 rfl ⟨JL,JL,JL,TV⟩ ⟨rfl,TV⟩) ?_
 intro i hi;by_cases hil:i<J ps
 case neg=>
  obtain rfl:i=J ps:=Oa
  have hn:¬((J ps:Nat):Int)<J (ps.map Xb):=Oa
  rw[take_length];refine Ya ?_;refine Qec ?_;exact Zr0
 have hn:(i:Int)<J (ps.map Xb):=Oa
 obtain⟨x,hx⟩:=Xn (l:=ps) hil;have au:(ps.map Xb)[i]? =some (Xb x):=XC hx;have hroom:J (((ps.take i).map Prp.key).map Xf)<=4294967296:=by simp only[LM,LT];omega
 refine U7 ?_;refine⟨i+1,hil,Oa,?_⟩;rw[Xkn hx];exact X9 rfl ⟨JL,ZzQ Ol,JL,TV⟩ ⟨rfl,TV⟩
def Xos {x:Prp} (h:l[i]? =some x):((l.drop i).map Prp.v).all U9=(U9 x.v&&((l.drop (i+1)).map Prp.v).all U9):=by
 obtain⟨hi,rfl⟩:=GS.1 h;rw[drop_eq_getElem_cons hi,map_cons,all_cons]
def XcB (h:8<J ls\/16<J ps):X1r ls ps=4:=PI h
def Xkb (h1:¬8<J ls) (h2:¬16<J ps):X1r ls ps=if ls.all Yc=false\/(ps.map Prp.key).all Yc=false then 6
 else if X0f ls=false\/X0f (ps.map Prp.key)=false then 26 else if (ps.map Prp.v).all U9=false then 8 else 0:=NI Oa
def XjW (ls:List (List UInt8)) (ps:List Prp) (hls:J ls<=9223372036854775807) (hok:∀p∈ps,X7C p):Con prog 103 [] [.d (.sl 1 (ls.map Xf)),.d (.sl 6 (ps.map Xb))] [] (ai (X1r ls ps)):=by
 refine ZC1 func103 ntmps103 fun E=> ?_;have hlm:J (ps.map Xb)=J ps:=Oc
 have l6:J (ls.map Xf)=J ls:=Oc
 by_cases h1:8<J ls
 ·rw[XcB (.inl h1)];have bY:(8:Int)<J (ls.map Xf):=by omega
  exact Ql
 have bY:¬(8:Int)<J (ls.map Xf):=Oa
 by_cases h2:16<J ps
 ·rw[XcB (.inr h2)];have dr:(16:Int)<J (ps.map Xb):=by omega
  exact Ql
 have dr:¬(16:Int)<J (ps.map Xb):=Oa
 rw[Xkb h1 h2];have aO:=Xjk ls hls;have bC:=Xjk (ps.map Prp.key) Jg;have fE:=XnM ls hls;have gh:=XnM (ps.map Prp.key) Jg;generalize ls.all Yc=n1 at*;generalize X0f ls=r1 at*;generalize (ps.map Prp.key).all Yc=n2 at*;generalize X0f (ps.map Prp.key)=r2 at*;generalize hG:(ps.map Prp.v).all U9=G;refine UI ?_;refine X8 (Uo 5 130 1 rfl rfl rfl) ?_
 refine Xl (fun i:Nat=>i<=J ps) (fun i=>⟨55,[(0,.d (.sl 1 (ls.map Xf))),(1,.d (.sl 6 (ps.map Xb))),(18,.d (.sl 6 (ps.map Xb))),(19,ai (J (ps.map Xb))),(5,.own 130 (J (((ps.take i).map Prp.key).map Xf))),(20,ai i)],[(130,.row 1 (((ps.take i).map Prp.key).map Xf))]⟩) (fun i=>J ps-i) 0 (Nat.zero_le _)
  (ZL0) ?_
 intro i hi;by_cases hil:i<J ps
 case pos=>
  have hn:(i:Int)<J (ps.map Xb):=Oa
  obtain⟨x,hx⟩:=Xn (l:=ps) hil;have au:(ps.map Xb)[i]? =some (Xb x):=XC hx;have hroom:J (((ps.take i).map Prp.key).map Xf)<=4294967296:=by simp only[LM,LT];omega
  have bA:=Xkn hx;obtain⟨key,⟨vk,vn,vd,vs,vl⟩⟩:=x;simp only[Xb,UB] at au bA;refine U7 ?_;refine⟨i+1,hil,Oa,?_⟩;rw[bA];exact X9 rfl ⟨JL,JL,JL,JL,ZzQ Ol,JL,TV⟩ ⟨rfl,TV⟩
 obtain rfl:i=J ps:=Oa
 have hn:¬((J ps:Nat):Int)<J (ps.map Xb):=Oa
 rw[take_length];refine W9_ ?_;refine Qdc ?_;refine X8 (XX 5 130 rfl rfl rfl) ?_;by_cases b1:n1=false\/n2=false
 ·rw[PI b1];cases n1<;>cases n2<;>first|(simp at b1;done)|skip
  ·exact Qe
  ·exact Qe
  ·exact Qe
 rw[NI b1];obtain⟨rfl,rfl⟩:n1=true/\n2=true:=by cases n1<;>cases n2<;>simp_all
 by_cases b2:r1=false\/r2=false
 ·rw[PI b2];cases r1<;>cases r2<;>first|(simp at b2;done)|skip
  ·exact QB
  ·exact QB
  ·exact QB
 rw[NI b2];obtain⟨rfl,rfl⟩:r1=true/\r2=true:=by cases r1<;>cases r2<;>simp_all
 refine Uf ?_;clear hi hil hn b1 b2 h1 h2
 refine Xl (fun i:Nat=>i<=J ps/\((ps.drop i).map Prp.v).all U9=G) (fun i=>⟨55,[(1,.d (.sl 6 (ps.map Xb))),(44,.d (.sl 6 (ps.map Xb))),(45,ai (J (ps.map Xb))),(46,ai i)],[]⟩) (fun i=>J ps-i) 0 ⟨Oa,OX⟩
  (ZL0) ?_
 rintro i ⟨hi,hg⟩;by_cases hil:i<J ps
 case neg=>
  have hn':¬(i:Int)<J (ps.map Xb):=Oa
  rw[drop_of_length_le Oa,map_nil,all_nil] at hg;subst hg;rw[NI Oc];exact Qn
 have hn':(i:Int)<J (ps.map Xb):=Oa
 obtain⟨x,hx⟩:=Xn (l:=ps) hil;have au:(ps.map Xb)[i]? =some (Xb x):=XC hx;have jY:=hok x (mem_of_getElem? hx);have hu:=XlV x.v;rw[Xos hx] at hg;generalize U9 x.v=pv at*;obtain⟨key,⟨vk,vn,vd,vs,vl⟩⟩:=x;simp only[Xt,Xb,UB] at hu au;cases pv with
 |true=>
  rw[Bool.true_and] at hg;exact Qgc
 |false=>
  rw[Bool.false_and] at hg;subst hg;rw[PI rfl];refine U7 ?_;exact Zr0
def XmP (ls:List (List UInt8)) (ps:List Prp) (hls:J ls<=9223372036854775807) (hok:∀p∈ps,X7C p):Con prog 184 [] [.d (.sl 1 (ls.map Xf)),.d (.sl 6 (ps.map Xb))] [] (ai (X1r ls ps)):=by
 refine ZC1 func184 ntmps184 fun E=> ?_;have hlm:J (ps.map Xb)=J ps:=Oc
 have l6:J (ls.map Xf)=J ls:=Oc
 by_cases h1:8<J ls
 ·rw[XcB (.inl h1)];have bY:(8:Int)<J (ls.map Xf):=by omega
  exact Ql
 have bY:¬(8:Int)<J (ls.map Xf):=Oa
 by_cases h2:16<J ps
 ·rw[XcB (.inr h2)];have dr:(16:Int)<J (ps.map Xb):=by omega
  exact Ql
 have dr:¬(16:Int)<J (ps.map Xb):=Oa
 rw[Xkb h1 h2];have hk:=XxR ps Oa;have aO:=Xlx ls hls;have bC:=Xlx (ps.map Prp.key) Jg;have fE:=Xnl ls hls;have gh:=Xnl (ps.map Prp.key) Jg;generalize ls.all Yc=n1 at*;generalize X0f ls=r1 at*;generalize (ps.map Prp.key).all Yc=n2 at*;generalize X0f (ps.map Prp.key)=r2 at*;generalize hG:(ps.map Prp.v).all U9=G;by_cases b1:n1=false\/n2=false
 ·rw[PI b1];cases n1<;>cases n2<;>first|(simp at b1;done)|skip
  ·refine QO ?_;exact Zr0
  ·refine QO ?_;exact Zr0
  ·refine QO ?_;exact Zr0
 rw[NI b1];obtain⟨rfl,rfl⟩:n1=true/\n2=true:=by cases n1<;>cases n2<;>simp_all
 by_cases b2:r1=false\/r2=false
 ·rw[PI b2];cases r1<;>cases r2<;>first|(simp at b2;done)|skip
  ·exact QGa
  ·exact QGa
  ·exact QGa
 rw[NI b2];obtain⟨rfl,rfl⟩:r1=true/\r2=true:=by cases r1<;>cases r2<;>simp_all
 refine X4 ?_;refine Yh ?_;clear b1 b2 h1 h2
 refine Xl (fun i:Nat=>i<=J ps/\((ps.drop i).map Prp.v).all U9=G) (fun i=>⟨46,[(1,.d (.sl 6 (ps.map Xb))),(6,ai i)],[]⟩) (fun i=>J ps-i) 0 ⟨Oa,OX⟩
  (ZL0) ?_
 rintro i ⟨hi,hg⟩;by_cases hil:i<J ps
 case neg=>
  have hn':¬(i:Int)<J (ps.map Xb):=Oa
  rw[drop_of_length_le Oa,map_nil,all_nil] at hg;subst hg;rw[NI Oc];exact Qh
 have hn':(i:Int)<J (ps.map Xb):=Oa
 obtain⟨x,hx⟩:=Xn (l:=ps) hil;have au:(ps.map Xb)[i]? =some (Xb x):=XC hx;have jY:=hok x (mem_of_getElem? hx);have hu:=Xjn x.v jY.2;rw[Xos hx] at hg;generalize U9 x.v=pv at*;obtain⟨key,⟨vk,vn,vd,vs,vl⟩⟩:=x;simp only[Xt,Xb,UB] at hu au;cases pv with
 |true=>
  rw[Bool.true_and] at hg;exact Qgc
 |false=>
  rw[Bool.false_and] at hg;subst hg;rw[PI rfl];exact QB
def X0s (n:Nod):AVal:= .agg [ai n.id,.d (.sl 1 (n.labels.map Xf)),.d (.sl 6 (n.props.map Xb))]
def XbH (n:Nod):Prop:=J n.labels<=9223372036854775807/\(∀s∈n.labels,J s<=9223372036854775807)/\J n.props<=9223372036854775807/\∀p∈n.props,X7C p
def XcN (e:Edg):Prop:=J e.typ<=9223372036854775807/\J e.props<=9223372036854775807/\∀p∈e.props,X7C p
structure GraHold (g:Gra):Prop where
 nl:J g.nodes<=9223372036854775807
 el:J g.aj<=9223372036854775807
 nodes:∀n∈g.nodes,XbH n
 aj:∀e∈g.aj,XcN e
theorem XoL {l:List Nod}:X2Z nn (Ve l 0) n=if n.id<1\/nn<=n.id then 1 else X1r n.labels n.props:=by
 unfold X2Z Ve;rw[NI Oc]
def XoX {l:List Nod}{p:Nod} (h:l[j]? =some p):X2Z nn (Ve l (j+1)) n=if n.id<=p.id then 26 else if n.id<1\/nn<=n.id then 1 else X1r n.labels n.props:=by
 unfold X2Z;rw[X5T,h];simp
theorem Xjc {l:List Edg}{n:Edg}:X3k ns ne (Ve l 0) n=if n.id<1\/ne<=n.id then 1
 else if Vd ns n.src=false\/Vd ns n.dst=false then 10 else if Yc n.typ=false then 6 else X1r [] n.props:=by
 unfold X3k Ve;rw[NI Oc]
def Xim {l:List Edg}{p n:Edg} (h:l[j]? =some p):X3k ns ne (Ve l (j+1)) n=if n.id<=p.id then 26 else if n.id<1\/ne<=n.id then 1
 else if Vd ns n.src=false\/Vd ns n.dst=false then 10 else if Yc n.typ=false then 6 else X1r [] n.props:=by
 unfold X3k;rw[X5T,h];simp
def Xht (h:x<y):YD x y= -1:=PI h
def XdU (h:¬x<y):¬YD x y<0:=by
 unfold YD;rw[NI h];split<;>decide
theorem Xgi:decide (YD x y=0)=decide (x=y):=by
 unfold YD;by_cases h:x<y
 ·rw[PI h,DF Oi,DF Oa]
 ·rw[NI h];by_cases h':y<x
  ·rw[PI h',DF Oi,DF Oa]
  ·rw[NI h',DT rfl,DT Oa]
def Xn2 (x:Nod) (n:Int):Con prog 170 [] [X0s x,ai n] [] (ai (YD x.id n)):=by
 refine ZC1 func170 ntmps170 fun E=> ?_;have hc:=X6K x.id n;obtain⟨id,labels,props⟩:=x;simp only[X0s] at hc |-;generalize YD id n=q at*;exact Qe
def Xpw (l:List Nod) (n:Int) (hl:J l<=4294967296) (hr:X7D l):Con prog 169 [] [.d (.sl 3 (l.map Xi)),ai n,.fn 170 []] [] (.tup [ai (XfD l n),ab (Vd l n)]):=by
 refine ZCt func169 ntmps169 fun E=> ?_;have hlm:J (l.map Xi)=J l:=Oc
 refine YS ?_
 refine Xl (ι:=Nat×Nat) (fun q=>q.1<=q.2/\q.2<=J l/\(∀(k:Nat) (x:Nod),k<q.1->l[k]? =some x->x.id<n)/\(∀(k:Nat) (x:Nod),q.2<=k->l[k]? =some x->n<=x.id)) (fun q=>⟨49,[(0,.d (.sl 3 (l.map Xi))),(1,ai n),(2,.fn 170 []),(8,ai (J (l.map Xi))),(9,ai q.1),(10,ai q.2)],[]⟩) (fun q=>q.2-q.1) (0,J l)
  ⟨Nat.zero_le _,Nat.le_refl _,fun k x h=>absurd h (Nat.not_lt_zero _),fun k x h hx=>absurd (GS.1 hx).1 (Nat.not_lt.2 h)⟩
  (X9 rfl ⟨JL,JL,JL,JL,JL,ZzQ Ib,TV⟩ trivial) ?_
 rintro⟨i,j⟩ ⟨h1,h2,h3,h4⟩;simp only at h1 h2 h3 h4;by_cases hij:i<j
 case neg=>
  obtain rfl:i=j:=Oa
  have aS:=Xux h2 h3 (fun x hx=>by have:=h4 i x (Nat.le_refl _) hx;omega);have bG:=Xxi hr h3 h4;rw[aS,bG];have eO:¬(i:Int)<(i:Nat):=Oa
  by_cases hil:i<J l
  ·have eU:(i:Int)<J (l.map Xi):=by omega
   obtain⟨x,hx⟩:=Xn (l:=l) hil;have au:(l.map Xi)[i]? =some (Xi x):=XC hx;have hc:=Xn2 x n;have hd:decide (∃y,l[i]? =some y/\y.id=n)=decide (YD x.id n=0):=by rw[Xgi,hx];simp
   rw[hd];generalize YD x.id n=c at*;obtain⟨id,labels,props⟩:=x;simp only[X0s,Xi] at hc au;refine Qhc ?_
   first|exact X3 ⟨_,ZzS,⟨rfl,rfl,TV⟩,X5 _⟩|exact X3 ⟨_,ZzS,⟨⟨rfl,rfl,TV⟩,TV⟩,X5 _⟩
  ·have eU:¬(i:Int)<J (l.map Xi):=by omega
   have hd:decide (∃y,l[i]? =some y/\y.id=n)=false:=by
    refine DF ?_;rintro⟨y,hy,_⟩;exact hil (GS.1 hy).1
   rw[hd];refine U7 ?_
   first|exact X3 ⟨_,ZzS,⟨rfl,rfl,TV⟩,X5 _⟩|exact X3 ⟨_,ZzS,⟨⟨rfl,rfl,TV⟩,TV⟩,X5 _⟩
 have eO:(i:Int)<(j:Nat):=Oa
 obtain⟨x,hx⟩:=Xn (l:=l) (k:=(i+j)/2) Oa;have au:(l.map Xi)[(i+j)/2]? =some (Xi x):=XC hx;have hc:=Xn2 x n;have e2:n64 ((i+j)/2^1)=n64 ((i+j)/2):=rfl;have hid:x.id=x.id:=rfl;by_cases hlt:x.id<n
 ·have hinv:∀(k:Nat) (y:Nod),k<(i+j)/2+1->l[k]? =some y->y.id<n:=fun k y hk hy=>by
   by_cases e:k=(i+j)/2
   ·subst e;rw[hx] at hy;injection hy with hy;subst hy;exact hlt
   ·have:=hr k ((i+j)/2) y x hy hx Oa;omega
  rw[Xht hlt] at hc;obtain⟨id,labels,props⟩:=x;simp only[X0s,Xi] at hc au;refine Qic ?_;(refine Z1 (u:=ni (i+j)) (r:=n64 (i+j)) ?_ (hr:=Om));refine Qjc ?_;(refine Z1 (u:=n64 ((i+j)/2)) (r:=ni ((i+j)/2)) ?_ (hr:=Ok));refine XA ?_;refine Z7 (ag:=hc) ?_;refine W8_ ?_;exact⟨((i+j)/2+1,j),⟨Od,h2,hinv,h4⟩,Od,ZL0⟩
 ·have hinv:∀(k:Nat) (y:Nod),(i+j)/2<=k->l[k]? =some y->n<=y.id:=fun k y hk hy=>by
   by_cases e:k=(i+j)/2
   ·subst e;rw[hx] at hy;injection hy with hy;subst hy;omega
   ·have:=hr ((i+j)/2) k x y hx hy Oa;omega
  have hge:=XdU hlt;generalize YD x.id n=c at*;obtain⟨id,labels,props⟩:=x;simp only[X0s,Xi] at hc au;refine Qic ?_;(refine Z1 (u:=ni (i+j)) (r:=n64 (i+j)) ?_ (hr:=Om));refine Qjc ?_;(refine Z1 (u:=n64 ((i+j)/2)) (r:=ni ((i+j)/2)) ?_ (hr:=Ok));refine XA ?_;refine Z7 (ag:=hc) ?_;refine W7_ ?_;exact⟨(i,(i+j)/2),⟨Od,Od,h3,hinv⟩,Od,ZL0⟩
def Xoe (l:List Nod) (n:Int) (hl:J l<=4294967296) (hr:X7D l):Con prog 104 [] [.d (.sl 3 (l.map Xi)),ai n] [] (ab (Vd l n)):=by
 refine ZC1 func104 ntmps104 fun E=> ?_;have hs:=Xpw l n hl hr;generalize XfD l n=a at*;generalize Vd l n=b at*;exact QD
def XcZ (h:2000<J ns\/4000<J es):X0w ⟨ns,es,nn,ne⟩=4:=PI h
def X6F (h1:¬2000<J ns) (h2:¬4000<J es) (h:nn<1\/1000001<nn\/ne<1\/1000001<ne):X0w ⟨ns,es,nn,ne⟩=1:=by
 unfold X0w;simp only;rw[NI (fun q=>q.elim h1 h2),PI h]
def Xmb (h1:¬2000<J ns) (h2:¬4000<J es) (a1:¬nn<1) (a2:¬1000001<nn) (a3:¬ne<1) (a4:¬1000001<ne):
  X0w ⟨ns,es,nn,ne⟩=if X1a nn none ns≠0 then X1a nn none ns else X2k ns ne none es:=by
 unfold X0w;simp only;rw[NI (fun q=>q.elim h1 h2),NI Oa]
def XdF (g:Gra) (hok:GraHold g):Con prog 61 [] [XZ g] [] (ai (X0w g)):=by
 obtain⟨ns,es,nn,ne⟩:=g;obtain⟨ax,hel,hnh,heh⟩:=hok;simp only at ax hel hnh heh;unfold XZ;simp only;refine ZC1 func61 ntmps61 fun E=> ?_;have hlm:J (ns.map Xi)=J ns:=Oc
 have hle:J (es.map Xk)=J es:=Oc
 by_cases h1:2000<J ns
 ·rw[XcZ (.inl h1)];have bY:(2000:Int)<J (ns.map Xi):=by omega
  exact QCa
 have bY:¬(2000:Int)<J (ns.map Xi):=Oa
 by_cases h2:4000<J es
 ·rw[XcZ (.inr h2)];have dr:(4000:Int)<J (es.map Xk):=by omega
  exact QCa
 have dr:¬(4000:Int)<J (es.map Xk):=Oa
 by_cases a1:nn<1
 ·rw[X6F h1 h2 (.inl a1)];exact Qcc
 by_cases a2:1000001<nn
 ·rw[X6F h1 h2 (.inr (.inl a2))];exact Qcc
 by_cases a3:ne<1
 ·rw[X6F h1 h2 (.inr (.inr (.inl a3)))];exact Qcc
 by_cases a4:1000001<ne
 ·rw[X6F h1 h2 (.inr (.inr (.inr a4)))];exact Qcc
 rw[Xmb h1 h2 a1 a2 a3 a4];generalize hN:X1a nn none ns=N;generalize hM:X2k ns ne none es=M;refine QZ ?_
 refine Xl (fun i:Nat=>i<=J ns/\X1a nn (Ve ns i) (ns.drop i)=N) (fun i=>⟨135,[(1,.ptr 100 0),(38,.d (.sl 3 (ns.map Xi))),(39,ai (J (ns.map Xi))),(40,ai i)],[(100,.box [.d (.sl 3 (ns.map Xi)),.d (.sl 5 (es.map Xk)),ai nn,ai ne])]⟩) (fun i=>J ns-i) 0 ⟨Nat.zero_le _,by simpa [Ve] using hN⟩
  (ZL0) ?_
 rintro i ⟨hi,hg⟩;by_cases hil:i<J ns
 case pos=>
  have hn:(i:Int)<J (ns.map Xi):=Oa
  obtain⟨x,hx⟩:=Xn (l:=ns) hil;have au:(ns.map Xi)[i]? =some (Xi x):=XC hx;have gy:=hnh x (mem_of_getElem? hx);have aX:=XjW x.labels x.props gy.1 gy.2.2.2;rw[Xom hx] at hg;clear gy;by_cases h0:i=0
  ·subst h0;rw[XoL] at hg;obtain⟨id,labels,props⟩:=x;simp only[Xi] at au aX hg;by_cases q2:id<1
   ·rw[PI (show id<1\/nn<=id from .inl q2),PI Oi] at hg;subst hg;rw[PI Oi];refine Qab ?_;exact Zr0
   by_cases q3:nn<=id
   ·rw[PI (show id<1\/nn<=id from .inr q3),PI Oi] at hg;subst hg;rw[PI Oi];refine Qab ?_;exact Zr0
   rw[NI (show ¬(id<1\/nn<=id) from fun h=>h.elim q2 q3)] at hg;generalize X1r labels props=e at*;by_cases he:e=0
   ·subst he;rw[NI Oc] at hg;refine X4 ?_;refine VM ?_;exact Qkc
   ·rw[PI he] at hg;subst hg;rw[PI he];refine X4 ?_;refine VM ?_;exact Zr0
  ·obtain⟨j,rfl⟩:∃j,i=j+1:=⟨i-1,Oa⟩
   obtain⟨p,hp⟩:=Xn (l:=ns) (k:=j) Oa;have cW:(ns.map Xi)[j]? =some (Xi p):=XC hp;rw[XoX hp] at hg;clear hp;obtain⟨id,labels,props⟩:=x;obtain⟨pid,plabels,pprops⟩:=p;simp only[Xi] at au aX hg cW;by_cases q1:id<=pid
   ·rw[PI q1,PI Oi] at hg;subst hg;rw[PI Oi];refine Qlc ?_;exact Qn
   rw[NI q1] at hg;by_cases q2:id<1
   ·rw[PI (show id<1\/nn<=id from .inl q2),PI Oi] at hg;subst hg;rw[PI Oi];refine Qlc ?_;exact QB
   by_cases q3:nn<=id
   ·rw[PI (show id<1\/nn<=id from .inr q3),PI Oi] at hg;subst hg;rw[PI Oi];refine Qlc ?_;exact QB
   rw[NI (show ¬(id<1\/nn<=id) from fun h=>h.elim q2 q3)] at hg;generalize X1r labels props=e at*;by_cases he:e=0
   ·subst he;rw[NI Oc] at hg;refine Qlc ?_;refine Qka ?_;exact Qmc
   ·rw[PI he] at hg;subst hg;rw[PI he];refine Qlc ?_;refine Qka ?_;exact Zr0
 obtain rfl:i=J ns:=Oa
 have hn:¬((J ns:Nat):Int)<J (ns.map Xi):=Oa
 rw[drop_length,X1a] at hg;subst hg;rw[NI Oc];have hris:=(XnF ns none hN).2;refine Yr ?_
 refine Xl (fun i:Nat=>i<=J es/\X2k ns ne (Ve es i) (es.drop i)=M) (fun i=>⟨135,[(1,.ptr 100 0),(79,.d (.sl 5 (es.map Xk))),(80,ai (J (es.map Xk))),(81,ai i)],[(100,.box [.d (.sl 3 (ns.map Xi)),.d (.sl 5 (es.map Xk)),ai nn,ai ne])]⟩) (fun i=>J es-i) 0 ⟨Nat.zero_le _,by simpa [Ve] using hM⟩
  (ZL0) ?_
 clear hi hil hn;rintro i ⟨hi,hg⟩;by_cases hil:i<J es
 case neg=>
  obtain rfl:i=J es:=Oa
  have hn:¬((J es:Nat):Int)<J (es.map Xk):=Oa
  rw[drop_length,X2k] at hg;subst hg;exact Qn
 have hn:(i:Int)<J (es.map Xk):=Oa
 obtain⟨x,hx⟩:=Xn (l:=es) hil;have au:(es.map Xk)[i]? =some (Xk x):=XC hx;have gy:=heh x (mem_of_getElem? hx);have aX:=XjW [] x.props Oc gy.2.2;have hs1:=Xoe ns x.src Oa hris;have cV:=Xoe ns x.dst Oa hris;have hnm:=X7a x.typ;rw[Xle hx] at hg;clear gy;by_cases h0:i=0
 ·subst h0;rw[Xjc] at hg;obtain⟨id,src,dst,typ,props⟩:=x;simp only[Xk] at au aX hg hs1 cV hnm;simp only[map_nil] at aX;generalize Vd ns src=b1 at*;generalize Vd ns dst=b2 at*;generalize Yc typ=b3 at*;generalize X1r [] props=e at*;by_cases q2:id<1
  ·rw[PI (show id<1\/ne<=id from .inl q2),PI Oi] at hg;subst hg;refine Qab ?_;exact Zr0
  by_cases q3:ne<=id
  ·rw[PI (show id<1\/ne<=id from .inr q3),PI Oi] at hg;subst hg;refine Qab ?_;exact Zr0
  rw[NI (show ¬(id<1\/ne<=id) from fun h=>h.elim q2 q3)] at hg;cases b1 with
  |false=>
   rw[PI (show false=false\/b2=false from .inl rfl),PI Oi] at hg;subst hg;refine QUa ?_;refine Z5 (ag:=hs1) ?_;exact QFa
  |true=>
   cases b2 with
   |false=>
    rw[PI (show true=false\/false=false from .inr rfl),PI Oi] at hg;subst hg;refine Qnc ?_;exact QE
   |true=>
    rw[NI (show ¬(true=false\/true=false) by simp)] at hg;cases b3 with
    |false=>
     rw[PI (show false=false from rfl),PI Oi] at hg;subst hg;refine Qnc ?_;refine Yh ?_;exact Zr0
    |true=>
     rw[NI (show ¬true=false by simp)] at hg;by_cases he:e=0
     ·subst he;rw[NI Oc] at hg;refine Qnc ?_;refine UA ?_;exact Qkc
     ·rw[PI he] at hg;subst hg;refine Qnc ?_;refine UA ?_;exact Zr0
 ·obtain⟨j,rfl⟩:∃j,i=j+1:=⟨i-1,Oa⟩
  obtain⟨p,hp⟩:=Xn (l:=es) (k:=j) Oa;have cW:(es.map Xk)[j]? =some (Xk p):=XC hp;rw[Xim hp] at hg;clear hp;obtain⟨id,src,dst,typ,props⟩:=x;obtain⟨pid,psrc,pdst,ptyp,pprops⟩:=p;simp only[Xk] at au aX hg cW hs1 cV hnm;simp only[map_nil] at aX;generalize Vd ns src=b1 at*;generalize Vd ns dst=b2 at*;generalize Yc typ=b3 at*;generalize X1r [] props=e at*;by_cases q1:id<=pid
  ·rw[PI q1,PI Oi] at hg;subst hg;refine Qlc ?_;exact Qn
  rw[NI q1] at hg;by_cases q2:id<1
  ·rw[PI (show id<1\/ne<=id from .inl q2),PI Oi] at hg;subst hg;refine Qlc ?_;exact QB
  by_cases q3:ne<=id
  ·rw[PI (show id<1\/ne<=id from .inr q3),PI Oi] at hg;subst hg;refine Qlc ?_;exact QB
  rw[NI (show ¬(id<1\/ne<=id) from fun h=>h.elim q2 q3)] at hg;cases b1 with
  |false=>
   rw[PI (show false=false\/b2=false from .inl rfl),PI Oi] at hg;subst hg;refine Qlc ?_;refine UK ?_;refine Z5 (ag:=hs1) ?_;exact QFa
  |true=>
   cases b2 with
   |false=>
    rw[PI (show true=false\/false=false from .inr rfl),PI Oi] at hg;subst hg;refine Qoc ?_;exact QE
   |true=>
    rw[NI (show ¬(true=false\/true=false) by simp)] at hg;cases b3 with
    |false=>
     rw[PI (show false=false from rfl),PI Oi] at hg;subst hg;refine Qoc ?_;refine Yh ?_;exact Zr0
    |true=>
     rw[NI (show ¬true=false by simp)] at hg;by_cases he:e=0
     ·subst he;rw[NI Oc] at hg;refine Qoc ?_;refine UA ?_;exact Qmc
     ·rw[PI he] at hg;subst hg;refine Qoc ?_;refine UA ?_;exact Zr0
end Go.Fw

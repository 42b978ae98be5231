/- The changes that make a graph out of an empty one do make it; plain Lean. -/
import Derived.Test.YtfmfekakaeafhaaGreatDoorP34
import Derived.Test.YtfmfekakaeafhaaGreatDoorP35
set_option linter.all false
set_option maxHeartbeats 32000000
namespace Go.Fw
open Go List
open List renaming length->J
section
variable {α κ:Type}{lt:κ->κ->Bool}{key:α->κ}
theorem XzK (ho:KOrd lt) {A B:List α}{x:α} (hs:YP lt key (A++x::B)):Xr lt key (A++x::B) (key x)=J A:=by
 refine Xir ho Oc (fun y hy=> ?_) (fun y hy=> ?_)
 ·grind [YP]
 ·rw[getElem?_append_right (Nat.le_refl _),Nat.sub_self] at hy;simp only[getElem?_cons_zero,Option.some.injEq] at hy;subst hy;exact ho.irr _
theorem Xue (ho:KOrd lt) {l:List α}{k:κ} (h:∀y∈l,lt (key y) k=true):Xr lt key l k=J l:=by
 refine Xir ho (Nat.le_refl _) (fun y hy=> ?_) (fun y hy=> ?_)<;>simp_all
variable [DecidableEq κ]
theorem XeD (ho:KOrd lt) {A B ns:List α}{x:α} (hs:YP lt key (A++x::B)):UY lt key (A++x::B) (key x) ns=A++ns++B:=by
 simp_all [XzK,X8M]
theorem Xc5 (ho:KOrd lt) {l ns:List α}{k:κ} (h:∀y∈l,lt (key y) k=true):UY lt key l k ns=l++ns:=by
 simp_all [UY,Xbs,XaV,Xue]
theorem XfP (ho:KOrd lt) {l:List α}{k:κ} (h:∀y∈l,lt (key y) k=true):XF key l k=false:=by
 unfold XF;rw[any_eq_false];intro y hy e;have e:key y=k:=Ix
 have:=h y hy;rw[e,ho.irr] at this;cases this
end
def X2R (g:Gra) (l:List Chg) (h:Gra):Prop:=∀k,VY g k l=(h,k+J l,0)
def X73 (g:Gra):X2R g [] g:=fun k=>rfl
variable{c:Chg}{g h:Gra}{R:List (List D)}{i k q sz:Nat}{a e ep:Int}{b r:List UInt8}{l:List Chg}{n:Nod}{ns:List Nod}{ys:List XN}{p:Prp}{x y:UInt8}{s:Sta}{u:Value}{v:Val}
def XaJ (e:YR g c=(h,0)):X2R g [c] h:=fun k=>by
 grind [VY]
def X4d {m:Gra}{a b:List Chg} (p:X2R g a h) (q:X2R h b m):X2R g (a++b) m:=fun k=>by
 grind [Xn7,X2R]
abbrev X1G (i:Int):Prop:=1<=i/\i<=1000000
def X30 (l:List Nod):Prop:=(l.map Nod.id).Pairwise fun a b=>ltI a b=true
def X5V (l:List Edg):Prop:=(l.map Edg.id).Pairwise fun a b=>ltI a b=true
def Xb0 {l:List Nod}:X30 l↔YP ltI Nod.id l:=pairwise_map
def Xab {l:List Edg}:X5V l↔YP ltI Edg.id l:=pairwise_map
abbrev X4w (n:Nod):Nod:=⟨n.id,[],[]⟩
abbrev X4C (e:Edg):Edg:=⟨e.id,e.src,e.dst,e.typ,[]⟩
theorem Xga:Vf zV=true:=Oi
theorem Xyh (h:X1G n.id):YE (gA n)=0:=by
 grind [YE,gA,idV,YO,Xga]
theorem XsQ {i:Int}{s:List UInt8} (h:X1G i) (hs:Yc s=true):YE ⟨3,i,0,0,s,zV⟩=0:=by
 grind [YE,idV,YO,Xga]
def Xlv {op i:Int} (ho:op=5\/op=8) (h:X1G i) (hs:Yc p.key=true) (hv:U9 p.v=true):YE ⟨op,i,0,0,p.key,p.v⟩=0:=by
 grind [YE,idV,YO,YL]
def Xs9 {e:Edg} (h:X1G e.id) (h1:X1G e.src) (h2:X1G e.dst) (hs:Yc e.typ=true):YE (gB e)=0:=by
 grind [YE,gB,idV,YO,Xga]
theorem XqK (h:U9 v=true):Vf v=false:=by
 grind [XdM,Vf]
def XjD:∀(l A:List Nod) (g:Gra),g.nodes=A->X30 (A++l)->(∀n∈l,X1G n.id)->J (A++l)<=2000->∃h,X2R g (l.map gA) h/\h.nodes=A++l.map X4w/\h.aj=g.aj
 |[],A,g,hg,_,_,_=>⟨g,X73 g,by simp[hg],rfl⟩
 |n::r,A,g,hg,hs,hv,hl=>by
  have hn:=hv n (mem_cons_self ..);have hlt:∀y∈A,ltI y.id n.id=true:=fun y hy=>(pairwise_append.1 (Xb0.1 hs)).2.2 y hy n (mem_cons_self ..);have hlen:J A<2000:=II
  have e:YR g (gA n)=(VB g (X4w n),0):=by
   grind [YR,Xyh,X0j,gA,XfP,Vp]
  have hp:(VB g (X4w n)).nodes=A++[X4w n]:=by
   grind [Xc5,Vp,VB]
  obtain⟨h,h1,h2,h3⟩:=XjD r (A++[X4w n]) (VB g (X4w n)) hp (by grind [X30]) (fun m hm=>hv m (mem_cons_of_mem _ hm)) II;refine⟨h,?_,Js,h3⟩;have:=X4d (XaJ e) h1;simpa using this
theorem Xj9 {A B:List Nod}{x:Nod} (hs:X30 (A++x::B)):VT (A++x::B) x.id=some x:=by
 unfold VT;rw[find?_append];have:A.find? (fun y=>decide (y.id=x.id))=none:=by
  rw[find?_eq_none];intro y hy e;have e:y.id=x.id:=Ix
  have:=(pairwise_append.1 (Xb0.1 hs)).2.2 y hy x (mem_cons_self ..)
  grind [ltI]
 grind
def XuP {A B:List Edg}{x:Edg} (hs:X5V (A++x::B)):X0I (A++x::B) x.id=some x:=by
 unfold X0I;rw[find?_append];have:A.find? (fun y=>decide (y.id=x.id))=none:=by
  rw[find?_eq_none];intro y hy e;have e:y.id=x.id:=Ix
  have:=(pairwise_append.1 (Xab.1 hs)).2.2 y hy x (mem_cons_self ..)
  grind [ltI]
 grind
def Xlm:∀(ls L:List (List UInt8)) (A B:List Nod) (i:Int) (P:List Prp) (g:Gra),g.nodes=A++⟨i,L,P⟩::B->X30 g.nodes->X1G i->YP aC Yp (L++ls)->(∀s∈ls,Yc s=true)->J (L++ls)<=8->
  ∃h,X2R g (X5D i ls) h/\h.nodes=A++⟨i,L++ls,P⟩::B/\h.aj=g.aj
 |[],L,A,B,i,P,g,hg,_,_,_,_,_=>⟨g,X73 g,by simp[hg],rfl⟩
 |s::r,L,A,B,i,P,g,hg,hi,hid,hs,hv,hl=>by
  have hlt:∀y∈L,aC (Yp y) s=true:=fun y hy=>(pairwise_append.1 hs).2.2 y hy s (mem_cons_self ..);have hlen:J L<8:=II
  rw[hg] at hi;have e:YR g ⟨3,i,0,0,s,zV⟩=(VB g ⟨i,L++[s],P⟩,0):=by
   grind [YR,XsQ,X0j,Xj9,X4N,XfP,X2a,Xc5]
  have hp:(VB g ⟨i,L++[s],P⟩).nodes=A++⟨i,L++[s],P⟩::B:=by
   grind [XeD,Vp,VB,X30,YP]
  obtain⟨h,h1,h2,h3⟩:=Xlm r (L++[s]) A B i P (VB g ⟨i,L++[s],P⟩) hp (by grind [X30]) hid IC (fun t ht=>hv t (mem_cons_of_mem _ ht)) II;refine⟨h,?_,Js,h3⟩;have:=X4d (XaJ e) h1
  grind [X5D]
def Xll {ps:List Prp} (h:∀y∈ps,aC y.key p.key=true) (hv:U9 p.v=true):Uh ps p.key p.v=ps++[p]:=by
 simp_all [Uh,XqK,Xc5,X2a]
def XiD:∀(ps P:List Prp) (A B:List Nod) (i:Int) (L:List (List UInt8)) (g:Gra),g.nodes=A++⟨i,L,P⟩::B->X30 g.nodes->X1G i->YP aC Prp.key (P++ps)->(∀p∈ps,Yc p.key=true/\U9 p.v=true)->J (P++ps)<=16->
  ∃h,X2R g (Vg 5 i ps) h/\h.nodes=A++⟨i,L,P++ps⟩::B/\h.aj=g.aj
 |[],P,A,B,i,L,g,hg,_,_,_,_,_=>⟨g,X73 g,by simp[hg],rfl⟩
 |p::r,P,A,B,i,L,g,hg,hi,hid,hs,hv,hl=>by
  have hlt:∀y∈P,aC y.key p.key=true:=fun y hy=>(pairwise_append.1 hs).2.2 y hy p (mem_cons_self ..);have ig:=hv p (mem_cons_self ..);have hlen:J P<16:=by rw[LA,LC] at hl;omega
  rw[hg] at hi;have e:YR g ⟨5,i,0,0,p.key,p.v⟩=(VB g ⟨i,L,P++[p]⟩,0):=by
   unfold YR;rw[NI (by rw[Xlv (.inl rfl) hid ig.1 ig.2];simp)];unfold X0j;simp only[show ¬(5:Int)=1 by decide,show ¬(5:Int)=6 by decide,show ¬((5:Int)=7\/(5:Int)=8) by decide,if_false];rw[hg,show VT (A++⟨i,L,P⟩::B) i=some ⟨i,L,P⟩ from Xj9 hi];simp only;unfold X4N;simp only[show ¬(5:Int)=2 by decide,show ¬(5:Int)=3 by decide,show ¬(5:Int)=4 by decide,if_false];rw[Xll hlt ig.2,NI (by rw[LA,length_singleton];omega)]
  have hp:(VB g ⟨i,L,P++[p]⟩).nodes=A++⟨i,L,P++[p]⟩::B:=by
   show UY ltI Nod.id g.nodes (Nod.id ⟨i,L,P⟩) [⟨i,L,P++[p]⟩]=_;rw[hg,XeD Vp (Xb0.1 hi)];simp
  obtain⟨h,h1,h2,h3⟩:=XiD r (P++[p]) A B i L (VB g ⟨i,L,P++[p]⟩) hp (by rw[hp];unfold X30 at hi |-;simpa using hi) hid IC (fun t ht=>hv t (mem_cons_of_mem _ ht)) Ik;refine⟨h,?_,Js,h3⟩;have:=X4d (XaJ e) h1;simpa [Vg] using this
def Xng:∀(ps P:List Prp) (A B:List Edg) (i s d:Int) (T:List UInt8) (g:Gra),g.aj=A++⟨i,s,d,T,P⟩::B->X5V g.aj->X1G i->YP aC Prp.key (P++ps)->(∀p∈ps,Yc p.key=true/\U9 p.v=true)->J (P++ps)<=16->
  ∃h,X2R g (Vg 8 i ps) h/\h.aj=A++⟨i,s,d,T,P++ps⟩::B/\h.nodes=g.nodes
 |[],P,A,B,i,s,d,T,g,hg,_,_,_,_,_=>⟨g,X73 g,by simp[hg],rfl⟩
 |p::r,P,A,B,i,s,d,T,g,hg,hi,hid,hs,hv,hl=>by
  have hlt:∀y∈P,aC y.key p.key=true:=fun y hy=>(pairwise_append.1 hs).2.2 y hy p (mem_cons_self ..);have ig:=hv p (mem_cons_self ..);have hlen:J P<16:=by rw[LA,LC] at hl;omega
  rw[hg] at hi;have e:YR g ⟨8,i,0,0,p.key,p.v⟩=(X1v g ⟨i,s,d,T,P++[p]⟩,0):=by
   unfold YR;rw[NI (by rw[Xlv (.inr rfl) hid ig.1 ig.2];simp)];unfold X0j;rw[NI (show ¬(8:Int)=1 by decide),NI (show ¬(8:Int)=6 by decide),PI (show(8:Int)=7\/(8:Int)=8 by decide)];rw[hg,show X0I (A++⟨i,s,d,T,P⟩::B) i=some ⟨i,s,d,T,P⟩ from XuP hi];simp only;unfold X5P;simp only[if_true];rw[Xll hlt ig.2,NI (by rw[LA,length_singleton];omega)]
  have hp:(X1v g ⟨i,s,d,T,P++[p]⟩).aj=A++⟨i,s,d,T,P++[p]⟩::B:=by
   show UY ltI Edg.id g.aj (Edg.id ⟨i,s,d,T,P⟩) [⟨i,s,d,T,P++[p]⟩]=_;rw[hg,XeD Vp (Xab.1 hi)];simp
  obtain⟨h,h1,h2,h3⟩:=Xng r (P++[p]) A B i s d T (X1v g ⟨i,s,d,T,P++[p]⟩) hp (by rw[hp];unfold X5V at hi |-;simpa using hi) hid IC (fun t ht=>hv t (mem_cons_of_mem _ ht)) Ik;refine⟨h,?_,Js,h3⟩;have:=X4d (XaJ e) h1;simpa [Vg] using this
def Xnj:∀(l A:List Nod) (g:Gra),g.nodes=A++l.map X4w->X30 (A++l)->(∀n∈l,X1G n.id/\PV n.labels n.props)->∃h,X2R g (l.map dU).flatten h/\h.nodes=A++l/\h.aj=g.aj
 |[],A,g,hg,_,_=>⟨g,X73 g,by simpa using hg,rfl⟩
 |n::r,A,g,hg,hs,hv=>by
  obtain⟨hid,pv⟩:=hv n (mem_cons_self ..);have hi:X30 g.nodes:=by rw[hg];unfold X30 at hs |-;simpa [Function.comp_def] using hs
  have kH:g.nodes=A++⟨n.id,[],[]⟩::r.map X4w:=by rw[hg];rfl
  obtain⟨h,h1,h2,h3⟩:=Xlm n.labels [] A (r.map X4w) n.id [] g kH hi hid (by simpa using pv.lr) pv.ln (by simpa using pv.ll);have hi2:X30 h.nodes:=by rw[h2];rw[kH] at hi;unfold X30 at hi |-;simpa using hi
  obtain⟨m,m1,m2,m3⟩:=XiD n.props [] A (r.map X4w) n.id n.labels h Js hi2 hid (by simpa using pv.pr) (fun p hp=>⟨pv.pn p hp,pv.pv p hp⟩) (by simpa using pv.pl);obtain⟨z,z1,z2,z3⟩:=Xnj r (A++[n]) m (by rw[m2];simp) IC (fun x hx=>hv x (mem_cons_of_mem _ hx));refine⟨z,?_,by rw[z2];simp,by rw[z3,m3,h3]⟩;have:=X4d (X4d h1 m1) z1;simpa [dU] using this
def Xkg:∀(l A:List Edg) (g:Gra),g.aj=A->X5V (A++l)->(∀e∈l,X1G e.id/\X1G e.src/\X1G e.dst/\Vd g.nodes e.src=true/\Vd g.nodes e.dst=true/\Yc e.typ=true)->J (A++l)<=4000->
  ∃h,X2R g (l.map gB) h/\h.aj=A++l.map X4C/\h.nodes=g.nodes
 |[],A,g,hg,_,_,_=>⟨g,X73 g,by simp[hg],rfl⟩
 |n::r,A,g,hg,hs,hv,hl=>by
  obtain⟨hn,fq,hn2,tX,tY,tZ⟩:=hv n (mem_cons_self ..);have hlt:∀y∈A,ltI y.id n.id=true:=fun y hy=>(pairwise_append.1 (Xab.1 hs)).2.2 y hy n (mem_cons_self ..);have hlen:J A<4000:=by rw[LA,LC] at hl;omega
  have e:YR g (gB n)=(X1v g (X4C n),0):=by
   unfold YR;rw[NI (by rw[Xs9 hn fq hn2 tZ];simp)];unfold X0j gB;simp only[show ¬(6:Int)=1 by decide,if_false,if_true];rw[NI (by rw[hg,XfP Vp hlt];simp),NI (by
    rw[show XF Nod.id g.nodes n.src=true from tX,show XF Nod.id g.nodes n.dst=true from tY];simp),NI (by rw[hg];omega)]
  have hp:(X1v g (X4C n)).aj=A++[X4C n]:=by
   show UY ltI Edg.id g.aj n.id [X4C n]=_;rw[hg,Xc5 Vp hlt]
  obtain⟨h,h1,h2,h3⟩:=Xkg r (A++[X4C n]) (X1v g (X4C n)) hp (by unfold X5V at hs |-;simpa using hs) (fun m hm=>hv m (mem_cons_of_mem _ hm)) Ik;refine⟨h,?_,Js,h3⟩;have:=X4d (XaJ e) h1;simpa using this
def XhP:∀(l A:List Edg) (g:Gra),g.aj=A++l.map X4C->X5V (A++l)->(∀e∈l,X1G e.id/\PV [] e.props)->∃h,X2R g (l.map eV).flatten h/\h.aj=A++l/\h.nodes=g.nodes
 |[],A,g,hg,_,_=>⟨g,X73 g,by simpa using hg,rfl⟩
 |n::r,A,g,hg,hs,hv=>by
  obtain⟨hid,pv⟩:=hv n (mem_cons_self ..);have hi:X5V g.aj:=by rw[hg];unfold X5V at hs |-;simpa [Function.comp_def] using hs
  have kH:g.aj=A++⟨n.id,n.src,n.dst,n.typ,[]⟩::r.map X4C:=by rw[hg];rfl
  obtain⟨m,m1,m2,m3⟩:=Xng n.props [] A (r.map X4C) n.id n.src n.dst n.typ g kH hi hid (by simpa using pv.pr) (fun p hp=>⟨pv.pn p hp,pv.pv p hp⟩) (by simpa using pv.pl);obtain⟨z,z1,z2,z3⟩:=XhP r (A++[n]) m (by rw[m2];simp) IC (fun x hx=>hv x (mem_cons_of_mem _ hx));refine⟨z,?_,by rw[z2];simp,by rw[z3,m3]⟩;have:=X4d m1 z1;simpa [eV] using this
def Xpa (v:GV g):∃h,X2R UJ (X0v g) h/\h.nodes=g.nodes/\h.aj=g.aj:=by
 have hn:∀n∈g.nodes,X1G n.id:=fun n hn=>by have:=v.nodes n hn;have:=v.nn;exact⟨Oa,Oa⟩
 have hid:∀i,Vd g.nodes i=true->X1G i:=by
  intro i hi;unfold Vd at hi;rw[any_eq_true] at hi;obtain⟨x,hx,e⟩:=hi;have e:x.id=i:=Ix
  exact e ▸ hn x hx
 have he:∀e∈g.aj,X1G e.id:=fun e he=>by have:=v.aj e he;have:=v.ne;exact⟨Oa,Oa⟩
 obtain⟨a,a1,a2,a3⟩:=XjD g.nodes [] UJ rfl (by simpa using Xb0.2 v.ns) hn (by simpa using v.nl);obtain⟨b,b1,b2,b3⟩:=Xnj g.nodes [] a (by simpa using a2) (by simpa using Xb0.2 v.ns) (fun n h=>⟨hn n h,(v.nodes n h).2.2⟩);have hb:b.nodes=g.nodes:=by simpa using b2
 obtain⟨c,c1,c2,c3⟩:=Xkg g.aj [] b (by rw[b3,a3]) (by simpa using Xab.2 v.es) (fun e h=>by
  obtain⟨_,_,h3,h4,h5,_⟩:=v.aj e h;exact⟨he e h,hid _ h3,hid _ h4,by rw[hb];exact h3,by rw[hb];exact h4,h5⟩) (by simpa using v.el)
 obtain⟨d,d1,d2,d3⟩:=XhP g.aj [] c Ir (by simpa using Xab.2 v.es) (fun e h=>⟨he e h,(v.aj e h).2.2.2.2.2⟩);refine⟨d,?_,by rw[d3,c3,hb],by simpa using d2⟩;unfold X0v X0Z X1J;exact X4d (X4d a1 b1) (X4d c1 d1)
theorem XbB:X0w UJ=0:=Oi
def Xq6 (v:GV g):(UW UJ (X0v g)).2.2=0/\(UW UJ (X0v g)).1.nodes=g.nodes/\(UW UJ (X0v g)).1.aj=g.aj:=by
 obtain⟨h,h1,h2,h3⟩:=Xpa v;have e:UW UJ (X0v g)=VY UJ 0 (X0v g):=by unfold UW;rw[NI (by rw[XbB];simp)]
 rw[e,h1 0];exact⟨rfl,h2,h3⟩
open Go Go.Proofs Tryz
open List renaming length->J
set_option maxRecDepth 100000
abbrev oS (xs:List (List D)):List (Nat×AObj):=[(0,.box [.own 1 (J xs)]),(1,.row 10 xs)]
def Xhf (h:U9 v=true):Xj 8 v=true/\X0c v.kind≠0:=by
 have hk:=(XdM h).2;refine⟨?_,?_⟩
 ·unfold U9 X8Q at h;rw[Bool.and_eq_true] at h;exact h.2
 ·unfold X0c;split
  ·omega
  ·split<;>omega
def XxE (k n d:Int) (s:List UInt8) (l:List Val) (h:X0c k≠0):Con prog 324 [] [Xt zV,Xt (.mk k n d s l)] [] (ai (YD 0 (X0c k))):=by
 refine ZC1 func324 ntmps324 fun E=> ?_;have c1:=X9i k n d s l;have c2:=X9i 0 0 0 [] [];have c3:=X6K 0 (X0c k);rw[show X0c 0=0 from rfl] at c2;have hz:YD 0 (X0c k)≠0:=by
  unfold YD;split
  ·omega
  ·split
   ·omega
   ·omega
 generalize YD 0 (X0c k)=z at*;generalize X0c k=c at*;simp only[Xt,XR] at c1 c2 |-;refine XA ?_;refine Z5 (ag:=c2) ?_;refine W1_ ?_;refine Z5 (ag:=c1) ?_;refine XD ?_
 (exact Zz2)
def XaY (v:Val):Int:=YD 0 (X0c v.kind)
def XvS (h:U9 v=true):XaY v≠0:=by
 have:=(Xhf h).2;unfold XaY YD;split
 ·omega
 ·split<;>omega
def XpC (v:Val) (h:U9 v=true):Con prog 280 [] [Xt zV,Xt v] [] (ai (XaY v)):=by
 refine ZC1 func280 ntmps280 fun E=> ?_;obtain⟨h8,hc⟩:=Xhf h;have hv:=X2B v;have hz:=X2B zV;rw[show Xj 8 zV=true by rw[Xj];simp] at hz;rw[h8] at hv;unfold XaY;obtain⟨k,n,d,s,l⟩:=v;simp only[Val.kind] at hc |-;have ho:=XxE k n d s l hc;generalize YD 0 (X0c k)=z at*;simp only[Xt,XR] at hv hz ho |-;refine W9_ ?_;refine Z5 (ag:=hz) ?_;refine W1_ ?_;refine Z5 (ag:=hv) ?_;refine Y5 ?_
 (exact Zz2)
def XvZ:Con prog 354 [] [] [] (Xt zV):=by
 refine ZC1 func354 ntmps354 fun E=> ?_;simp only[Xt,XR];refine W9_ ?_;exact X3 ⟨_,Xg 100 (cs:=[ai 0,ai 0,ai 0,Xa [],aq]) (cs':=[ai 0,ai 0,ai 0,Xa [],.d (.sl 5 [])]) rfl ⟨ZzV,ZzV,ZzV,ZzV,AVal.le_nil 5,TV⟩ rfl,⟨⟨100,0,_,rfl,rfl,.inr ⟨5,_,rfl,rfl,rfl,rfl⟩⟩,TV⟩,X5 _⟩
def XrC (s:List UInt8):Con prog 312 [] [.d (.sl 6 []),Xa s] [] (Xt zV):=by
 refine ZC1 func312 ntmps312 fun E=> ?_;have hn:=XvZ;simp only[Xt,XR] at*;refine XG ?_
 refine Xl (fun _:Unit=>True) (fun _=>⟨22,[(4,.ptr 100 0),(8,ai 0),(9,ai 0)],[(100,.box [ai 0,ai 0,ai 0,Xa [],aq])]⟩) (fun _=>0) () trivial
  (ZL0) ?_
 intro _ _;refine XG ?_;exact X3 ⟨_,ZzS,⟨⟨100,0,_,rfl,rfl,.inr ⟨5,_,rfl,rfl,rfl,rfl⟩⟩,TV⟩,X5 _⟩
def Xi4 (es:List Edg) (nn ne id:Int):Con prog 269 [] [XZ ⟨[],es,nn,ne⟩,ai id] [] (.tup [.agg [ai 0,.d (.sl 1 []),.d (.sl 6 [])],ab false]):=by
 refine ZCt func269 ntmps269 fun E=> ?_;simp only[XZ,map_nil];refine Ya ?_
 refine Xl (fun _:Unit=>True) (fun _=>⟨29,[(4,.ptr 101 0),(10,ai 0),(11,ai 0)],[(101,.box [ai 0,aq,aq])]⟩) (fun _=>0) () trivial
  (ZL0) ?_
 intro _ _;refine XK ?_;exact QKd
def XoR (ns:List Nod) (nn ne id:Int):Con prog 266 [] [XZ ⟨ns,[],nn,ne⟩,ai id] [] (.tup [.agg [ai 0,ai 0,ai 0,Xa [],.d (.sl 6 [])],ab false]):=by
 refine ZCt func266 ntmps266 fun E=> ?_;simp only[XZ,map_nil];refine Ya ?_
 refine Xl (fun _:Unit=>True) (fun _=>⟨26,[(4,.ptr 101 0),(10,ai 0),(11,ai 0)],[(101,.box [ai 0,ai 0,ai 0,Xa [],aq])]⟩) (fun _=>0) () trivial
  (ZL0) ?_
 intro _ _;refine XK ?_;exact QLd
def XcV (xs:List (List D)) (c:Chg) (hx:J xs<=1000000):Con prog 268 (oS xs) [.ptr 0 0,Xu c] (oS (xs++[Xp c])) (.tup []):=by
 refine VQ (xs:=[]) func268 rfl ntmps268 rfl rfl rfl (fun E=> ?_);obtain⟨op,id,src,dst,name,⟨k,n,d,s,l⟩⟩:=c;simp only[Xu,Xp];refine Yb ?_;exact QMd
def Xdl (l:List Prp) (hl:J l<=1000000):Con prog 271 [] [.d (.sl 6 (l.map Xb))] [] (.d (.sl 1 ((l.map Prp.key).map Xf))):=by
 refine ZC1 func271 ntmps271 fun E=> ?_;have hlm:J (l.map Xb)=J l:=Oc
 obtain⟨X,hX⟩:∃X:Nat->List (List D),∀i,((l.take i).map fun p=>Xf p.key)++replicate (J l-i) (Xf [])=X i:=⟨_,fun _=>rfl⟩
 have b7:∀i,i<=J l->J (X i)=J l:=fun i hi=>by rw[<-hX,LA,LM,LT,length_replicate];omega
 have bF:replicate (J (l.map Xb)) (Xf [])=X 0:=by rw[<-hX,hlm];simp
 have g6:X (J l)=(l.map Prp.key).map Xf:=IL
 have bw:∀i p,l[i]? =some p->(X i).take i++[Xf p.key]++(X i).drop (i+1)=X (i+1):=fun i p hp=>by
  have hi:=(GS.1 hp).1;have e1:J ((l.take i).map fun p=>Xf p.key)=i:=IT
  have e2:X i=((l.take i).map fun p=>Xf p.key)++Xf []::replicate (J l-(i+1)) (Xf []):=by rw[<-hX,show J l-i=(J l-(i+1))+1 by omega,replicate_succ]
  rw[e2,take_left' e1,drop_append,e1,drop_of_length_le (by rw[e1];omega),show i+1-i=1 by omega,<-hX,X1A hp,map_append];simp
 rw[<-g6];clear hX;refine QPa ?_;refine XA ?_
 refine Xl (fun i:Nat=>i<=J l) (fun i=>⟨23,[(3,.own 130 (J (l.map Xb))),(9,.d (.sl 6 (l.map Xb))),(10,ai (J (l.map Xb))),(11,ai i)],[(130,.row 1 (X i))]⟩) (fun i=>J l-i) 0 (Nat.zero_le _)
  (X9 rfl JM ⟨(by refine Eq.trans (b:=AObj.row 1 (replicate (J (l.map Xb)) (Xf []))) rfl ?_;rw[bF]),TV⟩) ?_
 intro i hi;have hxl:=b7 i hi;by_cases hil:i<J l
 case neg=>
  obtain rfl:i=J l:=Oa
  have hn:¬((J l:Nat):Int)<J (l.map Xb):=Oa
  refine QYc ?_;refine X8 (XX 2 130 rfl rfl Oa) ?_
  (exact Zz2)
 have hn:(i:Int)<J (l.map Xb):=Oa
 obtain⟨p,hp⟩:=Xn (l:=l) hil;have aX:(l.map Xb)[i]? =some (Xb p):=XC hp;have hs:=bw i p hp;have qb:i<J (X i):=Oa
 have oI:J (l.map Xb)=J (X i):=Oa
 clear bw b7 bF g6;obtain⟨key,⟨k0,k1,k2,k3,k4⟩⟩:=p;simp only[Xb,UB,Xf] at aX hs;refine UI ?_;exact⟨i+1,Oa,Oa,X9 rfl JM ⟨CG (AObj.row 1) hs,TV⟩⟩
def XyU (xs:List (List D)) (op id:Int) (l:List (List UInt8)) (hx:J xs+J l<=1000000):Con prog 270 (oS xs) [.ptr 0 0,ai op,ai id,.d (.sl 1 (l.map Xf)),.d (.sl 1 [])] (oS (xs++l.map fun s=>Xp ⟨op,id,0,0,s,zV⟩)) (.tup []):=by
 refine VQ (xs:=[]) func270 rfl ntmps270 rfl rfl rfl (fun E=> ?_);have hlm:J (l.map Xf)=J l:=Oc
 obtain⟨X,hX⟩:∃X:Nat->List (List D),∀i,(xs++(l.take i).map fun s=>Xp ⟨op,id,0,0,s,zV⟩)=X i:=⟨_,fun _=>rfl⟩
 have bF:xs=X 0:=IL
 have g6:(xs++l.map fun s=>Xp ⟨op,id,0,0,s,zV⟩)=X (J l):=Jc
 have b7:∀i,J (X i)<=1000000:=fun i=>by rw[<-hX,LA,LM,LT];omega
 have bw:∀i s,l[i]? =some s->X i++[Xp ⟨op,id,0,0,s,zV⟩]=X (i+1):=fun i s hs=>by rw[<-hX,<-hX,X1A hs,map_append,AS];rfl
 rw[g6];have hlb:J l<=1000000:=Oa
 clear hX g6 hx;rw[bF];generalize hl:l.map Xf=C at*;clear bF;refine W7_ ?_
 refine Xl (fun i:Nat=>i<=J l) (fun i=>⟨29,[(0,.ptr 0 0),(1,ai op),(2,ai id),(4,.d (.sl 1 [])),(12,.d (.sl 1 C)),(13,ai (J C)),(14,ai i)],oS (X i)⟩) (fun i=>J l-i) 0 (Nat.zero_le _)
  (ZL0) ?_
 intro i hi;by_cases hil:i<J l
 case neg=>
  obtain rfl:i=J l:=Oa
  have hn:¬((J l:Nat):Int)<J C:=Oa
  exact QNd
 have hn:(i:Int)<J C:=Oa
 obtain⟨s,hs⟩:=Xn (l:=l) hil;have hsc:C[i]? =some (Xf s):=by rw[<-hl];exact XC hs
 simp only[Xf] at hsc;have hc:Con prog 311 [] [.d (.sl 1 []),Xa s] [] (ab false):=Xvj [] s Oc;have ha:=XcV (X i) ⟨op,id,0,0,s,zV⟩ (b7 i);rw[bw i s hs] at ha;simp only[Xu] at ha;clear bw b7 hl;refine UR ?_;exact QDd
def Xgb (xs:List (List D)) (op id:Int) (C:List (List D)):Con prog 270 (oS xs) [.ptr 0 0,ai op,ai id,.d (.sl 1 []),.d (.sl 1 C)] (oS xs) (.tup []):=by
 refine VQ (xs:=[]) func270 rfl ntmps270 rfl rfl rfl (fun E=> ?_);refine W7_ ?_
 refine Xl (fun _:Unit=>True) (fun _=>⟨29,[(13,ai 0),(14,ai 0)],oS xs⟩) (fun _=>0) () trivial
  (ZL0) ?_
 intro _ _;exact QNd
def Xj5 (xs:List (List D)) (op id:Int) (l:List Prp) (hv:∀p∈l,U9 p.v=true) (hx:J xs+J l<=1000000):Con prog 272 (oS xs) [.ptr 0 0,ai op,ai id,.d (.sl 6 []),.d (.sl 6 (l.map Xb))] (oS (xs++(Vg op id l).map Xp)) (.tup []):=by
 refine VQ (xs:=[]) func272 rfl ntmps272 rfl rfl rfl (fun E=> ?_);have hlm:J (l.map Xb)=J l:=Oc
 obtain⟨X,hX⟩:∃X:Nat->List (List D),∀i,xs++(Vg op id (l.take i)).map Xp=X i:=⟨_,fun _=>rfl⟩
 have bF:xs=X 0:=by rw[<-hX];simp[Vg]
 have g6:xs++(Vg op id l).map Xp=X (J l):=Jc
 have b7:∀i,J (X i)<=1000000:=fun i=>by rw[<-hX,LA,LM];unfold Vg;rw[LM,LT];omega
 have bw:∀i p,l[i]? =some p->X i++[Xp ⟨op,id,0,0,p.key,p.v⟩]=X (i+1):=fun i p hp=>by rw[<-hX,<-hX,X1A hp];unfold Vg;rw[map_append,map_append,AS];rfl
 rw[g6];have hlb:J l<=1000000:=Oa
 clear hX g6 hx;rw[bF];generalize hl:l.map Xb=C at*;clear bF;refine W7_ ?_
 refine Xl (fun i:Nat=>i<=J l) (fun i=>⟨36,[(0,.ptr 0 0),(1,ai op),(2,ai id),(3,.d (.sl 6 [])),(12,.d (.sl 6 C)),(13,ai (J C)),(14,ai i)],oS (X i)⟩) (fun i=>J l-i) 0 (Nat.zero_le _)
  (ZL0) ?_
 intro i hi;by_cases hil:i<J l
 case neg=>
  obtain rfl:i=J l:=Oa
  have hn:¬((J l:Nat):Int)<J C:=Oa
  exact QNd
 have hn:(i:Int)<J C:=Oa
 obtain⟨p,hp⟩:=Xn (l:=l) hil;have aX:C[i]? =some (Xb p):=by rw[<-hl];exact XC hp
 have aE:=hv p (mem_of_getElem? hp);have hnz:=XvS aE;have hc:=XrC p.key;have ho:=XpC p.v aE;have ha:=XcV (X i) ⟨op,id,0,0,p.key,p.v⟩ (b7 i);rw[bw i p hp] at ha;generalize XaY p.v=z at*;clear bw b7 hl hv aE hp;obtain⟨key,⟨k0,k1,k2,k3,k4⟩⟩:=p;simp only[Xb,UB,Xu,Xt,XR] at*;refine Qua ?_;exact QDd
def Xms:∀(l:List Chg) (g:Gra) (k:Nat),(VY g k l).2.2=0->∀c∈l,YE c=0
 |[],_,_,_,c,h=>OQ
 |x::r,g,k,h,c,hc=>by
  rw[VY] at h;by_cases q:(YR g x).2≠0
  ·rw[PI q] at h;exact absurd h q
  rw[NI q] at h;rcases mem_cons.1 hc with rfl|hc
  ·unfold YR at q;by_cases z:YE c≠0
   ·rw[PI z] at q;exact absurd z q
   ·simpa using z
  ·exact Xms r _ _ h c hc
def Xc6 (v:GV g):∀c∈X0v g,YE c=0:=by
 obtain⟨h,h1,_⟩:=Xpa v;exact Xms (X0v g) UJ 0 (by rw[h1 0])
def X2N {α β:Type}{w:α->List β}{k:Nat}:∀{l:List α},(∀x∈l,J (w x)<=k)->J (l.map w).flatten<=k*J l
 |[],_=>Oc
 |x::r,h=>by
  have h1:=h x Oc;have h2:=X2N (l:=r) fun y hy=>h y I6;simp only[map_cons,flatten_cons,LA,LC,Nat.mul_add,Nat.mul_one];omega
def XbU (v:GV g):J (X0v g)<=150000:=by
 have h1:=X2N (w:=dU) (k:=24) (l:=g.nodes) fun n hn=>by
  have pv:=(v.nodes n hn).2.2;have:=pv.ll;have:=pv.pl;unfold dU X5D Vg;simp only[LA,LM];omega
 have h2:=X2N (w:=eV) (k:=16) (l:=g.aj) fun n hn=>by
  have:=(v.aj n hn).2.2.2.2.2.pl;unfold eV Vg;simp only[LM];omega
 have h3:=v.nl;have h4:=v.el;unfold X0v X0Z X1J;simp only[LA,LM];omega
def okK (p:List Rul×List Chg×Int×Int):Prop:=((∀r∈p.1,Uu r=0)/\J p.1<=9223372036854775807)/\(((∀c∈p.2.1,YE c=0)/\J p.2.1<=9223372036854775807)/\(okN p.2.2.1/\okN p.2.2.2))
def wK (p:List Rul×List Chg×Int×Int):List UInt8:=X5e cu p.1++(X5e cw p.2.1++(Xq p.2.2.1++Xq p.2.2.2))
def XxD:X3r okK wK X0i:=X8C (XkU Xvm) fun _=>X8C (XkU Xtg) fun _=>X8C X7j fun _=>X7j
def Xik {rs:List Rul} (v:GV g) (hr:SchV rs):X0i ⟨0,XQ g rs,0,0⟩=((rs,X0v g,g.nn,g.ne),⟨0,XQ g rs,(J (XQ g rs):Nat),0⟩):=by
 have hl:=hr.len;have hs:=XbU v;have hn:=v.nn;have he:=v.ne;have h:=XxD ⟨0,XQ g rs,0,0⟩ 0 (rs,X0v g,g.nn,g.ne) [] ⟨⟨hr.ok,Od⟩,⟨Xc6 v,Od⟩,⟨Od,Od⟩,⟨Od,Od⟩⟩ rfl rfl ⟨Nat.zero_le _,by
  simp only[drop_zero,append_nil];rfl⟩
 rw[h];simp only[Nat.zero_add];rfl
theorem Vz:YH s=true↔GV s.g/\SchV s.rules/\0<=s.ts/\s.ts<=1000000000000000/\1<=s.ep/\s.ep<=1000000000000000/\0<=s.tail/\s.tail<=262144:=by
 unfold YH;rw[Bool.and_eq_true,Bool.and_eq_true,decide_eq_true_eq,decide_eq_true_eq,X6Q,X7J]
def Xz9 (hv:YH s=true):X1t (XQ s.g s.rules) s.ts s.ep=(⟨s.g,s.rules,s.ts,s.ep,0⟩,true):=by
 obtain⟨v,hr,h1,h2,h3,h4,h5,h6⟩:=Vz.1 hv;obtain⟨a1,a2,a3⟩:=Xq6 v;unfold X1t;rw[Xik v hr];simp only;rw[NI Oc];unfold X3h;rw[NI (by simp[a1])];simp only[a2,a3];rw[show YH ⟨⟨s.g.nodes,s.g.aj,s.g.nn,s.g.ne⟩,s.rules,s.ts,s.ep,0⟩=true from Vz.2 ⟨v,hr,h1,h2,h3,h4,Int.le_refl _,Od⟩];simp
def Xp6 {ts:Int} (h:X1t b ts ep=(s,true)):YH s=true/\XQ s.g s.rules=b/\s.ts=ts/\s.ep=ep/\s.tail=0:=by
 unfold X1t at h;simp only at h;by_cases c:(X0i ⟨0,b,0,0⟩).2.e≠0\/(X0i ⟨0,b,0,0⟩).2.a≠J b
 ·rw[PI c] at h;simp at h
 rw[NI c] at h;generalize X0i ⟨0,b,0,0⟩=p at h;unfold X3h at h;by_cases d:(UW UJ p.1.2.1).2.2≠0
 ·rw[PI d] at h;simp at h
 rw[NI d] at h;simp only[Prod.mk.injEq,Bool.and_eq_true,decide_eq_true_eq] at h;obtain⟨rfl,h1,h2⟩:=h;exact⟨h1,h2,rfl,rfl,rfl⟩
def Xdp (a b c e:Int) (h:∀x∈[a,b,c,e],0<=x/\x<=9223372036854775807):J (VX a b c e)<=54:=by
 have h1:=X2N (w:=Xq) (k:=10) (l:=[a,b,c,e]) fun x hx=>X0g (h x hx);have h2:J (X0n [a,b,c,e])<=40:=by unfold X0n;simpa using h1
 have h3:=X0g (n:=(J (X0n [a,b,c,e]):Nat)) Oa;have h4:=X4m (X0n [a,b,c,e]);unfold VX Yx;simp only[LA];omega
def X7g {b c:Int} (h:∀x∈[a,b,c,e],0<=x/\x<=9223372036854775807):J (Vj a b c e)=64:=by
 have:=Xdp a b c e h;unfold Vj;simp only[LA,length_replicate,length_singleton];omega
def Xug (p:Int×Int×Int×Int):Prop:=okN p.1/\(okN p.2.1/\(okN p.2.2.1/\okN p.2.2.2))
def wH4 (p:Int×Int×Int×Int):List UInt8:=Xq p.1++(Xq p.2.1++(Xq p.2.2.1++Xq p.2.2.2))
def Xsd:X3r Xug wH4 X5N:=X8C X7j fun _=>X8C X7j fun _=>X8C X7j fun _=>X7j
def Xe3 {b c:Int} (ha:okN a) (hb:okN b) (hc:okN c) (he:okN e):UM (Vj a b c e)=((a,b,c,e),true):=by
 have hu:J (X0n [a,b,c,e])<=40:=by
  have h1:=X2N (w:=Xq) (k:=10) (l:=[a,b,c,e]) fun x hx=>X0g (by
   simp only[mem_cons,mem_nil_iff,or_false] at hx;rcases hx with rfl|rfl|rfl|rfl
   ·exact ha
   ·exact hb
   ·exact hc
   ·exact he)
  unfold X0n;simpa using h1
 have hf:=X8N (s:=X0n [a,b,c,e]) Oa [] (replicate (63-J (VX a b c e)) 0++[1]);have hf:Y8 (Vj a b c e) 0=(X0n [a,b,c,e],(J (Yx (X0n [a,b,c,e])):Int),0):=by simpa [Vj,VX] using hf
 have hp:=Xsd ⟨0,X0n [a,b,c,e],0,0⟩ 0 (a,b,c,e) [] ⟨ha,hb,hc,he⟩ rfl rfl ⟨Nat.zero_le _,by simp[X0n,wH4]⟩;unfold UM;rw[hf];simp only;rw[NI Oc];rw[hp];simp[X0n,wH4]
def XfZ {o:Nat}{d:D}{r:List D} (T:List (Option D)) (hz:∀x∈R,J x=sz) (hq:R[q]? =some r) (ho:o<J r):
  (R.flatten.map some++T).set (q*sz+o) (some d)=(R.set q (r.set o d)).flatten.map some++T:=by
 have hr:J r=sz:=hz r (mem_of_getElem? hq);have h:=XcT hz hq (getElem?_eq_getElem ho);have hl:q*sz+o<J R.flatten:=(GS.1 h).1;rw[Xgs (i:=0) hz hq Oa,map_set,set_append_left _ _ (by rw[LM];exact hl)]
def Xfw {r:List D} (T:List (Option D)) (hz:∀x∈R,J x=sz) (hq:R[q]? =some r):((Yj (R.flatten.map some++T) none).drop (0+q*sz)).take sz=r.map .d:=by
 rw[Nat.zero_add];have hr:J r=sz:=hz r (mem_of_getElem? hq);have lC:=(GS.1 hq).1;have e1:=Xdm hq;have hl:J (R.take q).flatten=q*sz:=by
  have h:=X0Y (fun x hx=>hz x (mem_of_mem_take (i:=q) hx));rw[LT,Nat.min_eq_left Oa] at h;exact Eq.trans (by rw[<-length_map (f:=some)]) h
 conv=>lhs;rw[e1]
 simp only[Yj,map_append,flatten_append,flatten_cons,AS];rw[drop_left' (by rw[LM,LM];exact hl),take_left' (by rw[LM,LM];exact hr),map_map];rfl
def XfL {C:List (Option D)}{j:Nat}{z:AVal} (h:j<J C):Yj C (some (j,z))=(Yj C none).take j++[z]++(Yj C none).drop (j+1):=by
 simp only[Yj];exact XcO (by rw[LM];exact h)
def X2r (ns:List Nod) (ys:List XN):List (List D):=(ys.map rXN).map cRN++(ns.drop (J ys)).map Xi
def Xwt (ns:List Nod) (ys:List XN):∀x∈X2r ns ys,J x=3:=by
 exact Yt64
def Xuo (h:J ys<=J ns):J (X2r ns ys)=J ns:=by
 unfold X2r;rw[LA,LM,LM,LM,LD];omega
def Xs0 (h:ns[J ys]? =some n):(X2r ns ys)[J ys]? =some (Xi n):=by
 unfold X2r;rw[getElem?_append_right (by rw[LM,LM];exact Nat.le_refl _),LM,LM,Nat.sub_self,getElem?_map,getElem?_drop,Nat.add_zero,h];rfl
def Xyv {v:Value} (h:ns[J ys]? =some n):(X2r ns ys).set (J ys) (cRN (rXN (n,u,v)))=X2r ns (ys++[(n,u,v)]):=by
 unfold X2r;have hlt:=(GS.1 h).1;have hd:ns.drop (J ys)=n::ns.drop (J ys+1):=by
  exact Yt75
 exact Yt51
theorem Xy8 (ns:List Nod):X2r ns []=ns.map Xi:=by simp[X2r]
def Xul (h:J ns<=J ys):X2r ns ys=(ys.map rXN).map cRN:=by
 unfold X2r;rw[drop_eq_nil_of_le h];simp
def Xtc {v:Value} (hy:ys.map (·.1)=ns.take (J ys)) (h:ns[J ys]? =some n):(ys++[((n,u,v):XN)]).map (·.1)=ns.take (J (ys++[((n,u,v):XN)])):=by
 have hlt:=(GS.1 h).1;rw[map_append,hy,LA,length_singleton,take_add_one,h];rfl
def X2t (ns:List Edg) (ys:List XE):List (List D):=(ys.map rXE).map cRE++(ns.drop (J ys)).map Xk
def Xus (ns:List Edg) (ys:List XE):∀x∈X2t ns ys,J x=5:=by
 exact Yt64
def XqE {ns:List Edg}{ys:List XE} (h:J ys<=J ns):J (X2t ns ys)=J ns:=by
 unfold X2t;rw[LA,LM,LM,LM,LD];omega
def XuB {ns:List Edg}{ys:List XE}{n:Edg} (h:ns[J ys]? =some n):(X2t ns ys)[J ys]? =some (Xk n):=by
 unfold X2t;rw[getElem?_append_right (by rw[LM,LM];exact Nat.le_refl _),LM,LM,Nat.sub_self,getElem?_map,getElem?_drop,Nat.add_zero,h];rfl
def Xv6 {ns:List Edg}{ys:List XE}{n:Edg} (h:ns[J ys]? =some n):(X2t ns ys).set (J ys) (cRE (rXE (n,u)))=X2t ns (ys++[(n,u)]):=by
 unfold X2t;have hlt:=(GS.1 h).1;have hd:ns.drop (J ys)=n::ns.drop (J ys+1):=by
  exact Yt75
 exact Yt51
theorem XsX (ns:List Edg):X2t ns []=ns.map Xk:=by simp[X2t]
def XsE {ns:List Edg}{ys:List XE} (h:J ns<=J ys):X2t ns ys=(ys.map rXE).map cRE:=by
 unfold X2t;rw[drop_eq_nil_of_le h];simp
def XuG {ns:List Edg}{ys:List XE}{n:Edg} (hy:ys.map (·.1)=ns.take (J ys)) (h:ns[J ys]? =some n):(ys++[((n,u):XE)]).map (·.1)=ns.take (J (ys++[((n,u):XE)])):=by
 have hlt:=(GS.1 h).1;rw[map_append,hy,LA,length_singleton,take_add_one,h];rfl
section
variable {P:Program}{E:Env}{S:St}{Q:Exit->St->Prop}
def XoQ {x y z:Code}{Q' rJ:Exit->St->Prop} (U:St) (h:AWP P E x S (X3p (fun T=>AWP P E y T (X3p (fun T=>T.le U) rJ)) Q')) (k:AWP P E z U Q):AWP P E x S (X3p (fun T=>AWP P E y T (X3p (fun T=>AWP P E z T Q) rJ)) Q'):=
 Xcp h fun e T hq=>by
  cases e with
  |normal=>exact X4q U hq k
  |_=>exact hq
end
def Xaq (hz:∀x∈R,J x=sz):(R.flatten.map some++replicate k (none:Option D)).take (J R*sz)=R.flatten.map some:=by
 rw[take_left' (by rw[LM];exact X2m R hz)]
def XtH {k:Nat}{a b c u v:D} (T:List (Option D)) (hz:∀x∈R,J x=3) (hi:R[i]? =some [a,b,c]):
  ((R.flatten.map some++T).set (i*3+1) (some u)).set (i*3+2) (some v)=(R.set i [a,u,v]).flatten.map some++T:=by
 have hlt:=(GS.1 hi).1;rw[XfZ T hz hi Oc];have iW:∀x∈R.set i [a,u,c],J x=3:=fun x hx=>by
  rcases mem_or_eq_of_mem_set hx with h|rfl
  ·exact hz x h
  ·rfl
 have hi':(R.set i [a,u,c])[i]? =some [a,u,c]:=by rw[getElem?_set_self hlt]
 have e:=XfZ (o:=2) (d:=v) T iW hi' Oc;simp only[set_cons_succ,set_cons_zero] at e |-;rw[e,set_set]
def XtX (g:Gra) (hg:GV g):Con prog 178 [] [XZ g] [(110,.nest 3 (g.nodes.map cNN)),(111,.nest 5 (g.aj.map cNE))] (.agg [.own 110 (J g.nodes),.own 111 (J g.aj),ai g.nn,ai g.ne]):=by
 obtain⟨ns,es,nn,ne⟩:=g;have ax:=hg.nl;have hel:=hg.el;have hnp:∀n∈ns,J n.labels<=8/\J n.props<=16:=fun n hn=>⟨((hg.nodes n hn).2.2).ll,((hg.nodes n hn).2.2).pl⟩
 have c9:∀n∈es,J n.props<=16:=fun n hn=>((hg.aj n hn).2.2.2.2.2).pl;simp only at ax hel;clear hg;refine ZC1 func178 ntmps178 fun E=> ?_;have ku:=XvL 110 (ns.map Xi) Oj;have hce:=Xv5 111 (es.map Xk) Oj;have lM:J (ns.map Xi)=J ns:=Oc
 have kI:J (es.map Xk)=J es:=Oc
 rw[lM] at ku;rw[kI] at hce;have ku:Con prog 232 [] [.d (.sl 3 (ns.map Xi))] [(110,.row 3 (ns.map Xi))] (.own 110 (J ns)):=ku;have hce:Con prog 235 [] [.d (.sl 5 (es.map Xk))] [(111,.row 5 (es.map Xk))] (.own 111 (J es)):=hce;unfold XZ;simp only;have mA:J ns=J (ns.map Xi):=lM.symm;have l7:J es=J (es.map Xk):=kI.symm;refine Y5 ?_;refine XoQ ⟨60,[(1,.ptr 100 0),(2,.ptr 101 0),(3,.ptr 102 0)],[(100,.box [.d (.sl 3 (ns.map Xi)),.d (.sl 5 (es.map Xk)),ai nn,ai ne]),(101,.box [aq,aq,ai 0,ai 0]),(102,.box [.own 110 (J ns),.d (.sl 5 (es.map Xk)),ai nn,ai ne]),(110,.nest 3 (ns.map cNN))]⟩ ?_ ?_
 ·by_cases h0:ns=[]
  ·subst h0;refine W7_ ?_;refine Xl (fun _:Unit=>True) (fun _=>⟨60,[(1,.ptr 100 0),(2,.ptr 101 0),(3,.ptr 102 0),(15,ai (J ([]:List D):Nat)),(16,ai 0)],[(100,.box [.d (.sl 3 []),.d (.sl 5 (es.map Xk)),ai nn,ai ne]),(101,.box [aq,aq,ai 0,ai 0]),(102,.box [.own 110 0,.d (.sl 5 (es.map Xk)),ai nn,ai ne]),(110,.row 3 [])]⟩) (fun _=>0) () trivial (ZL0) ?_;intro _ _;have hn:¬(0:Int)<(J ([]:List D):Nat):=by simp
   refine W7_ ?_;refine St.le_trans (Xdi 210 rfl) ?_;refine St.le_trans (X4L 110 210 [] rfl rfl) ?_;exact ZL0
  have hpos:0<J (ns.map Xi):=by rw[lM];exact length_pos_iff.2 h0
  refine X3T 102 0 110 120 rfl hpos rfl rfl mA rfl rfl (fun cp k aO bC bZ _=> ?_);rw[lM] at aO bZ;have hb0:(ns.map Xi).flatten.map some++replicate k none=(X2r ns []).flatten.map some++replicate k none:=by rw[Xy8]
  rw[hb0];refine X8 (Xdi 210 rfl) ?_;clear hel c9 kI l7 hpos hb0 h0 lM mA ku hce;refine W3_ ?_;refine Qtb ?_;refine W3_ ?_;refine Xl (ι:=List XN) (fun ys=>ys.map (·.1)=ns.take (J ys)/\J ys<=J ns) (fun ys=>⟨60,[(1,.ptr 100 0),(2,.ptr 101 0),(3,.ptr 102 0),(14,.rs 120 0 (J ns) cp),(15,ai (J ns)),(16,ai (J ys))],[(100,.box [.d (.sl 3 (ns.map Xi)),.d (.sl 5 (es.map Xk)),ai nn,ai ne]),(101,.box [aq,aq,ai 0,ai 0]),(102,.box [.rs 120 0 (J ns) cp,.d (.sl 5 (es.map Xk)),ai nn,ai ne]),(120,.raw ((X2r ns ys).flatten.map some++replicate k none) none),(210,.bag (Y7 ys))]⟩) (fun ys=>J ns-J ys) [] ⟨rfl,Nat.zero_le _⟩ (ZL0) ?_;rintro ys ⟨hy,cF⟩;by_cases hil:J ys<J ns
  case neg=>
   have hn:¬((J ys:Nat):Int)<(J ns:Nat):=Oa
   have jr:ys.map (·.1)=ns:=by rw[hy,take_of_length_le Oa]
   rw[Xul Oa];have aW:=X4v (ys.map rXN);have hrl:J ((ys.map rXN).map cRN)=J ns:=by rw[LM,LM];omega
   have hlen:=X2P (k:=k) aW;rw[hrl] at hlen;have cH:=Xaq (k:=k) aW;rw[hrl] at cH;refine W7_ ?_;refine St.le_trans (X8O 102 0 120 110 (n:=J ns) (c:=cp) ((ys.map rXN).map cRN) Og Og rfl cH hrl aW aO bC (by rw[hlen];exact bZ) rfl rfl) ?_;refine St.le_trans (X4L 110 210 ys Og Og) ?_;rw[jr];exact ZL0
  have hn:((J ys:Nat):Int)<(J ns:Nat):=Oa
  obtain⟨x,hx⟩:=Xn (l:=ns) hil;have jg:=Xs0 hx;have aW:=Xwt ns ys;have hrl:=Xuo cF;have hlen:=X2P (k:=k) aW;rw[hrl] at hlen;obtain⟨p1,p2⟩:=hnp x (mem_of_getElem? hx);have bK:=fun u v=>Xyv (u:=u) (v:=v) hx;have bA:=fun u v=>Xtc (u:=u) (v:=v) hy hx;obtain⟨aK,xl,xp⟩:=x;simp only[Xi] at jg p1 p2;have hrow:((Yj ((X2r ns ys).flatten.map some++replicate k none) none).drop (0+J ys*3)).take 3=[ai aK,.d (.sl 1 (xl.map Xf)),.d (.sl 6 (xp.map Xb))]:=Xfw (replicate k none) aW jg;have h3:=fun u v:Value=>XtH (k:=k) (u:= .v u) (v:= .v v) (replicate k none) aW jg;clear hx;generalize hi:J ys=i at*;have eg:=Xwf 121 (xl.map Xf) Oj;have dG:=Xmi 122 (xp.map Xb) Oj;have eg:Con prog 233 [] [.d (.sl 1 (xl.map Xf))] [(121,.row 1 (xl.map Xf))] (.own 121 (J (xl.map Xf))):=eg;have dG:Con prog 234 [] [.d (.sl 6 (xp.map Xb))] [(122,.row 6 (xp.map Xb))] (.own 122 (J (xp.map Xb))):=dG;clear jg aW;generalize hC:(X2r ns ys).flatten.map some++replicate k (none:Option D)=C at*;have lG:i*3+1<J C:=Oa
  have hw1:=XfL (z:= .own 121 (J (xl.map Xf))) lG;have e1:0+i*3+1=i*3+1:=Oa
  have gj:0+i*3+1+1<=J C:=Oa
  have ej:0+i*3+2+1<=J C:=Oa
  refine XG ?_;refine Zi (sz:=3) ?_;(refine Zn (ys:=[ai aK,.d (.sl 1 (xl.map Xf)),.d (.sl 6 (xp.map Xb))]) (sz:=3) ?_ (hy:= ?hy1);(case hy1=>exact hrow));refine W5_ ?_;refine Qgd ?_;refine W1_ ?_;(refine Zj (cs':=C) (ho':=some (i*3+1,.own 121 (J (xl.map Xf)))) ?_ (hcs:= ?aM);(case aM=>exact(by rw[e1];exact hw1)));refine W1_ ?_;show AWP prog E _ _ _;refine Xfe 120 210 (i*3+1) 121 (Y7 ys) [] Og lG (Eq.trans (b:= .bag (Y7 ys)) Og (by rw[append_nil])) Og rfl (fun u=> ?_);have bh:J (C.set (i*3+1) (some (D.v u)))=J C:=length_set;have hj2:i*3+2<J (C.set (i*3+1) (some (D.v u))):=Oa
  have cC:=XfL (z:= .own 122 (J (xp.map Xb))) hj2;have e2:0+i*3+2=i*3+2:=Oa
  have h3:=h3 u;clear hw1 hrow eg;generalize vF:C.set (i*3+1) (some (D.v u))=C1 at*;have jv:0+i*3+2+1<=J C1:=Oa
  refine Qgd ?_;refine W1_ ?_;(refine Zj (cs':=C1) (ho':=some (i*3+2,.own 122 (J (xp.map Xb)))) ?_ (hcs:= ?aM);(case aM=>exact(by rw[e2];exact cC)));refine W1_ ?_;show AWP prog E _ _ _;refine Xfe 120 210 (i*3+2) 122 (Y7 ys++[(u,1,xl.map Xf)]) [] Og hj2 (Eq.trans (b:= .bag (Y7 ys++(u,1,xl.map Xf)::[])) Og (by rw[append_nil])) Og rfl (fun v=> ?_);have mB:=(h3 v).trans (by rw[show [D.v (Value.int IntKind.i64 aK),D.v u,D.v v]=cRN (rXN ((⟨aK,xl,xp⟩:Nod),u,v)) from rfl,bK u v]);have mC:(Y7 ys++[(u,1,xl.map Xf)])++(v,6,xp.map Xb)::[]=Y7 (ys++[((⟨aK,xl,xp⟩:Nod),u,v)]):=by rw[X8K];simp[Y7,bXN]
  have qc:((i:Int)+1)=((J (ys++[((⟨aK,xl,xp⟩:Nod),u,v)]):Nat):Int):=by rw[LA,hi];rfl
  have hlen':J (ys++[((⟨aK,xl,xp⟩:Nod),u,v)])=i+1:=by rw[LA,hi];rfl
  have bA:=bA u v;clear h3 bK cC;generalize ys++[((⟨aK,xl,xp⟩:Nod),u,v)]=ys' at*;refine W4_ ?_;refine⟨ys',⟨bA,Oa⟩,Oa,?_⟩;exact X9 rfl ⟨JL,JL,JL,JL,JL,ZzQ (Eq.trans (b:=ai ((i:Int)+1)) rfl (by rw[qc])),TV⟩ ⟨rfl,rfl,rfl,Eq.trans (b:= .raw (C1.set (i*3+2) (some (D.v v))) none) rfl (by rw[mB]),Eq.trans (b:= .bag ((Y7 ys++[(u,1,xl.map Xf)])++(v,6,xp.map Xb)::[])) rfl (by rw[mC]),TV⟩
 ·clear ku lM mA ax hnp;show AWP prog E _ _ _;refine XA ?_;refine XoQ ⟨60,[(1,.ptr 100 0),(2,.ptr 101 0),(3,.ptr 102 0)],[(100,.box [.d (.sl 3 (ns.map Xi)),.d (.sl 5 (es.map Xk)),ai nn,ai ne]),(101,.box [aq,aq,ai 0,ai 0]),(102,.box [.own 110 (J ns),.own 111 (J es),ai nn,ai ne]),(110,.nest 3 (ns.map cNN)),(111,.nest 5 (es.map cNE))]⟩ ?_ ?_
  ·by_cases h0:es=[]
   ·subst h0;refine W7_ ?_;refine Xl (fun _:Unit=>True) (fun _=>⟨60,[(1,.ptr 100 0),(2,.ptr 101 0),(3,.ptr 102 0),(44,ai (J ([]:List D):Nat)),(45,ai 0)],[(100,.box [.d (.sl 3 (ns.map Xi)),.d (.sl 5 []),ai nn,ai ne]),(101,.box [aq,aq,ai 0,ai 0]),(102,.box [.own 110 (J ns),.own 111 0,ai nn,ai ne]),(110,.nest 3 (ns.map cNN)),(111,.row 5 [])]⟩) (fun _=>0) () trivial (ZL0) ?_;intro _ _;have hn:¬(0:Int)<(J ([]:List D):Nat):=by simp
    refine W7_ ?_;refine St.le_trans (Xdi 211 rfl) ?_;refine St.le_trans (X4o 111 211 [] rfl rfl) ?_;exact ZL0
   have hpos:0<J (es.map Xk):=by rw[kI];exact length_pos_iff.2 h0
   refine X3T 102 1 111 123 rfl hpos rfl rfl l7 rfl rfl (fun cp k aO bC bZ _=> ?_);rw[kI] at aO bZ;have hb0:(es.map Xk).flatten.map some++replicate k none=(X2t es []).flatten.map some++replicate k none:=by rw[XsX]
   rw[hb0];refine X8 (Xdi 211 rfl) ?_;clear hpos hb0 h0 kI l7 hce;refine W3_ ?_;refine Qtb ?_;refine W3_ ?_;refine Xl (ι:=List XE) (fun ys=>ys.map (·.1)=es.take (J ys)/\J ys<=J es) (fun ys=>⟨60,[(1,.ptr 100 0),(2,.ptr 101 0),(3,.ptr 102 0),(43,.rs 123 0 (J es) cp),(44,ai (J es)),(45,ai (J ys))],[(100,.box [.d (.sl 3 (ns.map Xi)),.d (.sl 5 (es.map Xk)),ai nn,ai ne]),(101,.box [aq,aq,ai 0,ai 0]),(102,.box [.own 110 (J ns),.rs 123 0 (J es) cp,ai nn,ai ne]),(110,.nest 3 (ns.map cNN)),(123,.raw ((X2t es ys).flatten.map some++replicate k none) none),(211,.bag (U2 ys))]⟩) (fun ys=>J es-J ys) [] ⟨rfl,Nat.zero_le _⟩ (ZL0) ?_;rintro ys ⟨hy,cF⟩;by_cases hil:J ys<J es
   case neg=>
    have hn:¬((J ys:Nat):Int)<(J es:Nat):=Oa
    have jr:ys.map (·.1)=es:=by rw[hy,take_of_length_le Oa]
    rw[XsE Oa];have aW:=X6Y (ys.map rXE);have hrl:J ((ys.map rXE).map cRE)=J es:=by rw[LM,LM];omega
    have hlen:=X2P (k:=k) aW;rw[hrl] at hlen;have cH:=Xaq (k:=k) aW;rw[hrl] at cH;refine W7_ ?_;refine St.le_trans (X8O 102 1 123 111 (n:=J es) (c:=cp) ((ys.map rXE).map cRE) Og Og rfl cH hrl aW aO bC (by rw[hlen];exact bZ) rfl rfl) ?_;refine St.le_trans (X4o 111 211 ys Og Og) ?_;rw[jr];exact ZL0
   have hn:((J ys:Nat):Int)<(J es:Nat):=Oa
   obtain⟨x,hx⟩:=Xn (l:=es) hil;have jg:=XuB hx;have aW:=Xus es ys;have hrl:=XqE cF;have hlen:=X2P (k:=k) aW;rw[hrl] at hlen;have p2:=c9 x (mem_of_getElem? hx);have bK:=fun u=>Xv6 (u:=u) hx;have bA:=fun u=>XuG (u:=u) hy hx;obtain⟨aK,xs,xd,xt,xp⟩:=x;simp only[Xk] at jg p2;have hrow:((Yj ((X2t es ys).flatten.map some++replicate k none) none).drop (0+J ys*5)).take 5=[ai aK,ai xs,ai xd,.d (.v (.string (X7 xt))),.d (.sl 6 (xp.map Xb))]:=Xfw (replicate k none) aW jg;have h3:=fun u:Value=>XfZ (o:=4) (d:= .v u) (replicate k none) aW jg Oc;simp only[set_cons_succ,set_cons_zero] at h3;clear hx;generalize hi:J ys=i at*;have dG:=Xmi 122 (xp.map Xb) Oj;have dG:Con prog 234 [] [.d (.sl 6 (xp.map Xb))] [(122,.row 6 (xp.map Xb))] (.own 122 (J (xp.map Xb))):=dG;clear jg aW;generalize hC:(X2t es ys).flatten.map some++replicate k (none:Option D)=C at*;have lG:i*5+4<J C:=Oa
   have hw1:=XfL (z:= .own 122 (J (xp.map Xb))) lG;have e1:0+i*5+4=i*5+4:=Oa
   have gj:0+i*5+4+1<=J C:=Oa
   refine XG ?_;refine Zi (sz:=5) ?_;(refine Zn (ys:=[ai aK,ai xs,ai xd,.d (.v (.string (X7 xt))),.d (.sl 6 (xp.map Xb))]) (sz:=5) ?_ (hy:= ?hy1);(case hy1=>exact hrow));refine W4_ ?_;refine W7_ ?_;refine Zi (sz:=5) ?_;refine W1_ ?_;(refine Zj (cs':=C) (ho':=some (i*5+4,.own 122 (J (xp.map Xb)))) ?_ (hcs:= ?aM);(case aM=>exact(by rw[e1];exact hw1)));refine W1_ ?_;show AWP prog E _ _ _;refine Xfe 123 211 (i*5+4) 122 (U2 ys) [] Og lG (Eq.trans (b:= .bag (U2 ys)) Og (by rw[append_nil])) Og rfl (fun u=> ?_);have mB:=(h3 u).trans (by rw[show [D.v (Value.int IntKind.i64 aK),D.v (Value.int IntKind.i64 xs),D.v (Value.int IntKind.i64 xd),D.v (Value.string (X7 xt)),D.v u]=cRE (rXE ((⟨aK,xs,xd,xt,xp⟩:Edg),u)) from rfl,bK u]);have mC:U2 ys++(u,6,xp.map Xb)::[]=U2 (ys++[((⟨aK,xs,xd,xt,xp⟩:Edg),u)]):=by rw[X9r];simp[U2,bXE]
   have qc:((i:Int)+1)=((J (ys++[((⟨aK,xs,xd,xt,xp⟩:Edg),u)]):Nat):Int):=by rw[LA,hi];rfl
   have hlen':J (ys++[((⟨aK,xs,xd,xt,xp⟩:Edg),u)])=i+1:=by rw[LA,hi];rfl
   have bA:=bA u;clear h3 bK hw1;generalize ys++[((⟨aK,xs,xd,xt,xp⟩:Edg),u)]=ys' at*;refine W4_ ?_;refine⟨ys',⟨bA,Oa⟩,Oa,?_⟩;exact X9 rfl ⟨JL,JL,JL,JL,JL,ZzQ (Eq.trans (b:=ai ((i:Int)+1)) rfl (by rw[qc])),TV⟩ ⟨rfl,rfl,rfl,rfl,Eq.trans (b:= .raw (C.set (i*5+4) (some (D.v u))) none) rfl (by rw[mB]),Eq.trans (b:= .bag (U2 ys++(u,6,xp.map Xb)::[])) rfl (by rw[mC]),TV⟩
  ·clear hce kI l7 hel c9;show AWP prog E _ _ _;refine W5_ ?_
   (exact Zz1 rfl ⟨_,ZzS,⟨⟨101,0,_,rfl,rfl,.inr ⟨4,_,rfl,rfl,rfl,rfl⟩⟩,TV⟩,Xm ⟨rfl,rfl,TV⟩⟩)
def Xjf (h:l[i]? =some c):VY g i (l.drop i)=if (YR g c).2≠0 then (VS,i,(YR g c).2) else VY (YR g c).1 (i+1) (l.drop (i+1)):=by
 obtain⟨hl,h⟩:=GS.1 h;rw[drop_eq_getElem_cons hl,h,VY]
def XmD (h:J l<=i):VY g i (l.drop i)=(g,i,0):=by
 rw[drop_of_length_le h];rfl
def Xa7 (h:x≠1):V2 (x::r)=(V2 r).map (fun l=>x::l):=by
 cases r with
 |nil=>simp[V2,h]
 |cons y r=>rw[V2,NI h]
theorem Xf3:V2 [1]=none:=by simp[V2]
def X9w (h:y=1\/y=2):V2 (1::y::r)=(V2 r).map (fun l=>(y-1)::l):=by
 rw[V2,PI rfl,PI h]
def XgV (h:¬(y=1\/y=2)):V2 (1::y::r)=none:=by
 rw[V2,PI rfl,NI h]
def X8d (h:b[i]? =some x):b.drop i=x::b.drop (i+1):=by
 obtain⟨hi,rfl⟩:=GS.1 h;rw[drop_eq_getElem_cons hi]
def X9l:∀(n:Nat) (b raw:List UInt8),J b<=n->V2 b=some raw->J raw<=J b
 |_,[],raw,_,h=>by simp[V2] at h;simp[<-h]
 |0,_::_,_,hn,_=>by simp at hn
 |n+1,x::r,raw,hn,h=>by
  rw[LC] at hn |-;by_cases hx:x=1
  ·subst hx;cases r with
   |nil=>rw[Xf3] at h;simp at h
   |cons y r=>
    by_cases hy:y=1\/y=2
    ·rw[X9w hy] at h;rw[LC] at hn;cases hu:V2 r with
     |none=>rw[hu] at h;simp at h
     |some l=>
      exact Yt63
    ·rw[XgV hy] at h;simp at h
  ·rw[Xa7 hx] at h;cases hu:V2 r with
   |none=>rw[hu] at h;simp at h
   |some l=>
    exact Yt63
def Xje (h:y=1\/y=2):Value.int .u8 (IntKind.u8.wrap ((y.toNat:Int)-1))=Value.int .u8 ((y-1).toNat:Int):=by
 rcases h with rfl|rfl<;>rfl
def XeE:∀b:List UInt8,V2 (YB b)=some b
 |[]=>by simp[YB,V2]
 |x::r=>by
  have ih:=XeE r;rw[YB];unfold X4e;by_cases h:x.toNat<=1
  ·rw[PI h];have hx:x=0\/x=1:=by
    have:x.toNat=0\/x.toNat=1:=Oa
    exact Yt45
   rw[cons_append,cons_append,nil_append,X9w (by rcases hx with rfl|rfl<;>decide),ih];rcases hx with rfl|rfl<;>rfl
  ·rw[NI h,cons_append,nil_append,Xa7 (by rintro rfl;exact h Oi),ih];rfl
def XnS:∀b:List UInt8,∀x∈YB b,x≠0
 |[],x,h=>by simp[YB] at h
 |y::r,x,h=>by
  rw[YB,mem_append] at h;rcases h with h|h
  ·unfold X4e at h;by_cases q:y.toNat<=1
   ·rw[PI q] at h;simp only[mem_cons,not_mem_nil,or_false] at h;rcases h with rfl|rfl
    ·decide
    ·have:y=0\/y=1:=by
      have:y.toNat=0\/y.toNat=1:=Oa
      exact Yt45
     rcases this with rfl|rfl<;>decide
   ·rw[NI q] at h;simp only[mem_cons,not_mem_nil,or_false] at h;subst h;rintro rfl;exact q Oi
  ·exact XnS r x h
theorem Xi9 (ep:Int):VP [] ep=(X5Q,false):=by
 have h:(Y8 [] 0).2.2≠0:=Oi
 unfold VP;simp only[V2];unfold X5M;rw[PI (.inl h)]
def XeX (h:V2 b=none):VP b ep=(X5Q,false):=by unfold VP;rw[h]
def X9e {raw:List UInt8} (h:V2 b=some raw):VP b ep=X5M raw ep (Y8 raw 0):=by unfold VP;rw[h]
def X8D (b:List UInt8) (a:Int):J (Y8 b a).1<=J b:=by
 unfold Y8;simp only;split
 ·simp
 ·split
  ·simp
  ·split
   ·simp
   ·rw[LT,LD];omega
def XvE:(X14 b=false/\Lib.indexByte b 0= -1)\/(X14 b=true/\Lib.indexByte b 0=(J (Yo b):Nat)):=by
 induction b with
 |nil=>left;exact⟨rfl,rfl⟩
 |cons x r ih=>
  unfold X14 Yo Lib.indexByte;rw[any_cons,takeWhile_cons];by_cases hx:x=0
  ·subst hx;right;simp
  ·have h1:(x==0)=false:=by simpa using hx
   have h2:(x !=0)=true:=by simpa using hx
   rw[h1,h2,Bool.false_or];rcases ih with ⟨k1,k2⟩|⟨k1,k2⟩
   ·left;rw[k2];exact⟨k1,rfl⟩
   ·right;rw[k2];refine⟨k1,?_⟩;unfold Yo;have:(((J (takeWhile (fun x=>x !=0) r):Nat):Int)== -1)=false:=by
     simp only[beq_eq_false_iff_ne,ne_eq];omega
    rw[this];simp
theorem XgA (b:List UInt8):Yo b=b.take (J (Yo b)):=by
 unfold Yo;induction b with
 |nil=>rfl
 |cons x r ih=>
  rw[takeWhile_cons];by_cases hx:(x !=0)=true
  ·rw[PI hx,LC,take_succ_cons,<-ih]
  ·rw[NI hx];rfl
def X7W (h:X14 b=true):J (Yo b)<J b:=by
 unfold X14 Yo at*;induction b with
 |nil=>simp at h
 |cons x r ih=>
  rw[takeWhile_cons];by_cases hx:(x !=0)=true
  ·rw[PI hx,LC,LC];have h1:(x==0)=false:=by simpa using hx
   rw[any_cons,h1,Bool.false_or] at h;have:=ih h;omega
  ·rw[NI hx];simp
end Go.Fw

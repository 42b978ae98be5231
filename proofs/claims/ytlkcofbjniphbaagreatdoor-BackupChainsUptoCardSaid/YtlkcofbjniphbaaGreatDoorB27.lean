/- What is written aZ a backup is read back, and what is read is a backup; in plain Lean: parts of items. -/
import Derived.Test.YtlkcofbjniphbaaGreatDoorB26
set_option maxHeartbeats 32000000
namespace Go.Fw
open Go
set_option linter.unusedVariables false
set_option linter.unusedSimpArgs false
structure PartR {α:Type} (f:Rd→α×Rd):Prop where
 err:∀s,s.e≠0→(f s).2=s
 keep:∀s,(f s).2.k=s.k∧(f s).2.c=s.c
theorem PartR.back {α:Type}{f:Rd→α×Rd} (h:PartR f) {s:Rd} (he:(f s).2.e=0):s.e=0:=by
 by_cases q:s.e=0
 ·exact q
 ·rw[h.err s q] at he;exact he
def XbS {α:Type} (ok:α→Prop) (w:α→List UInt8) (f:Rd→α×Rd):Prop:=
 ∀s:Rd,0≤s.a→s.a≤s.c.length→(f s).2.e=0→only s.c s.a (f s).2.a (w (f s).1)∧ok (f s).1
theorem X4b {α:Type} (z:α) (f:List UInt8→Int→α×Int×Int):PartR (Vc z f):=by
 refine⟨fun s h=>by rw[XfP h],fun s=> ?_⟩
 unfold Vc
 split<;>exact⟨rfl,rfl⟩
theorem XrQ {α:Type}{z:α}{f:List UInt8→Int→α×Int×Int}{ok:α→Prop}{w:α→List UInt8}
  (h:∀(c:List UInt8) (a:Int) (x:α) (e:Int),f c a=(x,e,0)→only c a e (w x)∧ok x):XbS ok w (Vc z f):=by
 intro s h0 h1 he
 have hs:s.e=0:=(X4b z f).back he
 unfold Vc at he ⊢
 rw[if_neg (by simp[hs])] at he ⊢
 simp only[Rd.put] at he ⊢
 rw[if_pos he]
 exact h s.c s.a _ _ (by rw[←he])
theorem Xfd {α:Type}{f:Rd→α×Rd} (hf:PartR f):∀n,PartR (Y2 f n)
 |0=>⟨fun s _=>rfl,fun s=>⟨rfl,rfl⟩⟩
 |n+1=>by
  refine⟨fun s h=>by rw[X64 h],fun s=> ?_⟩
  rw[Y2]
  split
  ·exact⟨rfl,rfl⟩
  ·have h1:=hf.keep s
   have h2:=(Xfd hf n).keep (f s).2
   exact⟨h2.1.trans h1.1,h2.2.trans h1.2⟩
def X1z {α β:Type} (f:Rd→α×Rd) (g:α→Rd→β×Rd) (s:Rd):(α×β)×Rd:=(((f s).1,(g (f s).1 (f s).2).1),(g (f s).1 (f s).2).2)
theorem X3Y {α β:Type}{f:Rd→α×Rd}{g:α→Rd→β×Rd} (hf:PartR f) (hg:∀x,PartR (g x)):PartR (X1z f g):=by
 refine⟨fun s h=> ?_,fun s=> ?_⟩
 ·unfold X1z
  have:=hf.err s h
  simp only
  rw[(hg _).err _ (by rw[this];exact h),this]
 ·unfold X1z
  have h1:=hf.keep s
  have h2:=(hg (f s).1).keep (f s).2
  exact⟨h2.1.trans h1.1,h2.2.trans h1.2⟩
theorem Vd:PartR XL:=X4b 0 Xz
theorem X4y:PartR Ut:=X4b [] fun c a=>U2 c a 20
theorem X9T:PartR X18:=X4b zV Ug
theorem XcW:PartR Vn:=X4b zR X1F
def okN (n:Int):Prop:=0≤n∧n≤9223372036854775807
theorem XmF:XbS (fun r=>X05 r=0) UG Vn:=XrQ fun c a x e h=>by
 unfold X1F at h
 by_cases h0:a<0∨(c.length:Int)<a
 ·rw[if_pos h0] at h;simp at h
 ·rw[if_neg h0] at h
  generalize hr:X1e c a 0=r at h
  obtain⟨y,z,e'⟩:=r
  simp only at h
  by_cases he:e'=0
  ·subst he
   simp only[if_true] at h
   by_cases hy:X05 y=0
   ·rw[if_neg (by simp[hy])] at h
    simp only[Prod.mk.injEq,and_true] at h
    obtain⟨rfl,rfl⟩:=h
    refine⟨?_,hy⟩
    have hp:UG y=X1q y:=if_pos hy
    rw[hp]
    exact(XrT (by omega) hr).1
   ·rw[if_pos hy] at h
    simp only[Prod.mk.injEq] at h
    exact absurd h.2.2 hy
  ·rw[if_neg he,if_pos he] at h
   simp only[Prod.mk.injEq] at h
   exact absurd h.2.2 he
theorem X7O {α:Type}{f:Rd→α×Rd} (hf:PartR f):PartR (YG f):=by
 have h:=X3Y Vd (fun n:Int=>Xfd hf n.toNat)
 exact⟨fun s hs=>h.err s hs,fun s=>h.keep s⟩
def X8e {α β:Type} (φ:α→β) (f:Rd→α×Rd) (s:Rd):β×Rd:=(φ (f s).1,(f s).2)
theorem XbR {α β:Type}{φ:α→β}{f:Rd→α×Rd} (h:PartR f):PartR (X8e φ f):=⟨h.err,h.keep⟩
def okP (p:Prp):Prop:=p.key.length≤20∧Xe 8 p.v=true
theorem Xmd:X03=X8e (fun p:List UInt8×Val=>(⟨p.1,p.2⟩:Prp)) (X1z Ut fun _=>X18):=rfl
theorem XaJ:PartR X03:=by rw[Xmd];exact XbR (X3Y X4y fun _=>X9T)
def okL {α:Type} (ok:α→Prop) (l:List α):Prop:=(∀x∈l,ok x)∧l.length≤9223372036854775807
theorem XnL:VT=X8e (fun p:Int×List (List UInt8)×List Prp=>(⟨p.1,p.2.1,p.2.2⟩:Nod)) (X1z XL fun _=>X1z (YG Ut) fun _=>YG X03):=rfl
theorem Xiv:PartR VT:=by rw[XnL];exact XbR (X3Y Vd fun _=>X3Y (X7O X4y) fun _=>X7O XaJ)
def XnQ (n:Nod):Prop:=okN n.id∧okL (fun s=>s.length≤20) n.labels∧okL okP n.props
theorem Xs1:UD=X8e (fun p:Int×Int×Int×List UInt8×List Prp=>(⟨p.1,p.2.1,p.2.2.1,p.2.2.2.1,p.2.2.2.2⟩:Edg)) (X1z XL fun _=>X1z XL fun _=>X1z XL fun _=>X1z Ut fun _=>YG X03):=rfl
theorem XfH:PartR UD:=by rw[Xs1];exact XbR (X3Y Vd fun _=>X3Y Vd fun _=>X3Y Vd fun _=>X3Y X4y fun _=>X7O XaJ)
def XrF (e:Edg):Prop:=okN e.id∧okN e.src∧okN e.dst∧e.typ.length≤20∧okL okP e.props
theorem Xb7 {b:List UInt8}{s:Rd} (h:s.e≠0):Yu b s=s:=if_pos h
theorem Xcd {s:Rd} (h:s.e≠0):UJ s=s:=if_neg fun q=>h q.1
def Xa2 (s:Rd):(Int×Int×Int×Int×Int)×Rd:=let a:=XL s;let c:=XL a.2;let r:=XL c.2;let n:=XL r.2;let m:=XL n.2;((a.1,c.1,r.1,n.1,m.1),m.2)
theorem XfY (b:List UInt8) (s:Rd):XcA b s=Ys b Xa2 s:=rfl
theorem X3d {α:Type}{w:α→List UInt8}{k:Nat}:∀{l:List α},(∀x∈l,(w x).length≤k)→(l.map w).flatten.length≤k*l.length
 |[],_=>by simp
 |x::r,h=>by
  have h1:=h x (by simp)
  have h2:=X3d (l:=r) fun y hy=>h y (by simp[hy])
  simp only[List.map_cons,List.flatten_cons,List.length_append,List.length_cons,Nat.mul_add,Nat.mul_one]
  omega
theorem X3A {s:List UInt8} (h:XZ s=true):s.length≤20:=by
 unfold XZ at h
 simp only[Bool.and_eq_true,decide_eq_true_eq] at h
 exact h.1.1.2
theorem X7i {v:Val} (h:U5 v=true):Xe 8 v=true∧(v.kind=1∨v.kind=2∨v.kind=4):=by
 unfold U5 X5U at h
 simp only[Bool.and_eq_true,decide_eq_true_eq] at h
 exact⟨h.2,h.1⟩
theorem X80 {v:Val} (h:U5 v=true):(YN v).length≤111:=by
 obtain⟨h1,h2⟩:=X7i h
 unfold YN
 rw[if_pos h1]
 obtain⟨k,n,d,s,l⟩:=v
 simp only[Val.kind] at h2
 exact Xep h1 (by omega) (by omega)
theorem X8P {ls:List (List UInt8)}{ps:List Prp} (h:V2 ls ps=0):(ls.length≤8∧∀s∈ls,s.length≤20)∧ps.length≤16∧∀p∈ps,p.key.length≤20∧U5 p.v=true:=by
 unfold V2 at h
 by_cases c1:8<ls.length∨16<ps.length
 ·rw[if_pos c1] at h;simp at h
 rw[if_neg c1] at h
 by_cases c2:ls.all XZ=false∨(ps.map Prp.key).all XZ=false
 ·rw[if_pos c2] at h;simp at h
 rw[if_neg c2] at h
 by_cases c3:UF ls=false∨UF (ps.map Prp.key)=false
 ·rw[if_pos c3] at h;simp at h
 rw[if_neg c3] at h
 by_cases c4:(ps.map Prp.v).all U5=false
 ·rw[if_pos c4] at h;simp at h
 have e1:ls.all XZ=true:=by cases q:ls.all XZ<;>simp_all
 have e2:(ps.map Prp.key).all XZ=true:=by cases q:(ps.map Prp.key).all XZ<;>simp_all
 have e4:(ps.map Prp.v).all U5=true:=by cases q:(ps.map Prp.v).all U5<;>simp_all
 rw[List.all_eq_true] at e1 e2 e4
 refine⟨⟨by omega,fun s hs=>X3A (e1 s hs)⟩,by omega,fun p hp=>⟨X3A (e2 p.key (List.mem_map.2 ⟨p,hp,rfl⟩)),e4 p.v (List.mem_map.2 ⟨p,hp,rfl⟩)⟩⟩
theorem X50 {ps:List Prp} (hl:ps.length≤16) (h:∀p∈ps,p.key.length≤20∧U5 p.v=true):okL okP ps∧(Vw Vb ps).length≤2266:=by
 refine⟨⟨fun p hp=>⟨(h p hp).1,(X7i (h p hp).2).1⟩,by omega⟩,?_⟩
 unfold Vw
 have h1:=X1H (n:=(ps.length:Nat)) (by omega)
 have h2:=X3d (w:=Vb) (k:=141) (l:=ps) fun p hp=>by
  unfold Vb
  have a:=VV (h p hp).1
  have b:=X80 (h p hp).2
  simp only[List.length_append]
  omega
 simp only[List.length_append]
 omega
theorem XeJ {ls:List (List UInt8)} (hl:ls.length≤8) (h:∀s∈ls,s.length≤20):okL (fun s:List UInt8=>s.length≤20) ls∧(Vw XX ls).length≤250:=by
 refine⟨⟨h,by omega⟩,?_⟩
 unfold Vw
 have h1:=X1H (n:=(ls.length:Nat)) (by omega)
 have h2:=X3d (w:=XX) (k:=30) (l:=ls) fun s hs=>by have:=VV (h s hs);omega
 simp only[List.length_append]
 omega
theorem Xrx {nn:Int}{p:Option Nod}{n:Nod} (h:VL nn p n=0):1≤n.id∧n.id<nn∧V2 n.labels n.props=0:=by
 unfold VL at h
 by_cases c1:∃q,p=some q∧n.id≤q.id
 ·rw[if_pos c1] at h;simp at h
 rw[if_neg c1] at h
 by_cases c2:n.id<1∨nn≤n.id
 ·rw[if_pos c2] at h;simp at h
 rw[if_neg c2] at h
 exact⟨by omega,by omega,h⟩
theorem X9z {nn:Int}:∀(l:List Nod) (p:Option Nod),V9 nn p l=0→∀n∈l,1≤n.id∧n.id<nn∧V2 n.labels n.props=0
 |[],_,_,n,h=>by simp at h
 |x::r,p,h,n,hn=>by
  rw[V9] at h
  have h0:VL nn p x=0:=by
   by_cases h0:VL nn p x=0
   ·exact h0
   ·rw[if_pos h0] at h;exact absurd h h0
  rw[h0,if_neg (by simp)] at h
  rcases List.mem_cons.1 hn with rfl|hn
  ·exact Xrx h0
  ·exact X9z r _ h n hn
theorem XnT {ns:List Nod}{ne:Int}{p:Option Edg}{e:Edg} (h:X0m ns ne p e=0):1≤e.id∧e.id<ne∧U4 ns e.src=true∧U4 ns e.dst=true∧XZ e.typ=true∧V2 [] e.props=0:=by
 unfold X0m at h
 by_cases c1:∃q,p=some q∧e.id≤q.id
 ·rw[if_pos c1] at h;simp at h
 rw[if_neg c1] at h
 by_cases c2:e.id<1∨ne≤e.id
 ·rw[if_pos c2] at h;simp at h
 rw[if_neg c2] at h
 by_cases c3:U4 ns e.src=false∨U4 ns e.dst=false
 ·rw[if_pos c3] at h;simp at h
 rw[if_neg c3] at h
 by_cases c4:XZ e.typ=false
 ·rw[if_pos c4] at h;simp at h
 rw[if_neg c4] at h
 simp only[not_or,Bool.not_eq_false] at c3 c4
 exact⟨by omega,by omega,c3.1,c3.2,c4,h⟩
theorem XbV {ns:List Nod}{ne:Int}:∀(l:List Edg) (p:Option Edg),X0c ns ne p l=0→∀e∈l,1≤e.id∧e.id<ne∧U4 ns e.src=true∧U4 ns e.dst=true∧XZ e.typ=true∧V2 [] e.props=0
 |[],_,_,n,h=>by simp at h
 |x::r,p,h,n,hn=>by
  rw[X0c] at h
  have h0:X0m ns ne p x=0:=by
   by_cases h0:X0m ns ne p x=0
   ·exact h0
   ·rw[if_pos h0] at h;exact absurd h h0
  rw[h0,if_neg (by simp)] at h
  rcases List.mem_cons.1 hn with rfl|hn
  ·exact XnT h0
  ·exact XbV r _ h n hn
structure GraOk (g:Gra):Prop where
 nl:g.nodes.length≤2000
 el:g.edges.length≤4000
 nn:1≤g.nn∧g.nn≤1000001
 ne:1≤g.ne∧g.ne≤1000001
 nodes:∀n∈g.nodes,XnQ n∧(Ve n).length≤2526
 edges:∀e∈g.edges,XrF e∧(X0o e).length≤2326
theorem Xf7 {g:Gra} (h:YH g=0):GraOk g:=by
 unfold YH at h
 by_cases c1:2000<g.nodes.length∨4000<g.edges.length
 ·rw[if_pos c1] at h;simp at h
 rw[if_neg c1] at h
 by_cases c2:g.nn<1∨1000001<g.nn∨g.ne<1∨1000001<g.ne
 ·rw[if_pos c2] at h;simp at h
 rw[if_neg c2] at h
 by_cases c3:V9 g.nn none g.nodes≠0
 ·rw[if_pos c3] at h;exact absurd h c3
 rw[if_neg c3] at h
 have c3:V9 g.nn none g.nodes=0:=by simpa using c3
 have hn:=X9z _ _ c3
 have he:=XbV _ _ h
 have hid:∀i,U4 g.nodes i=true→1≤i∧i<g.nn:=by
  intro i hi
  unfold U4 at hi
  rw[List.any_eq_true] at hi
  obtain⟨x,hx,e⟩:=hi
  have:=hn x hx
  simp only[decide_eq_true_eq] at e
  omega
 refine⟨by omega,by omega,by omega,by omega,fun n q=> ?_,fun e q=> ?_⟩
 ·obtain⟨h1,h2,h3⟩:=hn n q
  obtain⟨⟨p1,p2⟩,p3,p4⟩:=X8P h3
  obtain⟨a1,a2⟩:=X50 p3 p4
  obtain⟨b1,b2⟩:=XeJ p1 p2
  refine⟨⟨⟨by omega,by omega⟩,b1,a1⟩,?_⟩
  have:=X1H (n:=n.id) (by omega)
  unfold Ve
  simp only[List.length_append]
  omega
 ·obtain⟨h1,h2,h3,h4,h5,h6⟩:=he e q
  obtain⟨_,p3,p4⟩:=X8P h6
  obtain⟨a1,a2⟩:=X50 p3 p4
  have s1:=hid _ h3
  have s2:=hid _ h4
  refine⟨⟨⟨by omega,by omega⟩,⟨by omega,by omega⟩,⟨by omega,by omega⟩,X3A h5,a1⟩,?_⟩
  have:=X1H (n:=e.id) (by omega)
  have:=X1H (n:=e.src) (by omega)
  have:=X1H (n:=e.dst) (by omega)
  have:=VV (X3A h5)
  unfold X0o
  simp only[List.length_append]
  omega
theorem XfR:∀(l:List Rul) (p:Option Rul),X2s p l=true→∀r∈l,X05 r=0
 |[],_,_,r,h=>by simp at h
 |x::l,p,h,r,hr=>by
  rw[X2s] at h
  simp only[Bool.and_eq_true,decide_eq_true_eq] at h
  rcases List.mem_cons.1 hr with rfl|hr
  ·exact h.1.1
  ·exact XfR l _ h.2 r hr
theorem XrG {l:List Rul} (h:X1k l=true):l.length≤40∧∀r∈l,X05 r=0∧(UG r).length≤200:=by
 unfold X1k at h
 simp only[Bool.and_eq_true,decide_eq_true_eq] at h
 refine⟨h.2,fun r hr=> ?_⟩
 have:=XfR _ _ h.1 r hr
 refine⟨this,?_⟩
 unfold UG
 rw[if_pos this]
 exact Xof this
theorem Xrn {k n d:Int}{s:List UInt8}{l:List Val} (h:U5 (.mk k n d s l)=true):Xe 8 (.mk k n d s l)=true∧(k=1∨k=2∨k=4)∧d=0∧l=[]∧(k≠4→s=[])∧(k=4→n=0)∧s.length≤100∧(k=2→ -1000000000000000≤n∧n≤1000000000000000):=by
 obtain⟨h1,h2⟩:=X7i h
 have h2:k=1∨k=2∨k=4:=h2
 refine⟨h1,h2,?_⟩
 rw[Xe] at h1
 rcases h2 with rfl|rfl|rfl
 ·simp at h1
  exact⟨h1.1.1.1,h1.1.2,fun _=>h1.1.1.2,by simp,by rw[h1.1.1.2];simp,by simp⟩
 ·simp at h1
  exact⟨h1.1.1.1,h1.1.2,fun _=>h1.1.1.2,by simp,by rw[h1.1.1.2];simp,fun _=>h1.2⟩
 ·simp at h1
  exact⟨h1.1.1,h1.1.2,by simp,fun _=>h1.2.1.1,h1.2.1.2,by simp⟩
theorem XpC {v:Val} (h:U5 v=true):Yp v:=by
 obtain⟨k,n,d,s,l⟩:=v
 obtain⟨_,_,_,rfl,_,_,p7,_⟩:=Xrn h
 rw[Yp]
 exact⟨by omega,by simp,by simp[X0n]⟩
theorem XfD {ls:List (List UInt8)}{ps:List Prp} (h:PV ls ps):ls.length≤9223372036854775807∧(∀s∈ls,s.length≤9223372036854775807)∧ps.length≤9223372036854775807∧∀p∈ps,X34 p:=by
 have h1:=h.ll
 have h2:=h.pl
 refine⟨by omega,fun s hs=>by have:=X3A (h.ln s hs);omega,by omega,fun p hp=>⟨by have:=X3A (h.pn p hp);omega,XpC (h.pv p hp)⟩⟩
theorem X8t {g:Gra} (h:GV g):GraHold g:=by
 have h1:=h.nl
 have h2:=h.el
 refine⟨by omega,by omega,fun n hn=>XfD (h.nodes n hn).2.2,fun e he=> ?_⟩
 obtain⟨_,_,_,_,q,r⟩:=h.edges e he
 obtain⟨_,_,r3,r4⟩:=XfD r
 exact⟨by have:=X3A q;omega,r3,r4⟩
theorem Xb5:GraHold YL:=⟨by simp,by simp,by simp,by simp⟩
theorem Xrr {g:Gra}{l:List Chg} (hz:(Yd g l).2.2≠0→(Yd g l).1=YL):GraHold (Yd g l).1:=by
 by_cases q:(Yd g l).2.2=0
 ·exact X8t (X8O q)
 ·rw[hz q];exact Xb5
theorem Xj2:∀(l:List Chg) (g:Gra) (k:Nat),(Ur g k l).2.2≠0→(Ur g k l).1=YL
 |[],g,k,h=>by simp[Ur] at h
 |c::r,g,k,h=>by
  rw[Ur] at h ⊢
  by_cases q:(YD g c).2≠0
  ·rw[if_pos q]
  ·rw[if_neg q] at h ⊢
   exact Xj2 r _ _ h
theorem Xo2 {g:Gra}{l:List Chg} (h:(Yd g l).2.2≠0):(Yd g l).1=YL:=by
 unfold Yd at h ⊢
 by_cases q:YH g≠0
 ·rw[if_pos q]
 ·rw[if_neg q] at h ⊢
  exact Xj2 l g 0 h
theorem XcM (g:Gra) (l:List Chg):GraHold (Yd g l).1:=Xrr Xo2
def Yn:List UInt8:=[71,68,66,73]
open Go Go.Proofs
set_option maxRecDepth 100000
theorem X04 {n:Int} (h:n≤9223372036854775807):(Xm n).length≤10:=by
 by_cases h0:0≤n
 ·exact X1H ⟨h0,h⟩
 ·unfold Xm
  rw[if_pos (by omega)]
  simp
theorem Xga {l:List Int}{i:Nat}{x:Int} (h:l[i]? =some x):(Ul (l.take (i+1))).map Xc=(Ul (l.take i)).map Xc++(Xm x).map Xc:=by
 rw[X3h h];simp[Ul]
theorem X5X {l:List Int} (h:∀x∈l,x≤9223372036854775807):(Ul l).length≤10*l.length:=X3d fun x hx=>X04 (h x hx)
theorem X5C (l:List Int) (hl:l.length≤1000) (hx:∀x∈l,x≤9223372036854775807):Con Tryz.prog 39 [] [.d (.sl 1 (l.map cI))] [(130,.row 1 ((Ul l).map Xc))] (.own 130 ((Ul l).map Xc).length):=by
 refine Xg (xs:=[.own 130 ((Ul l).map Xc).length]) Tryz.func39 rfl Tryz.ntmps39 rfl rfl rfl (fun E=> ?_)
 have hlm:(l.map cI).length=l.length:=by simp
 refine Yc ?_;refine Xq (V3 3 130 1 rfl rfl rfl) ?_
 refine XK (fun i:Nat=>i≤l.length) (fun i=>⟨18,[(6,.d (.sl 1 (l.map cI))),(7,ai (l.map cI).length),(3,.own 130 ((Ul (l.take i)).map Xc).length),(8,ai i)],[(130,.row 1 ((Ul (l.take i)).map Xc))]⟩) (fun i=>l.length-i) 0 (Nat.zero_le _)
  (Xd rfl JM ⟨rfl,trivial⟩) ?_
 intro i hi
 by_cases hil:i<l.length
 case neg=>
  obtain rfl:i=l.length:=by omega
  have hn:¬((l.length:Nat):Int)<(l.map cI).length:=by omega
  rw[List.take_length]
  exact Qud
 have hn:(i:Int)<(l.map cI).length:=by omega
 obtain⟨x,hxx⟩:=XI (l:=l) hil
 have hxc:(l.map cI)[i]? =some (cI x):=Y5 hxx
 have hc:=X3H x (hx x (List.mem_of_getElem? hxx))
 have hlen:=X5X (l:=l.take i) fun y hy=>hx y (List.mem_of_mem_take hy)
 have hlen2:=X04 (hx x (List.mem_of_getElem? hxx))
 have hlt:(l.take i).length≤1000:=by simp;omega
 have hroom:((Ul (l.take i)).map Xc).length≤10000:=by rw[List.length_map];omega
 have hroom2:((Xm x).map Xc).length≤10:=by rw[List.length_map];omega
 have hsn:=Xga hxx
 generalize Ul (l.take i)=u at*
 generalize Xm x=v at*
 refine Qk ?_;refine Xt ?_;refine QKd ?_
 refine⟨i+1,hil,by omega,?_⟩
 rw[hsn]
 exact QVf
theorem X8x {α:Type}{w:α→List UInt8}{l:List α}{i:Nat}{x:α}{u:List UInt8} (h:l[i]? =some x):(u++((l.take (i+1)).map w).flatten).map Xc=(u++((l.take i).map w).flatten).map Xc++(w x).map Xc:=by
 rw[X3h h];simp
theorem Xqk (p:Prp):(Vb p).map Xc=(XX p.key).map Xc++(YN p.v).map Xc:=by simp[Vb]
theorem XpH {v:Val} (h:U5 v=true):(Y3 v).length≤111:=by
 have:=X80 h
 unfold YN at this
 rwa [if_pos (X7i h).1] at this
theorem Xph (n:Int):Ul [n]=Xm n:=by simp[Ul]
theorem Xd7 (ps:List Prp) (hl:ps.length≤16) (hok:∀p∈ps,p.key.length≤20∧U5 p.v=true) (hst:∀p∈ps,Yp p.v):Con Tryz.prog 59 [] [.d (.sl 6 (ps.map Xh))] [] (.d (Xk (Vw Vb ps))):=by
 refine Xg (xs:=[.d (Xk (Vw Vb ps))]) Tryz.func59 rfl Tryz.ntmps59 rfl rfl rfl (fun E=> ?_)
 have hlm:(ps.map Xh).length=ps.length:=by simp
 have hu:=X5C [((ps.map Xh).length:Nat)] (by simp) (by simp;omega)
 rw[Xph] at hu
 simp only[List.map_cons,List.map_nil] at hu
 have hu10:=X04 (n:=(ps.length:Nat)) (by omega)
 refine W9_ ?_;refine Qre ?_;refine Xj ?_
 refine XK (fun i:Nat=>i≤ps.length) (fun i=>⟨27,[(10,.d (.sl 6 (ps.map Xh))),(11,ai (ps.map Xh).length),(3,.own 130 ((Xm (ps.length:Nat)++((ps.take i).map Vb).flatten).map Xc).length),(12,ai i)],[(130,.row 1 ((Xm (ps.length:Nat)++((ps.take i).map Vb).flatten).map Xc))]⟩) (fun i=>ps.length-i) 0 (Nat.zero_le _)
  (Xd rfl ⟨JL,JL,AVal.le_of_eq (by refine Eq.trans (b:=AVal.own 130 _) rfl ?_;simp),JL,trivial⟩ ⟨by refine Eq.trans (b:=AObj.row 1 _) rfl ?_;simp,trivial⟩) ?_
 intro i hi
 by_cases hil:i<ps.length
 case neg=>
  obtain rfl:i=ps.length:=by omega
  have hn:¬((ps.length:Nat):Int)<(ps.map Xh).length:=by omega
  rw[List.take_length]
  refine QGc ?_;refine Qof ?_;refine Xq (Yx 2 130 rfl rfl rfl) ?_;exact Qp
 have hn:(i:Int)<(ps.map Xh).length:=by omega
 obtain⟨x,hxx⟩:=XI (l:=ps) hil
 have hxc:(ps.map Xh)[i]? =some (Xh x):=Y5 hxx
 obtain⟨hk,hv⟩:=hok x (List.mem_of_getElem? hxx)
 have hpv:=XpH hv
 have hpl:=X80 hv
 have hc1:=X2M x.key (by omega)
 have hc2:=Xbl x.v (by omega)
 skip
 have hsl:=VV hk
 have hfl:=X3d (w:=Vb) (k:=141) (l:=ps.take i) fun p hp=>by
  have hq:=hok p (List.mem_of_mem_take hp)
  have h1:=VV hq.1
  have h2:=X80 hq.2
  unfold Vb
  simp only[List.length_append]
  omega
 have hlt:(ps.take i).length≤16:=by simp;omega
 have hu1:(Xm (ps.length:Nat)++((ps.take i).map Vb).flatten).length≤10000:=by rw[List.length_append];omega
 have hroom:((Xm (ps.length:Nat)++((ps.take i).map Vb).flatten).map Xc).length≤10000:=by rw[List.length_map];exact hu1
 have hsn:=X8x (w:=Vb) (u:=Xm (ps.length:Nat)) hxx
 rw[Xqk] at hsn
 have hr1:((XX x.key).map Xc).length≤1000:=by rw[List.length_map];omega
 have hr2:((YN x.v).map Xc).length≤1000:=by rw[List.length_map];omega
 generalize Xm (ps.length:Nat)++((ps.take i).map Vb).flatten=u at*
 generalize XX x.key=a at*
 generalize YN x.v=b at*
 obtain⟨key,⟨vk,vn,vd,vs,vl⟩⟩:=x
 simp only[Xh,U3,Xv] at hxc hc1 hc2
 clear hxx
 refine Qk ?_;refine XC ?_;refine Z3 (hcon:=hc1) ?_;refine W3_ ?_;refine Z3 (hcon:=hc2) ?_;refine W7_ ?_
 refine⟨i+1,hil,by omega,?_⟩
 rw[hsn,←List.append_assoc]
 exact QVf
abbrev cBy (b:List UInt8):List D:=[Xk b]
theorem XbB {b:List UInt8} (h:b.length≤65536):(YM b).length≤65600:=by
 have:=X04 (n:=(b.length:Nat)) (by omega)
 have:=X2W b
 unfold YM
 simp only[List.length_append]
 omega
theorem XoT {L:List (List UInt8)}{i:Nat}{x u:List UInt8} (h:L[i]? =some x):(u++Yz (L.take (i+1))).map Xc=(u++Yz (L.take i)).map Xc++(YM x).map Xc:=by
 rw[X3h h];simp[Yz]
theorem XeE {L:List (List UInt8)} (h:∀b∈L,b.length≤65536):(Yz L).length≤65600*L.length:=X3d fun b hb=>XbB (h b hb)
theorem Xj9 (mg:List UInt8) (hmg:mg.length=4) (L:List (List UInt8)) (hl:L.length≤10000) (hx:∀b∈L,b.length≤65536):Con Tryz.prog 41 [] [XH mg,.d (.sl 1 (L.map cBy))] [] (.d (Xk (mg++Yz L))):=by
 refine Xg (xs:=[.d (Xk (mg++Yz L))]) Tryz.func41 rfl Tryz.ntmps41 rfl rfl rfl (fun E=> ?_)
 have hlm:(L.map cBy).length=L.length:=by simp
 refine W7_ ?_;refine XhQ (γ:=130) (hg:=JSa) (hx:=JSb) (hb:=JSs) (ht:=JSb) (hdead:=JSb) (hf:=JSb) (hd:=JSb) ?_;refine Xj ?_
 refine XK (fun i:Nat=>i≤L.length) (fun i=>⟨22,[(10,.d (.sl 1 (L.map cBy))),(11,ai (L.map cBy).length),(5,.own 130 ((mg++Yz (L.take i)).map Xc).length),(12,ai i)],[(130,.wrow 1 ((mg++Yz (L.take i)).map Xc))]⟩) (fun i=>L.length-i) 0 (Nat.zero_le _)
  (by rw[show mg++Yz (L.take 0)=mg by simp[Yz]];exact Xd rfl JM ⟨rfl,trivial⟩) ?_
 intro i hi
 by_cases hil:i<L.length
 case neg=>
  obtain rfl:i=L.length:=by omega
  have hn:¬((L.length:Nat):Int)<(L.map cBy).length:=by omega
  rw[List.take_length]
  refine QGc ?_;refine Xq (XdP 130 rfl) ?_;refine Xq (Yx 4 130 rfl rfl rfl) ?_;exact Qp
 have hn:(i:Int)<(L.map cBy).length:=by omega
 obtain⟨x,hxx⟩:=XI (l:=L) hil
 have hxc:(L.map cBy)[i]? =some (cBy x):=Y5 hxx
 have hb:=hx x (List.mem_of_getElem? hxx)
 have hc:=X9W x hb
 have hfl:=XbB hb
 have hlen:=XeE (L:=L.take i) fun y hy=>hx y (List.mem_of_mem_take hy)
 have hlt:(L.take i).length≤10000:=by simp;omega
 have hroom:((mg++Yz (L.take i)).map Xc).length≤1000000000:=by rw[List.length_map,List.length_append];omega
 have hroom2:((YM x).map Xc).length≤65600:=by rw[List.length_map];omega
 have hsn:=XoT (u:=mg) hxx
 generalize mg++Yz (L.take i)=u at*
 generalize YM x=v at*
 refine Qk ?_;refine Xt ?_;refine QJd ?_;refine XhY (hg:=JSa) (hx:=JSb) (hL:=JSb) (hy:=JSb) (hn:=JSe) (hB:=JSc) (hT:=JSb) (hT2:=JSb) (hb0:=JSb) (hroom:=JSd) (hd:=JSb) ?_;refine W6_ ?_
 refine⟨i+1,hil,by omega,?_⟩
 rw[hsn]
 exact QVf
structure NodW (n:Nod):Prop where
 id:1≤n.id∧n.id≤1000001
 labels:n.labels.length≤8∧∀s∈n.labels,s.length≤20
 props:n.props.length≤16∧∀p∈n.props,p.key.length≤20∧U5 p.v=true
 st:∀p∈n.props,Yp p.v
structure EdgW (e:Edg):Prop where
 id:1≤e.id∧e.id≤1000001
 src:1≤e.src∧e.src≤1000001
 dst:1≤e.dst∧e.dst≤1000001
 typ:e.typ.length≤20
 props:e.props.length≤16∧∀p∈e.props,p.key.length≤20∧U5 p.v=true
 st:∀p∈e.props,Yp p.v
theorem XoE {g:Gra} (h:YH g=0) (hh:GraHold g):(∀n∈g.nodes,NodW n)∧∀e∈g.edges,EdgW e:=by
 have G:=Xf7 h
 have hE:V9 g.nn none g.nodes=0∧X0c g.nodes g.ne none g.edges=0:=by
  unfold YH at h
  rw[if_neg (by have:=G.nl;have:=G.el;omega),if_neg (by have:=G.nn;have:=G.ne;omega)] at h
  by_cases c:V9 g.nn none g.nodes=0
  ·rw[if_neg (by simp[c])] at h;exact⟨c,h⟩
  ·rw[if_pos c] at h;exact absurd h c
 have hn:=X9z _ _ hE.1
 have he:=XbV _ _ hE.2
 have hid:∀i,U4 g.nodes i=true→1≤i∧i<g.nn:=by
  intro i hi
  unfold U4 at hi
  rw[List.any_eq_true] at hi
  obtain⟨x,hx,e⟩:=hi
  have:=hn x hx
  simp only[decide_eq_true_eq] at e
  omega
 have hN:=G.nn
 have hM:=G.ne
 refine⟨fun n hx=> ?_,fun e hx=> ?_⟩
 ·obtain⟨h1,h2,h3⟩:=hn n hx
  obtain⟨p1,p3,p4⟩:=X8P h3
  exact⟨⟨h1,by omega⟩,p1,⟨p3,p4⟩,fun p hp=>((hh.nodes n hx).2.2.2 p hp).2⟩
 ·obtain⟨h1,h2,h3,h4,h5,h6⟩:=he e hx
  obtain⟨_,p3,p4⟩:=X8P h6
  have s1:=hid _ h3
  have s2:=hid _ h4
  exact⟨⟨h1,by omega⟩,⟨s1.1,by omega⟩,⟨s2.1,by omega⟩,X3A h5,⟨p3,p4⟩,fun p hp=>((hh.edges e hx).2.2 p hp).2⟩
theorem XoO {ls:List (List UInt8)} (h:∀s∈ls,s.length≤20) (i:Nat) (hl:ls.length≤8):((ls.take i).map XX).flatten.length≤240:=by
 have h1:=X3d (w:=XX) (k:=30) (l:=ls.take i) fun s hs=>VV (h s (List.mem_of_mem_take hs))
 have:(ls.take i).length≤8:=by simp;omega
 omega
theorem Xln (n:Nod):(Ve n).map Xc=((Xm n.id++Xm (n.labels.length:Nat))++(n.labels.map XX).flatten).map Xc++(Vw Vb n.props).map Xc:=by
 simp[Ve,Vw]
theorem Xpx (e:Edg):(X0o e).map Xc=(((Xm e.id++Xm e.src)++Xm e.dst).map Xc++(XX e.typ).map Xc)++(Vw Vb e.props).map Xc:=by
 simp[X0o]
theorem Xsa {n:Nod} (h:NodW n):(Ve n).length≤3000:=by
 have a:=(X50 h.props.1 h.props.2).2
 have b:=(XeJ h.labels.1 h.labels.2).2
 have c:=X04 (n:=n.id) (by have:=h.id;omega)
 unfold Ve
 simp only[List.length_append]
 omega
theorem Xjl {e:Edg} (h:EdgW e):(X0o e).length≤3000:=by
 have a:=(X50 h.props.1 h.props.2).2
 have b:=VV h.typ
 have c:=X04 (n:=e.id) (by have:=h.id;omega)
 have d:=X04 (n:=e.src) (by have:=h.src;omega)
 have f:=X04 (n:=e.dst) (by have:=h.dst;omega)
 unfold X0o
 simp only[List.length_append]
 omega
theorem XgJ {g:Gra}{rs:List Rul} (h:YH g≠0):X19 g rs=YH g∧X36 g rs=[]:=by
 have:X19 g rs=YH g:=if_pos h
 refine⟨this,?_⟩
 unfold X36
 rw[this,if_neg h]
theorem Xfw {g:Gra}{rs:List Rul} (h:YH g=0) (hs:X1k rs=false):X19 g rs=19∧X36 g rs=[]:=by
 have:X19 g rs=19:=by unfold X19;rw[if_neg (by simp[h]),if_pos hs]
 refine⟨this,?_⟩
 unfold X36
 rw[this,if_neg (by decide)]
theorem Xi1 {g:Gra}{rs:List Rul} (h:YH g=0) (hs:X1k rs=true):X19 g rs=0∧X36 g rs=U1++Yz (X5i g rs):=by
 have:X19 g rs=0:=by unfold X19;rw[if_neg (by simp[h]),if_neg (by simp[hs])]
 refine⟨this,?_⟩
 unfold X36
 rw[this,if_pos rfl]
 rfl
theorem XcC {α:Type}{f:α→List UInt8}{H:List (List UInt8)}{l:List α}{i:Nat}{x:α} (h:l[i]? =some x):(H++(l.take (i+1)).map f).map cBy=(H++(l.take i).map f).map cBy++[cBy (f x)]:=by
 rw[X3h h];simp
theorem Xqe (n:Nod):D.sl 1 (((Xm n.id++Xm (n.labels.length:Nat))++(n.labels.map XX).flatten).map Xc++(Vw Vb n.props).map Xc)=Xk (Ve n):=by
 show _=D.sl 1 _
 rw[Xln]
theorem XqI (e:Edg):D.sl 1 ((((Xm e.id++Xm e.src)++Xm e.dst).map Xc++(XX e.typ).map Xc)++(Vw Vb e.props).map Xc)=Xk (X0o e):=by
 show _=D.sl 1 _
 rw[Xpx]
theorem Xlf (a b:Int):Ul [a,b]=Xm a++Xm b:=by simp[Ul]
theorem Xnn (a b c:Int):Ul [a,b,c]=(Xm a++Xm b)++Xm c:=by simp[Ul]
theorem Xf4 (g:Gra) (rs:List Rul) (hg:GraHold g) (hr:rs.length≤9223372036854775807):Con Tryz.prog 18 [] [XG g,.d (.sl 6 (rs.map Ub))] [] (.tup [.d (Xk (X36 g rs)),ai (X19 g rs)]):=by
 obtain⟨ns,es,nn,ne⟩:=g
 refine Xg (xs:=[.d (Xk (X36 ⟨ns,es,nn,ne⟩ rs)),ai (X19 ⟨ns,es,nn,ne⟩ rs)]) Tryz.func18 rfl Tryz.ntmps18 rfl rfl rfl (fun E=> ?_)
 have hck:=X7q ⟨ns,es,nn,ne⟩ hg
 have hvl:=XiS rs hr
 unfold XG at hck ⊢
 simp only at hck ⊢
 by_cases h0:YH ⟨ns,es,nn,ne⟩=0
 case neg=>
  rw[(XgJ h0).1,(XgJ h0).2]
  generalize YH ⟨ns,es,nn,ne⟩=e at*
  refine Xj ?_;refine Z3 (hcon:=hck) ?_;refine QWf ?_;exact QXf
 rw[h0] at hck
 cases hsv:X1k rs with
 |false=>
  rw[(Xfw h0 hsv).1,(Xfw h0 hsv).2]
  rw[hsv] at hvl
  refine Xj ?_;refine Z3 (hcon:=hck) ?_;refine W7_ ?_;refine Qc ?_;refine Z3 (hcon:=hvl) ?_;refine W2_ ?_;refine QCa ?_;exact QXf
 |true=>
  rw[(Xi1 h0 hsv).1,(Xi1 h0 hsv).2]
  rw[hsv] at hvl
  have G:=Xf7 h0
  have Sk:=XrG hsv
  obtain⟨hW1,hW2⟩:=XoE h0 hg
  have n1:ns.length≤2000:=G.nl
  have n2:es.length≤4000:=G.el
  have n3:rs.length≤40:=Sk.1
  have nn1:1≤nn∧nn≤1000001:=G.nn
  have ne1:1≤ne∧ne≤1000001:=G.ne
  simp only at hW1 hW2
  have hlr:(rs.map Ub).length=rs.length:=by simp
  have hln:(ns.map Xp).length=ns.length:=by simp
  have hle:(es.map Xs).length=es.length:=by simp
  obtain⟨H,hH,hHl⟩:∃H,Ul [nn,ne,((rs.map Ub).length:Nat),((ns.map Xp).length:Nat),((es.map Xs).length:Nat)]=H∧H.length≤50:=⟨_,rfl,X5X fun x hx=>by
   simp only[List.mem_cons,List.mem_nil_iff,or_false] at hx
   rcases hx with rfl|rfl|rfl|rfl|rfl<;>omega⟩
  have hI:X5i ⟨ns,es,nn,ne⟩ rs=[H]++rs.map UG++ns.map Ve++es.map X0o:=by rw[←hH,hlr,hln,hle];simp[X5i]
  rw[hI]
  have hnum:=(X5C [nn,ne,((rs.map Ub).length:Nat),((ns.map Xp).length:Nat),((es.map Xs).length:Nat)] (by simp) (fun x hx=>by
   simp only[List.mem_cons,List.mem_nil_iff,or_false] at hx
   rcases hx with rfl|rfl|rfl|rfl|rfl<;>omega)).data rfl
  rw[hH] at hnum
  simp only[List.map_cons,List.map_nil] at hnum
  refine Xj ?_;refine QYf ?_;refine JF ?_;refine Yc ?_;refine Z3 (hcon:=hnum) ?_;refine Z9 (γ:=131) (d:=40) ?_;refine Xj ?_
  refine XK (fun i:Nat=>i≤rs.length) (fun i=>⟨118,[(2,.ptr 100 0),(41,.d (.sl 6 (rs.map Ub))),(42,ai (rs.map Ub).length),(7,.own 131 (([H]++(rs.take i).map UG).map cBy).length),(43,ai i)],[(100,.box [.d (.sl 3 (ns.map Xp)),.d (.sl 5 (es.map Xs)),ai nn,ai ne]),(131,.row 1 (([H]++(rs.take i).map UG).map cBy))]⟩) (fun i=>rs.length-i) 0 (Nat.zero_le _)
   (by rw[List.take_zero,List.map_nil,List.append_nil];exact Xd rfl JM ⟨rfl,rfl,trivial⟩) ?_
  intro i hi
  by_cases hil:i<rs.length
  case pos=>
   have hn:(i:Int)<(rs.map Ub).length:=by omega
   obtain⟨x,hxx⟩:=XI (l:=rs) hil
   have hxc:(rs.map Ub)[i]? =some (Ub x):=Y5 hxx
   have hxm:=List.mem_of_getElem? hxx
   have hst:=XcC (f:=UG) (H:=[H]) hxx
   have hub:(([H]++(rs.take i).map UG).map cBy).length≤10000:=by simp only[List.length_append,List.length_map,List.length_take,List.length_cons,List.length_nil];omega
   have hpc:=Xlr x
   generalize ([H]++(rs.take i).map UG).map cBy=u at*
   generalize hu':([H]++(rs.take (i+1)).map UG).map cBy=u' at*
   generalize UG x=v at*
   obtain⟨k,n,name,key,src,dst⟩:=x
   simp only[UN,Ub] at hpc hxc
   clear hxx hxm
   refine Ql ?_;refine Z3 (hcon:=hpc) ?_;refine W8_ ?_
   refine⟨i+1,hil,by omega,?_⟩
   rw[hu',hst]
   exact QZf
  obtain rfl:i=rs.length:=by omega
  have hn:¬((rs.length:Nat):Int)<(rs.map Ub).length:=by omega
  rw[List.take_length]
  refine W5_ ?_;refine QUc ?_
  refine XK (fun i:Nat=>i≤ns.length) (fun i=>⟨118,[(2,.ptr 100 0),(54,.d (.sl 3 (ns.map Xp))),(55,ai (ns.map Xp).length),(7,.own 131 ((([H]++rs.map UG)++(ns.take i).map Ve).map cBy).length),(56,ai i)],[(100,.box [.d (.sl 3 (ns.map Xp)),.d (.sl 5 (es.map Xs)),ai nn,ai ne]),(131,.row 1 ((([H]++rs.map UG)++(ns.take i).map Ve).map cBy))]⟩) (fun i=>ns.length-i) 0 (Nat.zero_le _)
   (by rw[List.take_zero,List.map_nil,List.append_nil];exact Xd rfl JM ⟨rfl,rfl,trivial⟩) ?_
  intro i hi
  by_cases hil:i<ns.length
  case pos=>
   have hn:(i:Int)<(ns.map Xp).length:=by omega
   obtain⟨x,hxx⟩:=XI (l:=ns) hil
   have hxc:(ns.map Xp)[i]? =some (Xp x):=Y5 hxx
   have hxm:=List.mem_of_getElem? hxx
   have hst:=XcC (f:=Ve) (H:=([H]++rs.map UG)) hxx
   have hub:((([H]++rs.map UG)++(ns.take i).map Ve).map cBy).length≤10000:=by simp only[List.length_append,List.length_map,List.length_take,List.length_cons,List.length_nil];omega
   have hw:=hW1 x hxm
   have hd:=Xqe x
   have hpr:=Xd7 x.props hw.props.1 hw.props.2 hw.st
   have hplen:=(X50 hw.props.1 hw.props.2).2
   have hrp:((Vw Vb x.props).map Xc).length≤3000:=by rw[List.length_map];omega
   obtain⟨⟨i1,i2⟩,⟨l1,l2⟩,⟨p1,p2⟩,st⟩:=hw
   generalize (([H]++rs.map UG)++(ns.take i).map Ve).map cBy=u at*
   generalize hu':(([H]++rs.map UG)++(ns.take (i+1)).map Ve).map cBy=u' at*
   generalize hv:Ve x=v at*
   obtain⟨id,ls,ps⟩:=x
   simp only[Xp] at hd hxc hpr hrp hplen i1 i2 l1 l2
   have hlm:(ls.map Xl).length=ls.length:=by simp
   clear hxx hxm p1 p2 st hv
   have hu:=X5C [id,((ls.map Xl).length:Nat)] (by simp) (fun y hy=>by
    simp only[List.mem_cons,List.mem_nil_iff,or_false] at hy
    rcases hy with rfl|rfl<;>omega)
   rw[Xlf] at hu
   simp only[List.map_cons,List.map_nil] at hu
   have u1:=X04 (n:=id) (by omega)
   have u2:=X04 (n:=(ls.length:Nat)) (by omega)
   generalize Vw Vb ps=B at*
   refine Qk ?_;refine Us ?_;refine Qre ?_;refine Xi ?_
   refine XK (fun k:Nat=>k≤ls.length) (fun k=>⟨118,[(2,.ptr 100 0),(54,.d (.sl 3 (ns.map Xp))),(55,ai (ns.map Xp).length),(7,.own 131 u.length),(56,ai i),(11,.ptr 101 0),(68,.d (.sl 1 (ls.map Xl))),(69,ai (ls.map Xl).length),(12,.own 130 (((Xm id++Xm (ls.length:Nat))++((ls.take k).map XX).flatten).map Xc).length),(70,ai k)],[(100,.box [.d (.sl 3 (ns.map Xp)),.d (.sl 5 (es.map Xs)),ai nn,ai ne]),(101,.box [ai id,.d (.sl 1 (ls.map Xl)),.d (.sl 6 (ps.map Xh))]),(130,.row 1 (((Xm id++Xm (ls.length:Nat))++((ls.take k).map XX).flatten).map Xc)),(131,.row 1 u)]⟩) (fun k=>ls.length-k) 0 (Nat.zero_le _)
    (Xd rfl ⟨JL,JL,JL,JL,JL,JL,JL,JL,AVal.le_of_eq (by refine Eq.trans (b:=AVal.own 130 _) rfl ?_;simp),JL,trivial⟩ ⟨rfl,rfl,by refine Eq.trans (b:=AObj.row 1 _) rfl ?_;simp,rfl,trivial⟩) ?_
   intro k hk
   have hfl:=XoO l2 k l1
   by_cases hkl:k<ls.length
   case neg=>
    obtain rfl:k=ls.length:=by omega
    have hkn:¬((ls.length:Nat):Int)<(ls.map Xl).length:=by omega
    rw[List.take_length] at*
    have hroom:(((Xm id++Xm (ls.length:Nat))++(ls.map XX).flatten).map Xc).length≤1000:=by rw[List.length_map,List.length_append,List.length_append];omega
    generalize ((Xm id++Xm (ls.length:Nat))++(ls.map XX).flatten).map Xc=A at*
    have hroomB:(B.map Xc).length≤3000:=hrp
    refine QGc ?_;refine Z3 (hcon:=hpr) ?_;refine Zb (γ:=130) ?_;refine W8_ ?_
    refine⟨i+1,hil,by omega,?_⟩
    rw[hu',hst,show cBy v=[D.sl 1 (A++B.map Xc)] from by rw[hd]]
    exact QZf
   have hkn:(k:Int)<(ls.map Xl).length:=by omega
   obtain⟨y,hyy⟩:=XI (l:=ls) hkl
   have hyc:(ls.map Xl)[k]? =some (Xl y):=Y5 hyy
   have hy20:=l2 y (List.mem_of_getElem? hyy)
   have hc:=X2M y (by omega)
   have hsl:=VV hy20
   have hroom:(((Xm id++Xm (ls.length:Nat))++((ls.take k).map XX).flatten).map Xc).length≤1000:=by rw[List.length_map,List.length_append,List.length_append];omega
   have hroom2:((XX y).map Xc).length≤30:=by rw[List.length_map];omega
   have hsn:=X8x (w:=XX) (u:=Xm id++Xm (ls.length:Nat)) hyy
   generalize ((Xm id++Xm (ls.length:Nat))++((ls.take k).map XX).flatten)=A at*
   generalize XX y=w at*
   refine Qk ?_;refine Xt ?_;refine QKd ?_
   refine⟨k+1,hkl,by omega,?_⟩
   rw[hsn]
   exact Xd rfl ⟨JL,JL,JL,JL,JL,JL,JL,JL,AVal.le_of_eq (by refine Eq.trans (b:=AVal.own 130 (_+_)) rfl ?_;simp only[List.length_append,List.length_map,List.length_cons,List.length_nil]),JL,trivial⟩ ⟨rfl,rfl,rfl,rfl,trivial⟩
  obtain rfl:i=ns.length:=by omega
  have hn:¬((ns.length:Nat):Int)<(ns.map Xp).length:=by omega
  rw[List.take_length]
  refine W5_ ?_;refine QUc ?_
  refine XK (fun i:Nat=>i≤es.length) (fun i=>⟨118,[(2,.ptr 100 0),(89,.d (.sl 5 (es.map Xs))),(90,ai (es.map Xs).length),(7,.own 131 ((([H]++rs.map UG++ns.map Ve)++(es.take i).map X0o).map cBy).length),(91,ai i)],[(100,.box [.d (.sl 3 (ns.map Xp)),.d (.sl 5 (es.map Xs)),ai nn,ai ne]),(131,.row 1 ((([H]++rs.map UG++ns.map Ve)++(es.take i).map X0o).map cBy))]⟩) (fun i=>es.length-i) 0 (Nat.zero_le _)
   (by rw[List.take_zero,List.map_nil,List.append_nil];exact Xd rfl JM ⟨rfl,rfl,trivial⟩) ?_
  intro i hi
  by_cases hil:i<es.length
  case pos=>
   have hn:(i:Int)<(es.map Xs).length:=by omega
   obtain⟨x,hxx⟩:=XI (l:=es) hil
   have hxc:(es.map Xs)[i]? =some (Xs x):=Y5 hxx
   have hxm:=List.mem_of_getElem? hxx
   have hst:=XcC (f:=X0o) (H:=([H]++rs.map UG++ns.map Ve)) hxx
   have hub:((([H]++rs.map UG++ns.map Ve)++(es.take i).map X0o).map cBy).length≤10000:=by simp only[List.length_append,List.length_map,List.length_take,List.length_cons,List.length_nil];omega
   have hw:=hW2 x hxm
   have hd:=XqI x
   have hpr:=Xd7 x.props hw.props.1 hw.props.2 hw.st
   have hplen:=(X50 hw.props.1 hw.props.2).2
   have hrp:((Vw Vb x.props).map Xc).length≤3000:=by rw[List.length_map];omega
   obtain⟨⟨i1,i2⟩,⟨s1,s2⟩,⟨d1,d2⟩,y1,⟨p1,p2⟩,st⟩:=hw
   generalize (([H]++rs.map UG++ns.map Ve)++(es.take i).map X0o).map cBy=u at*
   generalize hu':(([H]++rs.map UG++ns.map Ve)++(es.take (i+1)).map X0o).map cBy=u' at*
   generalize hv:X0o x=v at*
   obtain⟨id,src,dst,typ,ps⟩:=x
   simp only[Xs] at hd hxc hpr hrp hplen i1 i2 s1 s2 d1 d2 y1
   clear hxx hxm p1 p2 st hv
   have hu:=X5C [id,src,dst] (by simp) (fun y hy=>by
    simp only[List.mem_cons,List.mem_nil_iff,or_false] at hy
    rcases hy with rfl|rfl|rfl<;>omega)
   rw[Xnn] at hu
   simp only[List.map_cons,List.map_nil] at hu
   have u1:=X04 (n:=id) (by omega)
   have u2:=X04 (n:=src) (by omega)
   have u3:=X04 (n:=dst) (by omega)
   have hsl:=VV y1
   have hc:=X2M typ (by omega)
   have hroom:((Xm id++Xm src++Xm dst).map Xc).length≤30:=by rw[List.length_map,List.length_append,List.length_append];omega
   have hroom2:((XX typ).map Xc).length≤30:=by rw[List.length_map];omega
   generalize Vw Vb ps=B at*
   generalize (Xm id++Xm src++Xm dst).map Xc=A at*
   generalize hw4:(XX typ).map Xc=W at*
   have hc':Con Tryz.prog 58 [] [XH typ] [] (.d (.sl 1 W)):=by rw[←hw4];exact hc
   have hroom3:(B.map Xc).length≤3000:=hrp
   clear hc
   refine Qk ?_;refine Yw ?_;refine Qre ?_;refine W2_ ?_;refine Z3 (hcon:=hc') ?_;refine W3_ ?_
   have hroom4:(A++W).length≤60:=by rw[List.length_append];omega
   refine W5_ ?_;refine Z3 (hcon:=hpr) ?_;refine Zb (γ:=130) ?_;refine W8_ ?_
   refine⟨i+1,hil,by omega,?_⟩
   rw[hu',hst,show cBy v=[D.sl 1 ((A++W)++B.map Xc)] from by rw[hd]]
   exact QZf
  obtain rfl:i=es.length:=by omega
  have hn:¬((es.length:Nat):Int)<(es.map Xs).length:=by omega
  rw[List.take_length]
  have hfm:=Xj9 U1 rfl ([H]++rs.map UG++ns.map Ve++es.map X0o) (by simp only[List.length_append,List.length_map,List.length_cons,List.length_nil];omega) (fun b hb=>by
   simp only[List.mem_append,List.mem_cons,List.mem_nil_iff,or_false,List.mem_map] at hb
   rcases hb with ((rfl|⟨r,hr,rfl⟩)|⟨n,hn,rfl⟩)|⟨e,he,rfl⟩
   ·omega
   ·have:=(Sk.2 r hr).2;omega
   ·have:=Xsa (hW1 n hn);omega
   ·have:=Xjl (hW2 e he);omega)
  generalize [H]++rs.map UG++ns.map Ve++es.map X0o=L at*
  refine W5_ ?_;refine Qo ?_;refine Xq (Yg 131 rfl) ?_;refine Xq (Yx 7 131 rfl rfl rfl) ?_;refine W2_ ?_;refine Z3 (hcon:=hfm) ?_;exact QPc
def oB (b:List UInt8) (s:Rd):AObj:= .box [.d (Xk (b.drop s.k)),.d (Xk s.c),ai s.a,ai s.e]
theorem Xi5 {b:List UInt8}{k:Nat}{z:Int}{c:List UInt8} (h:UZ (b.drop k) 0=(c,z,0)):∃f:Nat,z=f∧f≤(b.drop k).length:=by
 obtain⟨h1,h2,h3,_⟩:=XgU h
 exact⟨z.toNat,by omega,by omega⟩
theorem XjX (b:List UInt8) (s:Rd) (hb:b.length≤140737488355328):Con Tryz.prog 23 [(0,oB b s)] [.ptr 0 0] [(0,oB b (Yu b s))] (.tup []):=by
 refine Xg (xs:=[]) Tryz.func23 rfl Tryz.ntmps23 rfl rfl rfl (fun E=> ?_)
 obtain⟨k,c0,a,e⟩:=s
 have hc:=Xqv (b.drop k) 0 (by rw[List.length_drop];omega)
 unfold Yu oB
 simp only
 by_cases he:e=0
 case neg=>
  rw[if_pos he]
  simp only
  refine QRf ?_;exact X1 ⟨_,St.le_refl _,trivial,Xn ⟨rfl,trivial⟩⟩
 subst he
 rw[if_neg (by simp)]
 generalize hu:UZ (b.drop k) 0=u at*
 obtain⟨c,z,er⟩:=u
 simp only at hc ⊢
 by_cases her:er=0
 ·subst her
  obtain⟨f,rfl,hf⟩:=Xi5 hu
  rw[if_pos rfl,Int.toNat_natCast]
  have hsl:(((b.drop k).map Xc).take ((b.drop k).map Xc).length).drop f=(b.drop (k+f)).map Xc:=by rw[List.take_length,←List.map_drop,List.drop_drop]
  have hf':f≤((b.drop k).map Xc).length:=by rw[List.length_map];exact hf
  refine Qag ?_;refine Xr ?_;refine QJd ?_;refine X1g ?_;refine QWc ?_;refine Z7 (lb:=f) (hb:=((b.drop k).map Xc).length) (ys:=(b.drop (k+f)).map Xc) ?_ (hys:=by exact hsl);refine W4_ ?_;exact Qle
 ·rw[if_neg her]
  refine Qag ?_;refine Xr ?_;refine QJd ?_;refine X1g ?_;exact Qne
theorem XlF (b:List UInt8) (s:Rd):Con Tryz.prog 25 [(0,oB b s)] [.ptr 0 0] [(0,oB b (UJ s))] (.tup []):=by
 refine Xg (xs:=[]) Tryz.func25 rfl Tryz.ntmps25 rfl rfl rfl (fun E=> ?_)
 obtain⟨k,c,a,e⟩:=s
 have hlm:(c.map Xc).length=c.length:=by simp
 unfold UJ oB Rd.put
 simp only
 by_cases he:e=0
 case neg=>
  rw[if_neg (fun h=>he h.1)]
  simp only
  exact Qcg
 subst he
 by_cases ha:a<c.length
 ·have ha':a<(c.map Xc).length:=by omega
  rw[if_pos ⟨rfl,ha⟩]
  simp only
  exact Qdg
 ·have ha':¬a<(c.map Xc).length:=by omega
  rw[if_neg (fun h=>ha h.2)]
  simp only
  exact Qeg
theorem XkA (b:List UInt8) (s:Rd) (hk:s.k≤b.length):Con Tryz.prog 28 [(0,oB b s)] [.ptr 0 0] [(0,oB b (VU b s))] (ai (VU b s).e):=by
 refine Xg (xs:=[ai (VU b s).e]) Tryz.func28 rfl Tryz.ntmps28 rfl rfl rfl (fun E=> ?_)
 obtain⟨k,c,a,e⟩:=s
 simp only at hk
 have hlm:((b.drop k).map Xc).length=b.length-k:=by simp
 unfold VU oB Rd.put
 simp only
 by_cases he:e=0
 case neg=>
  rw[if_neg (fun h=>he h.1)]
  simp only
  refine Xr ?_;refine Qta ?_;refine QU ?_;refine W9_ ?_;exact Qf
 subst he
 by_cases ha:k<b.length
 ·have ha':(0:Int)<((b.drop k).map Xc).length:=by omega
  rw[if_pos ⟨rfl,ha⟩]
  simp only
  refine Yw ?_;refine QKc ?_;refine XC ?_;exact Qf
 ·have ha':¬(0:Int)<((b.drop k).map Xc).length:=by omega
  rw[if_neg (fun h=>ha h.2)]
  simp only
  refine Yw ?_;refine QDe ?_;refine W9_ ?_;exact Qf
theorem XmE (c:List UInt8) (a:Int) (hc:c.length≤281474976710656):Con Tryz.prog 160 [] [.d (Xk c),ai a] [] (.tup [XH (U2 c a 20).1,ai (U2 c a 20).2.1,ai (U2 c a 20).2.2]):=by
 refine Xg (xs:=[XH (U2 c a 20).1,ai (U2 c a 20).2.1,ai (U2 c a 20).2.2]) Tryz.func160 rfl Tryz.ntmps160 rfl rfl rfl (fun E=> ?_)
 have hs:=X9C c a 20 hc
 generalize U2 c a 20=u at*
 obtain⟨u1,u2,u3⟩:=u
 refine Xj ?_;refine QMd ?_;refine W7_ ?_;exact QQc
theorem Xsd (b:List UInt8) (s:Rd) (hc:s.c.length≤281474976710656):Con Tryz.prog 68 [(0,oB b s)] [.ptr 0 0,.fn 69 []] [(0,oB b (XL s).2)] (ai (XL s).1):=by
 refine Xg (xs:=[ai (XL s).1]) Tryz.func68 rfl Tryz.ntmps68 rfl rfl rfl (fun E=> ?_)
 obtain⟨k,c,a,e⟩:=s
 simp only at hc
 have hf:=X4R c a hc
 unfold XL Vc oB Rd.put
 simp only
 by_cases he:e=0
 case neg=>
  rw[if_pos he]
  simp only
  refine XD ?_;refine QCa ?_;exact Qf
 subst he
 rw[if_neg (by simp)]
 generalize Xz c a=r at*
 obtain⟨x,m,er⟩:=r
 simp only at hf ⊢
 by_cases her:er=0
 ·subst her
  rw[if_pos rfl]
  refine Qfg ?_;exact Qf
 ·rw[if_neg her]
  refine Qgg ?_;exact Qf
theorem Xnw (b:List UInt8) (s:Rd) (hc:s.c.length≤281474976710656):Con Tryz.prog 159 [(0,oB b s)] [.ptr 0 0,.fn 160 []] [(0,oB b (Ut s).2)] (XH (Ut s).1):=by
 refine Xg (xs:=[XH (Ut s).1]) Tryz.func159 rfl Tryz.ntmps159 rfl rfl rfl (fun E=> ?_)
 obtain⟨k,c,a,e⟩:=s
 simp only at hc
 have hf:=XmE c a hc
 unfold Ut Vc oB Rd.put
 simp only
 by_cases he:e=0
 case neg=>
  rw[if_pos he]
  simp only
  refine XD ?_;refine QCa ?_;exact Qf
 subst he
 rw[if_neg (by simp)]
 generalize U2 c a 20=r at*
 obtain⟨x,m,er⟩:=r
 simp only at hf ⊢
 by_cases her:er=0
 ·subst her
  rw[if_pos rfl]
  refine Qfg ?_;exact Qf
 ·rw[if_neg her]
  refine Qgg ?_;exact Qf
theorem X4O (b:List UInt8) (s:Rd) (hc:s.c.length≤281474976710656):Con Tryz.prog 24 [(0,oB b s)] [.ptr 0 0] [(0,oB b (XL s).2)] (ai (XL s).1):=by
 refine Xg (xs:=[ai (XL s).1]) Tryz.func24 rfl Tryz.ntmps24 rfl rfl rfl (fun E=> ?_)
 have hp:=Xsd b s hc
 generalize (XL s).1=x at*
 generalize (XL s).2=s' at*
 obtain⟨k,c,a,e⟩:=s
 obtain⟨k',c',a',e'⟩:=s'
 unfold oB at*
 simp only at*
 refine W7_ ?_;refine Z3 (hcon:=hp) ?_;exact Qh
theorem XaZ (b:List UInt8) (s:Rd) (hc:s.c.length≤281474976710656):Con Tryz.prog 103 [(0,oB b s)] [.ptr 0 0] [(0,oB b (Ut s).2)] (XH (Ut s).1):=by
 refine Xg (xs:=[XH (Ut s).1]) Tryz.func103 rfl Tryz.ntmps103 rfl rfl rfl (fun E=> ?_)
 have hp:=Xnw b s hc
 generalize (Ut s).1=x at*
 generalize (Ut s).2=s' at*
 obtain⟨k,c,a,e⟩:=s
 obtain⟨k',c',a',e'⟩:=s'
 unfold oB at*
 simp only at*
 refine W7_ ?_;refine Z3 (hcon:=hp) ?_;exact Qh
theorem Xmn (b:List UInt8) (s:Rd) (hc:s.c.length≤281474976710656):Con Tryz.prog 162 [(0,oB b s)] [.ptr 0 0,.fn 111 []] [(0,oB b (X18 s).2)] (Xv (X18 s).1):=by
 refine Xg (xs:=[Xv (X18 s).1]) Tryz.func162 rfl Tryz.ntmps162 rfl rfl rfl (fun E=> ?_)
 obtain⟨k,c,a,e⟩:=s
 simp only at hc
 have hf:=Xfu c hc a
 unfold X18 Vc oB Rd.put
 simp only
 by_cases he:e=0
 case neg=>
  rw[if_pos he]
  simp only
  refine XD ?_;refine QCa ?_;exact X1 ⟨_,XF 100 (cs':=[ai 0,ai 0,ai 0,XH [],.d (.sl 5 [])]) rfl JM rfl,⟨⟨100,0,_,rfl,rfl,.inr ⟨5,_,rfl,rfl,rfl,rfl⟩⟩,trivial⟩,Xn ⟨rfl,trivial⟩⟩
 subst he
 rw[if_neg (by simp)]
 generalize Ug c a=r at*
 obtain⟨x,m,er⟩:=r
 obtain⟨vk,vn,vd,vs,vl⟩:=x
 simp only[Xv] at hf ⊢
 by_cases her:er=0
 ·subst her
  rw[if_pos rfl]
  refine Qfg ?_;exact QIe
 ·rw[if_neg her]
  refine Qgg ?_;exact QIe
theorem XmU (b:List UInt8) (s:Rd) (hc:s.c.length≤281474976710656):Con Tryz.prog 62 [(0,oB b s)] [.ptr 0 0,.fn 63 []] [(0,oB b (Vn s).2)] (UN (Vn s).1):=by
 refine Xg (xs:=[UN (Vn s).1]) Tryz.func62 rfl Tryz.ntmps62 rfl rfl rfl (fun E=> ?_)
 obtain⟨k,c,a,e⟩:=s
 simp only at hc
 have hf:=Xp9 c a hc
 unfold Vn Vc oB Rd.put
 simp only
 by_cases he:e=0
 case neg=>
  rw[if_pos he]
  simp only
  refine XD ?_;refine QCa ?_;exact Qgf
 subst he
 rw[if_neg (by simp)]
 generalize X1F c a=r at*
 obtain⟨x,m,er⟩:=r
 obtain⟨rk,rn,rname,rkey,rsrc,rdst⟩:=x
 simp only[UN] at hf ⊢
 by_cases her:er=0
 ·subst her
  rw[if_pos rfl]
  refine Qfg ?_;exact Qgf
 ·rw[if_neg her]
  refine Qgg ?_;exact Qgf
end Go.Fw

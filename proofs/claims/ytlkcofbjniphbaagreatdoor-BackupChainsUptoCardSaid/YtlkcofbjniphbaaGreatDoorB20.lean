/- The check of a change: the program's. -/
import Derived.Test.YtlkcofbjniphbaaGreatDoorB19
set_option maxHeartbeats 32000000
namespace Go.Fw
open Go Go.Proofs
set_option maxRecDepth 100000
set_option linter.unusedVariables false
set_option linter.unusedSimpArgs false
def Ya (u:Bool×Bool×Bool×Bool) (i si di:Bool) (src dst:Int) (name:List UInt8) (nv zv pv:Bool):Int:=
 if u.2.2.2=false∨i=false then 1
 else if (u.1=true∧(si=false∨di=false))∨(u.1=false∧(src≠0∨dst≠0)) then 1
 else if (u.2.1=false∧name≠[])∨(u.2.2.1=false∧zv=false) then 1
 else if u.2.1=true∧nv=false then 6 else if u.2.2.1=true∧zv=false∧pv=false then 8 else 0
theorem Xg1 (c:Chg):YJ c=Ya (X0H c.op) (idV c.id) (idV c.src) (idV c.dst) c.src c.dst c.name (XZ c.name) (Um c.v) (U5 c.v):=by
 unfold YJ Ya X0H
 simp only[decide_eq_true_eq,decide_eq_false_iff_not]
abbrev YW (op id src dst:Int) (name:List UInt8) (k n d:Int) (s:List UInt8) (l:List Val):AVal:= .agg [ai op,ai id,ai src,ai dst,.d (.v (.string (Xb name))),ai k,ai n,ai d,.d (.v (.string (Xb s))),.d (.sl 5 (XU l))]
def Xx:Chg→AVal
 |⟨op,id,src,dst,name,.mk k n d s l⟩=>YW op id src dst name k n d s l
theorem X4c (c:Chg):Con Tryz.prog 71 [] [Xx c] [] (ai (YJ c)):=by
 rw[Xg1]
 obtain⟨op,id,src,dst,name,v⟩:=c
 have hf:=Xpi op
 have hi:=X9I id
 have hs:=X9I src
 have hd:=X9I dst
 have hn:=X46 name
 have hz:=X9G v
 have hp:=XeM v
 generalize idV id=i at*
 generalize idV src=si at*
 generalize idV dst=di at*
 generalize XZ name=nv at*
 generalize Um v=zv at*
 generalize U5 v=pv at*
 obtain⟨k,n,d,s,l⟩:=v
 simp only[Xx,Xv] at*
 refine Xg (xs:=[ai (Ya (X0H op) i si di src dst name nv zv pv)]) Tryz.func71 rfl Tryz.ntmps71 rfl rfl rfl (fun E=> ?_)
 generalize X0H op=u at*
 obtain⟨en,nm,vl,ok⟩:=u
 simp only at hf
 obtain⟨r,hr⟩:∃r,r=Ya (en,nm,vl,ok) i si di src dst name nv zv pv:=⟨_,rfl⟩
 rw[←hr]
 refine W9_ ?_;refine QNd ?_;refine XC ?_;refine Un rfl rfl (fun hq=> ?_) (fun hq=> ?_);refine W2_ ?_;refine Z3 (hcon:=hi) ?_;refine W1_ ?_;refine QF ?_;refine YO rfl (fun hq=> ?_) (fun hq=> ?_);refine W4_ ?_;(clear hf hi hs hd hn hz hp;simp[Ya, *] at hr;subst hr;exact X1 ⟨_,St.le_refl _,⟨rfl,trivial⟩,X2 _⟩);refine W5_ ?_;refine X6N rfl rfl (fun hq=> ?_) (fun hq=> ?_);refine QRd ?_;refine Un rfl rfl (fun hq=> ?_) (fun hq=> ?_);refine QSd ?_;refine Un rfl rfl (fun hq=> ?_) (fun hq=> ?_);refine W4_ ?_;refine Quc ?_;refine QE ?_;refine QF ?_;refine Qia ?_;refine Un rfl rfl (fun hq=> ?_) (fun hq=> ?_);refine Qwb ?_;refine W5_ ?_;refine Un rfl rfl (fun hq=> ?_) (fun hq=> ?_);refine QTd ?_;refine QF ?_;refine Qma ?_;refine QLd ?_;refine Qxa ?_;refine YO rfl (fun hq=> ?_) (fun hq=> ?_);refine W4_ ?_;(clear hf hi hs hd hn hz hp;simp[Ya, *] at hr;subst hr;exact X1 ⟨_,St.le_refl _,⟨rfl,trivial⟩,X2 _⟩);refine W7_ ?_;refine QVd ?_;refine Un rfl rfl (fun hq=> ?_) (fun hq=> ?_);refine QWd ?_;(clear hf hi hs hd hn hz hp;simp[Ya, *] at hr;subst hr;exact X1 ⟨_,St.le_refl _,⟨rfl,trivial⟩,X2 _⟩);refine QXd ?_;refine YO rfl (fun hq=> ?_) (fun hq=> ?_);refine W4_ ?_;(clear hf hi hs hd hn hz hp;simp[Ya, *] at hr;subst hr;exact X1 ⟨_,St.le_refl _,⟨rfl,trivial⟩,X2 _⟩);refine W5_ ?_;(clear hf hi hs hd hn hz hp;simp[Ya, *] at hr;subst hr;exact X1 ⟨_,St.le_refl _,⟨rfl,trivial⟩,X2 _⟩);refine QZd ?_;refine YO rfl (fun hq=> ?_) (fun hq=> ?_);refine W4_ ?_;(clear hf hi hs hd hn hz hp;simp[Ya, *] at hr;subst hr;exact X1 ⟨_,St.le_refl _,⟨rfl,trivial⟩,X2 _⟩);refine W7_ ?_;refine QLd ?_;refine Qxa ?_;refine YO rfl (fun hq=> ?_) (fun hq=> ?_);refine W4_ ?_;(clear hf hi hs hd hn hz hp;simp[Ya, *] at hr;subst hr;exact X1 ⟨_,St.le_refl _,⟨rfl,trivial⟩,X2 _⟩);refine W5_ ?_;refine QL ?_;refine QP ?_;refine QWd ?_;(clear hf hi hs hd hn hz hp;simp[Ya, *] at hr;subst hr;exact X1 ⟨_,St.le_refl _,⟨rfl,trivial⟩,X2 _⟩);refine W3_ ?_;refine Qs ?_;refine Uh rfl rfl (fun hq=> ?_) (fun hq=> ?_);refine QL ?_;refine QY ?_;refine QFd ?_;(clear hf hi hs hd hn hz hp;simp[Ya, *] at hr;subst hr;exact X1 ⟨_,St.le_refl _,⟨rfl,trivial⟩,X2 _⟩);refine W4_ ?_;refine Un rfl rfl (fun hq=> ?_) (fun hq=> ?_);refine QTd ?_;refine Qad ?_;refine QL ?_;refine QF ?_;refine Qma ?_;refine QVd ?_;refine Un rfl rfl (fun hq=> ?_) (fun hq=> ?_);refine QWd ?_;(clear hf hi hs hd hn hz hp;simp[Ya, *] at hr;subst hr;exact X1 ⟨_,St.le_refl _,⟨rfl,trivial⟩,X2 _⟩);refine QXd ?_;refine YO rfl (fun hq=> ?_) (fun hq=> ?_);refine W4_ ?_;(clear hf hi hs hd hn hz hp;simp[Ya, *] at hr;subst hr;exact X1 ⟨_,St.le_refl _,⟨rfl,trivial⟩,X2 _⟩);refine W5_ ?_;(clear hf hi hs hd hn hz hp;simp[Ya, *] at hr;subst hr;exact X1 ⟨_,St.le_refl _,⟨rfl,trivial⟩,X2 _⟩);refine QZd ?_;refine YO rfl (fun hq=> ?_) (fun hq=> ?_);refine W4_ ?_
 (clear hf hi hs hd hn hz hp;simp[Ya, *] at hr;subst hr;exact X1 ⟨_,St.le_refl _,⟨rfl,trivial⟩,X2 _⟩);refine W5_ ?_;refine QWd ?_;refine QL ?_;refine QP ?_;refine QWd ?_;(clear hf hi hs hd hn hz hp;simp[Ya, *] at hr;subst hr;exact X1 ⟨_,St.le_refl _,⟨rfl,trivial⟩,X2 _⟩);refine QL ?_;refine QX ?_;refine QY ?_;refine QFd ?_;(clear hf hi hs hd hn hz hp;simp[Ya, *] at hr;subst hr;exact X1 ⟨_,St.le_refl _,⟨rfl,trivial⟩,X2 _⟩);refine Qda ?_;refine Qs ?_;refine QL ?_;refine QX ?_;refine QY ?_;refine QFd ?_;(clear hf hi hs hd hn hz hp;simp[Ya, *] at hr;subst hr;exact X1 ⟨_,St.le_refl _,⟨rfl,trivial⟩,X2 _⟩);refine Qae ?_;refine Uh rfl rfl (fun hq=> ?_) (fun hq=> ?_);refine Qrb ?_;refine Qr ?_;refine QF ?_;refine Qe ?_;(clear hf hi hs hd hn hz hp;simp[Ya, *] at hr;subst hr;exact X1 ⟨_,St.le_refl _,⟨rfl,trivial⟩,X2 _⟩);refine W3_ ?_;refine Qca ?_;refine QF ?_;refine X1Q rfl (fun hq=> ?_) (fun hq=> ?_);refine W4_ ?_;(clear hf hi hs hd hn hz hp;simp[Ya, *] at hr;subst hr;exact X1 ⟨_,St.le_refl _,⟨rfl,trivial⟩,X2 _⟩);refine W6_ ?_;refine Un rfl rfl (fun hq=> ?_) (fun hq=> ?_);refine Qwb ?_;refine W5_ ?_;refine Un rfl rfl (fun hq=> ?_) (fun hq=> ?_);refine QTd ?_;refine QF ?_;refine Qma ?_;refine QLd ?_;refine Qxa ?_;refine YO rfl (fun hq=> ?_) (fun hq=> ?_);refine W4_ ?_;(clear hf hi hs hd hn hz hp;simp[Ya, *] at hr;subst hr;exact X1 ⟨_,St.le_refl _,⟨rfl,trivial⟩,X2 _⟩);refine W7_ ?_;refine QVd ?_;refine Un rfl rfl (fun hq=> ?_) (fun hq=> ?_);refine QWd ?_;(clear hf hi hs hd hn hz hp;simp[Ya, *] at hr;subst hr;exact X1 ⟨_,St.le_refl _,⟨rfl,trivial⟩,X2 _⟩);refine QXd ?_;refine YO rfl (fun hq=> ?_) (fun hq=> ?_);refine W4_ ?_;(clear hf hi hs hd hn hz hp;simp[Ya, *] at hr;subst hr;exact X1 ⟨_,St.le_refl _,⟨rfl,trivial⟩,X2 _⟩);refine W5_ ?_;(clear hf hi hs hd hn hz hp;simp[Ya, *] at hr;subst hr;exact X1 ⟨_,St.le_refl _,⟨rfl,trivial⟩,X2 _⟩);refine QZd ?_;refine YO rfl (fun hq=> ?_) (fun hq=> ?_);refine W4_ ?_;(clear hf hi hs hd hn hz hp;simp[Ya, *] at hr;subst hr;exact X1 ⟨_,St.le_refl _,⟨rfl,trivial⟩,X2 _⟩);refine W7_ ?_;refine QLd ?_;refine Qxa ?_;refine YO rfl (fun hq=> ?_) (fun hq=> ?_);refine W4_ ?_;(clear hf hi hs hd hn hz hp;simp[Ya, *] at hr;subst hr;exact X1 ⟨_,St.le_refl _,⟨rfl,trivial⟩,X2 _⟩);refine W5_ ?_;refine QL ?_;refine QP ?_;refine QWd ?_;(clear hf hi hs hd hn hz hp;simp[Ya, *] at hr;subst hr;exact X1 ⟨_,St.le_refl _,⟨rfl,trivial⟩,X2 _⟩);refine W3_ ?_;refine Qs ?_;refine Uh rfl rfl (fun hq=> ?_) (fun hq=> ?_);refine QL ?_;refine QY ?_;refine QFd ?_;(clear hf hi hs hd hn hz hp;simp[Ya, *] at hr;subst hr;exact X1 ⟨_,St.le_refl _,⟨rfl,trivial⟩,X2 _⟩);refine W4_ ?_;refine Un rfl rfl (fun hq=> ?_) (fun hq=> ?_);refine QTd ?_;refine Qad ?_;refine QL ?_;refine QF ?_;refine Qma ?_;refine QVd ?_
 refine Un rfl rfl (fun hq=> ?_) (fun hq=> ?_);refine QWd ?_;(clear hf hi hs hd hn hz hp;simp[Ya, *] at hr;subst hr;exact X1 ⟨_,St.le_refl _,⟨rfl,trivial⟩,X2 _⟩);refine QXd ?_;refine YO rfl (fun hq=> ?_) (fun hq=> ?_);refine W4_ ?_;(clear hf hi hs hd hn hz hp;simp[Ya, *] at hr;subst hr;exact X1 ⟨_,St.le_refl _,⟨rfl,trivial⟩,X2 _⟩);refine W5_ ?_;(clear hf hi hs hd hn hz hp;simp[Ya, *] at hr;subst hr;exact X1 ⟨_,St.le_refl _,⟨rfl,trivial⟩,X2 _⟩);refine QZd ?_;refine YO rfl (fun hq=> ?_) (fun hq=> ?_);refine W4_ ?_;(clear hf hi hs hd hn hz hp;simp[Ya, *] at hr;subst hr;exact X1 ⟨_,St.le_refl _,⟨rfl,trivial⟩,X2 _⟩);refine W5_ ?_;refine QWd ?_;refine QL ?_;refine QP ?_;refine QWd ?_;(clear hf hi hs hd hn hz hp;simp[Ya, *] at hr;subst hr;exact X1 ⟨_,St.le_refl _,⟨rfl,trivial⟩,X2 _⟩);refine QL ?_;refine QFd ?_;(clear hf hi hs hd hn hz hp;simp[Ya, *] at hr;subst hr;exact X1 ⟨_,St.le_refl _,⟨rfl,trivial⟩,X2 _⟩)
open Go
def VS (b:List UInt8) (e:Int×Int):Prop:=e.2=0→∃q:Nat,e.1=(q:Int)∧q≤b.length
theorem Xde (b:List UInt8) (a:Int):VS b (Ye b a).2:=by
 intro h
 obtain⟨k,rfl,hk,h1,h2,he⟩:=Xcj h
 refine⟨_,he,?_⟩
 simp only[List.length_drop] at h1
 omega
theorem X45 (b:List UInt8) (a:Int):VS b (Xz b a).2:=by
 intro h
 unfold Xz at h ⊢
 simp only at h ⊢
 split
 ·rename_i h1;rw[if_pos h1] at h;exact absurd h h1
 rename_i h1;rw[if_neg h1] at h
 split
 ·rename_i h2;rw[if_pos h2] at h;simp at h
 rename_i h2;rw[if_neg h2] at h
 split
 ·rename_i h3;rw[if_pos h3] at h;simp at h
 exact Xde b a (Classical.not_not.1 h1)
theorem X4V (b:List UInt8) (a:Int):∃n:Nat,(Xz b a).1=n:=by
 unfold Xz
 simp only
 split
 ·exact⟨0,rfl⟩
 split
 ·exact⟨0,rfl⟩
 split
 ·exact⟨0,rfl⟩
 exact⟨_,rfl⟩
theorem Xr7 {b:List UInt8}{a:Int} (h:(Xz b a).2.2≠0):(Xz b a).1=0:=by
 unfold Xz at h ⊢
 simp only at h ⊢
 split
 ·rfl
 rename_i h1;rw[if_neg h1] at h
 split
 ·rfl
 rename_i h2;rw[if_neg h2] at h
 split
 ·rfl
 rename_i h3;rw[if_neg h3] at h
 simp at h
theorem X7k (b:List UInt8) (a:Int):VS b (XW b a).2:=by
 intro h
 unfold XW at h ⊢
 simp only at h ⊢
 split
 ·rename_i h1;rw[if_pos h1] at h;exact absurd h h1
 rename_i h1;rw[if_neg h1] at h
 split
 ·rename_i h3;rw[if_pos h3] at h;simp at h
 exact Xde b a (Classical.not_not.1 h1)
theorem XpN {b:List UInt8}{a:Int} (h:(XW b a).2.2≠0):(XW b a).1=0:=by
 unfold XW at h ⊢
 simp only at h ⊢
 split
 ·rfl
 rename_i h1;rw[if_neg h1] at h
 split
 ·rfl
 rename_i h3;rw[if_neg h3] at h
 simp at h
theorem Xn7 (b:List UInt8) (a most:Int):VS b (U2 b a most).2:=by
 intro h
 have hu:=X45 b a
 obtain⟨n,hn⟩:=X4V b a
 unfold U2 at h ⊢
 simp only at h ⊢
 split
 ·rename_i h1;rw[if_pos h1] at h;exact absurd h h1
 rename_i h1;rw[if_neg h1] at h
 split
 ·rename_i h2;rw[if_pos h2] at h;simp at h
 rename_i h2;rw[if_neg h2] at h
 split
 ·rename_i h3;rw[if_pos h3] at h;simp at h
 rename_i h3
 obtain⟨q,hq,hql⟩:=hu (Classical.not_not.1 h1)
 rw[hn] at h3 ⊢
 rw[hq] at h3 ⊢
 exact⟨q+n,by simp,by omega⟩
section
variable {g:Nat→Int→Val×Int×Int}{a:Int}
theorem X30 {k:Nat} (h:(Y8 g a k).2.2=0):Y8 g a (k+1)=((Y8 g a k).1++[(g k (Y8 g a k).2.1).1],(g k (Y8 g a k).2.1).2.1,(g k (Y8 g a k).2.1).2.2):=by
 rw[Y8];simp[h]
theorem X3f {k:Nat} (h:(Y8 g a k).2.2≠0):∀j,k≤j→Y8 g a j=Y8 g a k
 |0,hj=>by obtain rfl:k=0:=by omega
           rfl
 |j+1,hj=>by
  by_cases e:k=j+1
  ·rw[e]
  ·have:=X3f h j (by omega)
   rw[Y8,this];simp[h]
theorem Xgs {k:Nat} (h:(Y8 g a k).2.2=0):(Y8 g a k).1.length=k:=by
 induction k with
 |zero=>rfl
 |succ k ih=>
  by_cases e:(Y8 g a k).2.2=0
  ·rw[X30 e];simp[ih e]
  ·rw[X3f e (k+1) (by omega)] at h;exact absurd h e
theorem X4f {b:List UInt8} (hg:∀i q:Nat,q≤b.length→VS b (g i q).2) (h0:∃q:Nat,a=(q:Int)∧q≤b.length):∀k,VS b (Y8 g a k).2
 |0=>fun _=>h0
 |k+1=>by
  by_cases e:(Y8 g a k).2.2=0
  ·rw[X30 e]
   obtain⟨q,h1,h2⟩:=X4f hg h0 k e
   intro h
   rw[h1] at h ⊢
   exact hg k q h2 h
  ·intro h;rw[X3f e (k+1) (by omega)] at h;exact absurd h e
theorem X8E {k:Nat} (h:(Y8 g a k).2.2=0):(Y8 g a (k+1)).1.length=k+1:=by
 rw[X30 h];simp[Xgs h]
end
theorem Xql {gl gp:Nat→Int→Val×Int×Int}{b:List UInt8} (hgl:∀i q:Nat,q≤b.length→VS b (gl i q).2) (hgp:∀i q:Nat,q≤b.length→VS b (gp i q).2) (a:Nat) (ha:a≤b.length) (k:Int):VS b (YU gl gp b a k).2:=by
 unfold YU
 split
 ·exact X7k b a
 split
 ·simp only
  split
  ·exact X7k b a
  ·exact X7k b _
 split
 ·exact Xn7 b a 100
 split
 ·simp only
  split
  ·exact X45 b a
  rename_i h1
  split
  ·intro h;simp at h
  ·have h0:=X45 b a (Classical.not_not.1 h1)
   split
   ·exact X4f hgl h0 _
   ·exact X4f hgp h0 _
 ·exact fun _=>⟨a,rfl,ha⟩
theorem X9D {gl gp:Nat→Int→Val×Int×Int}{b:List UInt8} (hgl:∀i q:Nat,q≤b.length→VS b (gl i q).2) (hgp:∀i q:Nat,q≤b.length→VS b (gp i q).2) (m a:Nat) (ha:a≤b.length) (want:Int):VS b (Vm gl gp m b a want).2:=by
 unfold Vm
 split
 ·intro h;simp at h
 simp only
 split
 ·intro h;simp at h
 ·rename_i h1 h2
  have:=Xql hgl hgp (a+1) (by omega) ((((b[(a:Int).toNat]?).getD 0).toNat:Nat):Int)
  rw[Int.natCast_add] at this
  split
  ·intro h;simp at h
  ·exact this
theorem X56 {b:List UInt8} (i q:Nat):VS b (noG i q).2:=fun h=>by simp[noG] at h
theorem X5I {b:List UInt8} (i q:Nat) (h:q≤b.length):VS b (VK b i q).2:=
 X9D (fun i q _=>X56 i q) (fun i q _=>X56 i q) 0 q h _
theorem Xbr {b:List UInt8}:∀(m q:Nat),q≤b.length→VS b (X0t b m q).2
 |0,q,h=>X9D (fun i q _=>X56 i q) (fun i q h=>X5I i q h) 0 q h _
 |m+1,q,h=>X9D (fun i q h=>Xbr m q h) (fun i q h=>X5I i q h) (m+1) q h _
theorem X9c:∀{l:List Val},(∀x∈l,Yp x)→X0n l
 |[],_=>by rw[X0n];trivial
 |v::r,h=>by
  rw[X0n]
  exact⟨h v (List.mem_cons_self ..),X9c fun x hx=>h x (List.mem_cons_of_mem _ hx)⟩
theorem XaE {gl gp:Nat→Int→Val×Int×Int}{m:Nat}{b:List UInt8}{a want:Int} (h:(Vm gl gp m b a want).2.2=0):Xe 8 (Vm gl gp m b a want).1=true:=by
 unfold Vm at h ⊢
 split
 ·rename_i h1;rw[if_pos h1] at h;simp at h
 rename_i h1
 rw[if_neg h1] at h
 simp only at h ⊢
 split
 ·rename_i h2;rw[if_pos h2] at h;simp at h
 rename_i h2
 rw[if_neg h2] at h
 split
 ·rename_i h3;rw[if_pos h3] at h;simp at h
 rename_i h3
 rw[if_neg h3] at h
 cases hv:Xe 8 (YU gl gp b (a+1) ((((b[a.toNat]?).getD 0).toNat:Nat):Int)).1 with
 |true=>rfl
 |false=>exact absurd ⟨h,hv⟩ h3
theorem X43 {n:Nat} (h:n≤300):(Xm n).length≤10:=by
 rw[X1j (by omega)]
 exact X0Q (by omega)
theorem X6K {n:Int} (h: -9223372036854775808≤n∧n≤9223372036854775807):(YK n).length≤10:=X0Q (XgS h)
theorem Xep {m:Nat}{k n d:Int}{s:List UInt8}{l:List Val} (h:Xe m (.mk k n d s l)=true) (h7:k≠7) (h8:k≠8):(Y3 (.mk k n d s l)).length≤111:=by
 rw[Xe] at h
 rw[Y3]
 simp only[List.length_cons]
 by_cases h1:k=1∨k=2∨k=5∨k=6
 ·rw[if_pos h1]
  have hn: -9223372036854775808≤n∧n≤9223372036854775807:=by
   rcases h1 with rfl|rfl|rfl|rfl<;>simp at h<;>omega
  have:=X6K hn
  omega
 rw[if_neg h1]
 by_cases h3:k=3
 ·subst h3
  rw[if_pos rfl]
  have hnd:(-9223372036854775808≤n∧n≤9223372036854775807)∧ -9223372036854775808≤d∧d≤9223372036854775807:=by simp[X0z] at h;omega
  have h5:=X6K hnd.1
  have h6:=X6K hnd.2
  rw[List.length_append]
  omega
 rw[if_neg h3]
 by_cases h4:k=4
 ·subst h4
  rw[if_pos rfl]
  have hs:s.length≤100:=by simp at h;omega
  have:=X43 (n:=s.length) (by omega)
  unfold XX
  rw[List.length_append]
  omega
 rw[if_neg h4,if_neg (by omega)]
 simp
def X3V (op:Int):Bool×Bool×Bool:=(decide (op=6),decide (op≠1∧op≠2∧op≠7),decide (op≠1∧op≠2∧op≠7∧op≠3∧op≠4∧op≠6))
theorem XiI (op:Int):Con Tryz.prog 108 [] [ai op] [] (.tup [ab (X3V op).1,ab (X3V op).2.1,ab (X3V op).2.2]):=by
 refine Xg (xs:=[ab (X3V op).1,ab (X3V op).2.1,ab (X3V op).2.2]) Tryz.func108 rfl Tryz.ntmps108 rfl rfl rfl (fun E=> ?_)
 by_cases k1:op=1
 ·subst k1
  refine Us ?_;refine Qea ?_;exact QRc
 by_cases k2:op=2
 ·subst k2
  refine Us ?_;refine Qc ?_;refine Qea ?_;exact QRc
 by_cases k7:op=7
 ·subst k7
  refine Qbe ?_;exact QRc
 by_cases k3:op=3
 ·subst k3
  refine Qbe ?_;refine Qja ?_;exact QRc
 by_cases k4:op=4
 ·subst k4
  refine Qbe ?_;refine Qka ?_;exact QRc
 by_cases k6:op=6
 ·subst k6
  refine Qbe ?_;refine Qka ?_;refine Qc ?_;exact QRc
 rw[show X3V op=(false,true,true) by unfold X3V;rw[decide_eq_false (by omega),decide_eq_true (by omega),decide_eq_true (by omega)]]
 refine Qbe ?_;refine Qka ?_;refine Qc ?_;refine Qma ?_;exact QQc
end Go.Fw

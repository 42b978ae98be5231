/- How far a reader gets; how many things it can read; in plain Lean. -/
import Derived.Test.YtlkcofbjniphbaaGreatDoorB27
set_option maxHeartbeats 64000000
namespace Go.Fw
open Go
set_option linter.unusedVariables false
def Uk (s:Rd):Prop:=0≤s.a∧s.a≤s.c.length
structure GoR {α:Type} (d:Int) (f:Rd→α×Rd):Prop where
 ok:∀s,Uk s→Uk (f s).2
 go:∀s,Uk s→(f s).2.e=0→s.a+d≤(f s).2.a
theorem X66 {α:Type}{z:α}{f:List UInt8→Int→α×Int×Int}{d:Int} (hd:0≤d) (h:∀(c:List UInt8) (a:Int) (x:α) (e:Int),f c a=(x,e,0)→a+d≤e∧e≤c.length):GoR d (Vc z f):=by
 refine⟨fun s hs=> ?_,fun s hs he=> ?_⟩
 ·unfold Vc
  by_cases q:s.e=0
  ·rw[if_neg (by simp[q])]
   simp only[Rd.put]
   by_cases q2:(f s.c s.a).2.2=0
   ·have:=h s.c s.a _ _ (by rw[←q2])
    rw[if_pos q2]
    exact⟨Int.le_trans hs.1 (Int.le_trans (Int.le_add_of_nonneg_right hd) this.1),by show(f s.c s.a).2.1≤s.c.length;exact this.2⟩
   ·rw[if_neg q2];exact hs
  ·rw[if_pos q];exact hs
 ·have hs0:=(X4b z f).back he
  unfold Vc at he ⊢
  rw[if_neg (by simp[hs0])] at he ⊢
  simp only[Rd.put] at he ⊢
  rw[if_pos he]
  exact(h s.c s.a _ _ (by rw[←he])).1
theorem Vh:GoR 1 XL:=X66 (by omega) fun c a x e h=>by
 obtain⟨h1,_,_,h2⟩:=X3r h
 exact⟨by omega,h1.2.2.1⟩
theorem X39:GoR 1 Ut:=X66 (by omega) fun c a x e h=>by
 obtain⟨h1,_,h2⟩:=X4G h
 exact⟨by omega,h1.2.2.1⟩
theorem Xc4:GoR 0 X18:=X66 (by omega) fun c a x e h=>by
 obtain⟨h1,_⟩:=XbY h
 exact⟨by have:=h1.2.1;omega,h1.2.2.1⟩
theorem Xcv:GoR 1 X03:=by
 refine⟨fun s hs=>Xc4.ok _ (X39.ok _ hs),fun s hs he=> ?_⟩
 have he:(X18 (Ut s).2).2.e=0:=he
 have h1:=X9T.back he
 have h2:=X39.go s hs h1
 have h3:=Xc4.go _ (X39.ok _ hs) he
 show s.a+1≤(X18 (Ut s).2).2.a
 omega
theorem X9m {α:Type}{f:Rd→α×Rd} (hp:PartR f) (hg:GoR 1 f):∀(n:Nat) (s:Rd),Uk s→((Y2 f n s).1.length:Int)≤s.c.length-s.a+1
 |0,s,hs=>by have:=hs.2;simp only[Y2,List.length_nil];omega
 |n+1,s,hs=>by
  have h0:=hs.2
  rw[Y2]
  by_cases q:s.e=0
  ·rw[if_neg (by simp[q])]
   simp only[List.length_cons]
   have hc:=(hp.keep s).2
   by_cases q2:(f s).2.e=0
   ·have h1:=X9m hp hg n (f s).2 (hg.ok s hs)
    have h2:=hg.go s hs q2
    rw[hc] at h1
    omega
   ·rw[X64 q2]
    simp only[List.length_nil]
    omega
  ·rw[if_pos q]
   simp only[List.length_nil]
   omega
theorem X9X {α:Type}{f:Rd→α×Rd}{d:Int} (hg:GoR d f):∀(n:Nat) (s:Rd),Uk s→Uk (Y2 f n s).2
 |0,s,hs=>hs
 |n+1,s,hs=>by
  rw[Y2]
  split
  ·exact hs
  ·exact X9X hg n _ (hg.ok s hs)
theorem X8a {α:Type}{f:Rd→α×Rd}{d:Int} (hg:GoR d f) {s:Rd} (hs:Uk s):Uk (YG f s).2:=X9X hg _ _ (Vh.ok s hs)
theorem X1A (s:Rd):∃m:Nat,(XL s).1=m∧m≤9223372036854775807:=by
 unfold XL Vc
 by_cases q:s.e=0
 ·rw[if_neg (by simp[q])]
  simp only
  by_cases q2:(Xz s.c s.a).2.2=0
  ·obtain⟨_,h1,h2,_⟩:=X3r (b:=s.c) (a:=s.a) (n:=(Xz s.c s.a).1) (e:=(Xz s.c s.a).2.1) (by rw[←q2])
   exact⟨(Xz s.c s.a).1.toNat,by omega,by omega⟩
  ·exact⟨0,by rw[Xr7 q2];rfl,by omega⟩
 ·rw[if_pos q]
  exact⟨0,rfl,by omega⟩
open Go Go.Proofs
set_option maxRecDepth 100000
set_option linter.unusedSimpArgs false
theorem X3b {α:Type}{f:Rd→α×Rd}{n:Nat}{s:Rd} (h:s.e=0):Y2 f (n+1) s=((f s).1::(Y2 f n (f s).2).1,(Y2 f n (f s).2).2):=by
 rw[Y2,if_neg (by simp[h])]
theorem X3X {α:Type}{f:Rd→α×Rd}{n:Nat}{s:Rd}{acc:List α}{L:List α×Rd} (h1:acc++(Y2 f n s).1=L.1) (h2:(Y2 f n s).2=L.2) (h:n=0∨s.e≠0):L=(acc,s):=by
 have:Y2 f n s=([],s):=by
  rcases h with rfl|h
  ·rfl
  ·exact X64 h
 rw[this] at h1 h2
 simp only[List.append_nil] at h1
 exact Prod.ext h1.symm h2.symm
theorem Xab {α:Type}{f:Rd→α×Rd}{n:Nat}{s:Rd}{acc:List α}{L:List α×Rd} (h1:acc++(Y2 f n s).1=L.1) (hl:L.1.length≤1073741825):acc.length≤1073741825:=by
 have:=congrArg List.length h1
 simp only[List.length_append] at this
 omega
theorem XaP {α:Type}{f:Rd→α×Rd} (hp:PartR f) (hg:GoR 1 f) {n:Nat}{s:Rd} (hs:Uk s) (hc:s.c.length≤1073741824):(Y2 f n s).1.length≤1073741825:=by
 have:=X9m hp hg n s hs
 have:=hs.1
 omega
theorem Xd6 (b:List UInt8) (s:Rd) (hs:Uk s) (hc:s.c.length≤1073741824):Con Tryz.prog 104 [(0,oB b s)] [.ptr 0 0] [(0,oB b (YG X03 s).2)] (.d (.sl 6 ((YG X03 s).1.map Xh))):=by
 refine Xg (xs:=[.d (.sl 6 ((YG X03 s).1.map Xh))]) Tryz.func104 rfl Tryz.ntmps104 rfl rfl rfl (fun E=> ?_)
 have hN:=X4O b s (by omega)
 obtain⟨m,hm,hml⟩:=X1A s
 have hok:=Vh.ok s hs
 have hcs:=(Vd.keep s).2
 unfold YG
 simp only
 rw[hm] at hN ⊢
 rw[Int.toNat_natCast]
 generalize (XL s).2=s1 at*
 rw[←hcs] at hc
 have hLb:=XaP XaJ Xcv (n:=m) hok hc
 generalize hL:Y2 X03 m s1=L at*
 obtain⟨k0,c0,a0,e0⟩:=s
 obtain⟨k1,c1,a1,e1⟩:=s1
 simp only at hcs hc
 subst hcs
 unfold oB at hN ⊢
 simp only at hN ⊢
 refine Xt ?_;refine Z3 (hcon:=hN) ?_;refine W3_ ?_;refine Xq (V3 3 130 6 rfl rfl rfl) ?_
 refine XK (ι:=List Prp×Nat×Rd) (fun q=>q.1++(Y2 X03 q.2.1 q.2.2).1=L.1∧(Y2 X03 q.2.1 q.2.2).2=L.2∧q.2.2.c.length≤1073741824∧Uk q.2.2∧q.2.1≤9223372036854775807)
  (fun q=>⟨29,[(0,.ptr 0 0),(3,.own 130 (q.1.map Xh).length),(4,ai q.2.1)],[(0,.box [.d (Xk (b.drop q.2.2.k)),.d (Xk q.2.2.c),ai q.2.2.a,ai q.2.2.e]),(130,.row 6 (q.1.map Xh))]⟩) (fun q=>q.2.1) ([],m,⟨k1,c1,a1,e1⟩)
  ⟨by rw[hL];rfl,by rw[hL],hc,hok,hml⟩
  (Xd rfl JM ⟨rfl,rfl,trivial⟩) ?_
 rintro⟨acc,j,s⟩ ⟨h1,h2,h3,h4,h5⟩
 simp only at h1 h2 h3 h4 h5
 have hroom0:=Xab h1 hLb
 have hroom:(acc.map Xh).length≤1073741825:=by rw[List.length_map];exact hroom0
 by_cases hj:j=0
 ·have hLL:=X3X h1 h2 (.inl hj)
  subst hj
  subst hLL
  obtain⟨k,c,a,e⟩:=s
  simp only
  refine W6_ ?_;refine QW ?_;refine QVb ?_;exact Qhg
 obtain⟨i,rfl⟩:∃i,j=i+1:=⟨j-1,by omega⟩
 have hj':(0:Int)<(i+1:Nat):=by omega
 by_cases he:s.e=0
 case neg=>
  have hLL:=X3X h1 h2 (.inr he)
  subst hLL
  obtain⟨k,c,a,e⟩:=s
  simp only at he ⊢
  refine Qt ?_;refine Qia ?_;exact Qhg
 rw[X3b he] at h1 h2
 simp only at h1 h2
 have hn:=XaZ b s (by omega)
 have hc2:=(X4y.keep s).2
 have hok2:=X39.ok s h4
 have hpe:X03 s=(⟨(Ut s).1,(X18 (Ut s).2).1⟩,(X18 (Ut s).2).2):=rfl
 rw[hpe] at h1 h2
 generalize (Ut s).1=nm at*
 generalize (Ut s).2=s2 at*
 have hv:=Xmn b s2 (by rw[hc2];omega)
 have hc3:=(X9T.keep s2).2
 have hok3:=Xc4.ok s2 hok2
 generalize (X18 s2).1=v at*
 generalize (X18 s2).2=s3 at*
 have h3':s3.c.length≤1073741824:=by rw[hc3,hc2];exact h3
 have happ:(acc++[(⟨nm,v⟩:Prp)]).map Xh=acc.map Xh++[Xh ⟨nm,v⟩]:=by simp
 obtain⟨k,c,a,e⟩:=s
 obtain⟨k2,c2,a2,e2⟩:=s2
 obtain⟨k3,c3,a3,e3⟩:=s3
 obtain⟨vk,vn,vd,vs,vl⟩:=v
 simp only at he
 subst he
 unfold oB at hn hv
 simp only[Xv] at hn hv
 refine Qt ?_;refine Qb ?_;refine QLd ?_;refine W6_ ?_;refine Qyd ?_;refine W7_ ?_
 (refine Z1 (op:= .sub) (r':=nj i) (u:= .int .i64 ((i+1:Nat):Int)) (v:= .int .i64 1) ?_ (hr':=by exact congrArg (Value.int .i64) (show(((i+1:Nat):Int)-1)=(i:Int) by omega)) (hr:=by exact Yl (by unfold XT;omega)))
 refine W2_ ?_
 refine⟨(acc++[(⟨nm,.mk vk vn vd vs vl⟩:Prp)],i,⟨k3,c3,a3,e3⟩),⟨by simpa using h1,h2,h3',hok3,by simp only;omega⟩,by show i<i+1;omega,?_⟩
 rw[happ]
 exact Xd rfl ⟨JL,AVal.le_of_eq (by refine Eq.trans (b:=AVal.own 130 (_+_)) rfl ?_;simp only[List.length_append,List.length_cons,List.length_nil]),JL,trivial⟩ ⟨rfl,rfl,trivial⟩
theorem Xq2 (b:List UInt8) (s:Rd) (hs:Uk s) (hc:s.c.length≤1073741824):Con Tryz.prog 64 [(0,oB b s)] [.ptr 0 0] [(0,oB b (VT s).2)] (UA (VT s).1):=by
 refine Xg (xs:=[UA (VT s).1]) Tryz.func64 rfl Tryz.ntmps64 rfl rfl rfl (fun E=> ?_)
 have hN1:=X4O b s (by omega)
 have hok0:=Vh.ok s hs
 have hcs0:=(Vd.keep s).2
 have hnd:VT s=(⟨(XL s).1,(Y2 Ut (XL (XL s).2).1.toNat (XL (XL s).2).2).1,(YG X03 (Y2 Ut (XL (XL s).2).1.toNat (XL (XL s).2).2).2).1⟩,(YG X03 (Y2 Ut (XL (XL s).2).1.toNat (XL (XL s).2).2).2).2):=rfl
 rw[hnd]
 clear hnd
 generalize (XL s).1=id at*
 generalize (XL s).2=s0 at*
 have hN:=X4O b s0 (by rw[hcs0];omega)
 obtain⟨m,hm,hml⟩:=X1A s0
 have hok:=Vh.ok s0 hok0
 have hcs:=(Vd.keep s0).2
 rw[hm] at hN ⊢
 rw[Int.toNat_natCast]
 generalize (XL s0).2=s1 at*
 rw[←hcs0,←hcs] at hc
 have hLb:=XaP X4y X39 (n:=m) hok hc
 generalize hL:Y2 Ut m s1=L at*
 obtain⟨k9,c9,a9,e9⟩:=s
 obtain⟨k0,c0,a0,e0⟩:=s0
 obtain⟨k1,c1,a1,e1⟩:=s1
 simp only at hcs0 hcs hc
 subst hcs
 subst hcs0
 unfold oB at hN1 hN ⊢
 simp only at hN1 hN ⊢
 unfold UA
 refine W7_ ?_;refine Z3 (hcon:=hN1) ?_;refine W8_ ?_;refine Z3 (hcon:=hN) ?_;refine W3_ ?_;refine Xq (X3S 101 1 130 1 rfl rfl rfl rfl rfl) ?_
 refine XK (ι:=List (List UInt8)×Nat×Rd) (fun q=>q.1++(Y2 Ut q.2.1 q.2.2).1=L.1∧(Y2 Ut q.2.1 q.2.2).2=L.2∧q.2.2.c.length≤1073741824∧Uk q.2.2∧q.2.1≤9223372036854775807)
  (fun q=>⟨32,[(0,.ptr 0 0),(2,.ptr 100 0),(3,.ptr 101 0),(4,ai q.2.1)],[(0,.box [.d (Xk (b.drop q.2.2.k)),.d (Xk q.2.2.c),ai q.2.2.a,ai q.2.2.e]),(100,.box [ai 0,ani,ani]),(101,.box [ai id,.own 130 (q.1.map Xl).length,ani]),(130,.row 1 (q.1.map Xl))]⟩) (fun q=>q.2.1) ([],m,⟨k1,c1,a1,e1⟩)
  ⟨by rw[hL];rfl,by rw[hL],hc,hok,hml⟩
  (Xd rfl JM ⟨rfl,rfl,rfl,rfl,trivial⟩) ?_
 clear hN hN1 hm
 rintro⟨acc,j,s⟩ ⟨h1,h2,h3,h4,h5⟩
 simp only at h1 h2 h3 h4 h5
 have hroom0:=Xab h1 hLb
 have hroom:(acc.map Xl).length≤1073741825:=by rw[List.length_map];exact hroom0
 by_cases hj:j=0∨s.e≠0
 ·have hLL:=X3X h1 h2 hj
  subst hLL
  have hp:=Xd6 b s h4 h3
  have hgd:(¬(0:Int)<(j:Nat))∨((0:Int)<(j:Nat)∧s.e≠0):=by
   rcases hj with rfl|h
   ·exact .inl (by simp)
   ·by_cases h0:(0:Int)<(j:Nat)
    ·exact .inr ⟨h0,h⟩
    ·exact .inl h0
  simp only
  unfold oB at hp
  generalize (YG X03 s).1=ps at*
  generalize (YG X03 s).2=s' at*
  obtain⟨k,c,a,e⟩:=s
  obtain⟨k',c',a',e'⟩:=s'
  simp only at hp hgd ⊢
  rcases hgd with hj'|⟨hj',he⟩
  ·refine W6_ ?_;refine QW ?_;refine QU ?_;refine W2_ ?_;refine Qof ?_;refine Xq (X0v 101 1 130 rfl rfl rfl rfl) ?_;refine W2_ ?_;refine Z3 (hcon:=hp) ?_;refine W8_ ?_;exact Qig
  ·refine Xi ?_;refine QDe ?_;refine W2_ ?_;refine Qof ?_;refine Xq (X0v 101 1 130 rfl rfl rfl rfl) ?_;refine W2_ ?_;refine Z3 (hcon:=hp) ?_;refine W8_ ?_;exact Qig
 obtain⟨i,rfl⟩:∃i,j=i+1:=⟨j-1,by omega⟩
 have hj':(0:Int)<(i+1:Nat):=by omega
 have he:s.e=0:=by
  by_cases q:s.e=0
  ·exact q
  ·exact absurd (.inr q) hj
 rw[X3b he] at h1 h2
 simp only at h1 h2
 have hn:=XaZ b s (by omega)
 have hc2:=(X4y.keep s).2
 have hok2:=X39.ok s h4
 generalize (Ut s).1=nm at*
 generalize (Ut s).2=s2 at*
 have h3':s2.c.length≤1073741824:=by rw[hc2];exact h3
 have happ:(acc++[nm]).map Xl=acc.map Xl++[Xl nm]:=by simp
 obtain⟨k,c,a,e⟩:=s
 obtain⟨k2,c2,a2,e2⟩:=s2
 simp only at he
 subst he
 unfold oB at hn
 simp only at hn
 refine Xi ?_;refine Qaf ?_;refine QLd ?_;refine W7_ ?_
 (refine Z1 (op:= .sub) (r':=nj i) (u:= .int .i64 ((i+1:Nat):Int)) (v:= .int .i64 1) ?_ (hr':=by exact congrArg (Value.int .i64) (show(((i+1:Nat):Int)-1)=(i:Int) by omega)) (hr:=by exact Yl (by unfold XT;omega)))
 refine W2_ ?_
 refine⟨(acc++[nm],i,⟨k2,c2,a2,e2⟩),⟨by simpa using h1,h2,h3',hok2,by simp only;omega⟩,by show i<i+1;omega,?_⟩
 rw[happ]
 exact Xd rfl JM ⟨rfl,rfl,by refine Eq.trans (b:=AObj.box [_,.own 130 (_+_),_]) rfl ?_;simp only[List.length_append,List.length_cons,List.length_nil],rfl,trivial⟩
theorem Xs6 (b:List UInt8) (s:Rd) (hs:Uk s) (hc:s.c.length≤1073741824):Con Tryz.prog 65 [(0,oB b s)] [.ptr 0 0] [(0,oB b (UD s).2)] (.agg [ai (UD s).1.id,ai (UD s).1.src,ai (UD s).1.dst,XH (UD s).1.typ,.d (.sl 6 ((UD s).1.props.map Xh))]):=by
 refine Xg (xs:=[.agg [ai (UD s).1.id,ai (UD s).1.src,ai (UD s).1.dst,XH (UD s).1.typ,.d (.sl 6 ((UD s).1.props.map Xh))]]) Tryz.func65 rfl Tryz.ntmps65 rfl rfl rfl (fun E=> ?_)
 have h1:=X4O b s (by omega)
 have o1:=Vh.ok s hs
 have c1:=(Vd.keep s).2
 unfold UD
 simp only
 generalize (XL s).1=x1 at*
 generalize (XL s).2=s1 at*
 have h2:=X4O b s1 (by rw[c1];omega)
 have o2:=Vh.ok s1 o1
 have c2:=(Vd.keep s1).2
 generalize (XL s1).1=x2 at*
 generalize (XL s1).2=s2 at*
 have h3:=X4O b s2 (by rw[c2,c1];omega)
 have o3:=Vh.ok s2 o2
 have c3:=(Vd.keep s2).2
 generalize (XL s2).1=x3 at*
 generalize (XL s2).2=s3 at*
 have h4:=XaZ b s3 (by rw[c3,c2,c1];omega)
 have o4:=X39.ok s3 o3
 have c4:=(X4y.keep s3).2
 generalize (Ut s3).1=x4 at*
 generalize (Ut s3).2=s4 at*
 have h5:=Xd6 b s4 o4 (by rw[c4,c3,c2,c1];omega)
 generalize (YG X03 s4).1=x5 at*
 generalize (YG X03 s4).2=s5 at*
 clear o1 o2 o3 o4 c1 c2 c3 c4 hs
 obtain⟨k0,c0,a0,e0⟩:=s
 obtain⟨k1,c1,a1,e1⟩:=s1
 obtain⟨k2,c2,a2,e2⟩:=s2
 obtain⟨k3,c3,a3,e3⟩:=s3
 obtain⟨k4,c4,a4,e4⟩:=s4
 obtain⟨k5,c5,a5,e5⟩:=s5
 unfold oB at*
 simp only at*
 refine Xi ?_;refine Z3 (hcon:=h1) ?_;refine W6_ ?_;refine Z3 (hcon:=h2) ?_;refine W6_ ?_;refine Z3 (hcon:=h3) ?_;refine W6_ ?_;refine Z3 (hcon:=h4) ?_;refine W6_ ?_;refine Z3 (hcon:=h5) ?_;refine W8_ ?_;exact QIe
theorem Xfz (x y:List UInt8):Con Tryz.prog 163 [] [.d (Xk x),.d (Xk y)] [] (ab (decide (x=y))):=by
 refine Xg (xs:=[ab (decide (x=y))]) Tryz.func163 rfl Tryz.ntmps163 rfl rfl rfl (fun E=> ?_)
 refine Xr ?_;exact Qp
theorem X60:(U1.map Xc).length=4:=rfl
theorem Xqq (b:List UInt8):Con Tryz.prog 105 [] [.d (Xk b),.d (Xk U1)] [] (ab (decide (b.take 4=U1))):=by
 refine Xg (xs:=[ab (decide (b.take 4=U1))]) Tryz.func105 rfl Tryz.ntmps105 rfl rfl rfl (fun E=> ?_)
 have hlm:(b.map Xc).length=b.length:=by simp
 have hc:=Xfz (b.take 4) U1
 have hg4:U1.length=4:=rfl
 by_cases h4:4≤b.length
 ·have h4':((U1.map Xc).length:Int)≤(b.map Xc).length:=by rw[X60];omega
  have hsl:((b.map Xc).take (U1.map Xc).length).drop 0=(b.take 4).map Xc:=by rw[X60,List.drop_zero,List.map_take]
  have hle:(U1.map Xc).length≤(b.map Xc).length:=by omega
  generalize decide (b.take 4=U1)=r at*
  refine XA ?_;refine Z7 (lb:=0) (hb:=(U1.map Xc).length) (ys:=(b.take 4).map Xc) ?_ (hys:=by exact hsl);refine W1_ ?_;refine QJd ?_;exact QBa
 ·have h4':¬((U1.map Xc).length:Int)≤(b.map Xc).length:=by rw[X60];omega
  rw[decide_eq_false (fun h=>by have:=congrArg List.length h;simp[U1] at this;omega)]
  refine Xt ?_;exact Qva
theorem Xkh (b:List UInt8):Con Tryz.prog 66 [] [.d (Xk b),.d (Xk U1)] [] (.tup [.d (Xk (if b.take 4=U1 then b.drop 4 else b)),ab (decide (b.take 4=U1))]):=by
 refine Xg (xs:=[.d (Xk (if b.take 4=U1 then b.drop 4 else b)),ab (decide (b.take 4=U1))]) Tryz.func66 rfl Tryz.ntmps66 rfl rfl rfl (fun E=> ?_)
 have hlm:(b.map Xc).length=b.length:=by simp
 have hc:=Xqq b
 have hg4:U1.length=4:=rfl
 by_cases h:b.take 4=U1
 ·rw[if_pos h]
  rw[decide_eq_true h] at hc ⊢
  have h4:(U1.map Xc).length≤(b.map Xc).length:=by
   have:=congrArg List.length h
   simp only[List.length_take] at this
   have h4:U1.length=4:=rfl
   rw[X60]
   omega
  have hsl:((b.map Xc).take (b.map Xc).length).drop (U1.map Xc).length=(b.drop 4).map Xc:=by rw[X60,List.take_length,List.map_drop]
  refine Qjg ?_;refine W2_ ?_;refine Qia ?_;refine Z7 (lb:=(U1.map Xc).length) (hb:=(b.map Xc).length) (ys:=(b.drop 4).map Xc) ?_ (hys:=by exact hsl);exact QPc
 ·rw[if_neg h]
  rw[decide_eq_false h] at hc ⊢
  refine Qjg ?_;refine W2_ ?_;refine Qb ?_;exact QOc
def X0U (b:List UInt8):List UInt8:=if b.take 4=U1 then b.drop 4 else []
def X11 (b:List UInt8):Rd:=⟨0,[],0,if b.take 4=U1 then 0 else 2⟩
theorem Xnd (b:List UInt8):Con Tryz.prog 22 [] [.d (Xk b),XH U1] [(100,oB (X0U b) (X11 b))] (.ptr 100 0):=by
 refine Xg (xs:=[.ptr 100 0]) Tryz.func22 rfl Tryz.ntmps22 rfl rfl rfl (fun E=> ?_)
 have hc:=Xkh b
 have hg4:U1.length≤9223372036854775807:=by decide
 unfold X0U X11 oB
 by_cases h:b.take 4=U1
 ·rw[if_pos h] at hc ⊢
  rw[if_pos h]
  rw[decide_eq_true h] at hc
  simp only[List.drop_zero]
  refine Qhe ?_;refine Xt ?_;refine QWb ?_;exact Qkg
 ·rw[if_neg h] at hc ⊢
  rw[if_neg h]
  rw[decide_eq_false h] at hc
  simp only[List.drop_zero]
  refine Qhe ?_;refine Xt ?_;refine Qb ?_;exact Qlg
structure RdInv (b:List UInt8) (s:Rd):Prop where
 k:s.k≤b.length
 ok:Uk s
 c:s.c.length≤b.length
theorem Xr0 {b:List UInt8}{a:Int} (h:(UZ b a).2.2≠0):(UZ b a).1=[]:=by
 unfold UZ at h ⊢
 simp only at h ⊢
 split
 ·rfl
 ·split
  ·rfl
  ·split
   ·rfl
   ·rename_i h1 h2 h3
    rw[if_neg h1,if_neg h2,if_neg h3] at h
    exact absurd rfl h
theorem X2n {b:List UInt8}{s:Rd} (hi:RdInv b s):RdInv b (Yu b s)∧(s.e=0→(Yu b s).e=0→s.k+1≤(Yu b s).k):=by
 unfold Yu
 by_cases q:s.e=0
 ·rw[if_neg (by simp[q])]
  simp only
  generalize hu:UZ (b.drop s.k) 0=u
  obtain⟨c,z,er⟩:=u
  simp only
  by_cases h:er=0
  ·subst h
   rw[if_pos rfl]
   obtain⟨h1,h2,h3,h4⟩:=XgU hu
   have hl:=congrArg List.length h4
   have h4':(Vq c).length=4:=rfl
   simp only[YM,List.length_take,List.length_drop,List.length_append] at hl h3
   have:=hi.k
   refine⟨⟨by simp only;omega,⟨by simp,by simp⟩,by simp only;omega⟩,fun _ _=>by omega⟩
  ·rw[if_neg h]
   have he:=Xr0 (b:=b.drop s.k) (a:=0) (by rw[hu];exact h)
   rw[hu] at he
   simp only at he
   subst he
   exact⟨⟨hi.k,⟨by simp,by simp⟩,by simp⟩,fun _ h'=>absurd h' h⟩
 ·rw[if_pos q]
  exact⟨hi,fun h=>absurd h q⟩
theorem X98 {b:List UInt8}{s:Rd} (hi:RdInv b s):RdInv b (UJ s)∧(UJ s).k=s.k∧((UJ s).e=0→s.e=0):=by
 unfold UJ
 split
 ·rename_i h
  exact⟨⟨hi.k,hi.ok,hi.c⟩,rfl,fun _=>h.1⟩
 ·exact⟨hi,rfl,id⟩
theorem X2P {α:Type}{f:Rd→α×Rd}{b:List UInt8}{s:Rd} (hp:PartR f) (ho:∀s,Uk s→Uk (f s).2) (hi:RdInv b s):RdInv b (f s).2:=by
 obtain⟨h1,h2⟩:=hp.keep s
 exact⟨by rw[h1];exact hi.k,ho s hi.ok,by rw[h2];exact hi.c⟩
theorem X4a {α:Type}{f:Rd→α×Rd}{b:List UInt8}{s:Rd} (hp:PartR f) (ho:∀s,Uk s→Uk (f s).2) (hi:RdInv b s):RdInv b (Ys b f s).2∧(s.e=0→(Ys b f s).2.e=0→s.k+1≤(Ys b f s).2.k):=by
 obtain⟨h1,h2⟩:=X2n hi
 have h3:=X2P hp ho h1
 obtain⟨h4,h5,h6⟩:=X98 h3
 refine⟨h4,fun q he=> ?_⟩
 have e1:=h6 he
 have e2:=hp.back e1
 have:=h2 q e2
 show s.k+1≤(UJ (f (Yu b s)).2).k
 rw[h5,(hp.keep _).1]
 exact this
theorem X4o {α:Type}{f:Rd→α×Rd}{b:List UInt8} (hp:PartR f) (ho:∀s,Uk s→Uk (f s).2):∀(n:Nat) (s:Rd),RdInv b s→RdInv b (Y2 (Ys b f) n s).2∧(Y2 (Ys b f) n s).1.length≤b.length-s.k+1
 |0,s,hi=>⟨hi,by simp[Y2]⟩
 |n+1,s,hi=>by
  rw[Y2]
  by_cases q:s.e=0
  ·rw[if_neg (by simp[q])]
   simp only[List.length_cons]
   obtain⟨h1,h2⟩:=X4a hp ho hi
   obtain⟨h3,h4⟩:=X4o hp ho n (Ys b f s).2 h1
   refine⟨h3,?_⟩
   by_cases q2:(Ys b f s).2.e=0
   ·have:=h2 q q2
    have:=h1.k
    omega
   ·rw[X64 q2]
    simp
  ·rw[if_pos q]
   exact⟨hi,by simp⟩
theorem XdK:∀s,Uk s→Uk (Vn s).2:=(X66 (z:=zR) (f:=X1F) (d:=0) (by omega) fun c a x e h=>by
 have ho:XbS (fun r=>X05 r=0) UG Vn:=XmF
 by_cases ha:0≤a∧a≤c.length
 ·have:=ho ⟨0,c,a,0⟩ ha.1 ha.2 (by unfold Vn Vc;rw[if_neg (by simp)];simp only[h,Rd.put])
  unfold Vn Vc at this
  rw[if_neg (by simp)] at this
  simp only[h,Rd.put,if_true] at this
  exact⟨by have:=this.1.2.1;omega,this.1.2.2.1⟩
 ·unfold X1F at h
  rw[if_pos (by omega)] at h
  simp at h).ok
theorem XdC:∀s,Uk s→Uk (VT s).2:=fun s hs=>X8a Xcv (X8a X39 (Vh.ok s hs))
theorem Xi9:∀s,Uk s→Uk (UD s).2:=fun s hs=>X8a Xcv (X39.ok _ (Vh.ok _ (Vh.ok _ (Vh.ok s hs))))
theorem X52 (b:List UInt8) (s:Rd) (hb:b.length≤140737488355328):Con Tryz.prog 23 [(140,oB b s)] [.ptr 140 0] [(140,oB b (Yu b s))] (.tup []):=U0 0 140 (XjX b s hb)
theorem X5g (b:List UInt8) (s:Rd):Con Tryz.prog 25 [(140,oB b s)] [.ptr 140 0] [(140,oB b (UJ s))] (.tup []):=U0 0 140 (XlF b s)
theorem X9i (b:List UInt8) (s:Rd) (hk:s.k≤b.length):Con Tryz.prog 28 [(140,oB b s)] [.ptr 140 0] [(140,oB b (VU b s))] (ai (VU b s).e):=U0 0 140 (XkA b s hk)
theorem X3E (b:List UInt8) (s:Rd) (hc:s.c.length≤281474976710656):Con Tryz.prog 24 [(140,oB b s)] [.ptr 140 0] [(140,oB b (XL s).2)] (ai (XL s).1):=U0 0 140 (X4O b s hc)
theorem Xr9 (b:List UInt8) (s:Rd) (hc:s.c.length≤281474976710656):Con Tryz.prog 62 [(140,oB b s)] [.ptr 140 0,.fn 63 []] [(140,oB b (Vn s).2)] (UN (Vn s).1):=U0 0 140 (XmU b s hc)
theorem Xjb (b:List UInt8) (s:Rd) (hs:Uk s) (hc:s.c.length≤1073741824):Con Tryz.prog 64 [(140,oB b s)] [.ptr 140 0] [(140,oB b (VT s).2)] (UA (VT s).1):=U0 0 140 (Xq2 b s hs hc)
theorem Xro (b:List UInt8) (s:Rd) (hs:Uk s) (hc:s.c.length≤1073741824):Con Tryz.prog 65 [(140,oB b s)] [.ptr 140 0] [(140,oB b (UD s).2)] (.agg [ai (UD s).1.id,ai (UD s).1.src,ai (UD s).1.dst,XH (UD s).1.typ,.d (.sl 6 ((UD s).1.props.map Xh))]):=U0 0 140 (Xs6 b s hs hc)
theorem Xnc (b:List UInt8):Con Tryz.prog 22 [] [.d (Xk b),XH U1] [(140,oB (X0U b) (X11 b))] (.ptr 140 0):=U0 100 140 (Xnd b)
def X3n (x:Gra×List Rul) (e:Int):Gra×List Rul×Int:=
 let e':=if e≠0 then e else if YH x.1≠0 then YH x.1 else if X1k x.2=false then 19 else 0
 if e'≠0 then (YL,[],e') else (x.1,x.2,0)
theorem Xs3 {x:Gra×List Rul}{e:Int} (h:e≠0):X3n x e=(YL,[],e):=by
 unfold X3n
 simp[h]
theorem XnY {g:Gra}{l:List Rul} (h:YH g≠0):X3n (g,l) 0=(YL,[],YH g):=by
 unfold X3n
 simp[h]
theorem Xrf {g:Gra}{l:List Rul} (h:YH g=0) (hs:X1k l=false):X3n (g,l) 0=(YL,[],19):=by
 unfold X3n
 simp[h,hs]
theorem XmZ {g:Gra}{l:List Rul} (h:YH g=0) (hs:X1k l=true):X3n (g,l) 0=(g,l,0):=by
 unfold X3n
 simp[h,hs]
theorem X5E {α:Type}{f:Rd→α×Rd}{b:List UInt8}{n:Nat}{s:Rd} (h:s.e≠0):Y2 (Ys b f) n s=([],s):=X64 h
theorem XhG {s:Rd} (h:s.e≠0):XL s=(0,s):=XfP h
theorem Xe1 {b:List UInt8}{s:Rd} (h:s.e≠0):X2i b s=((⟨[],[],0,0⟩,[]),s):=by
 have hh:XcA b s=((0,0,0,0,0),s):=by
  rw[XfY]
  unfold Ys Xa2
  simp only[Xb7 h,XhG h,Xcd h]
 unfold X2i
 rw[hh]
 simp only[X5E h]
 unfold VU
 rw[if_neg (fun q=>h q.1)]
theorem Xrg (b:List UInt8):X1J b=X3n (X2i (X0U b) (X11 b)).1 (X2i (X0U b) (X11 b)).2.e:=by
 unfold X1J X0U X11
 by_cases h:b.take 4=U1
 ·rw[if_pos h,if_pos h];rfl
 ·rw[if_neg h,if_neg h,Xe1 (by simp),Xe1 (by simp)];rfl
theorem XkU (b:List UInt8):RdInv (X0U b) (X11 b):=⟨Nat.zero_le _,⟨Int.le_refl _,by simp[X11]⟩,by simp[X11]⟩
theorem Xkg (b:List UInt8):(X0U b).length≤b.length:=by
 unfold X0U
 split<;>simp
theorem Xbk (b:List UInt8) (hb:b.length≤1073741824) (hh:GraHold (X2i (X0U b) (X11 b)).1.1):Con Tryz.prog 21 [] [.d (Xk b)] [] (.tup [XG (X1J b).1,.d (.sl 6 ((X1J b).2.1.map Ub)),ai (X1J b).2.2]):=by
 refine Xg (xs:=[XG (X1J b).1,.d (.sl 6 ((X1J b).2.1.map Ub)),ai (X1J b).2.2]) Tryz.func21 rfl Tryz.ntmps21 rfl rfl rfl (fun E=> ?_)
 have hbl:=Xkg b
 have hinv:=XkU b
 rw[Xrg b]
 have k0:=Xnc b
 unfold X2i at hh ⊢
 rw[XfY] at hh ⊢
 generalize X0U b=b' at*
 generalize X11 b=s0 at*
 have ko:=X52 b' s0 (by omega)
 have hi1:=(X2n hinv).1
 have hhd:Ys b' Xa2 s0=(((XL (Yu b' s0)).1,(XL (XL (Yu b' s0)).2).1,(XL (XL (XL (Yu b' s0)).2).2).1,(XL (XL (XL (XL (Yu b' s0)).2).2).2).1,(XL (XL (XL (XL (XL (Yu b' s0)).2).2).2).2).1),
  UJ (XL (XL (XL (XL (XL (Yu b' s0)).2).2).2).2).2):=rfl
 rw[hhd] at hh ⊢
 clear hhd
 simp only at hh ⊢
 generalize Yu b' s0=o1 at*
 have h1:=X3E b' o1 (by have:=hi1.c;omega)
 have hi2:=X2P Vd Vh.ok hi1
 obtain⟨m1,hm1,hml1⟩:=X1A o1
 rw[hm1] at h1
 generalize ho2:(XL o1).2=o2 at*
 have h2:=X3E b' o2 (by have:=hi2.c;omega)
 have hi3:=X2P Vd Vh.ok hi2
 obtain⟨m2,hm2,hml2⟩:=X1A o2
 rw[hm2] at h2
 generalize ho3:(XL o2).2=o3 at*
 have h3:=X3E b' o3 (by have:=hi3.c;omega)
 have hi4:=X2P Vd Vh.ok hi3
 obtain⟨m3,hm3,hml3⟩:=X1A o3
 rw[hm3] at h3
 generalize ho4:(XL o3).2=o4 at*
 have h4:=X3E b' o4 (by have:=hi4.c;omega)
 have hi5:=X2P Vd Vh.ok hi4
 obtain⟨m4,hm4,hml4⟩:=X1A o4
 rw[hm4] at h4
 generalize ho5:(XL o4).2=o5 at*
 have h5:=X3E b' o5 (by have:=hi5.c;omega)
 have hi6:=X2P Vd Vh.ok hi5
 obtain⟨m5,hm5,hml5⟩:=X1A o5
 rw[hm5] at h5
 generalize ho6:(XL o5).2=o6 at*
 have ks:=X5g b' o6
 have hinv:=(X98 hi6).1
 simp only[hm1,hm2,hm3,hm4,hm5,Int.toNat_natCast] at hh ⊢
 generalize UJ o6=s7 at*
 clear hm1 hm2 hm3 hm4 hm5
 obtain⟨p0,q0,r0,t0⟩:=s0
 obtain⟨p1,q1,r1,t1⟩:=o1
 obtain⟨p2,q2,r2,t2⟩:=o2
 obtain⟨p3,q3,r3,t3⟩:=o3
 obtain⟨p4,q4,r4,t4⟩:=o4
 obtain⟨p5,q5,r5,t5⟩:=o5
 obtain⟨p6,q6,r6,t6⟩:=o6
 obtain⟨p7,q7,r7,t7⟩:=s7
 unfold oB at k0 ko h1 h2 h3 h4 h5 ks
 simp only at k0 ko h1 h2 h3 h4 h5 ks
 clear ho2 ho3 ho4 ho5 ho6 hi1 hi2 hi3 hi4 hi5 hi6
 refine W9_ ?_;refine Z3 (hcon:=k0) ?_;refine W5_ ?_;refine Z3 (hcon:=ko) ?_;refine W8_ ?_;refine Z3 (hcon:=h1) ?_;refine W6_ ?_;refine Z3 (hcon:=h2) ?_;refine W6_ ?_;refine Z3 (hcon:=h3) ?_;refine W1_ ?_;refine Z3 (hcon:=h4) ?_;refine W1_ ?_;refine Z3 (hcon:=h5) ?_;refine W7_ ?_;refine Z3 (hcon:=ks) ?_;refine W6_ ?_
 clear k0 ko h1 h2 h3 h4 h5 ks
 have hLbR:=X4o (b:=b') XcW XdK m3 ⟨p7,q7,r7,t7⟩ hinv
 generalize hLR:Y2 (Ys b' Vn) m3 ⟨p7,q7,r7,t7⟩=R at*
 refine X2h ⟨113,[(2,.ptr 100 0),(5,.ptr 140 0),(6,.ptr 101 0),(8,ai m4),(9,ai m5),(10,.d (.sl 6 (R.1.map Ub)))],[(100,.box [ani,ani,ai 0,ai 0]),(101,.box [ani,ani,ai m1,ai m2]),(140,.box [.d (Xk (b'.drop R.2.k)),.d (Xk R.2.c),ai R.2.a,ai R.2.e])]⟩ ?_ ?_
 ·refine Xq (V3 10 130 6 rfl rfl rfl) ?_;refine W1_ ?_
  refine XK (ι:=List Rul×Nat×Rd) (fun q=>q.1++(Y2 (Ys b' Vn) q.2.1 q.2.2).1=R.1∧(Y2 (Ys b' Vn) q.2.1 q.2.2).2=R.2∧RdInv b' q.2.2∧q.2.1≤9223372036854775807) (fun q=>⟨113,[(2,.ptr 100 0),(5,.ptr 140 0),(6,.ptr 101 0),(7,ai q.2.1),(8,ai m4),(9,ai m5),(10,.own 130 (q.1.map Ub).length)],[(100,.box [ani,ani,ai 0,ai 0]),(101,.box [ani,ani,ai m1,ai m2]),(130,.row 6 (q.1.map Ub)),(140,.box [.d (Xk (b'.drop q.2.2.k)),.d (Xk q.2.2.c),ai q.2.2.a,ai q.2.2.e])]⟩) (fun q=>q.2.1) ([],m3,⟨p7,q7,r7,t7⟩)
   ⟨by rw[hLR];rfl,by rw[hLR],hinv,hml3⟩
   (Xd rfl JM ⟨rfl,rfl,rfl,rfl,trivial⟩) ?_
  clear hinv
  rintro⟨acc,j,s⟩ ⟨g1,g2,hinv,g4⟩
  simp only at g1 g2 hinv g4
  have hroom0:acc.length≤1073741825:=by
   have h1:=congrArg List.length g1
   have h2:=hLbR.2
   simp only[List.length_append] at h1
   omega
  have hroom:(acc.map Ub).length≤1073741825:=by rw[List.length_map];exact hroom0
  by_cases hj:j=0∨s.e≠0
  ·have hLL:=X3X g1 g2 hj
   subst hLL
   have hgd:(¬(0:Int)<(j:Nat))∨((0:Int)<(j:Nat)∧s.e≠0):=by
    rcases hj with rfl|h
    ·exact .inl (by simp)
    ·by_cases h0:(0:Int)<(j:Nat)
     ·exact .inr ⟨h0,h⟩
     ·exact .inl h0
   obtain⟨k,c,a,e⟩:=s
   simp only at hgd ⊢
   rcases hgd with hj'|⟨hj',he⟩
   ·refine Qmg ?_;refine St.le_trans (Yg 130 rfl) ?_;refine St.le_trans (Yx 10 130 rfl rfl rfl) ?_;exact Qng
   ·refine QUf ?_;refine St.le_trans (Yg 130 rfl) ?_;refine St.le_trans (Yx 10 130 rfl rfl rfl) ?_;exact Qng
  obtain⟨i,rfl⟩:∃i,j=i+1:=⟨j-1,by omega⟩
  have hj':(0:Int)<(i+1:Nat):=by omega
  have he:s.e=0:=by
   by_cases q:s.e=0
   ·exact q
   ·exact absurd (.inr q) hj
  rw[X3b he] at g1 g2
  simp only at g1 g2
  have hv1:=(X2n hinv).1
  have hv3:=(X4a (f:=Vn) XcW XdK hinv).1
  have k1:=X52 b' s (by omega)
  have k2:=Xr9 b' (Yu b' s) (by have:=hv1.c;omega)
  have k3:=X5g b' (Vn (Yu b' s)).2
  have hit:Ys b' Vn s=((Vn (Yu b' s)).1,UJ (Vn (Yu b' s)).2):=rfl
  rw[hit] at g1 g2 hv3
  simp only at g1 g2 hv3
  generalize UJ (Vn (Yu b' s)).2=s3 at*
  generalize (Vn (Yu b' s)).2=s2 at*
  generalize (Vn (Yu b' s)).1=x at*
  generalize Yu b' s=s1 at*
  have happ:(acc++[x]).map Ub=acc.map Ub++[Ub x]:=by simp
  clear hit hv1 hj hLR
  obtain⟨k,c,a,e⟩:=s
  obtain⟨k',c',a',e'⟩:=s1
  obtain⟨k'',c'',a'',e''⟩:=s2
  obtain⟨k4,c4,a4,e4⟩:=s3
  simp only at he
  subst he
  unfold oB at k1 k2 k3
  obtain⟨rk,rn,rname,rkey,rsrc,rdst⟩:=x
  simp only[UN] at k1 k2 k3
  refine Qt ?_;refine Qb ?_;refine Z3 (hcon:=k1) ?_;refine W5_ ?_;refine Z3 (hcon:=k2) ?_;refine W6_ ?_;refine Z3 (hcon:=k3) ?_;refine W3_ ?_
  (refine Z1 (op:= .sub) (r':=nj i) (u:= .int .i64 ((i+1:Nat):Int)) (v:= .int .i64 1) ?_ (hr':=by exact congrArg (Value.int .i64) (show(((i+1:Nat):Int)-1)=(i:Int) by omega)) (hr:=by exact Yl (by unfold XT;omega)))
  refine W2_ ?_
  refine⟨(acc++[_],i,⟨k4,c4,a4,e4⟩),⟨by simpa using g1,g2,hv3,by simp only;omega⟩,by show i<i+1;omega,?_⟩
  rw[happ]
  exact Xd rfl ⟨JL,JL,JL,JL,JL,JL,AVal.le_of_eq (by refine Eq.trans (b:=AVal.own 130 (_+_)) rfl ?_;simp only[List.length_append,List.length_cons,List.length_nil]),trivial⟩ ⟨rfl,rfl,rfl,rfl,trivial⟩
 have hinv:=hLbR.1
 refine W1_ ?_
 have hLbN:=X4o (b:=b') Xiv XdC m4 R.2 hinv
 generalize hLN:Y2 (Ys b' VT) m4 R.2=N at*
 refine X2h ⟨113,[(2,.ptr 100 0),(5,.ptr 140 0),(6,.ptr 101 0),(9,ai m5),(10,.d (.sl 6 (R.1.map Ub)))],[(100,.box [ani,ani,ai 0,ai 0]),(101,.box [.d (.sl 3 (N.1.map Xp)),ani,ai m1,ai m2]),(140,.box [.d (Xk (b'.drop N.2.k)),.d (Xk N.2.c),ai N.2.a,ai N.2.e])]⟩ ?_ ?_
 ·refine Xq (X3S 101 0 131 3 rfl rfl rfl rfl rfl) ?_;refine W1_ ?_
  refine XK (ι:=List Nod×Nat×Rd) (fun q=>q.1++(Y2 (Ys b' VT) q.2.1 q.2.2).1=N.1∧(Y2 (Ys b' VT) q.2.1 q.2.2).2=N.2∧RdInv b' q.2.2∧q.2.1≤9223372036854775807) (fun q=>⟨113,[(2,.ptr 100 0),(5,.ptr 140 0),(6,.ptr 101 0),(8,ai q.2.1),(9,ai m5),(10,.d (.sl 6 (R.1.map Ub)))],[(100,.box [ani,ani,ai 0,ai 0]),(101,.box [.own 131 (q.1.map Xp).length,ani,ai m1,ai m2]),(131,.row 3 (q.1.map Xp)),(140,.box [.d (Xk (b'.drop q.2.2.k)),.d (Xk q.2.2.c),ai q.2.2.a,ai q.2.2.e])]⟩) (fun q=>q.2.1) ([],m4,R.2)
   ⟨by rw[hLN];rfl,by rw[hLN],hinv,hml4⟩
   (Xd rfl JM ⟨rfl,rfl,rfl,rfl,trivial⟩) ?_
  clear hinv
  rintro⟨acc,j,s⟩ ⟨g1,g2,hinv,g4⟩
  simp only at g1 g2 hinv g4
  have hroom0:acc.length≤1073741825:=by
   have h1:=congrArg List.length g1
   have h2:=hLbN.2
   simp only[List.length_append] at h1
   omega
  have hroom:(acc.map Xp).length≤1073741825:=by rw[List.length_map];exact hroom0
  by_cases hj:j=0∨s.e≠0
  ·have hLL:=X3X g1 g2 hj
   subst hLL
   have hgd:(¬(0:Int)<(j:Nat))∨((0:Int)<(j:Nat)∧s.e≠0):=by
    rcases hj with rfl|h
    ·exact .inl (by simp)
    ·by_cases h0:(0:Int)<(j:Nat)
     ·exact .inr ⟨h0,h⟩
     ·exact .inl h0
   obtain⟨k,c,a,e⟩:=s
   simp only at hgd ⊢
   rcases hgd with hj'|⟨hj',he⟩
   ·refine Qmg ?_;refine St.le_trans (Yg 131 rfl) ?_;refine St.le_trans (X0v 101 0 131 rfl rfl rfl rfl) ?_;exact Qng
   ·refine QUf ?_;refine St.le_trans (Yg 131 rfl) ?_;refine St.le_trans (X0v 101 0 131 rfl rfl rfl rfl) ?_;exact Qng
  obtain⟨i,rfl⟩:∃i,j=i+1:=⟨j-1,by omega⟩
  have hj':(0:Int)<(i+1:Nat):=by omega
  have he:s.e=0:=by
   by_cases q:s.e=0
   ·exact q
   ·exact absurd (.inr q) hj
  rw[X3b he] at g1 g2
  simp only at g1 g2
  have hv1:=(X2n hinv).1
  have hv3:=(X4a (f:=VT) Xiv XdC hinv).1
  have k1:=X52 b' s (by omega)
  have k2:=Xjb b' (Yu b' s) hv1.ok (by have:=hv1.c;omega)
  have k3:=X5g b' (VT (Yu b' s)).2
  have hit:Ys b' VT s=((VT (Yu b' s)).1,UJ (VT (Yu b' s)).2):=rfl
  rw[hit] at g1 g2 hv3
  simp only at g1 g2 hv3
  generalize UJ (VT (Yu b' s)).2=s3 at*
  generalize (VT (Yu b' s)).2=s2 at*
  generalize (VT (Yu b' s)).1=x at*
  generalize Yu b' s=s1 at*
  have happ:(acc++[x]).map Xp=acc.map Xp++[Xp x]:=by simp
  clear hit hv1 hj hLN
  obtain⟨k,c,a,e⟩:=s
  obtain⟨k',c',a',e'⟩:=s1
  obtain⟨k'',c'',a'',e''⟩:=s2
  obtain⟨k4,c4,a4,e4⟩:=s3
  simp only at he
  subst he
  unfold oB at k1 k2 k3
  obtain⟨nid,nls,nps⟩:=x
  simp only[UA] at k1 k2 k3
  refine Qt ?_;refine Qb ?_;refine Z3 (hcon:=k1) ?_;refine W6_ ?_;refine Z3 (hcon:=k2) ?_;refine W7_ ?_;refine Z3 (hcon:=k3) ?_;refine W3_ ?_
  (refine Z1 (op:= .sub) (r':=nj i) (u:= .int .i64 ((i+1:Nat):Int)) (v:= .int .i64 1) ?_ (hr':=by exact congrArg (Value.int .i64) (show(((i+1:Nat):Int)-1)=(i:Int) by omega)) (hr:=by exact Yl (by unfold XT;omega)))
  refine W2_ ?_
  refine⟨(acc++[_],i,⟨k4,c4,a4,e4⟩),⟨by simpa using g1,g2,hv3,by simp only;omega⟩,by show i<i+1;omega,?_⟩
  rw[happ]
  exact Xd rfl JM ⟨rfl,by refine Eq.trans (b:=AObj.box [.own 131 (_+_),_,_,_]) rfl ?_;simp only[List.length_append,List.length_cons,List.length_nil],rfl,rfl,trivial⟩
 have hinv:=hLbN.1
 refine W1_ ?_
 have hLbEE:=X4o (b:=b') XfH Xi9 m5 N.2 hinv
 generalize hLEE:Y2 (Ys b' UD) m5 N.2=EE at*
 refine X2h ⟨113,[(2,.ptr 100 0),(5,.ptr 140 0),(6,.ptr 101 0),(10,.d (.sl 6 (R.1.map Ub)))],[(100,.box [ani,ani,ai 0,ai 0]),(101,.box [.d (.sl 3 (N.1.map Xp)),.d (.sl 5 (EE.1.map Xs)),ai m1,ai m2]),(140,.box [.d (Xk (b'.drop EE.2.k)),.d (Xk EE.2.c),ai EE.2.a,ai EE.2.e])]⟩ ?_ ?_
 ·refine Xq (X3S 101 1 132 5 rfl rfl rfl rfl rfl) ?_;refine W1_ ?_
  refine XK (ι:=List Edg×Nat×Rd) (fun q=>q.1++(Y2 (Ys b' UD) q.2.1 q.2.2).1=EE.1∧(Y2 (Ys b' UD) q.2.1 q.2.2).2=EE.2∧RdInv b' q.2.2∧q.2.1≤9223372036854775807) (fun q=>⟨113,[(2,.ptr 100 0),(5,.ptr 140 0),(6,.ptr 101 0),(9,ai q.2.1),(10,.d (.sl 6 (R.1.map Ub)))],[(100,.box [ani,ani,ai 0,ai 0]),(101,.box [.d (.sl 3 (N.1.map Xp)),.own 132 (q.1.map Xs).length,ai m1,ai m2]),(132,.row 5 (q.1.map Xs)),(140,.box [.d (Xk (b'.drop q.2.2.k)),.d (Xk q.2.2.c),ai q.2.2.a,ai q.2.2.e])]⟩) (fun q=>q.2.1) ([],m5,N.2)
   ⟨by rw[hLEE];rfl,by rw[hLEE],hinv,hml5⟩
   (Xd rfl JM ⟨rfl,rfl,rfl,rfl,trivial⟩) ?_
  clear hinv
  rintro⟨acc,j,s⟩ ⟨g1,g2,hinv,g4⟩
  simp only at g1 g2 hinv g4
  have hroom0:acc.length≤1073741825:=by
   have h1:=congrArg List.length g1
   have h2:=hLbEE.2
   simp only[List.length_append] at h1
   omega
  have hroom:(acc.map Xs).length≤1073741825:=by rw[List.length_map];exact hroom0
  by_cases hj:j=0∨s.e≠0
  ·have hLL:=X3X g1 g2 hj
   subst hLL
   have hgd:(¬(0:Int)<(j:Nat))∨((0:Int)<(j:Nat)∧s.e≠0):=by
    rcases hj with rfl|h
    ·exact .inl (by simp)
    ·by_cases h0:(0:Int)<(j:Nat)
     ·exact .inr ⟨h0,h⟩
     ·exact .inl h0
   obtain⟨k,c,a,e⟩:=s
   simp only at hgd ⊢
   rcases hgd with hj'|⟨hj',he⟩
   ·refine Qmg ?_;refine St.le_trans (Yg 132 rfl) ?_;refine St.le_trans (X0v 101 1 132 rfl rfl rfl rfl) ?_;exact Qng
   ·refine QUf ?_;refine St.le_trans (Yg 132 rfl) ?_;refine St.le_trans (X0v 101 1 132 rfl rfl rfl rfl) ?_;exact Qng
  obtain⟨i,rfl⟩:∃i,j=i+1:=⟨j-1,by omega⟩
  have hj':(0:Int)<(i+1:Nat):=by omega
  have he:s.e=0:=by
   by_cases q:s.e=0
   ·exact q
   ·exact absurd (.inr q) hj
  rw[X3b he] at g1 g2
  simp only at g1 g2
  have hv1:=(X2n hinv).1
  have hv3:=(X4a (f:=UD) XfH Xi9 hinv).1
  have k1:=X52 b' s (by omega)
  have k2:=Xro b' (Yu b' s) hv1.ok (by have:=hv1.c;omega)
  have k3:=X5g b' (UD (Yu b' s)).2
  have hit:Ys b' UD s=((UD (Yu b' s)).1,UJ (UD (Yu b' s)).2):=rfl
  rw[hit] at g1 g2 hv3
  simp only at g1 g2 hv3
  generalize UJ (UD (Yu b' s)).2=s3 at*
  generalize (UD (Yu b' s)).2=s2 at*
  generalize (UD (Yu b' s)).1=x at*
  generalize Yu b' s=s1 at*
  have happ:(acc++[x]).map Xs=acc.map Xs++[Xs x]:=by simp
  clear hit hv1 hj hLEE
  obtain⟨k,c,a,e⟩:=s
  obtain⟨k',c',a',e'⟩:=s1
  obtain⟨k'',c'',a'',e''⟩:=s2
  obtain⟨k4,c4,a4,e4⟩:=s3
  simp only at he
  subst he
  unfold oB at k1 k2 k3
  obtain⟨eid,esrc,edst,etyp,eps⟩:=x
  simp only at k1 k2 k3
  refine Qt ?_;refine Qb ?_;refine Z3 (hcon:=k1) ?_;refine W6_ ?_;refine Z3 (hcon:=k2) ?_;refine W7_ ?_;refine Z3 (hcon:=k3) ?_;refine W3_ ?_
  (refine Z1 (op:= .sub) (r':=nj i) (u:= .int .i64 ((i+1:Nat):Int)) (v:= .int .i64 1) ?_ (hr':=by exact congrArg (Value.int .i64) (show(((i+1:Nat):Int)-1)=(i:Int) by omega)) (hr:=by exact Yl (by unfold XT;omega)))
  refine W2_ ?_
  refine⟨(acc++[_],i,⟨k4,c4,a4,e4⟩),⟨by simpa using g1,g2,hv3,by simp only;omega⟩,by show i<i+1;omega,?_⟩
  rw[happ]
  exact Xd rfl JM ⟨rfl,by refine Eq.trans (b:=AObj.box [_,.own 132 (_+_),_,_]) rfl ?_;simp only[List.length_append,List.length_cons,List.length_nil],rfl,rfl,trivial⟩
 have hinv:=hLbEE.1
 have hf:=X9i b' EE.2 hinv.k
 have hck:=X7q ⟨N.1,EE.1,(m1:Nat),(m2:Nat)⟩ hh
 have hRl:R.1.length≤9223372036854775807:=by have:=hLbR.2;omega
 have hvl:=XiS R.1 hRl
 generalize VU b' EE.2=z at*
 obtain⟨zk,zc,za,e⟩:=z
 obtain⟨Rl,Rs⟩:=R
 obtain⟨Nl,Ns⟩:=N
 obtain⟨El,k,c,a,e8⟩:=EE
 unfold oB at hf
 simp only at hf hck hvl hh ⊢
 simp only[XG] at hck
 by_cases he:e=0
 case neg=>
  rw[Xs3 he]
  simp only[XG,List.map_nil]
  refine Qog ?_;refine QCd ?_;exact Qpg
 subst he
 by_cases hg:YH ⟨Nl,El,(m1:Nat),(m2:Nat)⟩=0
 case neg=>
  rw[XnY hg]
  simp only[XG,List.map_nil]
  generalize YH ⟨Nl,El,(m1:Nat),(m2:Nat)⟩=ge at*
  refine Qog ?_;refine Qc ?_;refine Z3 (hcon:=hck) ?_;refine W7_ ?_;refine QCd ?_;exact Qpg
 rw[hg] at hck
 cases hsv:X1k Rl with
 |false=>
  rw[Xrf hg hsv]
  rw[hsv] at hvl
  simp only[XG,List.map_nil]
  refine Qog ?_;refine Qc ?_;refine QYf ?_;refine QWc ?_;exact Qpg
 |true=>
  rw[XmZ hg hsv]
  rw[hsv] at hvl
  simp only[XG]
  refine Qog ?_;refine Qc ?_;refine QYf ?_;refine Qed ?_;exact X1 ⟨_,St.le_refl _,⟨⟨100,0,_,rfl,rfl,.inr ⟨4,_,rfl,rfl,rfl,rfl⟩⟩,rfl,rfl,trivial⟩,X2 _⟩
end Go.Fw

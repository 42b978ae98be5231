/- Binary searches over rows whose keys rise. -/
import Derived.Test.YtlkcofbjniphbaaGreatDoorB26
import Derived.Test.YtlkcofbjniphbaaGreatDoorB29
set_option maxHeartbeats 16000000
namespace Go.Fw
open Go Go.Proofs
set_option maxRecDepth 100000
set_option linter.unusedVariables false
set_option linter.unusedSimpArgs false
abbrev RN:=Int×D×D
def cRN (x:RN):List D:=[.v (.int .i64 x.1),x.2.1,x.2.2]
abbrev kRN (x:RN):Int:=x.1
abbrev RE:=Int×Int×Int×List UInt8×D
def cRE (x:RE):List D:=[.v (.int .i64 x.1),.v (.int .i64 x.2.1),.v (.int .i64 x.2.2.1),.v (.string (Xb x.2.2.2.1)),x.2.2.2.2]
abbrev kRE (x:RE):Int:=x.1
theorem X8p {α κ:Type}{lt:κ→κ→Bool}{key:α→κ}{l:List α}{n:κ}{i:Nat} (h:i≤l.length) (h1:∀k x,k<i→l[k]? =some x→lt (key x) n=true) (h2:∀x,l[i]? =some x→lt (key x) n=false):Xu lt key l n=i:=
 XbF h (fun k x hk hx=>h1 k x hk hx) (fun x hx=>h2 x hx)
theorem Xre {s t:List UInt8} (h:Op.bytesLess s t=true):Uy s t= -1:=if_pos h
theorem XmG {s t:List UInt8} (h:¬Op.bytesLess s t=true):¬Uy s t<0:=by
 unfold Uy
 rw[if_neg h]
 split<;>decide
theorem Xl5 {s t:List UInt8}:decide (Uy s t=0)=decide (s=t):=by
 unfold Uy
 by_cases h:Op.bytesLess s t=true
 ·rw[if_pos h,decide_eq_false (by decide),decide_eq_false (fun e=>by rw[e,X8N] at h;cases h)]
 ·rw[if_neg h]
  by_cases h':s=t
  ·rw[if_pos h',decide_eq_true rfl,decide_eq_true h']
  ·rw[if_neg h',decide_eq_false (by decide),decide_eq_false h']
theorem X3G {α κ:Type}{lt:κ→κ→Bool}{key:α→κ}{l:List α} (hr:YX lt key l) {i j:Nat}{x y:α} (hx:l[i]? =some x) (hy:l[j]? =some y) (h:i<j):lt (key x) (key y)=true:=by
 have hi:=(List.getElem?_eq_some_iff.1 hx)
 have hj:=(List.getElem?_eq_some_iff.1 hy)
 obtain⟨hi,rfl⟩:=hi
 obtain⟨hj,rfl⟩:=hj
 exact(List.pairwise_iff_getElem.1 hr) i j hi hj h
theorem XgP (x:RN) (n:Int):Con Tryz.prog 204 [] [.agg [ai x.1,.d x.2.1,.d x.2.2],ai n] [] (ai (Yv x.1 n)):=by
 refine Xg (xs:=[ai (Yv x.1 n)]) Tryz.func204 rfl Tryz.ntmps204 rfl rfl rfl (fun E=> ?_)
 have hc:=X4m x.1 n
 generalize Yv x.1 n=q at*
 obtain⟨id,p,q'⟩:=x
 refine Qjg ?_;exact Qq
theorem Xml (l:List RN) (n:Int) (hl:l.length≤4294967296) (hr:YX ltI kRN l):Con Tryz.prog 147 [] [.d (.sl 3 (l.map cRN)),ai n,.fn 204 []] [] (.tup [ai (Xu ltI kRN l n),ab (XO kRN l n)]):=by
 refine Xg (xs:=[ai (Xu ltI kRN l n),ab (XO kRN l n)]) Tryz.func147 rfl Tryz.ntmps147 rfl rfl rfl (fun E=> ?_)
 have hlm:(l.map cRN).length=l.length:=by simp
 refine Yw ?_
 refine XK (ι:=Nat×Nat) (fun q=>q.1≤q.2∧q.2≤l.length∧(∀(k:Nat) (x:RN),k<q.1→l[k]? =some x→ltI (kRN x) n=true)∧(∀(k:Nat) (x:RN),q.2≤k→l[k]? =some x→ltI (kRN x) n=false)) (fun q=>⟨49,[(0,.d (.sl 3 (l.map cRN))),(1,ai n),(2,.fn 204 []),(8,ai (l.map cRN).length),(9,ai q.1),(10,ai q.2)],[]⟩) (fun q=>q.2-q.1) (0,l.length)
  ⟨Nat.zero_le _,Nat.le_refl _,fun k x h=>absurd h (Nat.not_lt_zero _),fun k x h hx=>absurd (List.getElem?_eq_some_iff.1 hx).1 (Nat.not_lt.2 h)⟩
  (Xd rfl ⟨JL,JL,JL,JL,JL,AVal.le_of_eq (by show ai _=ai _;rw[hlm]),trivial⟩ trivial) ?_
 rintro⟨i,j⟩ ⟨h1,h2,h3,h4⟩
 simp only at h1 h2 h3 h4
 by_cases hij:i<j
 case neg=>
  obtain rfl:i=j:=by omega
  have hlow:=X8p h2 h3 (fun x hx=>h4 i x (Nat.le_refl _) hx)
  have hhas:=X0g (k:=n) V4 hr
  rw[hlow] at hhas
  rw[hlow,hhas]
  have hij':¬(i:Int)<(i:Nat):=by omega
  by_cases hil:i<l.length
  ·have hil':(i:Int)<(l.map cRN).length:=by omega
   obtain⟨x,hx⟩:=XI (l:=l) hil
   have hxc:(l.map cRN)[i]? =some (cRN x):=Y5 hx
   have hc:=XgP x n
   have hd:decide (∃y,l[i]? =some y∧kRN y=n)=decide (Yv (kRN x) n=0):=by rw[Xac,hx];simp
   rw[hd]
   generalize Yv (kRN x) n=c at*
   clear hhas hlow hd hx h3 h4 hr
   obtain⟨id,p,q'⟩:=x
   simp only[cRN,kRN] at hc hxc
   refine QCg ?_
   first|exact X1 ⟨_,St.le_refl _,⟨rfl,rfl,trivial⟩,X2 _⟩|exact X1 ⟨_,St.le_refl _,⟨⟨rfl,rfl,trivial⟩,trivial⟩,X2 _⟩
  ·have hil':¬(i:Int)<(l.map cRN).length:=by omega
   have hd:decide (∃y,l[i]? =some y∧kRN y=n)=false:=by
    refine decide_eq_false ?_
    rintro⟨y,hy,_⟩
    exact hil (List.getElem?_eq_some_iff.1 hy).1
   rw[hd]
   clear hhas hlow hd h3 h4 hr
   refine W7_ ?_;refine QWb ?_;refine QL ?_;refine QL ?_;refine QQ ?_
   first|exact X1 ⟨_,St.le_refl _,⟨rfl,rfl,trivial⟩,X2 _⟩|exact X1 ⟨_,St.le_refl _,⟨⟨rfl,rfl,trivial⟩,trivial⟩,X2 _⟩
 have hij':(i:Int)<(j:Nat):=by omega
 obtain⟨x,hx⟩:=XI (l:=l) (k:=(i+j)/2) (by omega)
 have hxc:(l.map cRN)[(i+j)/2]? =some (cRN x):=Y5 hx
 have hc:=XgP x n
 have e2:n64 ((i+j)/2^1)=n64 ((i+j)/2):=rfl
 by_cases hlt:ltI (kRN x) n=true
 ·have hinv:∀(k:Nat) (y:RN),k<(i+j)/2+1→l[k]? =some y→ltI (kRN y) n=true:=fun k y hk hy=>by
   by_cases e:k=(i+j)/2
   ·subst e;rw[hx] at hy;injection hy with hy;subst hy;exact hlt
   ·exact V4.tr _ _ _ (X3G hr hy hx (by omega)) hlt
  rw[X9A (by simpa [ltI] using hlt)] at hc
  clear hlt hr h3 hx
  obtain⟨id,p,q'⟩:=x
  simp only[cRN,kRN] at hc hxc
  refine QWf ?_;(refine Z2 (op:= .add) (r':=ni (i+j)) (u:=ni i) (v:=ni j) ?_ (hr:=by exact Ym (by rw[XJ];omega)))
  (refine Z0 (u:=ni (i+j)) (r:=n64 (i+j)) ?_ (hr:=by exact YQ rfl rfl (by rw[Yf];omega)))
  refine Qwf ?_;(refine Z0 (u:=n64 ((i+j)/2)) (r:=ni ((i+j)/2)) ?_ (hr:=by exact YQ rfl rfl (by rw[XJ];omega)));exact QDg
 ·have hinv:∀(k:Nat) (y:RN),(i+j)/2≤k→l[k]? =some y→ltI (kRN y) n=false:=fun k y hk hy=>by
   by_cases e:k=(i+j)/2
   ·subst e;rw[hx] at hy;injection hy with hy;subst hy;simpa using hlt
   ·have h5:=X3G hr hx hy (by omega)
    by_cases q:ltI (kRN y) n=true
    ·exact absurd (V4.tr _ _ _ h5 q) hlt
    ·simpa using q
  have hge:=Xc3 (x:=kRN x) (y:=n) (by simpa [ltI] using hlt)
  clear hlt hr h4 hx
  generalize Yv (kRN x) n=c at*
  obtain⟨id,p,q'⟩:=x
  simp only[cRN,kRN] at hc hxc
  refine QWf ?_;(refine Z2 (op:= .add) (r':=ni (i+j)) (u:=ni i) (v:=ni j) ?_ (hr:=by exact Ym (by rw[XJ];omega)))
  (refine Z0 (u:=ni (i+j)) (r:=n64 (i+j)) ?_ (hr:=by exact YQ rfl rfl (by rw[Yf];omega)))
  refine Qwf ?_;(refine Z0 (u:=n64 ((i+j)/2)) (r:=ni ((i+j)/2)) ?_ (hr:=by exact YQ rfl rfl (by rw[XJ];omega)));exact QEg
theorem XiY (x:RE) (n:Int):Con Tryz.prog 216 [] [.agg [ai x.1,ai x.2.1,ai x.2.2.1,.d (.v (.string (Xb x.2.2.2.1))),.d x.2.2.2.2],ai n] [] (ai (Yv x.1 n)):=by
 refine Xg (xs:=[ai (Yv x.1 n)]) Tryz.func216 rfl Tryz.ntmps216 rfl rfl rfl (fun E=> ?_)
 have hc:=X4m x.1 n
 generalize Yv x.1 n=q at*
 obtain⟨id,s,t,ty,p⟩:=x
 refine Qjg ?_;exact Qq
theorem Xmm (l:List RE) (n:Int) (hl:l.length≤4294967296) (hr:YX ltI kRE l):Con Tryz.prog 215 [] [.d (.sl 5 (l.map cRE)),ai n,.fn 216 []] [] (.tup [ai (Xu ltI kRE l n),ab (XO kRE l n)]):=by
 refine Xg (xs:=[ai (Xu ltI kRE l n),ab (XO kRE l n)]) Tryz.func215 rfl Tryz.ntmps215 rfl rfl rfl (fun E=> ?_)
 have hlm:(l.map cRE).length=l.length:=by simp
 refine Yw ?_
 refine XK (ι:=Nat×Nat) (fun q=>q.1≤q.2∧q.2≤l.length∧(∀(k:Nat) (x:RE),k<q.1→l[k]? =some x→ltI (kRE x) n=true)∧(∀(k:Nat) (x:RE),q.2≤k→l[k]? =some x→ltI (kRE x) n=false)) (fun q=>⟨49,[(0,.d (.sl 5 (l.map cRE))),(1,ai n),(2,.fn 216 []),(8,ai (l.map cRE).length),(9,ai q.1),(10,ai q.2)],[]⟩) (fun q=>q.2-q.1) (0,l.length)
  ⟨Nat.zero_le _,Nat.le_refl _,fun k x h=>absurd h (Nat.not_lt_zero _),fun k x h hx=>absurd (List.getElem?_eq_some_iff.1 hx).1 (Nat.not_lt.2 h)⟩
  (Xd rfl ⟨JL,JL,JL,JL,JL,AVal.le_of_eq (by show ai _=ai _;rw[hlm]),trivial⟩ trivial) ?_
 rintro⟨i,j⟩ ⟨h1,h2,h3,h4⟩
 simp only at h1 h2 h3 h4
 by_cases hij:i<j
 case neg=>
  obtain rfl:i=j:=by omega
  have hlow:=X8p h2 h3 (fun x hx=>h4 i x (Nat.le_refl _) hx)
  have hhas:=X0g (k:=n) V4 hr
  rw[hlow] at hhas
  rw[hlow,hhas]
  have hij':¬(i:Int)<(i:Nat):=by omega
  by_cases hil:i<l.length
  ·have hil':(i:Int)<(l.map cRE).length:=by omega
   obtain⟨x,hx⟩:=XI (l:=l) hil
   have hxc:(l.map cRE)[i]? =some (cRE x):=Y5 hx
   have hc:=XiY x n
   have hd:decide (∃y,l[i]? =some y∧kRE y=n)=decide (Yv (kRE x) n=0):=by rw[Xac,hx];simp
   rw[hd]
   generalize Yv (kRE x) n=c at*
   clear hhas hlow hd hx h3 h4 hr
   obtain⟨id,s,t,ty,p⟩:=x
   simp only[cRE,kRE] at hc hxc
   refine QCg ?_
   first|exact X1 ⟨_,St.le_refl _,⟨rfl,rfl,trivial⟩,X2 _⟩|exact X1 ⟨_,St.le_refl _,⟨⟨rfl,rfl,trivial⟩,trivial⟩,X2 _⟩
  ·have hil':¬(i:Int)<(l.map cRE).length:=by omega
   have hd:decide (∃y,l[i]? =some y∧kRE y=n)=false:=by
    refine decide_eq_false ?_
    rintro⟨y,hy,_⟩
    exact hil (List.getElem?_eq_some_iff.1 hy).1
   rw[hd]
   clear hhas hlow hd h3 h4 hr
   refine W7_ ?_;refine QWb ?_;refine QL ?_;refine QL ?_;refine QQ ?_
   first|exact X1 ⟨_,St.le_refl _,⟨rfl,rfl,trivial⟩,X2 _⟩|exact X1 ⟨_,St.le_refl _,⟨⟨rfl,rfl,trivial⟩,trivial⟩,X2 _⟩
 have hij':(i:Int)<(j:Nat):=by omega
 obtain⟨x,hx⟩:=XI (l:=l) (k:=(i+j)/2) (by omega)
 have hxc:(l.map cRE)[(i+j)/2]? =some (cRE x):=Y5 hx
 have hc:=XiY x n
 have e2:n64 ((i+j)/2^1)=n64 ((i+j)/2):=rfl
 by_cases hlt:ltI (kRE x) n=true
 ·have hinv:∀(k:Nat) (y:RE),k<(i+j)/2+1→l[k]? =some y→ltI (kRE y) n=true:=fun k y hk hy=>by
   by_cases e:k=(i+j)/2
   ·subst e;rw[hx] at hy;injection hy with hy;subst hy;exact hlt
   ·exact V4.tr _ _ _ (X3G hr hy hx (by omega)) hlt
  rw[X9A (by simpa [ltI] using hlt)] at hc
  clear hlt hr h3 hx
  obtain⟨id,s,t,ty,p⟩:=x
  simp only[cRE,kRE] at hc hxc
  refine QWf ?_;(refine Z2 (op:= .add) (r':=ni (i+j)) (u:=ni i) (v:=ni j) ?_ (hr:=by exact Ym (by rw[XJ];omega)))
  (refine Z0 (u:=ni (i+j)) (r:=n64 (i+j)) ?_ (hr:=by exact YQ rfl rfl (by rw[Yf];omega)))
  refine Qwf ?_;(refine Z0 (u:=n64 ((i+j)/2)) (r:=ni ((i+j)/2)) ?_ (hr:=by exact YQ rfl rfl (by rw[XJ];omega)));exact QDg
 ·have hinv:∀(k:Nat) (y:RE),(i+j)/2≤k→l[k]? =some y→ltI (kRE y) n=false:=fun k y hk hy=>by
   by_cases e:k=(i+j)/2
   ·subst e;rw[hx] at hy;injection hy with hy;subst hy;simpa using hlt
   ·have h5:=X3G hr hx hy (by omega)
    by_cases q:ltI (kRE y) n=true
    ·exact absurd (V4.tr _ _ _ h5 q) hlt
    ·simpa using q
  have hge:=Xc3 (x:=kRE x) (y:=n) (by simpa [ltI] using hlt)
  clear hlt hr h4 hx
  generalize Yv (kRE x) n=c at*
  obtain⟨id,s,t,ty,p⟩:=x
  simp only[cRE,kRE] at hc hxc
  refine QWf ?_;(refine Z2 (op:= .add) (r':=ni (i+j)) (u:=ni i) (v:=ni j) ?_ (hr:=by exact Ym (by rw[XJ];omega)))
  (refine Z0 (u:=ni (i+j)) (r:=n64 (i+j)) ?_ (hr:=by exact YQ rfl rfl (by rw[Yf];omega)))
  refine Qwf ?_;(refine Z0 (u:=n64 ((i+j)/2)) (r:=ni ((i+j)/2)) ?_ (hr:=by exact YQ rfl rfl (by rw[XJ];omega)));exact QEg
theorem Xhk (x:Prp) (n:List UInt8):Con Tryz.prog 212 [] [.agg ((Xh x).map .d),.d (.v (.string (Xb n)))] [] (ai (Uy x.key n)):=by
 refine Xg (xs:=[ai (Uy x.key n)]) Tryz.func212 rfl Tryz.ntmps212 rfl rfl rfl (fun E=> ?_)
 have hc:=X75 x.key n
 generalize Uy x.key n=q at*
 obtain⟨key,⟨k0,k1,k2,k3,k4⟩⟩:=x
 simp only[Xh,U3,List.map_cons,List.map_nil] at*
 refine Qjg ?_;exact Qq
theorem Xej (l:List Prp) (n:List UInt8) (hl:l.length≤4294967296) (hr:YX ltS Prp.key l):Con Tryz.prog 211 [] [.d (.sl 6 (l.map Xh)),.d (.v (.string (Xb n))),.fn 212 []] [] (.tup [ai (Xu ltS Prp.key l n),ab (XO Prp.key l n)]):=by
 refine Xg (xs:=[ai (Xu ltS Prp.key l n),ab (XO Prp.key l n)]) Tryz.func211 rfl Tryz.ntmps211 rfl rfl rfl (fun E=> ?_)
 have hlm:(l.map Xh).length=l.length:=by simp
 refine Yw ?_
 refine XK (ι:=Nat×Nat) (fun q=>q.1≤q.2∧q.2≤l.length∧(∀(k:Nat) (x:Prp),k<q.1→l[k]? =some x→ltS (Prp.key x) n=true)∧(∀(k:Nat) (x:Prp),q.2≤k→l[k]? =some x→ltS (Prp.key x) n=false)) (fun q=>⟨49,[(0,.d (.sl 6 (l.map Xh))),(1,.d (.v (.string (Xb n)))),(2,.fn 212 []),(8,ai (l.map Xh).length),(9,ai q.1),(10,ai q.2)],[]⟩) (fun q=>q.2-q.1) (0,l.length)
  ⟨Nat.zero_le _,Nat.le_refl _,fun k x h=>absurd h (Nat.not_lt_zero _),fun k x h hx=>absurd (List.getElem?_eq_some_iff.1 hx).1 (Nat.not_lt.2 h)⟩
  (Xd rfl ⟨JL,JL,JL,JL,JL,AVal.le_of_eq (by show ai _=ai _;rw[hlm]),trivial⟩ trivial) ?_
 rintro⟨i,j⟩ ⟨h1,h2,h3,h4⟩
 simp only at h1 h2 h3 h4
 by_cases hij:i<j
 case neg=>
  obtain rfl:i=j:=by omega
  have hlow:=X8p h2 h3 (fun x hx=>h4 i x (Nat.le_refl _) hx)
  have hhas:=X0g (k:=n) X0Y hr
  rw[hlow] at hhas
  rw[hlow,hhas]
  have hij':¬(i:Int)<(i:Nat):=by omega
  by_cases hil:i<l.length
  ·have hil':(i:Int)<(l.map Xh).length:=by omega
   obtain⟨x,hx⟩:=XI (l:=l) hil
   have hxc:(l.map Xh)[i]? =some (Xh x):=Y5 hx
   have hc:=Xhk x n
   have hd:decide (∃y,l[i]? =some y∧Prp.key y=n)=decide (Uy (Prp.key x) n=0):=by rw[Xl5,hx];simp
   rw[hd]
   generalize Uy (Prp.key x) n=c at*
   clear hhas hlow hd hx h3 h4 hr
   obtain⟨key,⟨k0,k1,k2,k3,k4⟩⟩:=x
   simp only[Xh,U3,List.map_cons,List.map_nil] at hc hxc
   refine QCg ?_
   first|exact X1 ⟨_,St.le_refl _,⟨rfl,rfl,trivial⟩,X2 _⟩|exact X1 ⟨_,St.le_refl _,⟨⟨rfl,rfl,trivial⟩,trivial⟩,X2 _⟩
  ·have hil':¬(i:Int)<(l.map Xh).length:=by omega
   have hd:decide (∃y,l[i]? =some y∧Prp.key y=n)=false:=by
    refine decide_eq_false ?_
    rintro⟨y,hy,_⟩
    exact hil (List.getElem?_eq_some_iff.1 hy).1
   rw[hd]
   clear hhas hlow hd h3 h4 hr
   refine W7_ ?_;refine QWb ?_;refine QL ?_;refine QL ?_;refine QQ ?_
   first|exact X1 ⟨_,St.le_refl _,⟨rfl,rfl,trivial⟩,X2 _⟩|exact X1 ⟨_,St.le_refl _,⟨⟨rfl,rfl,trivial⟩,trivial⟩,X2 _⟩
 have hij':(i:Int)<(j:Nat):=by omega
 obtain⟨x,hx⟩:=XI (l:=l) (k:=(i+j)/2) (by omega)
 have hxc:(l.map Xh)[(i+j)/2]? =some (Xh x):=Y5 hx
 have hc:=Xhk x n
 have e2:n64 ((i+j)/2^1)=n64 ((i+j)/2):=rfl
 by_cases hlt:ltS (Prp.key x) n=true
 ·have hinv:∀(k:Nat) (y:Prp),k<(i+j)/2+1→l[k]? =some y→ltS (Prp.key y) n=true:=fun k y hk hy=>by
   by_cases e:k=(i+j)/2
   ·subst e;rw[hx] at hy;injection hy with hy;subst hy;exact hlt
   ·exact X0Y.tr _ _ _ (X3G hr hy hx (by omega)) hlt
  rw[Xre hlt] at hc
  clear hlt hr h3 hx
  obtain⟨key,⟨k0,k1,k2,k3,k4⟩⟩:=x
  simp only[Xh,U3,List.map_cons,List.map_nil] at hc hxc
  refine QWf ?_;(refine Z2 (op:= .add) (r':=ni (i+j)) (u:=ni i) (v:=ni j) ?_ (hr:=by exact Ym (by rw[XJ];omega)))
  (refine Z0 (u:=ni (i+j)) (r:=n64 (i+j)) ?_ (hr:=by exact YQ rfl rfl (by rw[Yf];omega)))
  refine Qwf ?_;(refine Z0 (u:=n64 ((i+j)/2)) (r:=ni ((i+j)/2)) ?_ (hr:=by exact YQ rfl rfl (by rw[XJ];omega)));exact QDg
 ·have hinv:∀(k:Nat) (y:Prp),(i+j)/2≤k→l[k]? =some y→ltS (Prp.key y) n=false:=fun k y hk hy=>by
   by_cases e:k=(i+j)/2
   ·subst e;rw[hx] at hy;injection hy with hy;subst hy;simpa using hlt
   ·have h5:=X3G hr hx hy (by omega)
    by_cases q:ltS (Prp.key y) n=true
    ·exact absurd (X0Y.tr _ _ _ h5 q) hlt
    ·simpa using q
  have hge:=XmG hlt
  clear hlt hr h4 hx
  generalize Uy (Prp.key x) n=c at*
  obtain⟨key,⟨k0,k1,k2,k3,k4⟩⟩:=x
  simp only[Xh,U3,List.map_cons,List.map_nil] at hc hxc
  refine QWf ?_;(refine Z2 (op:= .add) (r':=ni (i+j)) (u:=ni i) (v:=ni j) ?_ (hr:=by exact Ym (by rw[XJ];omega)))
  (refine Z0 (u:=ni (i+j)) (r:=n64 (i+j)) ?_ (hr:=by exact YQ rfl rfl (by rw[Yf];omega)))
  refine Qwf ?_;(refine Z0 (u:=n64 ((i+j)/2)) (r:=ni ((i+j)/2)) ?_ (hr:=by exact YQ rfl rfl (by rw[XJ];omega)));exact QEg
theorem XqY (s t:List UInt8):Con Tryz.prog 207 [] [.d (.v (.string (Xb s))),.d (.v (.string (Xb t)))] [] (ab (Op.bytesLess s t)):=by
 refine Xg (xs:=[ab (Op.bytesLess s t)]) Tryz.func207 rfl Tryz.ntmps207 rfl rfl rfl (fun E=> ?_)
 have h1:=X69 s
 have h2:=X69 t
 refine W7_ ?_;refine Z3 (hcon:=h1) ?_;refine W1_ ?_;refine Qw ?_;refine QQ ?_;refine Qkf ?_;exact Qua
theorem Xrb (s:List UInt8):Con Tryz.prog 208 [] [.d (.v (.string (Xb s)))] [] (ab false):=by
 refine Xg (xs:=[ab false]) Tryz.func208 rfl Tryz.ntmps208 rfl rfl rfl (fun E=> ?_)
 refine Xi ?_
 (show AWP Tryz.prog E _ _ _;refine X1 ?_;exact(show Xy _ _ _ _ _ from⟨_,Xw 2 (AVal.le_of_eq (by show ab _=ab _;simp)),⟨rfl,trivial⟩,X2 _⟩))
theorem X6z (l:List (List UInt8)) (n:List UInt8) (hl:l.length≤4294967296) (hr:YX ltS Y7 l):Con Tryz.prog 170 [] [.d (.sl 1 (l.map Xl)),.d (.v (.string (Xb n)))] [] (.tup [ai (Xu ltS Y7 l n),ab (XO Y7 l n)]):=by
 refine Xg (xs:=[ai (Xu ltS Y7 l n),ab (XO Y7 l n)]) Tryz.func170 rfl Tryz.ntmps170 rfl rfl rfl (fun E=> ?_)
 have hlm:(l.map Xl).length=l.length:=by simp
 refine Yw ?_
 refine XK (ι:=Nat×Nat) (fun q=>q.1≤q.2∧q.2≤l.length∧(∀(k:Nat) (x:List UInt8),k<q.1→l[k]? =some x→ltS x n=true)∧(∀(k:Nat) (x:List UInt8),q.2≤k→l[k]? =some x→ltS x n=false)) (fun q=>⟨54,[(0,.d (.sl 1 (l.map Xl))),(1,.d (.v (.string (Xb n)))),(6,ai (l.map Xl).length),(7,ai q.1),(8,ai q.2)],[]⟩) (fun q=>q.2-q.1) (0,l.length)
  ⟨Nat.zero_le _,Nat.le_refl _,fun k x h=>absurd h (Nat.not_lt_zero _),fun k x h hx=>absurd (List.getElem?_eq_some_iff.1 hx).1 (Nat.not_lt.2 h)⟩
  (Xd rfl ⟨JL,JL,JL,JL,AVal.le_of_eq (by show ai _=ai _;rw[hlm]),trivial⟩ trivial) ?_
 rintro⟨i,j⟩ ⟨h1,h2,h3,h4⟩
 simp only at h1 h2 h3 h4
 by_cases hij:i<j
 case neg=>
  obtain rfl:i=j:=by omega
  have hlow:=X8p (key:=Y7) h2 h3 (fun x hx=>h4 i x (Nat.le_refl _) hx)
  have hhas:=X0g (k:=n) X0Y hr
  rw[hlow] at hhas
  rw[hlow,hhas]
  have hij':¬(i:Int)<(i:Nat):=by omega
  by_cases hil:i<l.length
  ·have hil':(i:Int)<(l.map Xl).length:=by omega
   obtain⟨x,hx⟩:=XI (l:=l) hil
   have hxc:(l.map Xl)[i]? =some [.v (.string (Xb x))]:=Y5 hx
   have hn1:=Xrb x
   by_cases hxn:x=n
   ·have hd:decide (∃y,l[i]? =some y∧Y7 y=n)=true:=decide_eq_true ⟨x,hx,hxn⟩
    rw[hd]
    clear hhas hlow hd hx h3 h4 hr
    subst hxn
    refine W7_ ?_;refine JF ?_;refine XA ?_;refine Qta ?_;refine Qx ?_;refine Qu ?_;refine Qr ?_;refine Qwa ?_
    first|exact X1 ⟨_,St.le_refl _,⟨rfl,rfl,trivial⟩,X2 _⟩|exact X1 ⟨_,St.le_refl _,⟨⟨rfl,rfl,trivial⟩,trivial⟩,X2 _⟩
   ·have hd:decide (∃y,l[i]? =some y∧Y7 y=n)=false:=decide_eq_false (by rintro⟨y,hy,e⟩;rw[hx] at hy;cases hy;exact hxn e)
    rw[hd]
    clear hhas hlow hd hx h3 h4 hr
    refine W7_ ?_;refine JF ?_;refine Yw ?_;refine Z3 (hcon:=hn1) ?_;refine W1_ ?_;refine QI ?_;refine Qca ?_;refine W3_ ?_
    first|exact X1 ⟨_,St.le_refl _,⟨rfl,rfl,trivial⟩,X2 _⟩|exact X1 ⟨_,St.le_refl _,⟨⟨rfl,rfl,trivial⟩,trivial⟩,X2 _⟩
  ·have hil':¬(i:Int)<(l.map Xl).length:=by omega
   have hd:decide (∃y,l[i]? =some y∧Y7 y=n)=false:=by
    refine decide_eq_false ?_
    rintro⟨y,hy,_⟩
    exact hil (List.getElem?_eq_some_iff.1 hy).1
   rw[hd]
   clear hhas hlow hd h3 h4 hr
   refine W7_ ?_;refine QWb ?_;refine QL ?_;refine Qw ?_;refine QX ?_;refine Qx ?_;refine QVa ?_;refine QQ ?_
   first|exact X1 ⟨_,St.le_refl _,⟨rfl,rfl,trivial⟩,X2 _⟩|exact X1 ⟨_,St.le_refl _,⟨⟨rfl,rfl,trivial⟩,trivial⟩,X2 _⟩
 have hij':(i:Int)<(j:Nat):=by omega
 obtain⟨x,hx⟩:=XI (l:=l) (k:=(i+j)/2) (by omega)
 have hxc:(l.map Xl)[(i+j)/2]? =some [.v (.string (Xb x))]:=Y5 hx
 have hc:=XqY x n
 have e2:n64 ((i+j)/2^1)=n64 ((i+j)/2):=rfl
 by_cases hlt:ltS x n=true
 ·have hinv:∀(k:Nat) (y:List UInt8),k<(i+j)/2+1→l[k]? =some y→ltS y n=true:=fun k y hk hy=>by
   by_cases e:k=(i+j)/2
   ·subst e;rw[hx] at hy;injection hy with hy;subst hy;exact hlt
   ·exact X0Y.tr _ _ _ (X3G hr hy hx (by omega)) hlt
  rw[show Op.bytesLess x n=true from hlt] at hc
  clear hlt hr h3 hx
  refine QWf ?_;(refine Z2 (op:= .add) (r':=ni (i+j)) (u:=ni i) (v:=ni j) ?_ (hr:=by exact Ym (by rw[XJ];omega)))
  (refine Z0 (u:=ni (i+j)) (r:=n64 (i+j)) ?_ (hr:=by exact YQ rfl rfl (by rw[Yf];omega)))
  refine Qwf ?_;(refine Z0 (u:=n64 ((i+j)/2)) (r:=ni ((i+j)/2)) ?_ (hr:=by exact YQ rfl rfl (by rw[XJ];omega)));refine Qhe ?_;refine W1_ ?_;refine QCa ?_;exact Qxf
 ·have hinv:∀(k:Nat) (y:List UInt8),(i+j)/2≤k→l[k]? =some y→ltS y n=false:=fun k y hk hy=>by
   by_cases e:k=(i+j)/2
   ·subst e;rw[hx] at hy;injection hy with hy;subst hy;simpa using hlt
   ·have h5:=X3G hr hx hy (by omega)
    by_cases q:ltS y n=true
    ·exact absurd (X0Y.tr _ _ _ h5 q) hlt
    ·simpa using q
  rw[show Op.bytesLess x n=false by simpa using hlt] at hc
  clear hlt hr h4 hx
  refine QWf ?_;(refine Z2 (op:= .add) (r':=ni (i+j)) (u:=ni i) (v:=ni j) ?_ (hr:=by exact Ym (by rw[XJ];omega)))
  (refine Z0 (u:=ni (i+j)) (r:=n64 (i+j)) ?_ (hr:=by exact YQ rfl rfl (by rw[Yf];omega)))
  refine Qwf ?_;(refine Z0 (u:=n64 ((i+j)/2)) (r:=ni ((i+j)/2)) ?_ (hr:=by exact YQ rfl rfl (by rw[XJ];omega)));refine Qhe ?_;refine W1_ ?_;refine Qg ?_;exact Qyf
def Vx (e:Int):List PanicEntry:=[{v:= .iface 164 (.int .i64 e),recovered:=false}]
theorem UW (e:Int):Con Tryz.prog 167 [] [ab true,ai e] [] (.tup []):=by
 refine Xg (xs:=[]) Tryz.func167 rfl Tryz.ntmps167 rfl rfl rfl (fun E=> ?_)
 refine QFg ?_;exact⟨_,St.le_refl _,trivial,X2 _⟩
theorem X0V (e:Int):V7 Tryz.prog 167 [] [ab false,ai e] (Vx e):=by
 refine X0x Tryz.func167 rfl Tryz.ntmps167 rfl (fun E=> ?_)
 refine Qk ?_;refine Xod 2 rfl (fun _=>rfl) ?_;refine W1_ ?_;refine Xp6 (hg:=JSa) (hx:=JSb) (ht:=JSb) (hd:=JSb) ?_;exact .done (fun h=>Bool.noConfusion h) rfl
abbrev edL (rn:List RN) (re:List RE) (nn ne:Int):List (Nat×AObj):=[(0,.box [.own 3 rn.length,.own 4 re.length,ai nn,ai ne]),(3,.row 3 (rn.map cRN)),(4,.row 5 (re.map cRE))]
theorem VR (rn:List RN) (re:List RE) (nn ne:Int) (id:Int) (hl:rn.length≤4294967296) (hr:YX ltI kRN rn):
  Con Tryz.prog 166 (edL rn re nn ne) [.ptr 0 0,ai id] (edL rn re nn ne) (.tup [ai (Xu ltI kRN rn id),ab (XO kRN rn id)]):=by
 refine Xg (xs:=[ai (Xu ltI kRN rn id),ab (XO kRN rn id)]) Tryz.func166 rfl Tryz.ntmps166 rfl rfl rfl (fun E=> ?_)
 have hc:=X3e 3 (Xml rn id hl hr)
 rw[List.length_map] at hc
 generalize Xu ltI kRN rn id=a at*
 generalize XO kRN rn id=b at*
 refine Xr ?_;refine QJd ?_;refine W5_ ?_;exact X1 ⟨_,St.le_refl _,⟨rfl,rfl,trivial⟩,Xn ⟨rfl,rfl,rfl,trivial⟩⟩
theorem X2Q (rn:List RN) (re:List RE) (nn ne:Int) (id:Int) (hl:re.length≤4294967296) (hr:YX ltI kRE re):
  Con Tryz.prog 174 (edL rn re nn ne) [.ptr 0 0,ai id] (edL rn re nn ne) (.tup [ai (Xu ltI kRE re id),ab (XO kRE re id)]):=by
 refine Xg (xs:=[ai (Xu ltI kRE re id),ab (XO kRE re id)]) Tryz.func174 rfl Tryz.ntmps174 rfl rfl rfl (fun E=> ?_)
 have hc:=X3e 4 (Xmm re id hl hr)
 rw[List.length_map] at hc
 generalize Xu ltI kRE re id=a at*
 generalize XO kRE re id=b at*
 refine Xr ?_;refine QJd ?_;refine W5_ ?_;exact X1 ⟨_,St.le_refl _,⟨rfl,rfl,trivial⟩,Xn ⟨rfl,rfl,rfl,trivial⟩⟩
theorem XaC (p:Prp):(Xh p).length=6:=by obtain⟨k,⟨a,b,c,d,e⟩⟩:=p;rfl
theorem XpS (ps:List Prp):∀x∈ps.map Xh,x.length=6:=fun x hx=>by obtain⟨p,_,rfl⟩:=List.mem_map.1 hx;exact XaC p
theorem XdL {sz i o:Nat}{xs:List (List D)}{T:List (Option D)}{a b c b':List D} (h:∀x∈xs,x.length=sz) (hx:xs[i]? =some (a++b++c)) (ho:a.length=o) (hb:b'.length=b.length):
  Y6 (fl (xs.set i (a++b'++c))++T) none=(Y6 (fl xs++T) none).take (i*sz+o)++b'.map .d++(Y6 (fl xs++T) none).drop (i*sz+o+(b'.map AVal.d).length):=by
 have hi:i<xs.length:=(List.getElem?_eq_some_iff.1 hx).1
 have hxi:xs[i]=a++b++c:=by rw[List.getElem?_eq_getElem hi] at hx;simpa using hx
 have hl:(a++b++c).length=sz:=by rw[←hxi];exact h _ (List.getElem_mem hi)
 have e1:xs=xs.take i++(a++b++c)::xs.drop (i+1):=by rw[←hxi,←List.drop_eq_getElem_cons hi,List.take_append_drop]
 have lt:(xs.take i).length=i:=by rw[List.length_take];omega
 have e2:xs.set i (a++b'++c)=xs.take i++(a++b'++c)::xs.drop (i+1):=by
  conv=>lhs;rw[e1]
  rw[List.set_append_right _ _ (by omega),lt,Nat.sub_self];rfl
 have f1:∀m:List D,Y6 (fl (xs.take i++(a++m++c)::xs.drop (i+1))++T) none=((fl (xs.take i)).map oA++a.map .d)++(m.map .d++(c.map .d++((fl (xs.drop (i+1))).map oA++T.map oA))):=by
  intro m
  have hc:∀l:List D,(l.map some).map oA=l.map .d:=fun l=>by rw[List.map_map];rfl
  rw[show xs.take i++(a++m++c)::xs.drop (i+1)=xs.take i++([a++m++c]++xs.drop (i+1)) from rfl,X4N,X4N]
  simp only[Y6,List.map_append,List.append_assoc]
  have:(fl [a++(m++c)]).map oA=a.map .d++(m.map .d++c.map .d):=by simp only[fl,List.flatten_cons,List.flatten_nil,List.append_nil,hc,List.map_append]
  rw[this]
  simp only[List.append_assoc]
 have la:((fl (xs.take i)).map oA++a.map AVal.d).length=i*sz+o:=by
  have:((fl (xs.take i)).map oA).length=i*sz:=by rw[List.length_map,Uq (X08 h i),lt]
  rw[List.length_append,this,List.length_map,ho]
 have part:∀(A M M' R:List AVal) (n:Nat),A.length=n→M'.length=M.length→A++(M'++R)=(A++(M++R)).take n++M'++(A++(M++R)).drop (n+M'.length):=by
  intro A M M' R n h1 h2
  rw[List.take_left' h1,←List.drop_drop,List.drop_left' h1,h2,List.drop_left' rfl,List.append_assoc]
 have e3:=f1 b
 rw[←e1] at e3
 rw[e2,f1 b',e3]
 exact part _ _ _ _ _ la (by rw[List.length_map,List.length_map,hb])
section
variable (ps:List Prp) (key:List UInt8) (v:Val)
theorem Xhh (hr:YX ltS Prp.key ps) (hl:ps.length≤16) (hok:(YI ps key v).length≤16):
  Con Tryz.prog 173 [(1,.row 6 (ps.map Xh))] [.own 1 ps.length,.d (.v (.string (Xb key))),Xv v] [(1,.dead),(110,.row 6 ((YI ps key v).map Xh))] (.own 110 (YI ps key v).length):=by
 refine Xg (xs:=[.own 110 (YI ps key v).length]) Tryz.func173 rfl Tryz.ntmps173 rfl rfl rfl (fun E=> ?_)
 have hc:=X3e 1 (Xej ps key (by omega) hr)
 rw[List.length_map] at hc
 have hz:=X9G v
 have hb:=X0g (k:=key) X0Y hr
 have hle:=X6X (lt:=ltS) (key:=Prp.key) ps key
 have h6:=XpS ps
 have hlm:(ps.map Xh).length=ps.length:=List.length_map ..
 by_cases b:XO Prp.key ps key=true
 case pos=>
  rw[b] at hc hb
  obtain⟨x,hx,hk⟩:=decide_eq_true_iff.1 hb.symm
  have hi:Xu ltS Prp.key ps key<ps.length:=(List.getElem?_eq_some_iff.1 hx).1
  by_cases z:Um v=true
  ·have eS:YI ps key v=ps.take (Xu ltS Prp.key ps key)++ps.drop (Xu ltS Prp.key ps key+1):=by
    unfold YI
    rw[if_pos z,X67 X0Y hr hx hk,List.append_nil]
   rw[z] at hz
   have eL:(YI ps key v).length=ps.length-1:=by rw[eS,List.length_append,List.length_take,List.length_drop];omega
   have eM:(YI ps key v).map Xh=(ps.map Xh).take (Xu ltS Prp.key ps key)++(ps.map Xh).drop (Xu ltS Prp.key ps key+1):=by rw[eS,List.map_append,List.map_take,List.map_drop]
   rw[eL,eM]
   have hd:=Xo0 (ps.map Xh) (Xu ltS Prp.key ps key) h6 (by omega) (by omega)
   rw[hlm] at hd
   clear hb hx hk eS eL eM z hok hr h6 hlm
   generalize Xu ltS Prp.key ps key=i at*
   generalize ps.map Xh=xs at*
   obtain⟨k0,k1,k2,k3,k4⟩:=v
   simp only[Xv,VY] at*
   refine QGg ?_;refine W2_ ?_;refine Qz ?_;refine QCa ?_;(refine Z2 (op:= .add) (r':= .int .i64 ((i+1:Nat):Int)) (u:= .int .i64 (i:Nat)) (v:= .int .i64 1) ?_ (hr:=by exact UC (by unfold XT;omega)));refine Z3 (hcon:=hd) ?_;refine W2_ ?_
   (show AWP Tryz.prog E _ _ _;refine X1 ?_;exact(show Xy _ _ _ _ _ from⟨_,St.le_refl _,⟨rfl,trivial⟩,Xn ⟨rfl,rfl,trivial⟩⟩))
  ·have z:Um v=false:=by simpa using z
   have eS:YI ps key v=ps.take (Xu ltS Prp.key ps key)++[⟨key,v⟩]++ps.drop (Xu ltS Prp.key ps key+1):=by
    unfold YI
    rw[if_neg (by simp[z]),X67 X0Y hr hx hk]
   rw[z] at hz
   have hxi:ps[Xu ltS Prp.key ps key]? =some x:=hx
   obtain⟨xk,xv⟩:=x
   obtain rfl:xk=key:=hk
   have eL:(YI ps xk v).length=ps.length:=by rw[eS,List.length_append,List.length_append,List.length_take,List.length_drop,List.length_singleton];omega
   generalize hI:Xu ltS Prp.key ps xk=i at*
   have e1:ps.take i++[⟨xk,v⟩]++ps.drop (i+1)=ps.set i ⟨xk,v⟩:=by
    conv=>rhs;rw[←List.take_append_drop i ps,List.drop_eq_getElem_cons hi]
    rw[List.set_append_right _ _ (by rw[List.length_take];omega),List.length_take,Nat.min_eq_left (by omega),Nat.sub_self,List.append_assoc];rfl
   have eM:(YI ps xk v).map Xh=(ps.map Xh).set i (Xh ⟨xk,v⟩):=by rw[eS,e1,List.map_set]
   rw[eL,eM]
   have hxc:(ps.map Xh)[i]? =some ([.v (.string (Xb xk))]++U3 xv++[]):=by rw[List.getElem?_map,hxi];simp[Xh]
   have hv5:(U3 v).length=(U3 xv).length:=by cases v;cases xv;rfl
   have hpp:=fun T=>XdL (T:=T) (b':=U3 v) h6 hxc rfl hv5
   have hset:∀y∈(ps.map Xh).set i (Xh ⟨xk,v⟩),y.length=6:=fun y hy=>by
    rcases List.mem_or_eq_of_mem_set hy with hy|rfl
    ·exact h6 y hy
    ·exact XaC _
   have hfl:=fun T=>List.take_left' (l₂:=T) (Uq hset)
   rw[List.length_set,hlm] at hfl
   have hsl:((ps.map Xh).set i (Xh ⟨xk,v⟩)).length=ps.length:=by rw[List.length_set,hlm]
   have hcp:Xh ⟨xk,v⟩=[.v (.string (Xb xk))]++U3 v++[]:=by simp[Xh]
   clear hb hx eS eL eM z hok hr hxc e1 hxi hI
   rw[←hcp] at hpp
   generalize hX':(ps.map Xh).set i (Xh ⟨xk,v⟩)=X' at*
   generalize ps.map Xh=xs at*
   obtain⟨k0,k1,k2,k3,k4⟩:=v
   simp only[Xv,VY] at*
   refine Qhe ?_;refine W9_ ?_
   show AWP Tryz.prog E _ _ _
   refine X2z 0 1 120 rfl (by omega) rfl hlm.symm rfl rfl (fun c k hc1 hc2 hc3 _=> ?_)
   have hpp:Y6 (fl X'++List.replicate k none) none=(Y6 (fl xs++List.replicate k none) none).take (0+i*6+1)++[ai k0,ai k1,ai k2,.d (.v (.string (Xb k3))),.d (.sl 5 (XU k4))]++(Y6 (fl xs++List.replicate k none) none).drop (0+i*6+1+5):=by rw[Nat.zero_add];exact hpp _
   have hfl:=hfl (List.replicate k none)
   have hT:(List.replicate k (none:Option D)).length=k:=List.length_replicate
   generalize List.replicate k (none:Option D)=T at*
   have hlen:(List.map some xs.flatten++T).length=xs.length*6+k:=by rw[List.length_append,hT];exact congrArg (· +k) (Uq h6)
   have hlen':(List.map some X'.flatten++T).length=xs.length*6+k:=by rw[List.length_append,hT];exact(congrArg (· +k) (Uq hset)).trans (by rw[hsl,hlm])
   have hcap:c*6≤(fl X'++T).length:=by show c*6≤(List.map some X'.flatten++T).length;omega
   have hbd:0+i*6+1+5≤(List.map some xs.flatten++T).length:=by omega
   refine W2_ ?_;refine Z3 (hcon:=hz) ?_;refine QHg ?_;refine Qzd ?_;refine QCa ?_;refine Zh (sz:=6) ?_;refine W1_ ?_;(refine Zi (cs':=fl X'++T) (ho':=none) ?_ (hcs:= ?hcs53);(case hcs53=>exact hpp));refine W6_ ?_
   show AWP Tryz.prog E _ _ _
   refine Xq (X0J 6 120 110 X' (by conv=>lhs;whnf) (by conv=>lhs;whnf) hfl hsl hset (by omega) hc2 hcap rfl rfl) ?_
   (show AWP Tryz.prog E _ _ _;refine X1 ?_;exact(show Xy _ _ _ _ _ from⟨_,St.le_refl _,⟨rfl,trivial⟩,Xn ⟨rfl,rfl,trivial⟩⟩))
 have b:XO Prp.key ps key=false:=by simpa using b
 rw[b] at hc
 by_cases z:Um v=true
 ·have eS:YI ps key v=ps:=by
   unfold YI
   rw[if_pos z,X55 b,List.append_nil,List.take_append_drop]
  rw[z] at hz
  rw[eS]
  clear hb z hok hr h6 eS b
  generalize Xu ltS Prp.key ps key=i at*
  generalize ps.map Xh=xs at*
  obtain⟨k0,k1,k2,k3,k4⟩:=v
  simp only[Xv,VY] at*
  refine QGg ?_;refine W2_ ?_;refine Qz ?_;refine JF ?_;refine W3_ ?_;refine Z3 (hcon:=hz) ?_;refine W2_ ?_;refine QCa ?_
  show AWP Tryz.prog E _ _ _
  refine Xq (X6k 6 1 110 rfl rfl hlm.symm rfl rfl) ?_
  (show AWP Tryz.prog E _ _ _;refine X1 ?_;exact(show Xy _ _ _ _ _ from⟨_,St.le_refl _,⟨rfl,trivial⟩,Xn ⟨rfl,rfl,trivial⟩⟩))
 have z:Um v=false:=by simpa using z
 have eS:YI ps key v=ps.take (Xu ltS Prp.key ps key)++[⟨key,v⟩]++ps.drop (Xu ltS Prp.key ps key):=by
  unfold YI
  rw[if_neg (by simp[z]),X55 b]
 rw[z] at hz
 have eL:(YI ps key v).length=ps.length+1:=by rw[eS,List.length_append,List.length_append,List.length_take,List.length_drop,List.length_singleton];omega
 have eM:(YI ps key v).map Xh=(ps.map Xh).take (Xu ltS Prp.key ps key)++Xh ⟨key,v⟩::(ps.map Xh).drop (Xu ltS Prp.key ps key):=by
  rw[eS,List.map_append,List.map_append,List.map_take,List.map_drop,List.append_assoc];rfl
 have hlt:(ps.length:Int)<16:=by omega
 rw[eL,eM]
 have hd:=XjD (ps.map Xh) (Xu ltS Prp.key ps key) (Xh ⟨key,v⟩) h6 (XaC _) (by omega) (by omega)
 have hm:=UW 20
 rw[hlm] at hd
 clear hb eS eL eM z hok hr h6 b
 generalize Xu ltS Prp.key ps key=i at*
 generalize ps.map Xh=xs at*
 obtain⟨k0,k1,k2,k3,k4⟩:=v
 simp only[Xv,VY,Xh,U3] at*
 have hlt':(xs.length:Int)<16:=by omega
 have hlm':ps.length=xs.length:=hlm.symm
 refine QGg ?_;refine QHg ?_;refine W2_ ?_;refine Qna ?_;refine Zj (op:= .lss) (r':= .bool true) (u:= .int .i64 (xs.length:Nat)) (v:= .int .i64 16) ?_ (hr':=by exact congrArg Value.bool (decide_eq_true hlt'));refine Z3 (hcon:=hm) ?_;refine W9_ ?_;refine Z3 (hcon:=hd) ?_;refine W2_ ?_
 (show AWP Tryz.prog E _ _ _;refine X1 ?_;exact(show Xy _ _ _ _ _ from⟨_,St.le_refl _,⟨rfl,trivial⟩,Xn ⟨rfl,rfl,trivial⟩⟩))
theorem XdG (hr:YX ltS Prp.key ps) (hl:ps.length≤16) (hok:¬(YI ps key v).length≤16):
  V7 Tryz.prog 173 [(121,.row 6 (ps.map Xh))] [.own 121 ps.length,.d (.v (.string (Xb key))),Xv v] (Vx 20):=by
 refine X0x Tryz.func173 rfl Tryz.ntmps173 rfl (fun E=> ?_)
 have hc:=X3e 121 (Xej ps key (by omega) hr)
 rw[List.length_map] at hc
 have hz:=X9G v
 have hlm:(ps.map Xh).length=ps.length:=List.length_map ..
 have z:Um v=false:=by
  by_cases z:Um v=true
  ·refine absurd ?_ hok
   unfold YI
   rw[if_pos z]
   have:=X3t (lt:=ltS) (key:=Prp.key) (l:=ps) (k:=key) (ns:=[])
   simp only[List.length_nil] at this
   omega
  ·simpa using z
 have b:XO Prp.key ps key=false:=by
  by_cases b:XO Prp.key ps key=true
  ·refine absurd ?_ hok
   unfold YI
   rw[if_neg (by simp[z]),XaB X0Y hr b];exact hl
  ·simpa using b
 have h16:¬(ps.length:Int)<16:=by
  intro q
  refine hok ?_
  unfold YI
  rw[if_neg (by simp[z])]
  have:=X3t (lt:=ltS) (key:=Prp.key) (l:=ps) (k:=key) (ns:=[⟨key,v⟩])
  simp only[List.length_singleton] at this
  omega
 rw[z] at hz
 rw[b] at hc
 clear z b hok hr
 generalize Xu ltS Prp.key ps key=i at*
 generalize ps.map Xh=xs at*
 obtain⟨k0,k1,k2,k3,k4⟩:=v
 simp only[Xv,VY] at*
 refine QGg ?_;refine QHg ?_;refine Qzd ?_;refine Qo ?_;refine X0X 3 rfl (fun _=>rfl) ?_
 have h16':¬(xs.length:Int)<16:=by omega
 have hlm':ps.length=xs.length:=hlm.symm
 refine W2_ ?_;refine Zj (op:= .lss) (r':= .bool false) (u:= .int .i64 (xs.length:Nat)) (v:= .int .i64 16) ?_ (hr':=by exact congrArg Value.bool (decide_eq_false h16'))
 (refine .done (fun h=>Bool.noConfusion h) ?_;apply X0R (hcon:=X0V 20);(case hxs=>exact rfl);(case hys=>conv=>lhs;whnf);(case hle=>((repeat (first|exact trivial|refine⟨(by(first|((exact AVal.le_refl _))|((exact AVal.le_nil _))|((refine AVal.le_agg ?_;((repeat (first|exact trivial|refine⟨(by(first|((exact AVal.le_refl _))|((exact AVal.le_nil _))|((refine AVal.le_of_eq ?_;(conv=>lhs;whnf);(first|((rfl))|((simp<;>fail))|fail)))|fail)),?_⟩|fail))<;>fail)))|((refine AVal.le_of_eq ?_;(conv=>lhs;whnf);(first|((rfl))|((simp<;>fail))|fail)))|fail)),?_⟩|fail))<;>fail));(case hf=>exact rfl);(case hLi=>(repeat (first|exact trivial|refine⟨rfl,?_⟩|fail))<;>fail))
end
open Go
abbrev VH:Value:= .slice none 0 0
def cNN (n:Nod):List NC:=[.d (.v (.int .i64 n.id)),.r 1 (n.labels.map Xl),.r 6 (n.props.map Xh)]
def cNE (e:Edg):List NC:=[.d (.v (.int .i64 e.id)),.d (.v (.int .i64 e.src)),.d (.v (.int .i64 e.dst)),.d (.v (.string (Xb e.typ))),.r 6 (e.props.map Xh)]
abbrev XN:=Nod×Value×Value
abbrev XE:=Edg×Value
def rXN (x:XN):RN:=(x.1.id,.v x.2.1,.v x.2.2)
def rXE (x:XE):RE:=(x.1.id,x.1.src,x.1.dst,x.1.typ,.v x.2)
def bXN (x:XN):List Hd:=[(x.2.1,1,x.1.labels.map Xl),(x.2.2,6,x.1.props.map Xh)]
def bXE (x:XE):List Hd:=[(x.2,6,x.1.props.map Xh)]
def Y0 (xs:List XN):List Hd:=(xs.map bXN).flatten
def YC (xs:List XE):List Hd:=(xs.map bXE).flatten
theorem XeA:∀xs:List XN,VE ((xs.map fun x=>cNN x.1).flatten) ((xs.map fun x=>cRN (rXN x)).flatten) (Y0 xs)
 |[]=>trivial
 |x::xs=>by
  have ih:=XeA xs
  simp only[Y0,List.map_cons,List.flatten_cons] at ih ⊢
  exact⟨rfl,rfl,rfl,rfl,rfl,ih⟩
theorem Xho:∀xs:List XE,VE ((xs.map fun x=>cNE x.1).flatten) ((xs.map fun x=>cRE (rXE x)).flatten) (YC xs)
 |[]=>trivial
 |x::xs=>by
  have ih:=Xho xs
  simp only[YC,List.map_cons,List.flatten_cons] at ih ⊢
  exact⟨rfl,rfl,rfl,rfl,rfl,rfl,ih⟩
theorem Xj3:∀(ns:List Nod) (rows:List (List D)) (hs:List Hd),rows.length=ns.length→(∀x∈rows,x.length=3)→VE (ns.map cNN).flatten rows.flatten hs→
  ∃xs:List XN,ns=xs.map (·.1)∧rows=(xs.map rXN).map cRN∧hs=Y0 xs
 |[],[],hs,_,_,h=>by
  cases hs with
  |nil=>exact⟨[],rfl,rfl,rfl⟩
  |cons k hs=>exact h.elim
 |[],_::_,_,h,_,_=>by simp at h
 |_::_,[],_,h,_,_=>by simp at h
 |n::ns,r::rows,hs,hl,hz,h=>by
  have h3:=hz r (by simp)
  match r,h3 with
  |[a,b,c],_=>
   simp only[List.map_cons,List.flatten_cons,cNN,List.cons_append,List.nil_append] at h
   match hs,h with
   |[],h=>simp[VE] at h
   |[_],h=>simp[VE] at h
   |p::q::hs,h=>
    obtain⟨rfl,rfl,hp,rfl,hq,h⟩:=h
    obtain⟨xs,rfl,rfl,rfl⟩:=Xj3 ns rows hs (by simpa using hl) (fun x hx=>hz x (by simp[hx])) h
    refine⟨(n,p.1,q.1)::xs,rfl,rfl,?_⟩
    obtain⟨p1,p2⟩:=p
    obtain⟨q1,q2⟩:=q
    simp only at hp hq
    subst hp hq
    rfl
theorem XeW:∀(ns:List Edg) (rows:List (List D)) (hs:List Hd),rows.length=ns.length→(∀x∈rows,x.length=5)→VE (ns.map cNE).flatten rows.flatten hs→
  ∃xs:List XE,ns=xs.map (·.1)∧rows=(xs.map rXE).map cRE∧hs=YC xs
 |[],[],hs,_,_,h=>by
  cases hs with
  |nil=>exact⟨[],rfl,rfl,rfl⟩
  |cons k hs=>exact h.elim
 |[],_::_,_,h,_,_=>by simp at h
 |_::_,[],_,h,_,_=>by simp at h
 |n::ns,r::rows,hs,hl,hz,h=>by
  have h3:=hz r (by simp)
  match r,h3 with
  |[a,b,c,d,e],_=>
   simp only[List.map_cons,List.flatten_cons,cNE,List.cons_append,List.nil_append] at h
   match hs,h with
   |[],h=>simp[VE] at h
   |p::hs,h=>
    obtain⟨rfl,rfl,rfl,rfl,rfl,hp,h⟩:=h
    obtain⟨xs,rfl,rfl,rfl⟩:=XeW ns rows hs (by simpa using hl) (fun x hx=>hz x (by simp[hx])) h
    refine⟨(n,p.1)::xs,rfl,rfl,?_⟩
    obtain⟨p1,p2⟩:=p
    simp only at hp
    subst hp
    rfl
theorem X5H (xs ys:List XN):Y0 (xs++ys)=Y0 xs++Y0 ys:=by simp[Y0]
theorem X6u (xs ys:List XE):YC (xs++ys)=YC xs++YC ys:=by simp[YC]
theorem XaY (x:XN) (xs:List XN):Y0 (x::xs)=(x.2.1,1,x.1.labels.map Xl)::(x.2.2,6,x.1.props.map Xh)::Y0 xs:=rfl
theorem Xgn (x:XE) (xs:List XE):YC (x::xs)=(x.2,6,x.1.props.map Xh)::YC xs:=rfl
abbrev edS (g:Gra):List (Nat×AObj):=[(0,.box [.own 3 g.nodes.length,.own 4 g.edges.length,ai g.nn,ai g.ne]),(3,.nest 3 (g.nodes.map cNN)),(4,.nest 5 (g.edges.map cNE))]
abbrev edN (g:Gra):List (Nat×AObj):=[(0,.box [.own 110 g.nodes.length,.own 4 g.edges.length,ai g.nn,ai g.ne]),(3,.dead),(4,.nest 5 (g.edges.map cNE)),(110,.nest 3 (g.nodes.map cNN))]
abbrev edE (g:Gra):List (Nat×AObj):=[(0,.box [.own 3 g.nodes.length,.own 110 g.edges.length,ai g.nn,ai g.ne]),(3,.nest 3 (g.nodes.map cNN)),(4,.dead),(110,.nest 5 (g.edges.map cNE))]
section
variable {P:Program}{E:Env}{c:Code}{S:St}{Q:Exit→St→Prop}
theorem Vu {ns:List Nod}{es:List Edg} (hN:S.obj 3= .nest 3 (ns.map cNN)) (hE:S.obj 4= .nest 5 (es.map cNE)) (h210:S.obj 210= .dead) (h211:S.obj 211= .dead)
  (h:∀(xs:List XN) (ys:List XE),ns=xs.map (·.1)→es=ys.map (·.1)→AWP P E c ⟨S.n,S.τ,(4,.row 5 ((ys.map rXE).map cRE))::(211,.bag (YC ys))::(3,.row 3 ((xs.map rXN).map cRN))::(210,.bag (Y0 xs))::S.L⟩ Q):AWP P E c S Q:=by
 refine XfC 3 210 hN h210 fun rows hs h1 h2 h3=> ?_
 obtain⟨xs,rfl,rfl,rfl⟩:=Xj3 ns rows hs (by simpa using h1) h3 h2
 refine XfC 4 211 (sz:=5) (xs:=es.map cNE) ?_ ?_ fun rows2 hs2 k1 k2 k3=> ?_
 ·show Xo _ _ _=_
  rw[Y9 _ _ _ (by decide),Y9 _ _ _ (by decide)];exact hE
 ·show Xo _ _ _=_
  rw[Y9 _ _ _ (by decide),Y9 _ _ _ (by decide)];exact h211
 ·obtain⟨ys,rfl,rfl,rfl⟩:=XeW es rows2 hs2 (by simpa using k1) k3 k2
  exact h xs ys rfl rfl
end
theorem X32 {S:St} (γ δ:Nat) (xs:List XN) (hL:S.obj γ= .row 3 ((xs.map rXN).map cRN)) (hB:S.obj δ= .bag (Y0 xs)):S.le ⟨S.n,S.τ,(γ,.nest 3 ((xs.map (·.1)).map cNN))::(δ,.dead)::S.L⟩:=
 XiJ γ δ ((xs.map (·.1)).map cNN) hL hB (by simp) (by
  have:=XeA xs
  rw[List.map_map,List.map_map];exact this)
theorem X2S {S:St} (γ δ:Nat) (xs:List XE) (hL:S.obj γ= .row 5 ((xs.map rXE).map cRE)) (hB:S.obj δ= .bag (YC xs)):S.le ⟨S.n,S.τ,(γ,.nest 5 ((xs.map (·.1)).map cNE))::(δ,.dead)::S.L⟩:=
 XiJ γ δ ((xs.map (·.1)).map cNE) hL hB (by simp) (by
  have:=Xho xs
  rw[List.map_map,List.map_map];exact this)
theorem VO (xs:List XN) (n:Int):Xu ltI kRN (xs.map rXN) n=Xu ltI Nod.id (xs.map (·.1)) n:=by
 unfold Xu
 induction xs with
 |nil=>rfl
 |cons x xs ih=>
  simp only[List.map_cons,List.takeWhile_cons]
  have:ltI (kRN (rXN x)) n=ltI x.1.id n:=rfl
  rw[this]
  split
  ·simp only[List.length_cons,ih]
  ·rfl
theorem VN (xs:List XN) (n:Int):XO kRN (xs.map rXN) n=XO Nod.id (xs.map (·.1)) n:=by
 unfold XO
 rw[List.any_map,List.any_map];rfl
theorem VP (xs:List XN):YX ltI kRN (xs.map rXN)↔YX ltI Nod.id (xs.map (·.1)):=by
 unfold YX
 rw[List.pairwise_map,List.pairwise_map];rfl
theorem X2G (xs:List XE) (n:Int):Xu ltI kRE (xs.map rXE) n=Xu ltI Edg.id (xs.map (·.1)) n:=by
 unfold Xu
 induction xs with
 |nil=>rfl
 |cons x xs ih=>
  simp only[List.map_cons,List.takeWhile_cons]
  have:ltI (kRE (rXE x)) n=ltI x.1.id n:=rfl
  rw[this]
  split
  ·simp only[List.length_cons,ih]
  ·rfl
theorem X2J (xs:List XE) (n:Int):XO kRE (xs.map rXE) n=XO Edg.id (xs.map (·.1)) n:=by
 unfold XO
 rw[List.any_map,List.any_map];rfl
theorem X2L (xs:List XE):YX ltI kRE (xs.map rXE)↔YX ltI Edg.id (xs.map (·.1)):=by
 unfold YX
 rw[List.pairwise_map,List.pairwise_map];rfl
theorem XbQ {α:Type}{xs:List α}{v:α}{i:Nat} (hi:i≤xs.length):(xs.take i++v::xs.drop i).length=xs.length+1:=by rw[List.length_append,List.length_cons,List.length_take,List.length_drop];omega
theorem X2t (rn:List RN):∀x∈rn.map cRN,x.length=3:=fun x hx=>by obtain⟨p,_,rfl⟩:=List.mem_map.1 hx;rfl
theorem X4d (re:List RE):∀x∈re.map cRE,x.length=5:=fun x hx=>by obtain⟨p,_,rfl⟩:=List.mem_map.1 hx;rfl
theorem XmO (g:Gra) (c:Chg) (hg:GV g) (hc:1≤c.id∧c.id≤1000000) (ho:c.op=1) (q1:XO Nod.id g.nodes c.id=false) (q2:g.nodes.length<2000):
  Con Tryz.prog 121 (edS g) [.ptr 0 0,Xx c] (edN (VC g ⟨c.id,[],[]⟩)) (.tup []):=by
 obtain⟨ns,es,nn,ne⟩:=g
 have hns:=hg.ns
 have hnn:=hg.nn
 simp only at q1 q2 hns hnn
 have e0:VC ⟨ns,es,nn,ne⟩ ⟨c.id,[],[]⟩=⟨ns.take (Xu ltI Nod.id ns c.id)++[⟨c.id,[],[]⟩]++ns.drop (Xu ltI Nod.id ns c.id),es,max nn (c.id+1),ne⟩:=by
  unfold VC
  simp only
  rw[X55 q1]
 rw[e0]
 have hle:=X6X (lt:=ltI) (key:=Nod.id) ns c.id
 refine Xg (xs:=[]) Tryz.func121 rfl Tryz.ntmps121 rfl rfl rfl (fun E=> ?_)
 refine Vu rfl rfl rfl rfl (fun xs ys h1 h2=> ?_)
 subst h1 h2
 have hN:=VR (xs.map rXN) (ys.map rXE) nn ne c.id (by simp at q2 ⊢;omega) ((VP xs).2 hns)
 rw[VO,VN,q1] at hN
 simp only[edL,List.length_map] at hN q2 hle
 generalize Xu ltI Nod.id (xs.map (·.1)) c.id=i at*
 have hI:Con Tryz.prog 168 [(3,.row 3 ((xs.map rXN).map cRN))] [.own 3 ((xs.map rXN).map cRN).length,ai (i:Nat),.d (.sl 3 [[.v (.int .i64 c.id),.v (.slice none 0 0),.v (.slice none 0 0)]])] [(3,.dead),(110,.row 3 (((xs.map rXN).map cRN).take i++[.v (.int .i64 c.id),.v (.slice none 0 0),.v (.slice none 0 0)]::((xs.map rXN).map cRN).drop i))] (.own 110 (((xs.map rXN).map cRN).length+1)):=
  U0 1 3 (XoP ((xs.map rXN).map cRN) i [.v (.int .i64 c.id),.v (.slice none 0 0),.v (.slice none 0 0)] (X2t _) rfl (by simp;omega) (by simp;omega))
 have hm7:=UW 7
 have hm20:=UW 20
 have eX:(xs.map (·.1)).take i++[⟨c.id,[],[]⟩]++(xs.map (·.1)).drop i=(xs.take i++((⟨c.id,[],[]⟩:Nod),VH,VH)::xs.drop i).map (·.1):=by
  simp[List.map_take,List.map_drop]
 have eL:(xs.take i++((⟨c.id,[],[]⟩:Nod),VH,VH)::xs.drop i).length=xs.length+1:=XbQ hle
 have eR:((xs.map rXN).map cRN).take i++[.v (.int .i64 c.id),.v (.slice none 0 0),.v (.slice none 0 0)]::((xs.map rXN).map cRN).drop i=((xs.take i++((⟨c.id,[],[]⟩:Nod),VH,VH)::xs.drop i).map rXN).map cRN:=by
  simp[List.map_take,List.map_drop,rXN,cRN]
 have eB:Y0 (xs.take i)++(VH,1,[])::(VH,6,[])::Y0 (xs.drop i)=Y0 (xs.take i++((⟨c.id,[],[]⟩:Nod),VH,VH)::xs.drop i):=by rw[X5H,XaY];rfl
 have eB0:Y0 xs=Y0 (xs.take i)++Y0 (xs.drop i):=by rw[←X5H,List.take_append_drop]
 rw[eX]
 have hlen2:((xs.map rXN).map cRN).length=xs.length:=by simp
 rw[hlen2] at hI
 simp only[edN,edS,List.length_map,eL]
 have q2':(((xs.map rXN).map cRN).length:Int)<2000:=by rw[hlen2];omega
 have hlen2':xs.length=((xs.map rXN).map cRN).length:=hlen2.symm
 clear hg hns e0 eX eL
 generalize hR:(xs.map rXN).map cRN=R at*
 generalize hX:xs.take i++((⟨c.id,[],[]⟩:Nod),VH,VH)::xs.drop i=X at*
 obtain⟨op,id,src,dst,name,⟨k0,k1,k2,k3,k4⟩⟩:=c
 try simp only at*
 subst ho
 simp only[Xx,YW] at*
 refine W9_ ?_;refine Z3 (hcon:=hN) ?_;refine Xr ?_;refine Qe ?_;refine Z3 (hcon:=hm7) ?_;refine W9_ ?_;refine Zj (op:= .lss) (r':= .bool true) (u:= .int .i64 (R.length:Nat)) (v:= .int .i64 2000) ?_ (hr':=by exact congrArg Value.bool (decide_eq_true q2'));refine Z3 (hcon:=hm20) ?_;refine XC ?_;refine Z3 (hcon:=hI) ?_;refine X87 ?_
 show AWP Tryz.prog E _ _ _
 refine Xq (X9n 210 6 (Y0 (xs.take i)) (Y0 (xs.drop i)) (by refine Eq.trans (b:= .bag (Y0 xs)) (by conv=>lhs;whnf) (by rw[eB0]))) ?_;refine Xq (X9n 210 1 (Y0 (xs.take i)) ((VH,6,[])::Y0 (xs.drop i)) (by conv=>lhs;whnf)) ?_;refine Xq (X32 110 210 X (by refine Eq.trans (b:= .row 3 (R.take i++[.v (.int .i64 id),.v (.slice none 0 0),.v (.slice none 0 0)]::R.drop i)) (by conv=>lhs;whnf) (by rw[eR])) (by refine Eq.trans (b:= .bag (Y0 (xs.take i)++(VH,1,[])::(VH,6,[])::Y0 (xs.drop i))) (by conv=>lhs;whnf) (by rw[eB]))) ?_;refine Xq (X2S 4 211 ys (by conv=>lhs;whnf) (by conv=>lhs;whnf)) ?_
 (show AWP Tryz.prog E _ _ _;refine X1 ?_;exact(show Xy _ _ _ _ _ from⟨_,St.le_refl _,trivial,Xn ⟨rfl,rfl,rfl,rfl,trivial⟩⟩))
end Go.Fw

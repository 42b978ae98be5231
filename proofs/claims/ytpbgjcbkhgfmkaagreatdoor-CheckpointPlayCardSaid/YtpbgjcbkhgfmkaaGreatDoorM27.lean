/- Binary searches over rows whose keys rise. -/
import Derived.Test.YtpbgjcbkhgfmkaaGreatDoorM21
set_option maxHeartbeats 16000000
namespace Go.Fw
open Go Go.Proofs Tryz List
set_option maxRecDepth 100000
set_option linter.unusedVariables false
set_option linter.unusedSimpArgs false
abbrev RN:=Int×D×D
def cRN (x:RN):List D:=[.v (.int .i64 x.1),x.2.1,x.2.2]
abbrev kRN (x:RN):Int:=x.1
abbrev RE:=Int×Int×Int×List UInt8×D
def cRE (x:RE):List D:=[.v (.int .i64 x.1),.v (.int .i64 x.2.1),.v (.int .i64 x.2.2.1),.v (.string (X6 x.2.2.2.1)),x.2.2.2.2]
abbrev kRE (x:RE):Int:=x.1
theorem X8p {α κ:Type}{lt:κ->κ->Bool}{key:α->κ}{l:List α}{n:κ}{i:Nat} (h:i<=l.length) (h1:∀k x,k<i->l[k]? =some x->lt (key x) n=true) (h2:∀x,l[i]? =some x->lt (key x) n=false):Xo lt key l n=i:=
 Xcy h (fun k x hk hx=>h1 k x hk hx) (fun x hx=>h2 x hx)
variable{s t:List UInt8}
theorem Xr1 (h:Op.bytesLess s t=true):Ur s t= -1:=PI h
theorem XwN (h:¬Op.bytesLess s t=true):¬Ur s t<0:=by
 unfold Ur;rw[NI h];split<;>decide
theorem Xwm:decide (Ur s t=0)=decide (s=t):=by
 unfold Ur;by_cases h:Op.bytesLess s t=true
 ·rw[PI h,DF (by decide),DF (fun e=>by rw[e,X9U] at h;cases h)]
 ·rw[NI h];by_cases h':s=t
  ·rw[PI h',DT rfl,DT h']
  ·rw[NI h',DF (by decide),DF h']
theorem X4C {α κ:Type}{lt:κ->κ->Bool}{key:α->κ}{l:List α} (hr:YW lt key l) {i j:Nat}{x y:α} (hx:l[i]? =some x) (hy:l[j]? =some y) (h:i<j):lt (key x) (key y)=true:=by
 have hi:=(GS.1 hx)
 have hj:=(GS.1 hy)
 obtain⟨hi,rfl⟩:=hi;obtain⟨hj,rfl⟩:=hj;exact(pairwise_iff_getElem.1 hr) i j hi hj h
theorem Xh1 (x:RN) (n:Int):Con prog 303 [] [.agg [ai x.1,.d x.2.1,.d x.2.2],ai n] [] (ai (YP x.1 n)):=by
 refine ZC1 func303 ntmps303 fun E=> ?_;have hc:=X5A x.1 n;generalize YP x.1 n=q at*;obtain⟨id,p,q'⟩:=x;exact Qw
theorem Xug (l:List RN) (n:Int) (hl:l.length<=4294967296) (hr:YW ltI kRN l):Con prog 222 [] [.d (.sl 3 (l.map cRN)),ai n,.fn 303 []] [] (.tup [ai (Xo ltI kRN l n),ab (XD kRN l n)]):=by
 refine ZCt func222 ntmps222 fun E=> ?_;have hlm:(l.map cRN).length=l.length:=by simp
 refine YR ?_
 refine Xn (ι:=Nat×Nat) (fun q=>q.1<=q.2/\q.2<=l.length/\(∀(k:Nat) (x:RN),k<q.1->l[k]? =some x->ltI (kRN x) n=true)/\(∀(k:Nat) (x:RN),q.2<=k->l[k]? =some x->ltI (kRN x) n=false)) (fun q=>⟨49,[(0,.d (.sl 3 (l.map cRN))),(1,ai n),(2,.fn 303 []),(8,ai (l.map cRN).length),(9,ai q.1),(10,ai q.2)],[]⟩) (fun q=>q.2-q.1) (0,l.length)
  ⟨Nat.zero_le _,Nat.le_refl _,fun k x h=>absurd h (Nat.not_lt_zero _),fun k x h hx=>absurd (GS.1 hx).1 (Nat.not_lt.2 h)⟩
  (Xb rfl ⟨JL,JL,JL,JL,JL,AVal.le_of_eq (by show ai _=ai _;rw[hlm]),TV⟩ trivial) ?_
 rintro⟨i,j⟩ ⟨h1,h2,h3,h4⟩;simp only at h1 h2 h3 h4;by_cases hij:i<j
 case neg=>
  obtain rfl:i=j:=by omega
  have aN:=X8p h2 h3 (fun x hx=>h4 i x (Nat.le_refl _) hx);have bh:=X10 (k:=n) UY hr;rw[aN] at bh;rw[aN,bh];have dR:¬(i:Int)<(i:Nat):=by omega
  by_cases hil:i<l.length
  ·have dS:(i:Int)<(l.map cRN).length:=by omega
   obtain⟨x,hx⟩:=Xu (l:=l) hil;have au:(l.map cRN)[i]? =some (cRN x):=XM hx;have hc:=Xh1 x n;have hd:decide (∃y,l[i]? =some y/\kRN y=n)=decide (YP (kRN x) n=0):=by rw[Xex,hx];simp
   rw[hd];generalize YP (kRN x) n=c at*;clear bh aN hd hx h3 h4 hr;obtain⟨id,p,q'⟩:=x;simp only[cRN,kRN] at hc au;refine QRb ?_
   first|exact X2 ⟨_,St.le_refl _,⟨rfl,rfl,TV⟩,X4 _⟩|exact X2 ⟨_,St.le_refl _,⟨⟨rfl,rfl,TV⟩,TV⟩,X4 _⟩
  ·have dS:¬(i:Int)<(l.map cRN).length:=by omega
   have hd:decide (∃y,l[i]? =some y/\kRN y=n)=false:=by
    refine DF ?_;rintro⟨y,hy,_⟩;exact hil (GS.1 hy).1
   rw[hd];clear bh aN hd h3 h4 hr;refine YY ?_
   first|exact X2 ⟨_,St.le_refl _,⟨rfl,rfl,TV⟩,X4 _⟩|exact X2 ⟨_,St.le_refl _,⟨⟨rfl,rfl,TV⟩,TV⟩,X4 _⟩
 have dR:(i:Int)<(j:Nat):=by omega
 obtain⟨x,hx⟩:=Xu (l:=l) (k:=(i+j)/2) (by omega);have au:(l.map cRN)[(i+j)/2]? =some (cRN x):=XM hx;have hc:=Xh1 x n;have e2:n64 ((i+j)/2^1)=n64 ((i+j)/2):=rfl;by_cases hlt:ltI (kRN x) n=true
 ·have hinv:∀(k:Nat) (y:RN),k<(i+j)/2+1->l[k]? =some y->ltI (kRN y) n=true:=fun k y hk hy=>by
   by_cases e:k=(i+j)/2
   ·subst e;rw[hx] at hy;injection hy with hy;subst hy;exact hlt
   ·exact UY.tr _ _ _ (X4C hr hy hx (by omega)) hlt
  rw[Xeg (by simpa [ltI] using hlt)] at hc;clear hlt hr h3 hx;obtain⟨id,p,q'⟩:=x;simp only[cRN,kRN] at hc au;refine QSb ?_;(refine Z0 (u:=ni (i+j)) (r:=n64 (i+j)) ?_ (hr:=by exact Uj rfl rfl (by rw[YG];omega)));refine QTb ?_;(refine Z0 (u:=n64 ((i+j)/2)) (r:=ni ((i+j)/2)) ?_ (hr:=by exact Uj rfl rfl (by rw[YO];omega)));exact QUb
 ·have hinv:∀(k:Nat) (y:RN),(i+j)/2<=k->l[k]? =some y->ltI (kRN y) n=false:=fun k y hk hy=>by
   by_cases e:k=(i+j)/2
   ·subst e;rw[hx] at hy;injection hy with hy;subst hy;simpa using hlt
   ·have h5:=X4C hr hx hy (by omega);by_cases q:ltI (kRN y) n=true
    ·exact absurd (UY.tr _ _ _ h5 q) hlt
    ·simpa using q
  have hge:=Xf0 (x:=kRN x) (y:=n) (by simpa [ltI] using hlt);clear hlt hr h4 hx;generalize YP (kRN x) n=c at*;obtain⟨id,p,q'⟩:=x;simp only[cRN,kRN] at hc au;refine QSb ?_;(refine Z0 (u:=ni (i+j)) (r:=n64 (i+j)) ?_ (hr:=by exact Uj rfl rfl (by rw[YG];omega)));refine QTb ?_;(refine Z0 (u:=n64 ((i+j)/2)) (r:=ni ((i+j)/2)) ?_ (hr:=by exact Uj rfl rfl (by rw[YO];omega)));exact QWb
theorem Xj4 (x:RE) (n:Int):Con prog 315 [] [.agg [ai x.1,ai x.2.1,ai x.2.2.1,.d (.v (.string (X6 x.2.2.2.1))),.d x.2.2.2.2],ai n] [] (ai (YP x.1 n)):=by
 refine ZC1 func315 ntmps315 fun E=> ?_;have hc:=X5A x.1 n;generalize YP x.1 n=q at*;obtain⟨id,s,t,ty,p⟩:=x;exact Qw
theorem Xui (l:List RE) (n:Int) (hl:l.length<=4294967296) (hr:YW ltI kRE l):Con prog 314 [] [.d (.sl 5 (l.map cRE)),ai n,.fn 315 []] [] (.tup [ai (Xo ltI kRE l n),ab (XD kRE l n)]):=by
 refine ZCt func314 ntmps314 fun E=> ?_;have hlm:(l.map cRE).length=l.length:=by simp
 refine YR ?_
 refine Xn (ι:=Nat×Nat) (fun q=>q.1<=q.2/\q.2<=l.length/\(∀(k:Nat) (x:RE),k<q.1->l[k]? =some x->ltI (kRE x) n=true)/\(∀(k:Nat) (x:RE),q.2<=k->l[k]? =some x->ltI (kRE x) n=false)) (fun q=>⟨49,[(0,.d (.sl 5 (l.map cRE))),(1,ai n),(2,.fn 315 []),(8,ai (l.map cRE).length),(9,ai q.1),(10,ai q.2)],[]⟩) (fun q=>q.2-q.1) (0,l.length)
  ⟨Nat.zero_le _,Nat.le_refl _,fun k x h=>absurd h (Nat.not_lt_zero _),fun k x h hx=>absurd (GS.1 hx).1 (Nat.not_lt.2 h)⟩
  (Xb rfl ⟨JL,JL,JL,JL,JL,AVal.le_of_eq (by show ai _=ai _;rw[hlm]),TV⟩ trivial) ?_
 rintro⟨i,j⟩ ⟨h1,h2,h3,h4⟩;simp only at h1 h2 h3 h4;by_cases hij:i<j
 case neg=>
  obtain rfl:i=j:=by omega
  have aN:=X8p h2 h3 (fun x hx=>h4 i x (Nat.le_refl _) hx);have bh:=X10 (k:=n) UY hr;rw[aN] at bh;rw[aN,bh];have dR:¬(i:Int)<(i:Nat):=by omega
  by_cases hil:i<l.length
  ·have dS:(i:Int)<(l.map cRE).length:=by omega
   obtain⟨x,hx⟩:=Xu (l:=l) hil;have au:(l.map cRE)[i]? =some (cRE x):=XM hx;have hc:=Xj4 x n;have hd:decide (∃y,l[i]? =some y/\kRE y=n)=decide (YP (kRE x) n=0):=by rw[Xex,hx];simp
   rw[hd];generalize YP (kRE x) n=c at*;clear bh aN hd hx h3 h4 hr;obtain⟨id,s,t,ty,p⟩:=x;simp only[cRE,kRE] at hc au;refine QRb ?_
   first|exact X2 ⟨_,St.le_refl _,⟨rfl,rfl,TV⟩,X4 _⟩|exact X2 ⟨_,St.le_refl _,⟨⟨rfl,rfl,TV⟩,TV⟩,X4 _⟩
  ·have dS:¬(i:Int)<(l.map cRE).length:=by omega
   have hd:decide (∃y,l[i]? =some y/\kRE y=n)=false:=by
    refine DF ?_;rintro⟨y,hy,_⟩;exact hil (GS.1 hy).1
   rw[hd];clear bh aN hd h3 h4 hr;refine YY ?_
   first|exact X2 ⟨_,St.le_refl _,⟨rfl,rfl,TV⟩,X4 _⟩|exact X2 ⟨_,St.le_refl _,⟨⟨rfl,rfl,TV⟩,TV⟩,X4 _⟩
 have dR:(i:Int)<(j:Nat):=by omega
 obtain⟨x,hx⟩:=Xu (l:=l) (k:=(i+j)/2) (by omega);have au:(l.map cRE)[(i+j)/2]? =some (cRE x):=XM hx;have hc:=Xj4 x n;have e2:n64 ((i+j)/2^1)=n64 ((i+j)/2):=rfl;by_cases hlt:ltI (kRE x) n=true
 ·have hinv:∀(k:Nat) (y:RE),k<(i+j)/2+1->l[k]? =some y->ltI (kRE y) n=true:=fun k y hk hy=>by
   by_cases e:k=(i+j)/2
   ·subst e;rw[hx] at hy;injection hy with hy;subst hy;exact hlt
   ·exact UY.tr _ _ _ (X4C hr hy hx (by omega)) hlt
  rw[Xeg (by simpa [ltI] using hlt)] at hc;clear hlt hr h3 hx;obtain⟨id,s,t,ty,p⟩:=x;simp only[cRE,kRE] at hc au;refine QSb ?_;(refine Z0 (u:=ni (i+j)) (r:=n64 (i+j)) ?_ (hr:=by exact Uj rfl rfl (by rw[YG];omega)));refine QTb ?_;(refine Z0 (u:=n64 ((i+j)/2)) (r:=ni ((i+j)/2)) ?_ (hr:=by exact Uj rfl rfl (by rw[YO];omega)));exact QUb
 ·have hinv:∀(k:Nat) (y:RE),(i+j)/2<=k->l[k]? =some y->ltI (kRE y) n=false:=fun k y hk hy=>by
   by_cases e:k=(i+j)/2
   ·subst e;rw[hx] at hy;injection hy with hy;subst hy;simpa using hlt
   ·have h5:=X4C hr hx hy (by omega);by_cases q:ltI (kRE y) n=true
    ·exact absurd (UY.tr _ _ _ h5 q) hlt
    ·simpa using q
  have hge:=Xf0 (x:=kRE x) (y:=n) (by simpa [ltI] using hlt);clear hlt hr h4 hx;generalize YP (kRE x) n=c at*;obtain⟨id,s,t,ty,p⟩:=x;simp only[cRE,kRE] at hc au;refine QSb ?_;(refine Z0 (u:=ni (i+j)) (r:=n64 (i+j)) ?_ (hr:=by exact Uj rfl rfl (by rw[YG];omega)));refine QTb ?_;(refine Z0 (u:=n64 ((i+j)/2)) (r:=ni ((i+j)/2)) ?_ (hr:=by exact Uj rfl rfl (by rw[YO];omega)));exact QWb
theorem XiG (x:Prp) (n:List UInt8):Con prog 311 [] [.agg ((Xd x).map .d),.d (.v (.string (X6 n)))] [] (ai (Ur x.key n)):=by
 refine ZC1 func311 ntmps311 fun E=> ?_;have hc:=X9b x.key n;generalize Ur x.key n=q at*;obtain⟨key,⟨k0,k1,k2,k3,k4⟩⟩:=x;simp only[Xd,UT,map_cons,map_nil] at*;exact Qw
theorem Xhn (l:List Prp) (n:List UInt8) (hl:l.length<=4294967296) (hr:YW aA Prp.key l):Con prog 310 [] [.d (.sl 6 (l.map Xd)),.d (.v (.string (X6 n))),.fn 311 []] [] (.tup [ai (Xo aA Prp.key l n),ab (XD Prp.key l n)]):=by
 refine ZCt func310 ntmps310 fun E=> ?_;have hlm:(l.map Xd).length=l.length:=by simp
 refine YR ?_
 refine Xn (ι:=Nat×Nat) (fun q=>q.1<=q.2/\q.2<=l.length/\(∀(k:Nat) (x:Prp),k<q.1->l[k]? =some x->aA (Prp.key x) n=true)/\(∀(k:Nat) (x:Prp),q.2<=k->l[k]? =some x->aA (Prp.key x) n=false)) (fun q=>⟨49,[(0,.d (.sl 6 (l.map Xd))),(1,.d (.v (.string (X6 n)))),(2,.fn 311 []),(8,ai (l.map Xd).length),(9,ai q.1),(10,ai q.2)],[]⟩) (fun q=>q.2-q.1) (0,l.length)
  ⟨Nat.zero_le _,Nat.le_refl _,fun k x h=>absurd h (Nat.not_lt_zero _),fun k x h hx=>absurd (GS.1 hx).1 (Nat.not_lt.2 h)⟩
  (Xb rfl ⟨JL,JL,JL,JL,JL,AVal.le_of_eq (by show ai _=ai _;rw[hlm]),TV⟩ trivial) ?_
 rintro⟨i,j⟩ ⟨h1,h2,h3,h4⟩;simp only at h1 h2 h3 h4;by_cases hij:i<j
 case neg=>
  obtain rfl:i=j:=by omega
  have aN:=X8p h2 h3 (fun x hx=>h4 i x (Nat.le_refl _) hx);have bh:=X10 (k:=n) X1t hr;rw[aN] at bh;rw[aN,bh];have dR:¬(i:Int)<(i:Nat):=by omega
  by_cases hil:i<l.length
  ·have dS:(i:Int)<(l.map Xd).length:=by omega
   obtain⟨x,hx⟩:=Xu (l:=l) hil;have au:(l.map Xd)[i]? =some (Xd x):=XM hx;have hc:=XiG x n;have hd:decide (∃y,l[i]? =some y/\Prp.key y=n)=decide (Ur (Prp.key x) n=0):=by rw[Xwm,hx];simp
   rw[hd];generalize Ur (Prp.key x) n=c at*;clear bh aN hd hx h3 h4 hr;obtain⟨key,⟨k0,k1,k2,k3,k4⟩⟩:=x;simp only[Xd,UT,map_cons,map_nil] at hc au;refine QRb ?_
   first|exact X2 ⟨_,St.le_refl _,⟨rfl,rfl,TV⟩,X4 _⟩|exact X2 ⟨_,St.le_refl _,⟨⟨rfl,rfl,TV⟩,TV⟩,X4 _⟩
  ·have dS:¬(i:Int)<(l.map Xd).length:=by omega
   have hd:decide (∃y,l[i]? =some y/\Prp.key y=n)=false:=by
    refine DF ?_;rintro⟨y,hy,_⟩;exact hil (GS.1 hy).1
   rw[hd];clear bh aN hd h3 h4 hr;refine YY ?_
   first|exact X2 ⟨_,St.le_refl _,⟨rfl,rfl,TV⟩,X4 _⟩|exact X2 ⟨_,St.le_refl _,⟨⟨rfl,rfl,TV⟩,TV⟩,X4 _⟩
 have dR:(i:Int)<(j:Nat):=by omega
 obtain⟨x,hx⟩:=Xu (l:=l) (k:=(i+j)/2) (by omega);have au:(l.map Xd)[(i+j)/2]? =some (Xd x):=XM hx;have hc:=XiG x n;have e2:n64 ((i+j)/2^1)=n64 ((i+j)/2):=rfl;by_cases hlt:aA (Prp.key x) n=true
 ·have hinv:∀(k:Nat) (y:Prp),k<(i+j)/2+1->l[k]? =some y->aA (Prp.key y) n=true:=fun k y hk hy=>by
   by_cases e:k=(i+j)/2
   ·subst e;rw[hx] at hy;injection hy with hy;subst hy;exact hlt
   ·exact X1t.tr _ _ _ (X4C hr hy hx (by omega)) hlt
  rw[Xr1 hlt] at hc;clear hlt hr h3 hx;obtain⟨key,⟨k0,k1,k2,k3,k4⟩⟩:=x;simp only[Xd,UT,map_cons,map_nil] at hc au;refine QSb ?_;(refine Z0 (u:=ni (i+j)) (r:=n64 (i+j)) ?_ (hr:=by exact Uj rfl rfl (by rw[YG];omega)));refine QTb ?_;(refine Z0 (u:=n64 ((i+j)/2)) (r:=ni ((i+j)/2)) ?_ (hr:=by exact Uj rfl rfl (by rw[YO];omega)));exact QUb
 ·have hinv:∀(k:Nat) (y:Prp),(i+j)/2<=k->l[k]? =some y->aA (Prp.key y) n=false:=fun k y hk hy=>by
   by_cases e:k=(i+j)/2
   ·subst e;rw[hx] at hy;injection hy with hy;subst hy;simpa using hlt
   ·have h5:=X4C hr hx hy (by omega);by_cases q:aA (Prp.key y) n=true
    ·exact absurd (X1t.tr _ _ _ h5 q) hlt
    ·simpa using q
  have hge:=XwN hlt;clear hlt hr h4 hx;generalize Ur (Prp.key x) n=c at*;obtain⟨key,⟨k0,k1,k2,k3,k4⟩⟩:=x;simp only[Xd,UT,map_cons,map_nil] at hc au;refine QSb ?_;(refine Z0 (u:=ni (i+j)) (r:=n64 (i+j)) ?_ (hr:=by exact Uj rfl rfl (by rw[YG];omega)));refine QTb ?_;(refine Z0 (u:=n64 ((i+j)/2)) (r:=ni ((i+j)/2)) ?_ (hr:=by exact Uj rfl rfl (by rw[YO];omega)));exact QWb
theorem XtK (s t:List UInt8):Con prog 306 [] [.d (.v (.string (X6 s))),.d (.v (.string (X6 t)))] [] (ab (Op.bytesLess s t)):=by
 refine ZC1 func306 ntmps306 fun E=> ?_;have h1:=X8P s;have h2:=X8P t;refine W7_ ?_;refine Z3 (af:=h1) ?_;refine W8_ ?_;refine QMb ?_;refine W3_ ?_;exact Zr0
theorem Xsl (s:List UInt8):Con prog 307 [] [.d (.v (.string (X6 s)))] [] (ab false):=by
 refine ZC1 func307 ntmps307 fun E=> ?_;refine XK ?_
 (show AWP prog E _ _ _;refine X2 ?_;exact(show Xa _ _ _ _ _ from⟨_,Xe 2 (AVal.le_of_eq (by show ab _=ab _;simp)),⟨rfl,TV⟩,X4 _⟩))
theorem X8X (l:List (List UInt8)) (n:List UInt8) (hl:l.length<=4294967296) (hr:YW aA Yl l):Con prog 247 [] [.d (.sl 1 (l.map Xf)),.d (.v (.string (X6 n)))] [] (.tup [ai (Xo aA Yl l n),ab (XD Yl l n)]):=by
 refine ZCt func247 ntmps247 fun E=> ?_;have hlm:(l.map Xf).length=l.length:=by simp
 refine YR ?_
 refine Xn (ι:=Nat×Nat) (fun q=>q.1<=q.2/\q.2<=l.length/\(∀(k:Nat) (x:List UInt8),k<q.1->l[k]? =some x->aA x n=true)/\(∀(k:Nat) (x:List UInt8),q.2<=k->l[k]? =some x->aA x n=false)) (fun q=>⟨54,[(0,.d (.sl 1 (l.map Xf))),(1,.d (.v (.string (X6 n)))),(6,ai (l.map Xf).length),(7,ai q.1),(8,ai q.2)],[]⟩) (fun q=>q.2-q.1) (0,l.length)
  ⟨Nat.zero_le _,Nat.le_refl _,fun k x h=>absurd h (Nat.not_lt_zero _),fun k x h hx=>absurd (GS.1 hx).1 (Nat.not_lt.2 h)⟩
  (Xb rfl ⟨JL,JL,JL,JL,AVal.le_of_eq (by show ai _=ai _;rw[hlm]),TV⟩ trivial) ?_
 rintro⟨i,j⟩ ⟨h1,h2,h3,h4⟩;simp only at h1 h2 h3 h4;by_cases hij:i<j
 case neg=>
  obtain rfl:i=j:=by omega
  have aN:=X8p (key:=Yl) h2 h3 (fun x hx=>h4 i x (Nat.le_refl _) hx);have bh:=X10 (k:=n) X1t hr;rw[aN] at bh;rw[aN,bh];have dR:¬(i:Int)<(i:Nat):=by omega
  by_cases hil:i<l.length
  ·have dS:(i:Int)<(l.map Xf).length:=by omega
   obtain⟨x,hx⟩:=Xu (l:=l) hil;have au:(l.map Xf)[i]? =some [.v (.string (X6 x))]:=XM hx;have eC:=Xsl x;by_cases pE:x=n
   ·have hd:decide (∃y,l[i]? =some y/\Yl y=n)=true:=DT ⟨x,hx,pE⟩;rw[hd];clear bh aN hd hx h3 h4 hr;subst pE;refine YT ?_;refine Qg ?_;refine W6_ ?_
    first|exact X2 ⟨_,St.le_refl _,⟨rfl,rfl,TV⟩,X4 _⟩|exact X2 ⟨_,St.le_refl _,⟨⟨rfl,rfl,TV⟩,TV⟩,X4 _⟩
   ·have hd:decide (∃y,l[i]? =some y/\Yl y=n)=false:=DF (by rintro⟨y,hy,e⟩;rw[hx] at hy;cases hy;exact pE e);rw[hd];clear bh aN hd hx h3 h4 hr;refine X0Z ?_
    first|exact X2 ⟨_,St.le_refl _,⟨rfl,rfl,TV⟩,X4 _⟩|exact X2 ⟨_,St.le_refl _,⟨⟨rfl,rfl,TV⟩,TV⟩,X4 _⟩
  ·have dS:¬(i:Int)<(l.map Xf).length:=by omega
   have hd:decide (∃y,l[i]? =some y/\Yl y=n)=false:=by
    refine DF ?_;rintro⟨y,hy,_⟩;exact hil (GS.1 hy).1
   rw[hd];clear bh aN hd h3 h4 hr;refine UU ?_;refine QIa ?_;refine Qf ?_;refine W5_ ?_
   first|exact X2 ⟨_,St.le_refl _,⟨rfl,rfl,TV⟩,X4 _⟩|exact X2 ⟨_,St.le_refl _,⟨⟨rfl,rfl,TV⟩,TV⟩,X4 _⟩
 have dR:(i:Int)<(j:Nat):=by omega
 obtain⟨x,hx⟩:=Xu (l:=l) (k:=(i+j)/2) (by omega);have au:(l.map Xf)[(i+j)/2]? =some [.v (.string (X6 x))]:=XM hx;have hc:=XtK x n;have e2:n64 ((i+j)/2^1)=n64 ((i+j)/2):=rfl;by_cases hlt:aA x n=true
 ·have hinv:∀(k:Nat) (y:List UInt8),k<(i+j)/2+1->l[k]? =some y->aA y n=true:=fun k y hk hy=>by
   by_cases e:k=(i+j)/2
   ·subst e;rw[hx] at hy;injection hy with hy;subst hy;exact hlt
   ·exact X1t.tr _ _ _ (X4C hr hy hx (by omega)) hlt
  rw[show Op.bytesLess x n=true from hlt] at hc;clear hlt hr h3 hx;refine QSb ?_;(refine Z0 (u:=ni (i+j)) (r:=n64 (i+j)) ?_ (hr:=by exact Uj rfl rfl (by rw[YG];omega)));refine QTb ?_;(refine Z0 (u:=n64 ((i+j)/2)) (r:=ni ((i+j)/2)) ?_ (hr:=by exact Uj rfl rfl (by rw[YO];omega)));refine Yv ?_;exact⟨((i+j)/2+1,j),⟨by simp only;omega,h2,hinv,h4⟩,by simp only;omega,ZL0⟩
 ·have hinv:∀(k:Nat) (y:List UInt8),(i+j)/2<=k->l[k]? =some y->aA y n=false:=fun k y hk hy=>by
   by_cases e:k=(i+j)/2
   ·subst e;rw[hx] at hy;injection hy with hy;subst hy;simpa using hlt
   ·have h5:=X4C hr hx hy (by omega);by_cases q:aA y n=true
    ·exact absurd (X1t.tr _ _ _ h5 q) hlt
    ·simpa using q
  rw[show Op.bytesLess x n=false by simpa using hlt] at hc;clear hlt hr h4 hx;refine QSb ?_;(refine Z0 (u:=ni (i+j)) (r:=n64 (i+j)) ?_ (hr:=by exact Uj rfl rfl (by rw[YG];omega)));refine QTb ?_;(refine Z0 (u:=n64 ((i+j)/2)) (r:=ni ((i+j)/2)) ?_ (hr:=by exact Uj rfl rfl (by rw[YO];omega)));refine Yg ?_;exact QVb
end Go.Fw

/- PutStr, Sum. -/
import Derived.Test.YtlkcofbjniphbaaGreatDoorB19
import Derived.Test.YtlkcofbjniphbaaGreatDoorB37
set_option maxHeartbeats 8000000
namespace Go.Fw
open Go Go.Proofs
set_option maxRecDepth 100000
set_option linter.unusedVariables false
set_option linter.unusedSimpArgs false
theorem Xbj (b:List UInt8):Con Tryz.prog 123 [] [.d (Xk b)] [] (ai (YE b)):=by
 refine Xg (xs:=[ai (YE b)]) Tryz.func123 rfl Tryz.ntmps123 rfl rfl rfl (fun E=> ?_)
 refine XC ?_
 refine XK (fun i:Nat=>i≤b.length) (fun i=>⟨34,[(0,.d (Xk b)),(3,X8o (VD b i)),(4,ai i)],[]⟩) (fun i=>b.length-i) 0 (by omega)
  (Xd rfl ⟨JL,JL,JL,trivial⟩ trivial) ?_
 intro i hi
 refine XeO 0 (sz:=1) (xs:=b.map Xc) rfl fun hbl=> ?_
 rw[List.length_map] at hbl
 have hc:=XcR b i
 by_cases hlt:i<b.length
 ·obtain⟨x,hx⟩:=XI hlt
  have hx8:=x.toNat_lt
  refine QUb ?_;(refine Z0 (u:=n8 x.toNat) (r:=n32 x.toNat) ?_ (hr:=by exact YQ rfl rfl (by rw[X0j];omega)));(refine Z2 (op:= .xor) (r':=n32 (VD b i^^^x.toNat)) (u:=n32 (VD b i)) (v:=n32 x.toNat) ?_ (hr:=by exact X5W (by rw[X0j];omega) (by rw[X0j];omega)));refine W7_ ?_
  refine XK (fun k:Nat=>k≤8) (fun k=>⟨34,[(0,.d (Xk b)),(4,ai i),(3,X8o (X2c k (VD b i^^^x.toNat))),(5,ai k)],[]⟩) (fun k=>8-k) 0 (by omega)
   (Xd rfl ⟨JL,JL,JL,JL,trivial⟩ trivial) ?_
  intro k hk
  have hv:=X8c (X9q hc x) k
  have hv1:X2c (k+1) (VD b i^^^x.toNat)=X1G (X2c k (VD b i^^^x.toNat)):=rfl
  generalize hgv:X2c k (VD b i^^^x.toNat)=v at*
  by_cases hk8:k<8
  ·by_cases hodd:v%2=1
   ·have hb:X1G v=(v/2)^^^3988292384:=by unfold X1G;rw[if_pos hodd]
    refine W6_ ?_;refine Qb ?_;refine Z2 (op:= .rem) (r':=n32 (v%2)) (u:=n32 v) (v:=n32 2) ?_ (hr:=by exact US (by omega));refine W2_ ?_;refine Qm ?_
    (refine Z2 (op:= .quo) (r':=n32 (v/2)) (u:=n32 v) (v:=n32 2) ?_ (hr:=by exact X0b (by omega) (by rw[X0j];omega)))
    (refine Z2 (op:= .xor) (r':=n32 (v/2^^^3988292384)) (u:=n32 (v/2)) (v:=n32 3988292384) ?_ (hr:=by exact X5W (by rw[X0j];omega) (by rw[X0j];omega)));refine W7_ ?_;exact Qeh
   ·have hb:X1G v=v/2:=by unfold X1G;rw[if_neg hodd]
    refine W6_ ?_;refine Qb ?_;refine Z2 (op:= .rem) (r':=n32 (v%2)) (u:=n32 v) (v:=n32 2) ?_ (hr:=by exact US (by omega));refine W2_ ?_;refine Qo ?_;(refine Z2 (op:= .quo) (r':=n32 (v/2)) (u:=n32 v) (v:=n32 2) ?_ (hr:=by exact X0b (by omega) (by rw[X0j];omega)));refine W7_ ?_;exact Qeh
  obtain rfl:k=8:=by omega
  have hstep:VD b (i+1)=v:=by rw[Xh7 hx];exact hgv
  refine W6_ ?_;refine Qia ?_;exact⟨i+1,by omega,by omega,Xd rfl ⟨JL,(by rw[hstep];exact AVal.le_refl _),JL,trivial⟩ trivial⟩
 obtain rfl:i=b.length:=by omega
 have hall:=Xdy b
 rw[hall] at hc
 rw[hall]
 have exor:X3m b^^^4294967295=YE b:=by
  have h:=BitVec.toNat_not (x:=BitVec.ofNat 32 (X3m b))
  rw[←BitVec.allOnes_xor,BitVec.toNat_xor,BitVec.toNat_allOnes,BitVec.toNat_ofNat,Nat.mod_eq_of_lt hc] at h
  rw[Nat.xor_comm];exact h
 refine W8_ ?_;refine Qg ?_
 (refine Z1 (op:= .xor) (r':=n32 (YE b)) (u:=n32 (X3m b)) (v:=n32 4294967295) ?_ (hr':=by exact congrArg n32 exor) (hr:=by exact X5W (by rw[X0j];omega) (by rw[X0j];omega)))
 (refine Z0 (u:=n32 (YE b)) (r:=ni (YE b)) ?_ (hr:=by exact YQ rfl rfl (by rw[XJ];have:=X49 b;omega)));exact Qq
theorem Xgp (c:UInt8):Con Tryz.prog 193 [] [au8 c.toNat] [] (ab (X16 c)):=by
 refine Xg (xs:=[ab (X16 c)]) Tryz.func193 rfl Tryz.ntmps193 rfl rfl rfl (fun E=> ?_)
 by_cases h1:97≤c.toNat
 ·by_cases h2:c.toNat≤122
  ·rw[X7S (by omega)]
   refine Qt ?_;refine Qy ?_;exact QB
  ·rw[X5o (by omega)]
   refine QC ?_;refine QD ?_;exact QH
 by_cases h3:65≤c.toNat
 ·by_cases h4:c.toNat≤90
  ·rw[X7S (by omega)]
   refine W9_ ?_;refine QI ?_;refine QD ?_;exact QJ
  ·rw[X5o (by omega)]
   refine W9_ ?_;refine QI ?_;refine QD ?_;exact QH
 rw[X5o (by omega)]
 refine W9_ ?_;refine QI ?_;refine W4_ ?_;refine QI ?_;exact QH
theorem Xbb (n:Int):Con Tryz.prog 136 [] [ai n] [] (ab (idV n)):=by
 refine Xg (xs:=[ab (idV n)]) Tryz.func136 rfl Tryz.ntmps136 rfl rfl rfl (fun E=> ?_)
 by_cases h1:1≤n
 ·by_cases h2:n≤1000000
  ·rw[show idV n=true by unfold idV;exact decide_eq_true ⟨h1,h2⟩]
   refine Xi ?_;exact QB
  ·rw[show idV n=false by unfold idV;exact decide_eq_false (by omega)]
   refine Xi ?_;refine Qz ?_;exact QG
 ·rw[show idV n=false by unfold idV;exact decide_eq_false (by omega)]
  refine Qoa ?_;exact QH
theorem Xl3 (op:Int):Con Tryz.prog 137 [] [ai op] [] (ab (Yo op)):=by
 refine Xg (xs:=[ab (Yo op)]) Tryz.func137 rfl Tryz.ntmps137 rfl rfl rfl (fun E=> ?_)
 by_cases k3:op=3
 ·subst k3
  refine Qoa ?_;refine Qs ?_;refine Qv ?_;exact Qfh
 by_cases k4:op=4
 ·subst k4
  refine Xi ?_;refine Qdc ?_;exact Qfh
 by_cases k5:op=5
 ·subst k5
  refine Xi ?_;refine QQ ?_;refine Qdc ?_;refine Qs ?_;refine Qv ?_;exact QB
 by_cases k6:op=6
 ·subst k6
  refine Xi ?_;refine QQ ?_;refine QQ ?_;refine Qdc ?_;exact QB
 by_cases k8:op=8
 ·subst k8
  refine Qgh ?_;exact QJ
 rw[show Yo op=false by unfold Yo;exact decide_eq_false (by omega)]
 refine Qgh ?_;exact QH
theorem Xn3 (op:Int):Con Tryz.prog 138 [] [ai op] [] (ab (Yi op)):=by
 refine Xg (xs:=[ab (Yi op)]) Tryz.func138 rfl Tryz.ntmps138 rfl rfl rfl (fun E=> ?_)
 by_cases k5:op=5
 ·subst k5
  refine Qoa ?_;exact QB
 by_cases k8:op=8
 ·subst k8
  refine Xi ?_;exact QJ
 rw[show Yi op=false by unfold Yi;exact decide_eq_false (by omega)]
 refine Xi ?_;exact QH
theorem XhO (op:Int):Con Tryz.prog 89 [] [ai op] [] (ab (Yo op)):=by
 refine Xg (xs:=[ab (Yo op)]) Tryz.func89 rfl Tryz.ntmps89 rfl rfl rfl (fun E=> ?_)
 by_cases k3:op=3
 ·subst k3
  refine Qoa ?_;refine Qs ?_;refine Qv ?_;exact Qfh
 by_cases k4:op=4
 ·subst k4
  refine Xi ?_;refine Qdc ?_;exact Qfh
 by_cases k5:op=5
 ·subst k5
  refine Xi ?_;refine QQ ?_;refine Qdc ?_;refine Qs ?_;refine Qv ?_;exact QB
 by_cases k6:op=6
 ·subst k6
  refine Xi ?_;refine QQ ?_;refine QQ ?_;refine Qdc ?_;exact QB
 by_cases k8:op=8
 ·subst k8
  refine Qgh ?_;exact QJ
 rw[show Yo op=false by unfold Yo;exact decide_eq_false (by omega)]
 refine Qgh ?_;exact QH
theorem XiK (op:Int):Con Tryz.prog 91 [] [ai op] [] (ab (Yi op)):=by
 refine Xg (xs:=[ab (Yi op)]) Tryz.func91 rfl Tryz.ntmps91 rfl rfl rfl (fun E=> ?_)
 by_cases k5:op=5
 ·subst k5
  refine Qoa ?_;exact QB
 by_cases k8:op=8
 ·subst k8
  refine Xi ?_;exact QJ
 rw[show Yi op=false by unfold Yi;exact decide_eq_false (by omega)]
 refine Xi ?_;exact QH
theorem Xcl (s:List UInt8):Con Tryz.prog 140 [] [.d (.v (.string (Xb s)))] [] (ab (XZ s)):=by
 refine Xg (xs:=[ab (XZ s)]) Tryz.func140 rfl Tryz.ntmps140 rfl rfl rfl (fun E=> ?_)
 have hsz:(Xb s).size=s.length:=rfl
 by_cases h0:s.length<1
 ·rw[Xiy (List.eq_nil_of_length_eq_zero (by omega))]
  have h0':((Xb s).size:Int)<1:=by omega
  refine Xi ?_;refine QK ?_;exact QO
 have h0':¬((Xb s).size:Int)<1:=by omega
 by_cases h20:20<s.length
 ·rw[XcT h20]
  have h20':(20:Int)<(Xb s).size:=by omega
  refine XC ?_;refine QP ?_;exact QO
 have h20':¬(20:Int)<(Xb s).size:=by omega
 obtain⟨c,hc⟩:=XI (l:=s) (k:=0) (by omega)
 have hl:=Xgp c
 cases hlc:X16 c with
 |false=>
  rw[Xie hc hlc]
  rw[hlc] at hl
  refine XC ?_;refine QQ ?_;refine QR ?_;exact QT
 |true=>
  rw[hlc] at hl
  refine XC ?_;refine QQ ?_;refine QR ?_;refine W1_ ?_;refine QXb ?_
  refine XK (fun i:Nat=>1≤i∧i≤s.length∧∀j,j<i→∃b,s[j]? =some b∧UI b=true) (fun i=>⟨47,[(0,.d (.v (.string (Xb s)))),(3,ai i)],[]⟩) (fun i=>s.length-i) 1
   ⟨by omega,by omega,fun j hj=>⟨c,by rw[show j=0 by omega];exact hc,by unfold UI;rw[hlc];rfl⟩⟩
   (Xd rfl ⟨JL,JL,trivial⟩ trivial) ?_
  rintro i ⟨hi1,hi,hall⟩
  by_cases hil:i<s.length
  case neg=>
   obtain rfl:i=s.length:=by omega
   rw[XiR hc hlc h20 hall]
   have hn:¬((s.length:Nat):Int)<(Xb s).size:=by omega
   exact Qbc
  have hn:(i:Int)<(Xb s).size:=by omega
  clear hl hlc hc
  obtain⟨c,hc⟩:=XI (l:=s) hil
  have hl:=Xgp c
  cases hlc:X16 c with
  |true=>
   rw[hlc] at hl
   have hnx:=X5r hc (show UI c=true by unfold UI;rw[hlc];rfl) hall
   refine Qi ?_;refine W8_ ?_;refine QR ?_;refine W2_ ?_;refine QL ?_;refine QP ?_;refine QW ?_;refine QY ?_;refine QVb ?_;exact Qhh
  |false=>
   rw[hlc] at hl
   by_cases g3:c.toNat=95
   ·have hnx:=X5r hc (show UI c=true by unfold UI;rw[decide_eq_true (by omega)];simp) hall
    refine Qi ?_;refine W8_ ?_;refine QR ?_;refine W6_ ?_;refine Qs ?_;refine QW ?_;refine QY ?_;refine QVb ?_;exact Qhh
   by_cases g1:48≤c.toNat
   ·by_cases g2:c.toNat≤57
    ·have hnx:=X5r hc (show UI c=true by unfold UI;rw[decide_eq_true (by omega)];simp) hall
     refine Qih ?_;refine Xj ?_;refine Qba ?_;refine Qia ?_;exact Qhh
    ·rw[X89 hc (show UI c=false by unfold UI;rw[hlc,decide_eq_false (by omega)];rfl)]
     refine Qih ?_;refine Xj ?_;refine QE ?_;exact QN
   ·rw[X89 hc (show UI c=false by unfold UI;rw[hlc,decide_eq_false (by omega)];rfl)]
    refine Qih ?_;refine W6_ ?_;refine Qda ?_;exact QN
theorem Xon (x y:Int):Con Tryz.prog 189 [] [ai x,ai y] [] (ai (Yv x y)):=by
 refine Xg (xs:=[ai (Yv x y)]) Tryz.func189 rfl Tryz.ntmps189 rfl rfl rfl (fun E=> ?_)
 by_cases h1:x<y
 ·rw[show Yv x y= -1 by simp[Yv,h1]]
  refine Xi ?_;exact QM
 by_cases h2:y<x
 ·rw[show Yv x y=1 by simp[Yv,h1,h2]]
  refine Xi ?_;refine QWb ?_;exact QM
 rw[show Yv x y=0 by simp[Yv,h1,h2]]
 refine Xi ?_;refine QWb ?_;exact QV
theorem Xkr (b:Bool):Con Tryz.prog 187 [] [ab b] [] (ai (if b then 2 else 0)):=by
 refine Xg (xs:=[ai (if b then 2 else 0)]) Tryz.func187 rfl Tryz.ntmps187 rfl rfl rfl (fun E=> ?_)
 cases b with
 |true=>
  refine W9_ ?_;exact QM
 |false=>
  refine W9_ ?_;exact QV
theorem Xme {k:Int} (h:k≠0):0<X0P k:=by
 unfold X0P
 rw[if_neg h]
 split
 ·omega
 split
 ·omega
 split
 ·omega
 split
 ·omega
 split
 ·omega
 split<;>omega
def X3D (v:Val):Int:=if Xe 8 v=false then 1 else Yv (X0P v.kind) 0
theorem XjF (v:Val):decide (X3D v=0)=Um v:=by
 unfold X3D Um
 cases h:Xe 8 v with
 |false=>simp
 |true=>
  obtain⟨k,n,d,s,l⟩:=v
  have hk:=Xct h
  simp only[Val.kind,Bool.true_and]
  refine decide_eq_decide.2 ?_
  rw[if_neg (by simp)]
  unfold Yv X0P
  constructor
  ·intro h1
   refine Classical.byContradiction fun h0=> ?_
   rw[if_neg h0] at h1
   have hpos:(0:Int)<(if k=1 then 1 else if k=2∨k=3 then 2 else if k=4 then 3 else if k=5 then 4 else if k=6 then 5 else if k=8 then 6 else 7):=by
    split
    ·omega
    split
    ·omega
    split
    ·omega
    split
    ·omega
    split
    ·omega
    split<;>omega
   rw[if_neg (by omega),if_pos hpos] at h1
   omega
  ·intro h1
   subst h1
   rfl
theorem Xpo (v:Val) (hok:Yp v):Con Tryz.prog 135 [] [Xv v,Xv zV] [] (ai (X3D v)):=by
 have hv:=X4A v hok
 have hz:=X4A zV (by simp[Yp,X0n])
 rw[show Xe 8 zV=true by rw[Xe];simp] at hz
 by_cases hz0:v=zV
 ·subst hz0
  rw[show X3D zV=0 by unfold X3D;rw[show Xe 8 zV=true by rw[Xe];simp];rfl]
  exact X9x zV (by simp[Yp,X0n])
 refine Xg (xs:=[ai (X3D v)]) Tryz.func135 rfl Tryz.ntmps135 rfl rfl rfl (fun E=> ?_)
 unfold X3D
 cases h:Xe 8 v with
 |false=>
  rw[h] at hv
  rw[if_pos rfl]
  have hy:=Xkr false
  rw[if_neg (by simp)] at hy
  obtain⟨k,n,d,s,l⟩:=v
  simp only[Xv,XU] at hv hz ⊢
  refine QGd ?_;refine Qqc ?_;refine Z3 (hcon:=hy) ?_;exact QHd
 |true=>
  rw[h] at hv
  rw[if_neg (by simp)]
  obtain⟨k,n,d,s,l⟩:=v
  have c1:=XaQ k
  have c2:=XaQ 0
  rw[show X0P 0=0 from rfl] at c2
  have c3:=Xon (X0P k) 0
  simp only[Val.kind]
  have hk0:k≠0:=fun h1=>by
   obtain⟨rfl,rfl,rfl,rfl⟩:=Xdi h h1
   exact hz0 (by rw[h1])
  have hcp:=Xme hk0
  have hnz:Yv (X0P k) 0≠0:=by
   unfold Yv
   rw[if_neg (by omega),if_pos hcp]
   omega
  generalize Yv (X0P k) 0=z at*
  generalize X0P k=c at*
  simp only[Xv,XU] at hv hz ⊢
  refine QGd ?_;refine Qma ?_;refine Qia ?_;refine Z3 (hcon:=c1) ?_;refine W2_ ?_;refine Z3 (hcon:=c2) ?_;refine Z3 (hcon:=c3) ?_;refine W7_ ?_;exact QDa
theorem Xdb (v:Val) (hok:Yp v):Con Tryz.prog 139 [] [Xv v] [] (ab (Um v)):=by
 refine Xg (xs:=[ab (Um v)]) Tryz.func139 rfl Tryz.ntmps139 rfl rfl rfl (fun E=> ?_)
 have ho:=Xpo v hok
 rw[←XjF v]
 generalize X3D v=z at*
 obtain⟨k,n,d,s,l⟩:=v
 simp only[Xv,XU] at ho ⊢
 refine W9_ ?_;refine Z3 (hcon:=ho) ?_;exact QHd
theorem Xi6 (v:Val) (hok:Yp v):Con Tryz.prog 141 [] [Xv v] [] (ab (U5 v)):=by
 refine Xg (xs:=[ab (U5 v)]) Tryz.func141 rfl Tryz.ntmps141 rfl rfl rfl (fun E=> ?_)
 have hv:=X4A v hok
 unfold U5
 generalize Xe 8 v=b at*
 obtain⟨k,n,d,s,l⟩:=v
 simp only[Xv,Val.kind] at hv ⊢
 unfold X5U
 by_cases h1:k=1
 ·rw[decide_eq_true (by omega),Bool.true_and]
  cases b with
  |true=>
   refine W8_ ?_;refine Qyd ?_;refine W5_ ?_;refine QK ?_;refine Qrb ?_;exact QB
  |false=>
   exact Qjh
 by_cases h2:k=2
 ·rw[decide_eq_true (by omega),Bool.true_and]
  cases b with
  |true=>
   refine W8_ ?_;refine Qyd ?_;refine W8_ ?_;refine QP ?_;refine Qrb ?_;exact QB
  |false=>
   exact Qjh
 by_cases h4:k=4
 ·rw[decide_eq_true (by omega),Bool.true_and]
  cases b with
  |true=>
   refine W8_ ?_;refine Qyd ?_;refine W8_ ?_;refine QQd ?_;refine QE ?_;exact QB
  |false=>
   exact Qjh
 rw[decide_eq_false (by omega),Bool.false_and]
 cases b with
 |true=>
  refine W8_ ?_;refine Qyd ?_;refine W8_ ?_;refine QQd ?_;refine Qkc ?_;exact QG
 |false=>
  exact Qjh
end Go.Fw

/- Order of the reference, for equal arguments: fractions, numbers, strings. -/
import Derived.Test.YtfmfekakaeafhaaGreatDoorP17
import Derived.Test.YtfmfekakaeafhaaGreatDoorP18
set_option linter.all false
set_option maxHeartbeats 8000000
namespace Go.Fw
open Go Go.Proofs Tryz List
open List renaming length->J
set_option maxRecDepth 100000
def Xhv (n:Int):VJ n=0\/VJ n=1\/VJ n= -1:=by
 unfold VJ;split
 ·exact .inr (.inr rfl)
 ·split
  ·exact .inr (.inl rfl)
  ·exact .inl rfl
def XxK (n d:Int):Con prog 256 [] [X3V n d,X3V n d] [] (ai 0):=by
 refine ZC1 func256 ntmps256 fun E=> ?_;have hv:=Xdb n d;cases hb:X1E n d with
 |true=>
  rw[hb] at hv;simp[X1E] at hb;obtain⟨D,rfl⟩:∃D:Nat,d=D:=⟨d.toNat,Oa⟩
  have hsz:=X9G n Oa;have tN:=Xdf n;have hr:=Xhv n;have ht:=Xcf n.natAbs D Oa Oa;have hsum:=Xoo (VJ n) hr (X0q 14 (n.natAbs*D)) (X9V _ _) (X8w _ _);generalize VJ n=s at*;generalize X0q 14 (n.natAbs*D)=x at*;generalize X7M s x=y at*;generalize n.natAbs=N at*;have fE: -1<=s/\s<=1:=Oa
  clear hr hb;refine Qab ?_;exact Zr0
 |false=>
  rw[hb] at hv;clear hb;have hsz:Con prog 304 [] [ai 0] [] (ai 0):=X9G 0 Oa;have tN:Con prog 302 [] [ai 0] [] (ai 0):=Xdf 0;have ht:Con prog 303 [] [ai 0,ai 1] [] (.d (Vt (X0q 14 (0*1)))):=Xcf 0 1 Oa Oa;have hsum:Con prog 301 [] [ai 0,.d (Vt (X0q 14 (0*1))),ai 0,.d (Vt (X0q 14 (0*1)))] [] (.tup [ai 0,.d (Vt (X7M 0 (X0q 14 (0*1))))]):=Xoo 0 (.inl rfl) (X0q 14 (0*1)) (X9V _ _) (X8w _ _);generalize X0q 14 (0*1)=x at*;generalize X7M 0 x=y at*;refine X4 ?_;refine Us ?_;exact Zr0
def X6S (n:Int):Con prog 253 [] [ai n,ai n] [] (ai 0):=by
 refine ZC1 func253 ntmps253 fun E=> ?_;have h:¬n<n:=Oa
 exact Qga
theorem Xfj:∀s:List UInt8,Op.bytesLess s s=false
 |[]=>rfl
 |b::s=>by simp[Op.bytesLess,Xfj s]
variable{s:List UInt8}{x y:Operand}{d k n:Int}{l:List Val}{m:Nat}
def XqC {t:TypeId} (w:World):(do eqGuard .lss t x y (.string (X7 s)) (.string (X7 s));binOp .lss t (.string (X7 s)) (.string (X7 s)):Sem Value).run prog w= .ok (.bool false) w:=by
 simp[go_sem,X57,Xfj]
def Xu8 {t:TypeId} (w:World):(do eqGuard .gtr t x y (.string (X7 s)) (.string (X7 s));binOp .gtr t (.string (X7 s)) (.string (X7 s)):Sem Value).run prog w= .ok (.bool false) w:=by
 simp[go_sem,binOp,Op.stringOp,X57,Xfj]
def Xsx (s:List UInt8):Con prog 298 [] [Xa s,Xa s] [] (ai 0):=by
 refine ZC1 func298 ntmps298 fun E=> ?_;refine W9_ ?_;refine Z4 (op:= .lss) (r':= .bool false) (u:= .string (X7 s)) (v:= .string (X7 s)) ?_ (hr:=by exact XqC);refine W8_ ?_;refine Z4 (op:= .gtr) (r':= .bool false) (u:= .string (X7 s)) (v:= .string (X7 s)) ?_ (hr:=by exact Xu8);exact QNa
def X0p (k:Int):Int:=if k=0 then 0 else if k=1 then 1 else if k=2\/k=3 then 2 else if k=4 then 3 else if k=5 then 4 else if k=6 then 5 else if k=8 then 6 else 7
def XaD (k:Int):Con prog 254 [] [ai k] [] (ai (X0p k)):=by
 refine ZC1 func254 ntmps254 fun E=> ?_;by_cases h0:k=0
 ·subst h0;exact QD
 by_cases h1:k=1
 ·subst h1;exact Qga
 by_cases h2:k=2
 ·subst h2;refine UR ?_;exact Zr0
 by_cases h3:k=3
 ·subst h3;refine X1B ?_;exact Zr0
 by_cases h4:k=4
 ·subst h4;refine Qka ?_;exact Zr0
 by_cases h5:k=5
 ·subst h5;refine Qbb ?_;exact Zr0
 by_cases h6:k=6
 ·subst h6;refine X4 ?_;refine Yr ?_;exact Zr0
 by_cases h8:k=8
 ·subst h8;refine X4 ?_;exact Qj
 rw[show X0p k=7 by simp[X0p, *]];refine X4 ?_;refine Us ?_;exact Zr0
def XkL (h:Xj m (.mk k n d s l)=true) (hk:k=0):n=0/\d=0/\s=[]/\l=[]:=by
 subst hk;rw[Xj] at h;simp at h;exact⟨h.2,h.1.1.1,h.1.1.2,h.1.2⟩
def Xej (h:Xj m (.mk k n d s l)=true):0<=k/\k<=8:=by
 refine Classical.byContradiction fun hn=> ?_;rw[Xj] at h;rw[NI Oa,NI Oa,NI Oa,NI Oa,NI Oa,NI Oa,NI Oa,NI Oa] at h;simp at h
def Xz3 (f:FuncId):Con prog 325 [] [.d (.sl 5 []),.d (.sl 5 []),.fn f []] [] (ai 0):=by
 refine ZC1 func325 ntmps325 fun E=> ?_;refine XG ?_
 refine Xl (fun _:Unit=>True) (fun _=>⟨39,[(0,.d (.sl 5 [])),(1,.d (.sl 5 [])),(12,ai 0),(13,ai 0)],[]⟩) (fun _=>0) () trivial
  (X9 rfl ⟨JL,JL,JL,JL,TV⟩ trivial) ?_
 intro _ _;exact Qj
def XwN (k n d:Int) (s:List UInt8) (l:List Val) (h:X0c k≠0):Con prog 324 [] [Xt (.mk k n d s l),Xt zV] [] (ai (YD (X0c k) 0)):=by
 refine ZC1 func324 ntmps324 fun E=> ?_;have c1:=X9i k n d s l;have c2:=X9i 0 0 0 [] [];have c3:=X6K (X0c k) 0;rw[show X0c 0=0 from rfl] at c2;have hz:YD (X0c k) 0≠0:=by
  unfold YD;split
  ·omega
  ·split
   ·omega
   ·omega
 generalize YD (X0c k) 0=z at*;generalize X0c k=c at*;simp only[Xt,XR] at c1 c2 |-;exact QB
def XsG:Con prog 324 [] [Xt zV,Xt zV] [] (ai 0):=by
 refine ZC1 func324 ntmps324 fun E=> ?_;have c2:=X9i 0 0 0 [] [];have c3:=X6K 0 0;have c4:=XrL [];have c5:=Xz3 324;have c6:=Xm3 [0,0,0] Oi;rw[show X0c 0=0 from rfl] at c2;rw[show YD 0 0=0 from rfl] at c3;rw[show orI [0,0,0]=0 from rfl] at c6;simp only[Xt,XR,map_cons,map_nil] at c2 c6 |-;refine X4 ?_;exact Qe
def Xa3 (v:Val):Int:=if Xj 8 v=false then 1 else YD (X0c v.kind) 0
def Xyn (v:Val):decide (Xa3 v=0)=Vf v:=by
 unfold Xa3 Vf;cases h:Xj 8 v with
 |false=>simp
 |true=>
  obtain⟨k,n,d,s,l⟩:=v;have hk:=Xej h;simp only[Val.kind,Bool.true_and];refine decide_eq_decide.2 ?_;rw[NI Oc];unfold YD X0c;constructor
  ·intro h1;split at h1
   ·omega
   split at h1
   ·split at h1
    ·omega
    ·split at h1<;>omega
   ·split at h1<;>omega
  ·intro h1;subst h1;rfl
def XuK (v:Val):Con prog 280 [] [Xt v,Xt zV] [] (ai (Xa3 v)):=by
 refine ZC1 func280 ntmps280 fun E=> ?_;have hv:=X2B v;have hz:=X2B zV;rw[show Xj 8 zV=true by rw[Xj];simp] at hz;unfold Xa3;cases h:Xj 8 v with
 |false=>
  rw[h] at hv;rw[PI rfl];obtain⟨k,n,d,s,l⟩:=v;simp only[Xt,XR] at hv hz |-;refine QW ?_;exact Zr0
 |true=>
  rw[h] at hv;rw[NI Oc];obtain⟨k,n,d,s,l⟩:=v;simp only[Val.kind];by_cases hk:X0c k=0
  ·have bT:k=0:=by
    have:=Xej h;unfold X0c at hk;split at hk
    ·omega
    ·split at hk<;>omega
   obtain⟨rfl,rfl,rfl,rfl⟩:=XkL h bT;subst bT;have ho:=XsG;rw[show YD (X0c 0) 0=0 from rfl];simp only[Xt,XR] at hv hz ho |-;refine UA ?_;exact Zr0
  ·have ho:=XwN k n d s l hk;generalize YD (X0c k) 0=z at*;simp only[Xt,XR] at hv hz ho |-;refine UA ?_;exact Zr0
def Xf7 (v:Val):Con prog 231 [] [Xt v] [] (ab (Vf v)):=by
 refine ZC1 func231 ntmps231 fun E=> ?_;have ho:=XuK v;rw[<-Xyn v];generalize Xa3 v=z at*;obtain⟨k,n,d,s,l⟩:=v;simp only[Xt,XR] at ho |-;exact Qe
def Xhr (b:Bool) (k n d:Int):Int×Int×Bool:=if b=false then (0,0,false) else if k=2 then (n,1,true) else if k=3 then (n,d,true) else (0,0,false)
def X6s (v:Val):Int×Int×Bool:=Xhr (Xj 8 v) v.kind v.n v.d
def Xeq (v:Val) (hok:U1 v):Con prog 255 [] [Xt v] [] (.tup [X3V (X6s v).1 (X6s v).2.1,ab (X6s v).2.2]):=by
 have hv:=X5I v hok;refine ZCt func255 ntmps255 fun E=> ?_;unfold X6s;generalize Xj 8 v=bb at*;obtain⟨k,n,d,s,l⟩:=v;simp only[Xt,Val.kind,Val.n,Val.d] at hv |-;unfold Xhr;cases bb with
 |false=>
  rw[PI rfl];refine YV ?_;exact Qcb
 |true=>
  rw[NI Oc];by_cases h2:k=2
  ·rw[PI h2];refine UK ?_;exact Qcb
  rw[NI h2];by_cases h3:k=3
  ·rw[PI h3];refine QW ?_;exact Qcb
  rw[NI h3];refine X0r ?_;exact Qcb
def X8z (v:Val):Prop:=Con prog 194 [] [Xt v,Xt v] [] (ai 0)
def Xns (l:List Val) (hl:J l<=9223372036854775807) (ih:∀x∈l,X8z x):Con prog 299 [] [.d (.sl 5 (XR l)),.d (.sl 5 (XR l))] [] (ai 0):=by
 refine ZC1 func299 ntmps299 fun E=> ?_;have hlen:=X1M l;have hi:=X6S (J (XR l));refine XA ?_
 refine Xl (fun i:Nat=>i<=J l) (fun i=>⟨36,[(0,.d (.sl 5 (XR l))),(1,.d (.sl 5 (XR l))),(5,ai i)],[]⟩) (fun i=>J l-i) 0 Oa
  (X9 rfl ⟨JL,JL,JL,TV⟩ trivial) ?_
 intro i hi2;by_cases hil:i<J l
 case neg=>
  have hn:¬(i:Int)<J (XR l):=Oa
  refine V4 ?_;exact Zr0
 obtain⟨x,hx⟩:=Xn (l:=l) hil;have au:(XR l)[i]? =some (UB x):=by rw[X8h];exact XC hx
 have hc:=ih x (mem_of_getElem? hx);unfold X8z at hc;have hn:(i:Int)<J (XR l):=Oa
 obtain⟨k,n,d,s,q⟩:=x;simp only[Xt,UB] at hc au;refine Qua ?_;exact⟨i+1,Oa,Oa,X9 rfl ⟨JL,JL,JL,TV⟩ TV⟩
def Xsw (v:Val) (hl:J v.l<=9223372036854775807) (ih:∀x∈v.l,X8z x):Con prog 252 [] [Xt v,Xt v] [] (ai 0):=by
 obtain⟨k,n,d,s,l⟩:=v;simp only[Val.l] at hl ih;have hl:=Xns l hl ih;have hk:=X6S k;have hn:=X6S n;have hd:=X6S d;have hs:=Xsx s;refine ZC1 func252 ntmps252 fun E=> ?_;simp only[Xt];refine QYa ?_;exact QEa
def XrB (v:Val) (hok:U1 v) (hf:Con prog 252 [] [Xt v,Xt v] [] (ai 0)):X8z v:=by
 have hv:=X5I v hok;have hn:=Xeq v hok;have eg:=XaD v.kind;have hi:=X6S (X0p v.kind);have hcmp:=XxK (X6s v).1 (X6s v).2.1;refine ZC1 func194 ntmps194 fun E=> ?_;generalize X6s v=u at*;generalize Xj 8 v=bb at*;obtain⟨k,n,d,s,l⟩:=v;obtain⟨p,q,is⟩:=u;simp only[Xt,Val.kind] at hv hn eg hi hcmp hf |-;generalize X0p k=c at*;cases bb with
 |false=>
  refine X1B ?_;exact Zr0
 |true=>
  cases is with
  |true=>
   refine QYa ?_;exact Qdb
  |false=>
   refine QYa ?_;exact QNa
def XfN:∀v:Val,U1 v->X8z v
 | .mk k n d s l=>fun hok=>XrB (.mk k n d s l) hok (Xsw (.mk k n d s l) (by rw[U1] at hok;exact hok.2.1) fun x hx=>XfN x (Xcg Ja hx))
termination_by v=>SizeOf.sizeOf v
decreasing_by
 have h1:=sizeOf_lt_of_mem (show x∈l from hx);simp only[Val.mk.sizeOf_spec];omega
def Xdg (x y:Int):Con prog 253 [] [ai x,ai y] [] (ai (YD x y)):=by
 refine ZC1 func253 ntmps253 fun E=> ?_;by_cases h1:x<y
 ·rw[show YD x y= -1 by simp[YD,h1]];refine Yr ?_;exact Zr0
 by_cases h2:y<x
 ·rw[show YD x y=1 by simp[YD,h1,h2]];refine V4 ?_;exact Zr0
 rw[show YD x y=0 by simp[YD,h1,h2]];exact Qga
def Xwa (b:Bool):Con prog 251 [] [ab b] [] (ai (if b then 2 else 0)):=by
 refine ZC1 func251 ntmps251 fun E=> ?_;cases b with
 |true=>
  exact Qh
 |false=>
  exact QFa
def Xrq (h:k≠0):0<X0p k:=by
 unfold X0p;rw[NI h];split
 ·omega
 split
 ·omega
 split
 ·omega
 split
 ·omega
 split
 ·omega
 split<;>omega
def X77 (v:Val):Int:=if Xj 8 v=false then 1 else YD (X0p v.kind) 0
def Xs5 (v:Val):decide (X77 v=0)=Vf v:=by
 unfold X77 Vf;cases h:Xj 8 v with
 |false=>simp
 |true=>
  obtain⟨k,n,d,s,l⟩:=v;have hk:=Xej h;simp only[Val.kind,Bool.true_and];refine decide_eq_decide.2 ?_;rw[NI Oc];unfold YD X0p;constructor
  ·intro h1;refine Classical.byContradiction fun h0=> ?_;rw[NI h0] at h1;have hpos:(0:Int)<(if k=1 then 1 else if k=2\/k=3 then 2 else if k=4 then 3 else if k=5 then 4 else if k=6 then 5 else if k=8 then 6 else 7):=by
    split
    ·omega
    split
    ·omega
    split
    ·omega
    split
    ·omega
    split
    ·omega
    split<;>omega
   rw[NI Oa,PI hpos] at h1;omega
  ·intro h1;subst h1;rfl
def XpB (v:Val) (hok:U1 v):Con prog 194 [] [Xt v,Xt zV] [] (ai (X77 v)):=by
 have hv:=X5I v hok;have hz:=X5I zV (by simp[U1,X1Z]);rw[show Xj 8 zV=true by rw[Xj];simp] at hz;by_cases bH:v=zV
 ·subst bH;rw[show X77 zV=0 by unfold X77;rw[show Xj 8 zV=true by rw[Xj];simp];rfl];exact XfN zV (by simp[U1,X1Z])
 refine ZC1 func194 ntmps194 fun E=> ?_;unfold X77;cases h:Xj 8 v with
 |false=>
  rw[h] at hv;rw[PI rfl];have hy:=Xwa false;rw[NI Oc] at hy;obtain⟨k,n,d,s,l⟩:=v;simp only[Xt,XR] at hv hz |-;exact Qg
 |true=>
  rw[h] at hv;rw[NI Oc];obtain⟨k,n,d,s,l⟩:=v;have c1:=XaD k;have c2:=XaD 0;rw[show X0p 0=0 from rfl] at c2;have c3:=Xdg (X0p k) 0;simp only[Val.kind];have bT:k≠0:=fun h1=>by
   obtain⟨rfl,rfl,rfl,rfl⟩:=XkL h h1;exact bH (by rw[h1])
  have dG:=Xrq bT;have hnz:YD (X0p k) 0≠0:=by
   unfold YD;rw[NI Oa,PI dG];omega
  generalize YD (X0p k) 0=z at*;generalize X0p k=c at*;simp only[Xt,XR] at hv hz |-;exact QGa
def Xpe (v:Val) (hok:U1 v):Con prog 222 [] [Xt v] [] (ab (Vf v)):=by
 refine ZC1 func222 ntmps222 fun E=> ?_;have ho:=XpB v hok;rw[<-Xs5 v];generalize X77 v=z at*;obtain⟨k,n,d,s,l⟩:=v;simp only[Xt,XR] at ho |-;exact Qe
def XlV (v:Val):Con prog 168 [] [Xt v] [] (ab (U9 v)):=by
 refine ZC1 func168 ntmps168 fun E=> ?_;have hv:=X2B v;unfold U9;generalize Xj 8 v=b at*;obtain⟨k,n,d,s,l⟩:=v;simp only[Xt,Val.kind] at hv |-;unfold X8Q;by_cases h1:k=1
 ·rw[DT Oa,Bool.true_and];cases b with
  |true=>
   exact Qra
  |false=>
   exact Qsa
 by_cases h2:k=2
 ·rw[DT Oa,Bool.true_and];cases b with
  |true=>
   exact Qra
  |false=>
   exact Qsa
 by_cases h4:k=4
 ·rw[DT Oa,Bool.true_and];cases b with
  |true=>
   exact Qra
  |false=>
   exact Qsa
 rw[DF Oa,Bool.false_and];exact Qsa
def Xjn (v:Val) (hok:U1 v):Con prog 223 [] [Xt v] [] (ab (U9 v)):=by
 refine ZC1 func223 ntmps223 fun E=> ?_;have hv:=X5I v hok;unfold U9;generalize Xj 8 v=b at*;obtain⟨k,n,d,s,l⟩:=v;simp only[Xt,Val.kind] at hv |-;unfold X8Q;by_cases h1:k=1
 ·rw[DT Oa,Bool.true_and];cases b with
  |true=>
   exact Qra
  |false=>
   exact Qeb
 by_cases h2:k=2
 ·rw[DT Oa,Bool.true_and];cases b with
  |true=>
   exact Qra
  |false=>
   exact Qeb
 by_cases h4:k=4
 ·rw[DT Oa,Bool.true_and];cases b with
  |true=>
   exact Qra
  |false=>
   exact Qeb
 rw[DF Oa,Bool.false_and];cases b with
 |true=>
  exact Qsa
 |false=>
  exact Qeb
end Go.Fw

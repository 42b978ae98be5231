/- The null value: the program's and the reference's tests; plain values. -/
import Derived.Test.YtpbgjcbkhgfmkaaGreatDoorM11
set_option maxHeartbeats 32000000
namespace Go.Fw
open Go Go.Proofs Tryz List
set_option maxRecDepth 100000
set_option linter.unusedVariables false
set_option linter.unusedSimpArgs false
variable{a d k n:Int}{l:List Val}{m:Nat}{b s:List UInt8}{gl gp:Nat->Int->Val×Int×Int}
theorem Xly (h:Xk m (.mk k n d s l)=true) (hk:k=0):n=0/\d=0/\s=[]/\l=[]:=by
 subst hk;rw[Xk] at h;simp at h;exact⟨h.2,h.1.1.1,h.1.1.2,h.1.2⟩
theorem XdP (h:Xk m (.mk k n d s l)=true):0<=k/\k<=8:=by
 refine Classical.byContradiction fun hn=> ?_;rw[Xk] at h;rw[NI (by omega),NI (by omega),NI (by omega),NI (by omega),NI (by omega),NI (by omega),NI (by omega),NI (by omega)] at h;simp at h
theorem Xr2 (f:FuncId):Con prog 301 [] [.d (.sl 5 []),.d (.sl 5 []),.fn f []] [] (ai 0):=by
 refine ZC1 func301 ntmps301 fun E=> ?_;refine XR ?_
 refine Xn (fun _:Unit=>True) (fun _=>⟨39,[(0,.d (.sl 5 [])),(1,.d (.sl 5 [])),(12,ai 0),(13,ai 0)],[]⟩) (fun _=>0) () trivial
  (Xb rfl ⟨JL,JL,JL,JL,TV⟩ trivial) ?_
 intro _ _;exact QA
theorem XoQ (k n d:Int) (s:List UInt8) (l:List Val) (h:X01 k≠0):Con prog 300 [] [XC (.mk k n d s l),XC zV] [] (ai (YP (X01 k) 0)):=by
 refine ZC1 func300 ntmps300 fun E=> ?_;have c1:=X9w k n d s l;have c2:=X9w 0 0 0 [] [];have c3:=X5A (X01 k) 0;rw[show X01 0=0 from rfl] at c2;have hz:YP (X01 k) 0≠0:=by
  unfold YP;split
  ·omega
  ·split
   ·omega
   ·omega
 generalize YP (X01 k) 0=z at*;generalize X01 k=c at*;simp only[XC,XX] at c1 c2 |-;refine XA ?_;refine Z3 (af:=c1) ?_;refine W1_ ?_;refine Z3 (af:=c2) ?_;exact Qy
theorem XsM:Con prog 300 [] [XC zV,XC zV] [] (ai 0):=by
 refine ZC1 func300 ntmps300 fun E=> ?_;have c2:=X9w 0 0 0 [] [];have c3:=X5A 0 0;have c4:=Xtv [];have c5:=Xr2 300;have c6:=Xlx [0,0,0] (by decide);rw[show X01 0=0 from rfl] at c2;rw[show YP 0 0=0 from rfl] at c3;rw[show orI [0,0,0]=0 from rfl] at c6;simp only[XC,XX,map_cons,map_nil] at c2 c6 |-;refine X7 ?_;exact Qw
def X9L (v:Val):Int:=if Xk 8 v=false then 1 else YP (X01 v.kind) 0
theorem Xr8 (v:Val):decide (X9L v=0)=V4 v:=by
 unfold X9L V4;cases h:Xk 8 v with
 |false=>simp
 |true=>
  obtain⟨k,n,d,s,l⟩:=v;have hk:=XdP h;simp only[Val.kind,Bool.true_and];refine decide_eq_decide.2 ?_;rw[NI (by simp)];unfold YP X01;constructor
  ·intro h1;split at h1
   ·omega
   split at h1
   ·split at h1
    ·omega
    ·split at h1<;>omega
   ·split at h1<;>omega
  ·intro h1;subst h1;rfl
theorem Xuy (v:Val):Con prog 241 [] [XC v,XC zV] [] (ai (X9L v)):=by
 refine ZC1 func241 ntmps241 fun E=> ?_;have hv:=X2w v;have hz:=X2w zV;rw[show Xk 8 zV=true by rw[Xk];simp] at hz;unfold X9L;cases h:Xk 8 v with
 |false=>
  rw[h] at hv;rw[PI rfl];obtain⟨k,n,d,s,l⟩:=v;simp only[XC,XX] at hv hz |-;refine Qza ?_;refine Vb ?_;exact Zr0
 |true=>
  rw[h] at hv;rw[NI (by simp)];obtain⟨k,n,d,s,l⟩:=v;simp only[Val.kind];by_cases hk:X01 k=0
  ·have bY:k=0:=by
    have:=XdP h;unfold X01 at hk;split at hk
    ·omega
    ·split at hk<;>omega
   obtain⟨rfl,rfl,rfl,rfl⟩:=Xly h bY;subst bY;have ho:=XsM;rw[show YP (X01 0) 0=0 from rfl];simp only[XC,XX] at hv hz ho |-;refine W9_ ?_;refine Z3 (af:=hv) ?_;refine W1_ ?_;refine Z3 (af:=hv) ?_;exact QC
  ·have ho:=XoQ k n d s l hk;generalize YP (X01 k) 0=z at*;simp only[XC,XX] at hv hz ho |-;refine Qza ?_;exact QC
theorem XfM (v:Val):Con prog 173 [] [XC v] [] (ab (V4 v)):=by
 refine ZC1 func173 ntmps173 fun E=> ?_;have ho:=Xuy v;rw[<-Xr8 v];generalize X9L v=z at*;obtain⟨k,n,d,s,l⟩:=v;simp only[XC,XX] at ho |-;exact Qw
def XnP (b:Bool) (k n d:Int):Int×Int×Bool:=if b=false then (0,0,false) else if k=2 then (n,1,true) else if k=3 then (n,d,true) else (0,0,false)
def X6t (v:Val):Int×Int×Bool:=XnP (Xk 8 v) v.kind v.n v.d
theorem Xw3 (v:Val) (hok:UJ v):Con prog 284 [] [XC v] [] (.tup [X8E (X6t v).1 (X6t v).2.1,ab (X6t v).2.2]):=by
 have hv:=X7O v hok;refine ZCt func284 ntmps284 fun E=> ?_;unfold X6t;generalize Xk 8 v=bb at*;obtain⟨k,n,d,s,l⟩:=v;simp only[XC,Val.kind,Val.n,Val.d] at hv |-;unfold XnP;cases bb with
 |false=>
  rw[PI rfl];refine U8 ?_;exact QAa
 |true=>
  rw[NI (by simp)];by_cases h2:k=2
  ·rw[PI h2];refine UP ?_;exact QAa
  rw[NI h2];by_cases h3:k=3
  ·rw[PI h3];refine Qma ?_;exact QAa
  rw[NI h3];refine X17 ?_;exact QAa
def X7T (v:Val):Prop:=Con prog 228 [] [XC v,XC v] [] (ai 0)
theorem XoC (l:List Val) (hl:l.length<=9223372036854775807) (ih:∀x∈l,X7T x):Con prog 330 [] [.d (.sl 5 (XX l)),.d (.sl 5 (XX l))] [] (ai 0):=by
 refine ZC1 func330 ntmps330 fun E=> ?_;have hlen:=X2e l;have hi:=X8F (XX l).length;refine XA ?_
 refine Xn (fun i:Nat=>i<=l.length) (fun i=>⟨36,[(0,.d (.sl 5 (XX l))),(1,.d (.sl 5 (XX l))),(5,ai i)],[]⟩) (fun i=>l.length-i) 0 (by omega)
  (Xb rfl ⟨JL,JL,JL,TV⟩ trivial) ?_
 intro i hi2;by_cases hil:i<l.length
 case neg=>
  have hn:¬(i:Int)<(XX l).length:=by omega
  refine Vl ?_;exact Zr0
 obtain⟨x,hx⟩:=Xu (l:=l) hil;have au:(XX l)[i]? =some (UT x):=by rw[X7h];exact XM hx
 have hc:=ih x (mem_of_getElem? hx);unfold X7T at hc;have hn:(i:Int)<(XX l).length:=by omega
 obtain⟨k,n,d,s,q⟩:=x;simp only[XC,UT] at hc au;refine YY ?_;refine Z3 (af:=hc) ?_;refine XG ?_;exact⟨i+1,by omega,by omega,Xb rfl ⟨JL,JL,JL,TV⟩ TV⟩
theorem XpJ (v:Val) (hl:v.l.length<=9223372036854775807) (ih:∀x∈v.l,X7T x):Con prog 281 [] [XC v,XC v] [] (ai 0):=by
 obtain⟨k,n,d,s,l⟩:=v;simp only[Val.l] at hl ih;have hl:=XoC l hl ih;have hk:=X8F k;have hn:=X8F n;have hd:=X8F d;have hs:=XuN s;refine ZC1 func281 ntmps281 fun E=> ?_;simp only[XC];refine XQ ?_;refine Z3 (af:=hk) ?_;refine Yg ?_;refine QBa ?_;refine Yg ?_;refine Z3 (af:=hd) ?_;refine UX ?_;exact Zr0
theorem Xtw (v:Val) (hok:UJ v) (hf:Con prog 281 [] [XC v,XC v] [] (ai 0)):X7T v:=by
 have hv:=X7O v hok;have hn:=Xw3 v hok;have bE:=XcH v.kind;have hi:=X8F (X2O v.kind);have hcmp:=XoW (X6t v).1 (X6t v).2.1;refine ZC1 func228 ntmps228 fun E=> ?_;generalize X6t v=u at*;generalize Xk 8 v=bb at*;obtain⟨k,n,d,s,l⟩:=v;obtain⟨p,q,is⟩:=u;simp only[XC,Val.kind] at hv hn bE hi hcmp hf |-;generalize X2O k=c at*;cases bb with
 |false=>
  refine X1V ?_;exact Zr0
 |true=>
  cases is with
  |true=>
   refine QCa ?_;exact QDa
  |false=>
   refine QCa ?_;exact QI
theorem Xgc:∀v:Val,UJ v->X7T v
 | .mk k n d s l=>fun hok=>Xtw (.mk k n d s l) hok (XpJ (.mk k n d s l) (by rw[UJ] at hok;exact hok.2.1) fun x hx=>Xgc x (Xca (by rw[UJ] at hok;exact hok.2.2) hx))
termination_by v=>SizeOf.sizeOf v
decreasing_by
 have h1:=sizeOf_lt_of_mem (show x∈l from hx);simp only[Val.mk.sizeOf_spec];omega
theorem Xhm (v:Val):Con prog 174 [] [XC v] [] (ab (Ui v)):=by
 refine ZC1 func174 ntmps174 fun E=> ?_;have hv:=X2w v;unfold Ui;generalize Xk 8 v=b at*;obtain⟨k,n,d,s,l⟩:=v;simp only[XC,Val.kind] at hv |-;unfold X8c;by_cases h1:k=1
 ·rw[DT (by omega),Bool.true_and];cases b with
  |true=>
   exact QEa
  |false=>
   exact QFa
 by_cases h2:k=2
 ·rw[DT (by omega),Bool.true_and];cases b with
  |true=>
   exact QEa
  |false=>
   exact QFa
 by_cases h4:k=4
 ·rw[DT (by omega),Bool.true_and];cases b with
  |true=>
   exact QEa
  |false=>
   exact QFa
 rw[DF (by omega),Bool.false_and];exact QFa
def Yr (u:Bool×Bool×Bool×Bool) (i si di:Bool) (src dst:Int) (name:List UInt8) (nv zv pv:Bool):Int:=
 if u.2.2.2=false\/i=false then 1
 else if (u.1=true/\(si=false\/di=false))\/(u.1=false/\(src≠0\/dst≠0)) then 1
 else if (u.2.1=false/\name≠[])\/(u.2.2.1=false/\zv=false) then 1
 else if u.2.1=true/\nv=false then 6 else if u.2.2.1=true/\zv=false/\pv=false then 8 else 0
theorem Xmg (c:Chg):YD c=Yr (X4s c.op) (idV c.id) (idV c.src) (idV c.dst) c.src c.dst c.name (Y8 c.name) (V4 c.v) (Ui c.v):=by
 unfold YD Yr X4s;simp only[decide_eq_true_eq,decide_eq_false_iff_not]
abbrev Us (op id src dst:Int) (name:List UInt8) (k n d:Int) (s:List UInt8) (l:List Val):AVal:= .agg [ai op,ai id,ai src,ai dst,.d (.v (.string (X6 name))),ai k,ai n,ai d,.d (.v (.string (X6 s))),.d (.sl 5 (XX l))]
def Xz:Chg->AVal
 |⟨op,id,src,dst,name,.mk k n d s l⟩=>Us op id src dst name k n d s l
theorem X6k (c:Chg):Con prog 113 [] [Xz c] [] (ai (YD c)):=by
 rw[Xmg];obtain⟨op,id,src,dst,name,v⟩:=c;have hf:=XpE op;have hi:=Xfw id;have hs:=Xfw src;have hd:=Xfw dst;have hn:=X6I name;have hz:=XfM v;have hp:=Xhm v;generalize idV id=i at*;generalize idV src=si at*;generalize idV dst=di at*;generalize Y8 name=nv at*;generalize V4 v=zv at*;generalize Ui v=pv at*;obtain⟨k,n,d,s,l⟩:=v;simp only[Xz,XC] at*;refine ZC1 func113 ntmps113 fun E=> ?_;generalize X4s op=u at*;obtain⟨en,nm,vl,ok⟩:=u;simp only at hf;obtain⟨r,hr⟩:∃r,r=Yr (en,nm,vl,ok) i si di src dst name nv zv pv:=⟨_,rfl⟩
 rw[<-hr];refine Yq ?_;refine Ut rfl rfl (fun hq=> ?_) (fun hq=> ?_);refine W2_ ?_;refine Z3 (af:=hi) ?_;refine W4_ ?_;refine YJ rfl (fun hq=> ?_) (fun hq=> ?_);refine W4_ ?_;(clear hf hi hs hd hn hz hp;simp[Yr, *] at hr;subst hr;exact Zr0);refine W5_ ?_;refine X59 rfl rfl (fun hq=> ?_) (fun hq=> ?_);refine QGa ?_;refine Ut rfl rfl (fun hq=> ?_) (fun hq=> ?_);refine QHa ?_;refine Ut rfl rfl (fun hq=> ?_) (fun hq=> ?_);refine W8_ ?_;refine QG ?_;refine XR ?_;refine Ut rfl rfl (fun hq=> ?_) (fun hq=> ?_);refine W9_ ?_;refine Ut rfl rfl (fun hq=> ?_) (fun hq=> ?_);refine Ye ?_;refine YJ rfl (fun hq=> ?_) (fun hq=> ?_);refine W4_ ?_;(clear hf hi hs hd hn hz hp;simp[Yr, *] at hr;subst hr;exact Zr0);refine XK ?_;refine Ut rfl rfl (fun hq=> ?_) (fun hq=> ?_);refine XQ ?_;(clear hf hi hs hd hn hz hp;simp[Yr, *] at hr;subst hr;exact Zr0);refine W7_ ?_;refine YJ rfl (fun hq=> ?_) (fun hq=> ?_);refine W4_ ?_;(clear hf hi hs hd hn hz hp;simp[Yr, *] at hr;subst hr;exact Zr0);refine W5_ ?_;(clear hf hi hs hd hn hz hp;simp[Yr, *] at hr;subst hr;exact Zr0);refine W8_ ?_;refine YJ rfl (fun hq=> ?_) (fun hq=> ?_);refine W4_ ?_;(clear hf hi hs hd hn hz hp;simp[Yr, *] at hr;subst hr;exact Zr0);refine XR ?_;refine YJ rfl (fun hq=> ?_) (fun hq=> ?_);refine W4_ ?_;(clear hf hi hs hd hn hz hp;simp[Yr, *] at hr;subst hr;exact Zr0);refine Yq ?_;(clear hf hi hs hd hn hz hp;simp[Yr, *] at hr;subst hr;exact Zr0);refine W5_ ?_;refine Yb rfl rfl (fun hq=> ?_) (fun hq=> ?_);refine W4_ ?_;refine Qm ?_;refine W9_ ?_;(clear hf hi hs hd hn hz hp;simp[Yr, *] at hr;subst hr;exact Zr0);refine W4_ ?_;refine Ut rfl rfl (fun hq=> ?_) (fun hq=> ?_);refine UD ?_;refine Ut rfl rfl (fun hq=> ?_) (fun hq=> ?_);refine XQ ?_;(clear hf hi hs hd hn hz hp;simp[Yr, *] at hr;subst hr;exact Zr0);refine W7_ ?_;refine YJ rfl (fun hq=> ?_) (fun hq=> ?_);refine W4_ ?_;(clear hf hi hs hd hn hz hp;simp[Yr, *] at hr;subst hr;exact Zr0);refine W5_ ?_;(clear hf hi hs hd hn hz hp;simp[Yr, *] at hr;subst hr;exact Zr0);refine W8_ ?_;refine YJ rfl (fun hq=> ?_) (fun hq=> ?_);refine W4_ ?_;(clear hf hi hs hd hn hz hp;simp[Yr, *] at hr;subst hr;exact Zr0);refine X0Z ?_;(clear hf hi hs hd hn hz hp;simp[Yr, *] at hr;subst hr;exact Zr0);refine W4_ ?_;refine QIa ?_;refine W9_ ?_;(clear hf hi hs hd hn hz hp;simp[Yr, *] at hr;subst hr;exact Zr0);refine XK ?_;refine QIa ?_;refine W9_ ?_;(clear hf hi hs hd hn hz hp;simp[Yr, *] at hr;subst hr;exact Zr0);refine QJa ?_;refine Yb rfl rfl (fun hq=> ?_) (fun hq=> ?_);refine XQ ?_;(clear hf hi hs hd hn hz hp;simp[Yr, *] at hr;subst hr;exact Zr0);refine W8_ ?_;refine Vt rfl (fun hq=> ?_) (fun hq=> ?_);refine W4_ ?_;(clear hf hi hs hd hn hz hp;simp[Yr, *] at hr;subst hr;exact Zr0);refine W6_ ?_;refine Ut rfl rfl (fun hq=> ?_) (fun hq=> ?_);refine W9_ ?_
 refine Ut rfl rfl (fun hq=> ?_) (fun hq=> ?_);refine Ye ?_;refine YJ rfl (fun hq=> ?_) (fun hq=> ?_);refine W4_ ?_;(clear hf hi hs hd hn hz hp;simp[Yr, *] at hr;subst hr;exact Zr0);refine XK ?_;refine Ut rfl rfl (fun hq=> ?_) (fun hq=> ?_);refine XQ ?_;(clear hf hi hs hd hn hz hp;simp[Yr, *] at hr;subst hr;exact Zr0);refine W7_ ?_;refine YJ rfl (fun hq=> ?_) (fun hq=> ?_);refine W4_ ?_;(clear hf hi hs hd hn hz hp;simp[Yr, *] at hr;subst hr;exact Zr0);refine W5_ ?_;(clear hf hi hs hd hn hz hp;simp[Yr, *] at hr;subst hr;exact Zr0);refine W8_ ?_;refine YJ rfl (fun hq=> ?_) (fun hq=> ?_);refine W4_ ?_;(clear hf hi hs hd hn hz hp;simp[Yr, *] at hr;subst hr;exact Zr0);refine XR ?_;refine YJ rfl (fun hq=> ?_) (fun hq=> ?_);refine W4_ ?_;(clear hf hi hs hd hn hz hp;simp[Yr, *] at hr;subst hr;exact Zr0);refine Yq ?_;(clear hf hi hs hd hn hz hp;simp[Yr, *] at hr;subst hr;exact Zr0);refine W5_ ?_;refine Yb rfl rfl (fun hq=> ?_) (fun hq=> ?_);refine W4_ ?_;refine Qm ?_;refine W9_ ?_;(clear hf hi hs hd hn hz hp;simp[Yr, *] at hr;subst hr;exact Zr0);refine W4_ ?_;refine Ut rfl rfl (fun hq=> ?_) (fun hq=> ?_);refine UD ?_;refine Ut rfl rfl (fun hq=> ?_) (fun hq=> ?_);refine XQ ?_;(clear hf hi hs hd hn hz hp;simp[Yr, *] at hr;subst hr;exact Zr0);refine W7_ ?_;refine YJ rfl (fun hq=> ?_) (fun hq=> ?_);refine W4_ ?_;(clear hf hi hs hd hn hz hp;simp[Yr, *] at hr;subst hr;exact Zr0);refine W5_ ?_;(clear hf hi hs hd hn hz hp;simp[Yr, *] at hr;subst hr;exact Zr0);refine W8_ ?_;refine YJ rfl (fun hq=> ?_) (fun hq=> ?_);refine W4_ ?_;(clear hf hi hs hd hn hz hp;simp[Yr, *] at hr;subst hr;exact Zr0);refine X0Z ?_;(clear hf hi hs hd hn hz hp;simp[Yr, *] at hr;subst hr;exact Zr0);refine XR ?_
 (clear hf hi hs hd hn hz hp;simp[Yr, *] at hr;subst hr;exact Zr0)
open Go
def X1m (b:List UInt8) (e:Int×Int):Prop:=e.2=0->∃q:Nat,e.1=(q:Int)/\q<=b.length
theorem Xlz (b:List UInt8) (a:Int):X1m b (UE b a).2:=by
 intro h;obtain⟨k,rfl,hk,h1,h2,he⟩:=Xk8 h;refine⟨_,he,?_⟩;simp only[LD] at h1;omega
theorem X6N (b:List UInt8) (a:Int):X1m b (XB b a).2:=by
 intro h;unfold XB at h |-;simp only at h |-;split
 ·rename_i h1;rw[PI h1] at h;exact absurd h h1
 rename_i h1;rw[NI h1] at h;split
 ·rename_i h2;rw[PI h2] at h;simp at h
 rename_i h2;rw[NI h2] at h;split
 ·rename_i h3;rw[PI h3] at h;simp at h
 exact Xlz b a (Classical.not_not.1 h1)
theorem Xar (b:List UInt8) (a:Int):∃n:Nat,(XB b a).1=n:=by
 unfold XB;simp only;split
 ·exact⟨0,rfl⟩
 split
 ·exact⟨0,rfl⟩
 split
 ·exact⟨0,rfl⟩
 exact⟨_,rfl⟩
theorem XhQ (h:(XB b a).2.2≠0):(XB b a).1=0:=by
 unfold XB at h |-;simp only at h |-;split
 ·rfl
 rename_i h1;rw[NI h1] at h;split
 ·rfl
 rename_i h2;rw[NI h2] at h;split
 ·rfl
 rename_i h3;rw[NI h3] at h;simp at h
theorem Xef (b:List UInt8) (a:Int):X1m b (YX b a).2:=by
 intro h;unfold YX at h |-;simp only at h |-;split
 ·rename_i h1;rw[PI h1] at h;exact absurd h h1
 rename_i h1;rw[NI h1] at h;split
 ·rename_i h3;rw[PI h3] at h;simp at h
 exact Xlz b a (Classical.not_not.1 h1)
theorem Xo0 {b:List UInt8}{a:Int} (h:(YX b a).2.2≠0):(YX b a).1=0:=by
 unfold YX at h |-;simp only at h |-;split
 ·rfl
 rename_i h1;rw[NI h1] at h;split
 ·rfl
 rename_i h3;rw[NI h3] at h;simp at h
theorem XwT (b:List UInt8) (a most:Int):X1m b (X0M b a most).2:=by
 intro h;have hu:=X6N b a;obtain⟨n,hn⟩:=Xar b a;unfold X0M at h |-;simp only at h |-;split
 ·rename_i h1;rw[PI h1] at h;exact absurd h h1
 rename_i h1;rw[NI h1] at h;split
 ·rename_i h2;rw[PI h2] at h;simp at h
 rename_i h2;rw[NI h2] at h;split
 ·rename_i h3;rw[PI h3] at h;simp at h
 rename_i h3;obtain⟨q,hq,qL⟩:=hu (Classical.not_not.1 h1);rw[hn] at h3 |-;rw[hq] at h3 |-;exact⟨q+n,by simp,by omega⟩
section
variable {g:Nat->Int->Val×Int×Int}{a:Int}
theorem X6E {k:Nat} (h:(Ua g a k).2.2=0):Ua g a (k+1)=((Ua g a k).1++[(g k (Ua g a k).2.1).1],(g k (Ua g a k).2.1).2.1,(g k (Ua g a k).2.1).2.2):=by
 rw[Ua];simp[h]
theorem X7X {k:Nat} (h:(Ua g a k).2.2≠0):∀j,k<=j->Ua g a j=Ua g a k
 |0,hj=>by obtain rfl:k=0:=by omega
           rfl
 |j+1,hj=>by
  by_cases e:k=j+1
  ·rw[e]
  ·have:=X7X h j (by omega);rw[Ua,this];simp[h]
theorem XqS {k:Nat} (h:(Ua g a k).2.2=0):(Ua g a k).1.length=k:=by
 induction k with
 |zero=>rfl
 |succ k ih=>
  by_cases e:(Ua g a k).2.2=0
  ·rw[X6E e];simp[ih e]
  ·rw[X7X e (k+1) (by omega)] at h;exact absurd h e
theorem X9v (hg:∀i q:Nat,q<=b.length->X1m b (g i q).2) (h0:∃q:Nat,a=(q:Int)/\q<=b.length):∀k,X1m b (Ua g a k).2
 |0=>fun _=>h0
 |k+1=>by
  by_cases e:(Ua g a k).2.2=0
  ·rw[X6E e];obtain⟨q,h1,h2⟩:=X9v hg h0 k e;intro h;rw[h1] at h |-;exact hg k q h2 h
  ·intro h;rw[X7X e (k+1) (by omega)] at h;exact absurd h e
theorem XnQ {k:Nat} (h:(Ua g a k).2.2=0):(Ua g a (k+1)).1.length=k+1:=by
 rw[X6E h];simp[XqS h]
end
theorem Xqu (fR:∀i q:Nat,q<=b.length->X1m b (gl i q).2) (eN:∀i q:Nat,q<=b.length->X1m b (gp i q).2) (a:Nat) (ha:a<=b.length) (k:Int):X1m b (Vz gl gp b a k).2:=by
 unfold Vz;split
 ·exact Xef b a
 split
 ·simp only;split
  ·exact Xef b a
  ·exact Xef b _
 split
 ·exact XwT b a 100
 split
 ·simp only;split
  ·exact X6N b a
  rename_i h1;split
  ·intro h;simp at h
  ·have h0:=X6N b a (Classical.not_not.1 h1);split
   ·exact X9v fR h0 _
   ·exact X9v eN h0 _
 ·exact fun _=>⟨a,rfl,ha⟩
theorem Xer (fR:∀i q:Nat,q<=b.length->X1m b (gl i q).2) (eN:∀i q:Nat,q<=b.length->X1m b (gp i q).2) (m a:Nat) (ha:a<=b.length) (want:Int):X1m b (X0P gl gp m b a want).2:=by
 unfold X0P;split
 ·intro h;simp at h
 simp only;split
 ·intro h;simp at h
 ·rename_i h1 h2;have:=Xqu fR eN (a+1) (by omega) ((((b[(a:Int).toNat]?).getD 0).toNat:Nat):Int);rw[Int.natCast_add] at this;split
  ·intro h;simp at h
  ·exact this
theorem X7B (i q:Nat):X1m b (noG i q).2:=fun h=>by simp[noG] at h
theorem Xaz (i q:Nat) (h:q<=b.length):X1m b (X3L b i q).2:=
 Xer (fun i q _=>X7B i q) (fun i q _=>X7B i q) 0 q h _
theorem Xji:∀(m q:Nat),q<=b.length->X1m b (X2X b m q).2
 |0,q,h=>Xer (fun i q _=>X7B i q) (fun i q h=>Xaz i q h) 0 q h _
 |m+1,q,h=>Xer (fun i q h=>Xji m q h) (fun i q h=>Xaz i q h) (m+1) q h _
theorem Xlr:∀{l:List Val},(∀x∈l,UJ x)->X3G l
 |[],_=>by rw[X3G];trivial
 |v::r,h=>by
  rw[X3G];exact⟨h v (mem_cons_self ..),Xlr fun x hx=>h x (mem_cons_of_mem _ hx)⟩
theorem XsE (h:Xk m (.mk k n d s l)=true):s.length<=100/\l.length<=64:=by
 rw[Xk] at h;by_cases h4:k=4
 ·subst h4;simp at h;exact⟨by omega,by rw[h.1.2];simp⟩
 by_cases h7:k=7
 ·subst h7;simp at h;exact⟨by rw[h.1.2];simp,by omega⟩
 by_cases h8:k=8
 ·subst h8;simp at h;exact⟨by rw[h.1.2];simp,by omega⟩
 simp[h4,h7,h8] at h;exact⟨by rw[h.1.1.2];simp,by rw[h.1.2];simp⟩
theorem Xf2:∀(v:Val) (m:Nat),Xk m v=true->UJ v
 | .mk k n d s l,m,h=>by
  have h1:=XsE h;rw[UJ];exact⟨by omega,by omega,Xlr fun x hx=>Xf2 x m (Xdl h x hx)⟩
termination_by v=>SizeOf.sizeOf v
decreasing_by
 have h1:=sizeOf_lt_of_mem (show x∈l from hx);simp only[Val.mk.sizeOf_spec];omega
theorem Xsi {want:Int} (h:(X0P gl gp m b a want).2.2=0):Xk 8 (X0P gl gp m b a want).1=true:=by
 unfold X0P at h |-;split
 ·rename_i h1;rw[PI h1] at h;simp at h
 rename_i h1;rw[NI h1] at h;simp only at h |-;split
 ·rename_i h2;rw[PI h2] at h;simp at h
 rename_i h2;rw[NI h2] at h;split
 ·rename_i h3;rw[PI h3] at h;simp at h
 rename_i h3;rw[NI h3] at h;cases hv:Xk 8 (Vz gl gp b (a+1) ((((b[a.toNat]?).getD 0).toNat:Nat):Int)).1 with
 |true=>rfl
 |false=>exact absurd ⟨h,hv⟩ h3
theorem Xwo (b:List UInt8) (a most:Int) (hm:0<=most):((X0M b a most).1.length:Int)<=most:=by
 obtain⟨n,hn⟩:=Xar b a;unfold X0M;simp only;split
 ·simpa using hm
 split
 ·simpa using hm
 split
 ·simpa using hm
 ·rename_i h1 h2 h3;rw[hn] at h2 |-;simp;omega
theorem X6P {n:Nat} (h:n<=300):(Xl n).length<=10:=by
 rw[X2k (by omega)];exact X1Y (by omega)
theorem X7o (h: -9223372036854775808<=n/\n<=9223372036854775807):(U5 n).length<=10:=X1Y (Xl8 h)
theorem XrJ (h:Xk m (.mk k n d s l)=true) (h7:k≠7) (h8:k≠8):(Yh (.mk k n d s l)).length<=111:=by
 rw[Xk] at h;rw[Yh];simp only[LC];by_cases h1:k=1\/k=2\/k=5\/k=6
 ·rw[PI h1];have hn: -9223372036854775808<=n/\n<=9223372036854775807:=by
   rcases h1 with rfl|rfl|rfl|rfl<;>simp at h<;>omega
  have:=X7o hn;omega
 rw[NI h1];by_cases h3:k=3
 ·subst h3;rw[PI rfl];have dP:(-9223372036854775808<=n/\n<=9223372036854775807)/\ -9223372036854775808<=d/\d<=9223372036854775807:=by simp[X2p] at h;omega
  have h5:=X7o dP.1;have h6:=X7o dP.2;rw[LA];omega
 rw[NI h3];by_cases h4:k=4
 ·subst h4;rw[PI rfl];have hs:s.length<=100:=by simp at h;omega
  have:=X6P (n:=s.length) (by omega);unfold Ym;rw[LA];omega
 rw[NI h4,NI (by omega)];simp
theorem Xli (h:Xk m (.mk 8 n d s l)=true):l.length<=64/\1<=m/\X0C (m-1) l=true:=by
 rw[Xk] at h;simp at h;exact⟨h.2.1.2.1,by omega,h.2.2⟩
end Go.Fw

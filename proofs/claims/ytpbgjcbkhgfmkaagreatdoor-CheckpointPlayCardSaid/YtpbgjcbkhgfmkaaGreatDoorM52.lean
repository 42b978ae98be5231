/- Small tests of changes and rules. -/
import Derived.Test.YtpbgjcbkhgfmkaaGreatDoorM48
set_option maxHeartbeats 32000000
namespace Go.Fw
open Go Go.Proofs Tryz List
set_option maxRecDepth 100000
set_option linter.unusedVariables false
set_option linter.unusedSimpArgs false
theorem Xfp (n:Int):Con prog 190 [] [ai n] [] (ab (idV n)):=by
 refine ZC1 func190 ntmps190 fun E=> ?_;by_cases h1:1<=n
 ·by_cases h2:n<=1000000
  ·rw[show idV n=true by unfold idV;exact DT ⟨h1,h2⟩];exact Qs
  ·rw[show idV n=false by unfold idV;exact DF (by omega)];exact Qt
 ·rw[show idV n=false by unfold idV;exact DF (by omega)];exact Qt
theorem XtE (op:Int):Con prog 191 [] [ai op] [] (ab (YS op)):=by
 refine ZC1 func191 ntmps191 fun E=> ?_;by_cases k3:op=3
 ·subst k3;exact QEa
 by_cases k4:op=4
 ·subst k4;exact QEa
 by_cases k5:op=5
 ·subst k5;exact QEa
 by_cases k6:op=6
 ·subst k6;exact QEa
 by_cases k8:op=8
 ·subst k8;exact QEa
 rw[show YS op=false by unfold YS;exact DF (by omega)];exact QFa
theorem Xwk (op:Int):Con prog 192 [] [ai op] [] (ab (YL op)):=by
 refine ZC1 func192 ntmps192 fun E=> ?_;by_cases k5:op=5
 ·subst k5;exact Qs
 by_cases k8:op=8
 ·subst k8;exact Qs
 rw[show YL op=false by unfold YL;exact DF (by omega)];exact Qt
theorem XtQ (x y:Int):Con prog 282 [] [ai x,ai y] [] (ai (YP x y)):=by
 refine ZC1 func282 ntmps282 fun E=> ?_;by_cases h1:x<y
 ·rw[show YP x y= -1 by simp[YP,h1]];refine Yg ?_;exact Zr0
 by_cases h2:y<x
 ·rw[show YP x y=1 by simp[YP,h1,h2]];refine Vl ?_;exact Zr0
 rw[show YP x y=0 by simp[YP,h1,h2]];exact Qk
theorem Xof (b:Bool):Con prog 280 [] [ab b] [] (ai (if b then 2 else 0)):=by
 refine ZC1 func280 ntmps280 fun E=> ?_;cases b with
 |true=>
  exact Qy
 |false=>
  exact QW
theorem Xxs {k:Int} (h:k≠0):0<X2O k:=by
 unfold X2O;rw[NI h];split
 ·omega
 split
 ·omega
 split
 ·omega
 split
 ·omega
 split
 ·omega
 split<;>omega
def X6X (v:Val):Int:=if Xk 8 v=false then 1 else YP (X2O v.kind) 0
theorem XuU (v:Val):decide (X6X v=0)=V4 v:=by
 unfold X6X V4;cases h:Xk 8 v with
 |false=>simp
 |true=>
  obtain⟨k,n,d,s,l⟩:=v;have hk:=XdP h;simp only[Val.kind,Bool.true_and];refine decide_eq_decide.2 ?_;rw[NI (by simp)];unfold YP X2O;constructor
  ·intro h1;refine Classical.byContradiction fun h0=> ?_;rw[NI h0] at h1;have hpos:(0:Int)<(if k=1 then 1 else if k=2\/k=3 then 2 else if k=4 then 3 else if k=5 then 4 else if k=6 then 5 else if k=8 then 6 else 7):=by
    split
    ·omega
    split
    ·omega
    split
    ·omega
    split
    ·omega
    split
    ·omega
    split<;>omega
   rw[NI (by omega),PI hpos] at h1;omega
  ·intro h1;subst h1;rfl
theorem Xpz (v:Val) (hok:UJ v):Con prog 228 [] [XC v,XC zV] [] (ai (X6X v)):=by
 have hv:=X7O v hok;have hz:=X7O zV (by simp[UJ,X3G]);rw[show Xk 8 zV=true by rw[Xk];simp] at hz;by_cases bZ:v=zV
 ·subst bZ;rw[show X6X zV=0 by unfold X6X;rw[show Xk 8 zV=true by rw[Xk];simp];rfl];exact Xgc zV (by simp[UJ,X3G])
 refine ZC1 func228 ntmps228 fun E=> ?_;unfold X6X;cases h:Xk 8 v with
 |false=>
  rw[h] at hv;rw[PI rfl];have hy:=Xof false;rw[NI (by simp)] at hy;obtain⟨k,n,d,s,l⟩:=v;simp only[XC,XX] at hv hz |-;refine Qza ?_;refine Yf ?_;exact Zr0
 |true=>
  rw[h] at hv;rw[NI (by simp)];obtain⟨k,n,d,s,l⟩:=v;have c1:=XcH k;have c2:=XcH 0;rw[show X2O 0=0 from rfl] at c2;have c3:=XtQ (X2O k) 0;simp only[Val.kind];have bY:k≠0:=fun h1=>by
   obtain⟨rfl,rfl,rfl,rfl⟩:=Xly h h1;exact bZ (by rw[h1])
  have cZ:=Xxs bY;have hnz:YP (X2O k) 0≠0:=by
   unfold YP;rw[NI (by omega),PI cZ];omega
  generalize YP (X2O k) 0=z at*;generalize X2O k=c at*;simp only[XC,XX] at hv hz |-;refine Qza ?_;refine Vl ?_;refine Z3 (af:=c1) ?_;refine W2_ ?_;refine Z3 (af:=c2) ?_;exact Qy
theorem Xiv (v:Val) (hok:UJ v):Con prog 193 [] [XC v] [] (ab (V4 v)):=by
 refine ZC1 func193 ntmps193 fun E=> ?_;have ho:=Xpz v hok;rw[<-XuU v];generalize X6X v=z at*;obtain⟨k,n,d,s,l⟩:=v;simp only[XC,XX] at ho |-;exact Qw
theorem Xdp (c:Chg) (hok:UJ c.v):Con prog 121 [] [Xz c] [] (ai (YD c)):=by
 rw[Xmg];obtain⟨op,id,src,dst,name,v⟩:=c;have hf:=XtE op;have hw:=Xwk op;have hi:=Xfp id;have hs:=Xfp src;have hd:=Xfp dst;have hn:=XdJ name;have hz:=Xiv v hok;have hp:=Xmz v hok;generalize idV id=i at*;generalize idV src=si at*;generalize idV dst=di at*;generalize Y8 name=nv at*;generalize V4 v=zv at*;generalize Ui v=pv at*;obtain⟨k,n,d,s,l⟩:=v;simp only[Xz,XC] at*;refine ZC1 func121 ntmps121 fun E=> ?_;rw[show X4s op=(decide (op=6),YS op,YL op,decide (1<=op/\op<=8)) from rfl];clear hok;generalize YS op=nm at*;generalize YL op=vl at*;generalize hlo:decide (1<=op/\op<=8)=ok;obtain⟨r,hr⟩:∃r,r=Yr (decide (op=6),nm,vl,ok) i si di src dst name nv zv pv:=⟨_,rfl⟩
 rw[<-hr];have h1:op<1->ok=false:=fun h=>by rw[<-hlo];exact DF (by omega)
 have h2:8<op->ok=false:=fun h=>by rw[<-hlo];exact DF (by omega)
 have h3:¬op<1->¬8<op->ok=true:=fun h k=>by rw[<-hlo];exact DT (by omega)
 clear hlo;refine XR ?_;refine Yb rfl rfl (fun hq=> ?_) (fun hq=> ?_);refine Yg ?_;refine QG ?_;refine W8_ ?_;refine Qbc ?_;(clear hf hw hi hs hd hn hz hp;simp[Yr, *] at hr;subst hr;exact Zr0);refine W5_ ?_;refine Yb rfl rfl (fun hq=> ?_) (fun hq=> ?_);refine XK ?_;refine QG ?_;refine W8_ ?_;refine Qbc ?_;(clear hf hw hi hs hd hn hz hp;simp[Yr, *] at hr;subst hr;exact Zr0);refine W2_ ?_;refine Z3 (af:=hi) ?_;refine W3_ ?_;refine Ut rfl rfl (fun hq=> ?_) (fun hq=> ?_);refine W5_ ?_;refine Ut rfl rfl (fun hq=> ?_) (fun hq=> ?_);refine XK ?_;refine Ut rfl rfl (fun hq=> ?_) (fun hq=> ?_);refine Yg ?_;refine Yb rfl rfl (fun hq=> ?_) (fun hq=> ?_);refine QGa ?_;refine Ut rfl rfl (fun hq=> ?_) (fun hq=> ?_);refine QHa ?_;refine Ut rfl rfl (fun hq=> ?_) (fun hq=> ?_);refine W8_ ?_;refine QG ?_;refine YR ?_;refine YJ rfl (fun hq=> ?_) (fun hq=> ?_);refine W4_ ?_;(clear hf hw hi hs hd hn hz hp;simp[Yr, *] at hr;subst hr;exact Zr0);refine XG ?_;refine Ut rfl rfl (fun hq=> ?_) (fun hq=> ?_);refine XR ?_;(clear hf hw hi hs hd hn hz hp;simp[Yr, *] at hr;subst hr;exact Zr0);refine W6_ ?_;refine YJ rfl (fun hq=> ?_) (fun hq=> ?_);refine W4_ ?_;(clear hf hw hi hs hd hn hz hp;simp[Yr, *] at hr;subst hr;exact Zr0);refine W5_ ?_;(clear hf hw hi hs hd hn hz hp;simp[Yr, *] at hr;subst hr;exact Zr0);refine Qae ?_;(clear hf hw hi hs hd hn hz hp;simp[Yr, *] at hr;subst hr;exact Zr0);refine XK ?_;refine QIa ?_;refine W8_ ?_;(clear hf hw hi hs hd hn hz hp;simp[Yr, *] at hr;subst hr;exact Zr0);refine QJa ?_;refine Yb rfl rfl (fun hq=> ?_) (fun hq=> ?_);refine XR ?_;(clear hf hw hi hs hd hn hz hp;simp[Yr, *] at hr;subst hr;exact Zr0);refine W7_ ?_;refine Vt rfl (fun hq=> ?_) (fun hq=> ?_);refine W4_ ?_;(clear hf hw hi hs hd hn hz hp;simp[Yr, *] at hr;subst hr;exact Zr0);refine XG ?_;refine YJ rfl (fun hq=> ?_) (fun hq=> ?_);refine W4_ ?_;(clear hf hw hi hs hd hn hz hp;simp[Yr, *] at hr;subst hr;exact Zr0);refine XG ?_;refine Ut rfl rfl (fun hq=> ?_) (fun hq=> ?_);refine XR ?_;(clear hf hw hi hs hd hn hz hp;simp[Yr, *] at hr;subst hr;exact Zr0);refine W6_ ?_;refine YJ rfl (fun hq=> ?_) (fun hq=> ?_);refine W4_ ?_;(clear hf hw hi hs hd hn hz hp;simp[Yr, *] at hr;subst hr;exact Zr0);refine W5_ ?_;(clear hf hw hi hs hd hn hz hp;simp[Yr, *] at hr;subst hr;exact Zr0);refine W7_ ?_;refine YJ rfl (fun hq=> ?_) (fun hq=> ?_);refine W4_ ?_;(clear hf hw hi hs hd hn hz hp;simp[Yr, *] at hr;subst hr;exact Zr0);refine W8_ ?_;refine Yb rfl rfl (fun hq=> ?_) (fun hq=> ?_);refine QGa ?_;refine Ut rfl rfl (fun hq=> ?_) (fun hq=> ?_);refine QHa ?_;refine Ut rfl rfl (fun hq=> ?_) (fun hq=> ?_);refine W8_ ?_;refine QG ?_;refine YR ?_;refine YJ rfl (fun hq=> ?_) (fun hq=> ?_);refine W4_ ?_;(clear hf hw hi hs hd hn hz hp;simp[Yr, *] at hr;subst hr;exact Zr0);refine XY ?_
 (clear hf hw hi hs hd hn hz hp;simp[Yr, *] at hr;subst hr;exact Zr0);refine Qae ?_;(clear hf hw hi hs hd hn hz hp;simp[Yr, *] at hr;subst hr;exact Zr0);refine XK ?_;refine QIa ?_;refine W8_ ?_;(clear hf hw hi hs hd hn hz hp;simp[Yr, *] at hr;subst hr;exact Zr0);refine QJa ?_;refine Yb rfl rfl (fun hq=> ?_) (fun hq=> ?_);refine XR ?_;(clear hf hw hi hs hd hn hz hp;simp[Yr, *] at hr;subst hr;exact Zr0);refine W7_ ?_;refine Vt rfl (fun hq=> ?_) (fun hq=> ?_);refine W4_ ?_;(clear hf hw hi hs hd hn hz hp;simp[Yr, *] at hr;subst hr;exact Zr0);refine XG ?_;refine YJ rfl (fun hq=> ?_) (fun hq=> ?_);refine W4_ ?_;(clear hf hw hi hs hd hn hz hp;simp[Yr, *] at hr;subst hr;exact Zr0);refine XY ?_;(clear hf hw hi hs hd hn hz hp;simp[Yr, *] at hr;subst hr;exact Zr0);refine W6_ ?_;refine Yb rfl rfl (fun hq=> ?_) (fun hq=> ?_);refine W5_ ?_;refine Qbc ?_;(clear hf hw hi hs hd hn hz hp;simp[Yr, *] at hr;subst hr;exact Zr0);refine W5_ ?_;refine Ut rfl rfl (fun hq=> ?_) (fun hq=> ?_);refine Yg ?_;refine Yb rfl rfl (fun hq=> ?_) (fun hq=> ?_);refine QGa ?_;refine Ut rfl rfl (fun hq=> ?_) (fun hq=> ?_);refine QHa ?_;refine Ut rfl rfl (fun hq=> ?_) (fun hq=> ?_);refine W8_ ?_;refine QG ?_;refine X00 ?_;refine Ut rfl rfl (fun hq=> ?_) (fun hq=> ?_);refine XR ?_;(clear hf hw hi hs hd hn hz hp;simp[Yr, *] at hr;subst hr;exact Zr0);refine W6_ ?_;refine YJ rfl (fun hq=> ?_) (fun hq=> ?_);refine W4_ ?_;(clear hf hw hi hs hd hn hz hp;simp[Yr, *] at hr;subst hr;exact Zr0);refine W5_ ?_;(clear hf hw hi hs hd hn hz hp;simp[Yr, *] at hr;subst hr;exact Zr0);refine Qae ?_;(clear hf hw hi hs hd hn hz hp;simp[Yr, *] at hr;subst hr;exact Zr0);refine XK ?_;refine QIa ?_;refine W8_ ?_;(clear hf hw hi hs hd hn hz hp;simp[Yr, *] at hr;subst hr;exact Zr0);refine QJa ?_;refine Yb rfl rfl (fun hq=> ?_) (fun hq=> ?_);refine XR ?_;(clear hf hw hi hs hd hn hz hp;simp[Yr, *] at hr;subst hr;exact Zr0);refine W7_ ?_;refine Vt rfl (fun hq=> ?_) (fun hq=> ?_);refine W4_ ?_;(clear hf hw hi hs hd hn hz hp;simp[Yr, *] at hr;subst hr;exact Zr0);refine YT ?_;refine Ut rfl rfl (fun hq=> ?_) (fun hq=> ?_);refine XR ?_;(clear hf hw hi hs hd hn hz hp;simp[Yr, *] at hr;subst hr;exact Zr0);refine W6_ ?_;refine YJ rfl (fun hq=> ?_) (fun hq=> ?_);refine W4_ ?_;(clear hf hw hi hs hd hn hz hp;simp[Yr, *] at hr;subst hr;exact Zr0);refine W5_ ?_;(clear hf hw hi hs hd hn hz hp;simp[Yr, *] at hr;subst hr;exact Zr0);refine W7_ ?_;refine YJ rfl (fun hq=> ?_) (fun hq=> ?_);refine W4_ ?_;(clear hf hw hi hs hd hn hz hp;simp[Yr, *] at hr;subst hr;exact Zr0);refine W8_ ?_;refine Yb rfl rfl (fun hq=> ?_) (fun hq=> ?_);refine QGa ?_;refine Ut rfl rfl (fun hq=> ?_) (fun hq=> ?_);refine QHa ?_;refine Ut rfl rfl (fun hq=> ?_) (fun hq=> ?_);refine W8_ ?_;refine QG ?_;refine Qo ?_
 (clear hf hw hi hs hd hn hz hp;simp[Yr, *] at hr;subst hr;exact Zr0);refine Qae ?_;(clear hf hw hi hs hd hn hz hp;simp[Yr, *] at hr;subst hr;exact Zr0);refine XK ?_;refine QIa ?_;refine W8_ ?_;(clear hf hw hi hs hd hn hz hp;simp[Yr, *] at hr;subst hr;exact Zr0);refine QJa ?_;refine Yb rfl rfl (fun hq=> ?_) (fun hq=> ?_);refine XR ?_;(clear hf hw hi hs hd hn hz hp;simp[Yr, *] at hr;subst hr;exact Zr0);refine W7_ ?_;refine Vt rfl (fun hq=> ?_) (fun hq=> ?_);refine W4_ ?_;(clear hf hw hi hs hd hn hz hp;simp[Yr, *] at hr;subst hr;exact Zr0);refine QV ?_;(clear hf hw hi hs hd hn hz hp;simp[Yr, *] at hr;subst hr;exact Zr0);refine W5_ ?_;refine QG ?_;refine W8_ ?_;refine Qbc ?_
 (clear hf hw hi hs hd hn hz hp;simp[Yr, *] at hr;subst hr;exact Zr0)
end Go.Fw

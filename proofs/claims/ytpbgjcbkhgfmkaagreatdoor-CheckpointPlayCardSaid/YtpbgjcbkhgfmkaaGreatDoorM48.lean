/- Names: the program's and the references'. -/
import Derived.Test.YtpbgjcbkhgfmkaaGreatDoorM13
set_option maxHeartbeats 32000000
namespace Go.Fw
open Go Go.Proofs Tryz List
set_option maxRecDepth 100000
set_option linter.unusedVariables false
set_option linter.unusedSimpArgs false
theorem Xjj (c:UInt8):Con prog 257 [] [au8 c.toNat] [] (ab (X0A c)):=by
 refine ZC1 func257 ntmps257 fun E=> ?_;by_cases h1:97<=c.toNat
 ·by_cases h2:c.toNat<=122
  ·rw[X6l (by omega)];refine Yg ?_;refine Qg ?_;refine W4_ ?_;exact Qh
  ·rw[X3s (by omega)];exact Qj
 by_cases h3:65<=c.toNat
 ·by_cases h4:c.toNat<=90
  ·rw[X6l (by omega)];refine Yw ?_;exact Qh
  ·rw[X3s (by omega)];exact Qj
 rw[X3s (by omega)];exact Qj
theorem XdJ (s:List UInt8):Con prog 194 [] [.d (.v (.string (X6 s)))] [] (ab (Y8 s)):=by
 refine ZC1 func194 ntmps194 fun E=> ?_;have hsz:(X6 s).size=s.length:=rfl;by_cases h0:s.length<1
 ·rw[Xgf (eq_nil_of_length_eq_zero (by omega))];have h0':((X6 s).size:Int)<1:=by omega
  exact QK
 have h0':¬((X6 s).size:Int)<1:=by omega
 by_cases iL:20<s.length
 ·rw[XdW iL];have jn:(20:Int)<(X6 s).size:=by omega
  exact QK
 have jn:¬(20:Int)<(X6 s).size:=by omega
 obtain⟨c,hc⟩:=Xu (l:=s) (k:=0) (by omega);have hl:=Xjj c;cases hlc:X0A c with
 |false=>
  rw[X8G hc hlc];rw[hlc] at hl;exact QK
 |true=>
  rw[hlc] at hl;refine Vb ?_
  refine Xn (fun i:Nat=>1<=i/\i<=s.length/\∀j,j<i->∃b,s[j]? =some b/\Ue b=true) (fun i=>⟨47,[(0,.d (.v (.string (X6 s)))),(3,ai i)],[]⟩) (fun i=>s.length-i) 1
   ⟨by omega,by omega,fun j hj=>⟨c,by rw[show j=0 by omega];exact hc,by unfold Ue;rw[hlc];rfl⟩⟩
   (Xb rfl ⟨JL,JL,TV⟩ trivial) ?_
  rintro i ⟨hi1,hi,hall⟩;by_cases hil:i<s.length
  case neg=>
   obtain rfl:i=s.length:=by omega
   rw[Xev hc hlc iL hall];have hn:¬((s.length:Nat):Int)<(X6 s).size:=by omega
   exact Qy
  have hn:(i:Int)<(X6 s).size:=by omega
  clear hl hlc hc;obtain⟨c,hc⟩:=Xu (l:=s) hil;have hl:=Xjj c;cases hlc:X0A c with
  |true=>
   rw[hlc] at hl;have eO:=X3r hc (show Ue c=true by unfold Ue;rw[hlc];rfl) hall;refine UP ?_;refine Qm ?_;refine XA ?_;exact QTd
  |false=>
   rw[hlc] at hl;by_cases g3:c.toNat=95
   ·have eO:=X3r hc (show Ue c=true by unfold Ue;rw[DT (by omega)];simp) hall;refine UP ?_;refine Qm ?_;refine XA ?_;exact QTd
   by_cases g1:48<=c.toNat
   ·by_cases g2:c.toNat<=57
    ·have eO:=X3r hc (show Ue c=true by unfold Ue;rw[DT (by omega)];simp) hall;refine Qp ?_;exact QTd
    ·rw[X6f hc (show Ue c=false by unfold Ue;rw[hlc,DF (by omega)];rfl)];refine QMa ?_;exact Zr0
   ·rw[X6f hc (show Ue c=false by unfold Ue;rw[hlc,DF (by omega)];rfl)];refine QMa ?_;exact Zr0
theorem Xb7 (s:List UInt8):Con prog 189 [] [.d (.v (.string (X6 s)))] [] (ab (Y8 s)):=by
 refine ZC1 func189 ntmps189 fun E=> ?_;have hsz:(X6 s).size=s.length:=rfl;by_cases h0:s.length<1
 ·rw[Xgf (eq_nil_of_length_eq_zero (by omega))];have h0':((X6 s).size:Int)<1:=by omega
  exact QC
 have h0':¬((X6 s).size:Int)<1:=by omega
 by_cases iL:20<s.length
 ·rw[XdW iL];have jn:(20:Int)<(X6 s).size:=by omega
  exact QC
 have jn:¬(20:Int)<(X6 s).size:=by omega
 obtain⟨c,hc⟩:=Xu (l:=s) (k:=0) (by omega);refine Yq ?_
 refine Xn (fun i:Nat=>i<=s.length/\(0<i->X0A c=true)/\∀j,j<i->∃b,s[j]? =some b/\Ue b=true) (fun i=>⟨65,[(0,.d (.v (.string (X6 s)))),(3,ai i)],[]⟩) (fun i=>s.length-i) 0
  ⟨by omega,fun h=>absurd h (by omega),fun j hj=>absurd hj (by omega)⟩
  (Xb rfl ⟨JL,JL,TV⟩ trivial) ?_
 rintro i ⟨hi,hh,hall⟩;by_cases hil:i<s.length
 case neg=>
  obtain rfl:i=s.length:=by omega
  rw[Xev hc (hh (by omega)) iL hall];have hn:¬((s.length:Nat):Int)<(X6 s).size:=by omega
  exact Qy
 have hn:(i:Int)<(X6 s).size:=by omega
 obtain⟨x,hx⟩:=Xu (l:=s) hil;by_cases fK:i=0
 ·subst fK;have oF:c=x:=by rw[hc] at hx;exact Option.some.inj hx
  clear hc hh;by_cases a1:97<=x.toNat
  ·by_cases a2:x.toNat<=122
   ·have cw:X0A x=true:=X6l (by omega);have hh:=cw;have eO:∀j,j<0+1->∃b,s[j]? =some b/\Ue b=true:=X3r hx (show Ue x=true by unfold Ue;rw[cw];rfl) hall;refine Vb ?_;refine Qm ?_;refine XR ?_;refine QIa ?_;refine QIa ?_;refine XA ?_;exact QUd
   ·have cw:X0A x=false:=X3s (by omega);have a3:65<=x.toNat:=by omega
    have a4:¬x.toNat<=90:=by omega
    rw[X8G hx cw];exact QVd
  by_cases a3:65<=x.toNat
  ·by_cases a4:x.toNat<=90
   ·have cw:X0A x=true:=X6l (by omega);have hh:=cw;have eO:∀j,j<0+1->∃b,s[j]? =some b/\Ue b=true:=X3r hx (show Ue x=true by unfold Ue;rw[cw];rfl) hall;refine Qo ?_;refine QIa ?_;refine QIa ?_;refine XA ?_;exact QUd
   ·have cw:X0A x=false:=X3s (by omega);rw[X8G hx cw];exact QVd
  have cw:X0A x=false:=X3s (by omega);rw[X8G hx cw];exact QVd
 replace hh:=hh (by omega);have uv:¬(i:Int)=0:=by omega
 clear hc;by_cases a1:97<=x.toNat
 ·by_cases a2:x.toNat<=122
  ·have cw:X0A x=true:=X6l (by omega);have eO:=X3r hx (show Ue x=true by unfold Ue;rw[cw];rfl) hall;refine Vb ?_;refine Qm ?_;refine XR ?_;refine QIa ?_;refine QIa ?_;refine XA ?_;exact QWd
  ·have cw:X0A x=false:=X3s (by omega);have a3:65<=x.toNat:=by omega
   have a4:¬x.toNat<=90:=by omega
   ·rw[X6f hx (show Ue x=false by unfold Ue;rw[cw,DF (by omega)];rfl)];exact QZ
 by_cases a3:65<=x.toNat
 ·by_cases a4:x.toNat<=90
  ·have cw:X0A x=true:=X6l (by omega);have eO:=X3r hx (show Ue x=true by unfold Ue;rw[cw];rfl) hall;refine Qo ?_;refine QIa ?_;refine QIa ?_;refine XA ?_;exact QWd
  ·have cw:X0A x=false:=X3s (by omega);by_cases g3:x.toNat=95
   ·have eO:=X3r hx (show Ue x=true by unfold Ue;rw[DT (by omega)];simp) hall;refine X7 ?_;refine Yg ?_;refine Qm ?_;refine XR ?_;exact QWd
   ·rw[X6f hx (show Ue x=false by unfold Ue;rw[cw,DF (by omega)];rfl)];exact QZ
 have cw:X0A x=false:=X3s (by omega);by_cases g1:48<=x.toNat
 ·by_cases g2:x.toNat<=57
  ·have eO:=X3r hx (show Ue x=true by unfold Ue;rw[DT (by omega)];simp) hall;refine QTa ?_;exact QWd
  ·rw[X6f hx (show Ue x=false by unfold Ue;rw[cw,DF (by omega)];rfl)];exact QZ
 ·rw[X6f hx (show Ue x=false by unfold Ue;rw[cw,DF (by omega)];rfl)];exact QZ
theorem Xmz (v:Val) (hok:UJ v):Con prog 195 [] [XC v] [] (ab (Ui v)):=by
 refine ZC1 func195 ntmps195 fun E=> ?_;have hv:=X7O v hok;unfold Ui;generalize Xk 8 v=b at*;obtain⟨k,n,d,s,l⟩:=v;simp only[XC,Val.kind] at hv |-;unfold X8c;by_cases h1:k=1
 ·rw[DT (by omega),Bool.true_and];cases b with
  |true=>
   exact QEa
  |false=>
   exact QXd
 by_cases h2:k=2
 ·rw[DT (by omega),Bool.true_and];cases b with
  |true=>
   exact QEa
  |false=>
   exact QXd
 by_cases h4:k=4
 ·rw[DT (by omega),Bool.true_and];cases b with
  |true=>
   exact QEa
  |false=>
   exact QXd
 rw[DF (by omega),Bool.false_and];cases b with
 |true=>
  exact QFa
 |false=>
  exact QXd
theorem Xt9 (n:Int):Con prog 188 [] [ai n] [] (ab (X24 n)):=by
 refine ZC1 func188 ntmps188 fun E=> ?_;by_cases h1:1<=n
 ·by_cases h2:n<=5
  ·rw[show X24 n=true by unfold X24;exact DT ⟨h1,h2⟩];exact Qs
  ·rw[show X24 n=false by unfold X24;exact DF (by omega)];exact Qt
 ·rw[show X24 n=false by unfold X24;exact DF (by omega)];exact Qt
theorem Xpt (k n:Int) (name key src dst:List UInt8):Con prog 187 [] [X4Z k n name key src dst] [] (ab (X33 k n)):=by
 refine ZC1 func187 ntmps187 fun E=> ?_;by_cases k3:k=3
 ·subst k3;rw[show X33 3 n=decide (n=1\/n=2\/n=4) from rfl];by_cases n1:n=1
  ·subst n1;exact QYd
  by_cases n2:n=2
  ·subst n2;exact QYd
  by_cases n4:n=4
  ·subst n4;exact QYd
  rw[DF (show ¬(n=1\/n=2\/n=4) by omega)];refine UX ?_;exact Qi
 by_cases k5:k=5
 ·subst k5;rw[show X33 5 n=decide (n=1\/n=2\/n=4) from rfl];by_cases n1:n=1
  ·subst n1;exact QYd
  by_cases n2:n=2
  ·subst n2;exact QYd
  by_cases n4:n=4
  ·subst n4;exact QYd
  rw[DF (show ¬(n=1\/n=2\/n=4) by omega)];refine UX ?_;exact Qi
 by_cases k7:k=7
 ·subst k7;rw[show X33 7 n=decide (0<=n/\n<=4000) from rfl];by_cases h1:0<=n
  ·by_cases h2:n<=4000
   ·rw[DT (show 0<=n/\n<=4000 by omega)];refine X17 ?_;exact Qh
   ·rw[DF (show ¬(0<=n/\n<=4000) by omega)];refine X17 ?_;exact Qi
  ·rw[DF (show ¬(0<=n/\n<=4000) by omega)];refine X17 ?_;exact Qi
 rw[show X33 k n=decide (n=0) by unfold X33;rw[NI (by omega),NI k7]];refine UX ?_;first|exact Zr0|exact X2 ⟨_,Xe 2 (y:=ab (decide (n=0))) (AVal.le_of_eq rfl),⟨rfl,TV⟩,X4 _⟩|fail
theorem X8y (r:Rul):Con prog 120 [] [Yu r] [] (ai (Uk r)):=by
 rw[Xgg];obtain⟨k,n,name,key,src,dst⟩:=r;simp only[Yu];have hn:=Xb7 name;have hk:=Xb7 key;have hs:=Xb7 src;have hd:=Xb7 dst;have ht:=Xpt k n name key src dst;have hf:=Xt9 k;generalize Y8 name=vn at*;generalize Y8 key=vk at*;generalize Y8 src=vs at*;generalize Y8 dst=vd at*;refine ZC1 func120 ntmps120 fun E=> ?_;generalize X33 k n=nb at*;generalize fu:X24 k=kd at*;have o9:1<=k->k<=5->kd=true:=fun h1 h2=>by rw[<-fu];exact DT (by omega)
 have oa:5<k->kd=false:=fun h1=>by rw[<-fu];exact DF (by omega)
 obtain⟨r,hr⟩:∃r,r=k9 k nb key src dst vn vk vs vd:=⟨_,rfl⟩
 rw[<-hr];unfold k9 at hr;rw[fu] at hr;by_cases hkk:1<=k/\k<=7
 case neg=>
  rw[DF hkk,PI (.inl rfl)] at hr;subst hr;clear fu o9 oa;refine XR ?_;refine Yb rfl rfl (fun hq=> ?_) (fun hq=> ?_);exact QW;exact QW
 rw[DT hkk] at hr;clear fu o9 oa;refine Yw ?_;refine YJ rfl (fun hq=> ?_) (fun hq=> ?_);refine W4_ ?_;(clear hf ht hn hk hs hd;simp[*] at hr;subst hr;exact Zr0);refine W9_ ?_;refine Ut rfl rfl (fun hq=> ?_) (fun hq=> ?_);refine W9_ ?_;refine Yb rfl rfl (fun hq=> ?_) (fun hq=> ?_);refine W4_ ?_;refine Yb rfl rfl (fun hq=> ?_) (fun hq=> ?_);refine XR ?_;(clear hf ht hn hk hs hd;simp[*] at hr;subst hr;exact Zr0);refine W7_ ?_;refine Vt rfl (fun hq=> ?_) (fun hq=> ?_);refine W4_ ?_;(clear hf ht hn hk hs hd;simp[*] at hr;subst hr;exact Zr0);refine W6_ ?_;refine QBa ?_;refine W2_ ?_;refine Ut rfl rfl (fun hq=> ?_) (fun hq=> ?_);refine QOa ?_;refine Ut rfl rfl (fun hq=> ?_) (fun hq=> ?_);refine YY ?_;(clear hf ht hn hk hs hd;simp[*] at hr;subst hr;exact Zr0);refine W4_ ?_;refine Qm ?_;refine W7_ ?_;refine Qbc ?_;(clear hf ht hn hk hs hd;simp[*] at hr;subst hr;exact Zr0);refine QZd ?_;(clear hf ht hn hk hs hd;simp[*] at hr;subst hr;exact Zr0);refine QH ?_;refine XK ?_;refine QBa ?_;refine W2_ ?_;refine Ut rfl rfl (fun hq=> ?_) (fun hq=> ?_);refine QOa ?_;refine Ut rfl rfl (fun hq=> ?_) (fun hq=> ?_);refine W4_ ?_;refine Yb rfl rfl (fun hq=> ?_) (fun hq=> ?_);refine QPa ?_;refine Ut rfl rfl (fun hq=> ?_) (fun hq=> ?_);refine W4_ ?_;refine Yb rfl rfl (fun hq=> ?_) (fun hq=> ?_);refine QHa ?_;refine YJ rfl (fun hq=> ?_) (fun hq=> ?_);refine W4_ ?_;(clear hf ht hn hk hs hd;simp[*] at hr;subst hr;exact Zr0);refine W5_ ?_;(clear hf ht hn hk hs hd;simp[*] at hr;subst hr;exact Zr0);refine XQ ?_;(clear hf ht hn hk hs hd;simp[*] at hr;subst hr;exact Zr0);refine W4_ ?_;refine Qbc ?_;(clear hf ht hn hk hs hd;simp[*] at hr;subst hr;exact Zr0);refine XK ?_;refine Yb rfl rfl (fun hq=> ?_) (fun hq=> ?_);refine QHa ?_;refine YJ rfl (fun hq=> ?_) (fun hq=> ?_);refine W4_ ?_;(clear hf ht hn hk hs hd;simp[*] at hr;subst hr;exact Zr0);refine W5_ ?_;(clear hf ht hn hk hs hd;simp[*] at hr;subst hr;exact Zr0);refine XQ ?_;(clear hf ht hn hk hs hd;simp[*] at hr;subst hr;exact Zr0);refine W4_ ?_;refine Qm ?_;refine W7_ ?_;refine Qbc ?_;(clear hf ht hn hk hs hd;simp[*] at hr;subst hr;exact Zr0);refine QZd ?_;(clear hf ht hn hk hs hd;simp[*] at hr;subst hr;exact Zr0);refine W5_ ?_;refine Yb rfl rfl (fun hq=> ?_) (fun hq=> ?_);refine Qae ?_;(clear hf ht hn hk hs hd;simp[*] at hr;subst hr;exact Zr0);refine W4_ ?_;refine Yb rfl rfl (fun hq=> ?_) (fun hq=> ?_);refine W4_ ?_;refine Yb rfl rfl (fun hq=> ?_) (fun hq=> ?_);refine XR ?_;(clear hf ht hn hk hs hd;simp[*] at hr;subst hr;exact Zr0);refine W7_ ?_;refine Vt rfl (fun hq=> ?_) (fun hq=> ?_);refine W4_ ?_;(clear hf ht hn hk hs hd;simp[*] at hr;subst hr;exact Zr0);refine W6_ ?_;refine QBa ?_;refine W2_ ?_;refine Ut rfl rfl (fun hq=> ?_) (fun hq=> ?_);refine X17 ?_;(clear hf ht hn hk hs hd;simp[*] at hr;subst hr;exact Zr0);refine QZd ?_
 (clear hf ht hn hk hs hd;simp[*] at hr;subst hr;exact Zr0);refine QH ?_;refine XK ?_;refine QBa ?_;refine W2_ ?_;refine Ut rfl rfl (fun hq=> ?_) (fun hq=> ?_);refine Yx ?_;refine Yb rfl rfl (fun hq=> ?_) (fun hq=> ?_);refine QPa ?_;refine Ut rfl rfl (fun hq=> ?_) (fun hq=> ?_);refine W4_ ?_;refine Yb rfl rfl (fun hq=> ?_) (fun hq=> ?_);refine QHa ?_;refine YJ rfl (fun hq=> ?_) (fun hq=> ?_);refine W4_ ?_;(clear hf ht hn hk hs hd;simp[*] at hr;subst hr;exact Zr0);refine W5_ ?_;(clear hf ht hn hk hs hd;simp[*] at hr;subst hr;exact Zr0);refine XQ ?_;(clear hf ht hn hk hs hd;simp[*] at hr;subst hr;exact Zr0);refine W4_ ?_;refine Qbc ?_;(clear hf ht hn hk hs hd;simp[*] at hr;subst hr;exact Zr0);refine XK ?_;refine Yb rfl rfl (fun hq=> ?_) (fun hq=> ?_);refine QHa ?_;refine YJ rfl (fun hq=> ?_) (fun hq=> ?_);refine W4_ ?_;(clear hf ht hn hk hs hd;simp[*] at hr;subst hr;exact Zr0);refine W5_ ?_;(clear hf ht hn hk hs hd;simp[*] at hr;subst hr;exact Zr0);refine XQ ?_;(clear hf ht hn hk hs hd;simp[*] at hr;subst hr;exact Zr0);refine QZd ?_
 (clear hf ht hn hk hs hd;simp[*] at hr;subst hr;exact Zr0)
end Go.Fw

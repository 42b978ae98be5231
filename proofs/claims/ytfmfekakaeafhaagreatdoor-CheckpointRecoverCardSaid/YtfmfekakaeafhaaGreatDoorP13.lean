/- Names: the program's and the references'. -/
import Derived.Test.YtfmfekakaeafhaaGreatDoorP10
set_option linter.all false
set_option maxHeartbeats 8000000
namespace Go.Fw
open Go Go.Proofs Tryz List
open List renaming length->J
set_option maxRecDepth 100000
variable{c:UInt8}{i:Nat}{s:List UInt8}
def X6e (h:(97<=c.toNat/\c.toNat<=122)\/(65<=c.toNat/\c.toNat<=90)):X0Q c=true:=DT h
def X3P (h:¬((97<=c.toNat/\c.toNat<=122)\/(65<=c.toNat/\c.toNat<=90))):X0Q c=false:=DF h
def Xkp (c:UInt8):Con prog 172 [] [au8 c.toNat] [] (ab (X0Q c)):=by
 refine ZC1 func172 ntmps172 fun E=> ?_;by_cases h1:97<=c.toNat
 ·by_cases h2:c.toNat<=122
  ·rw[X6e Oa];refine Yr ?_;refine Qt ?_;refine W4_ ?_;exact Qda
  ·rw[X3P Oa];exact Qfa
 exact Yt49
def XjK (c:UInt8):Con prog 245 [] [au8 c.toNat] [] (ab (X0Q c)):=by
 refine ZC1 func245 ntmps245 fun E=> ?_;by_cases h1:97<=c.toNat
 ·by_cases h2:c.toNat<=122
  ·rw[X6e Oa];refine Yr ?_;refine Qt ?_;refine W4_ ?_;exact Qda
  ·rw[X3P Oa];exact Qfa
 exact Yt49
def Xep (h:s=[]):Yc s=false:=by subst h;rfl
def Xfz (h:20<J s):Yc s=false:=by unfold Yc;rw[DF Oa];rfl
def Xao (hc:s[0]? =some c) (h:X0Q c=false):Yc s=false:=by unfold Yc;rw[hc,Option.getD_some,h];simp
def X6I (hc:s[i]? =some c) (h:Uj c=false):Yc s=false:=by
 unfold Yc;rw[show s.all Uj=false by rw[all_eq_false];exact⟨c,mem_of_getElem? hc,by simp[h]⟩];simp
def XdX (hc:s[0]? =some c) (h:X0Q c=true) (iZ:¬20<J s) (hall:∀j,j<J s->∃b,s[j]? =some b/\Uj b=true):Yc s=true:=by
 have hl:=(GS.1 hc).1;unfold Yc;rw[hc,Option.getD_some,h,DT Oa];simp only[Bool.true_and,all_eq_true];intro b hb;obtain⟨j,hj⟩:=getElem?_of_mem hb;obtain⟨b',h1,h2⟩:=hall j (GS.1 hj).1;rw[hj] at h1;obtain rfl:=Option.some.inj h1;exact h2
def X3I (hc:s[i]? =some c) (h:Uj c=true) (hall:∀j,j<i->∃b,s[j]? =some b/\Uj b=true):∀j,j<i+1->∃b,s[j]? =some b/\Uj b=true:=fun j hj=>by
 by_cases e:j=i
 ·subst e;exact⟨c,hc,h⟩
 ·exact hall j Oa
def X7a (s:List UInt8):Con prog 105 [] [.d (.v (.string (X7 s)))] [] (ab (Yc s)):=by
 refine ZC1 func105 ntmps105 fun E=> ?_;have hsz:(X7 s).size=J s:=rfl;by_cases h0:s=[]
 ·rw[Xep h0];subst h0;exact Qga
 by_cases iZ:20<J s
 ·rw[Xfz iZ];have jD:(20:Int)<(X7 s).size:=by omega
  exact Qga
 have jD:¬(20:Int)<(X7 s).size:=Oa
 obtain⟨c,hc⟩:=Xn (l:=s) (k:=0) (by cases s with|nil=>exact absurd rfl h0|cons=>simp);have hl:=Xkp c;cases hlc:X0Q c with
 |false=>
  rw[Xao hc hlc];rw[hlc] at hl;exact Qga
 |true=>
  rw[hlc] at hl;refine UK ?_
  refine Xl (fun i:Nat=>i<=J s/\∀j,j<i->∃b,s[j]? =some b/\Uj b=true) (fun i=>⟨46,[(0,.d (.v (.string (X7 s)))),(18,ai (X7 s).size),(19,ai i)],[]⟩) (fun i=>J s-i) 0 ⟨Oa,fun j hj=>Oa⟩
   (X9 rfl ⟨JL,JL,JL,TV⟩ trivial) ?_
  rintro i ⟨hi,hall⟩;by_cases hil:i<J s
  case neg=>
   obtain rfl:i=J s:=Oa
   rw[XdX hc hlc iZ hall];have hn:¬((J s:Nat):Int)<(X7 s).size:=Oa
   exact Qn
  have hn:(i:Int)<(X7 s).size:=Oa
  clear hl hlc hc;obtain⟨c,hc⟩:=Xn (l:=s) hil;have hl:=Xkp c;cases hlc:X0Q c with
  |true=>
   rw[hlc] at hl;have fH:=X3I hc (show Uj c=true by unfold Uj;rw[hlc];rfl) hall;refine YT ?_;refine Qu ?_;refine Ya ?_;exact Qha
  |false=>
   rw[hlc] at hl;by_cases g1:48<=c.toNat
   ·by_cases g2:c.toNat<=57
    ·have fH:=X3I hc (show Uj c=true by unfold Uj;rw[DT Oa];simp) hall;refine QS ?_;exact Qha
    by_cases g3:c.toNat=95
    ·have fH:=X3I hc (show Uj c=true by unfold Uj;rw[DT Oa];simp) hall;refine QS ?_;exact Qha
    ·rw[X6I hc (show Uj c=false by unfold Uj;rw[hlc,DF Oa];rfl)];refine Qia ?_;exact Zr0
   ·have g3:¬c.toNat=95:=by omega
    rw[X6I hc (show Uj c=false by unfold Uj;rw[hlc,DF Oa];rfl)];refine Qia ?_;exact Zr0
def X4F (op:Int):Bool×Bool×Bool×Bool:=(decide (op=6),YO op,YL op,decide (1<=op/\op<=8))
def Xry (op:Int):Con prog 229 [] [ai op] [] (.tup [.agg [ab (X4F op).1,ab (X4F op).2.1,ab (X4F op).2.2.1],ab (X4F op).2.2.2]):=by
 refine ZCt func229 ntmps229 fun E=> ?_;by_cases k1:op=1
 ·subst k1;refine XM ?_;exact Qja
 by_cases k2:op=2
 ·subst k2;refine Uf ?_;exact Qja
 by_cases k7:op=7
 ·subst k7;refine UR ?_;exact Qja
 by_cases k3:op=3
 ·subst k3;refine Qka ?_;exact Qja
 by_cases k4:op=4
 ·subst k4;refine Qla ?_;exact Qja
 by_cases k5:op=5
 ·subst k5;refine X4 ?_;refine Yr ?_;exact Qja
 by_cases k8:op=8
 ·subst k8;refine Qma ?_;exact Qja
 by_cases k6:op=6
 ·subst k6;refine Qna ?_;exact Qja
 rw[show X4F op=(false,false,false,false) by unfold X4F YO YL;rw[DF Oa,DF Oa,DF Oa,DF Oa]];refine Qoa ?_;exact Qja
def X2M (k:Int):Bool×Bool×Bool×Bool:=(X2w k,decide (k=3\/k=5\/k=7),decide (k=6),decide (1<=k/\k<=7))
def XtV (op:Int):Con prog 173 [] [ai op] [] (.tup [.agg [ab (X2M op).1,ab (X2M op).2.1,ab (X2M op).2.2.1],ab (X2M op).2.2.2]):=by
 refine ZCt func173 ntmps173 fun E=> ?_;by_cases k1:op=1
 ·subst k1;refine XM ?_;exact Qja
 by_cases k2:op=2
 ·subst k2;refine Uf ?_;exact Qja
 by_cases k4:op=4
 ·subst k4;refine UR ?_;exact Qja
 by_cases k3:op=3
 ·subst k3;refine Qka ?_;exact Qja
 by_cases k5:op=5
 ·subst k5;refine Qla ?_;exact Qja
 by_cases k6:op=6
 ·subst k6;refine QY ?_;exact Qja
 by_cases k7:op=7
 ·subst k7;refine Qma ?_;exact Qja
 rw[show X2M op=(false,false,false,false) by unfold X2M X2w;rw[DF Oa,DF Oa,DF Oa,DF Oa]];refine X4 ?_;refine YV ?_;exact Qja
def XfY (n:Int):Con prog 230 [] [ai n] [] (ab (idV n)):=by
 refine ZC1 func230 ntmps230 fun E=> ?_;by_cases h1:1<=n
 ·by_cases h2:n<=1000000
  ·rw[show idV n=true by unfold idV;exact DT ⟨h1,h2⟩];exact Qpa
  ·rw[show idV n=false by unfold idV;exact DF Oa];exact Qqa
 ·rw[show idV n=false by unfold idV;exact DF Oa];exact Qqa
def Xgr (n:Int):Con prog 219 [] [ai n] [] (ab (idV n)):=by
 refine ZC1 func219 ntmps219 fun E=> ?_;by_cases h1:1<=n
 ·by_cases h2:n<=1000000
  ·rw[show idV n=true by unfold idV;exact DT ⟨h1,h2⟩];exact Qpa
  ·rw[show idV n=false by unfold idV;exact DF Oa];exact Qqa
 ·rw[show idV n=false by unfold idV;exact DF Oa];exact Qqa
def XsJ (op:Int):Con prog 220 [] [ai op] [] (ab (YO op)):=by
 refine ZC1 func220 ntmps220 fun E=> ?_;by_cases k3:op=3
 ·subst k3;exact Qra
 exact Yt37
def XrO (op:Int):Con prog 221 [] [ai op] [] (ab (YL op)):=by
 refine ZC1 func221 ntmps221 fun E=> ?_;by_cases k5:op=5
 ·subst k5;exact Qpa
 exact Yt74
def Xei (s:List UInt8):Con prog 186 [] [.d (.v (.string (X7 s)))] [] (ab (Yc s)):=by
 refine ZC1 func186 ntmps186 fun E=> ?_;have hsz:(X7 s).size=J s:=rfl;by_cases h0:J s<1
 ·rw[Xep (eq_nil_of_length_eq_zero Oa)];have h0':((X7 s).size:Int)<1:=by omega
  exact QB
 have h0':¬((X7 s).size:Int)<1:=Oa
 by_cases iZ:20<J s
 ·rw[Xfz iZ];have jD:(20:Int)<(X7 s).size:=by omega
  exact QB
 have jD:¬(20:Int)<(X7 s).size:=Oa
 obtain⟨c,hc⟩:=Xn (l:=s) (k:=0) Oa;have hl:=XjK c;cases hlc:X0Q c with
 |false=>
  rw[Xao hc hlc];rw[hlc] at hl;exact QB
 |true=>
  rw[hlc] at hl;refine UI ?_
  refine Xl (fun i:Nat=>1<=i/\i<=J s/\∀j,j<i->∃b,s[j]? =some b/\Uj b=true) (fun i=>⟨47,[(0,.d (.v (.string (X7 s)))),(3,ai i)],[]⟩) (fun i=>J s-i) 1
   ⟨Oa,Oa,fun j hj=>⟨c,by rw[show j=0 by omega];exact hc,by unfold Uj;rw[hlc];rfl⟩⟩
   (X9 rfl ⟨JL,JL,TV⟩ trivial) ?_
  rintro i ⟨hi1,hi,hall⟩;by_cases hil:i<J s
  case neg=>
   obtain rfl:i=J s:=Oa
   rw[XdX hc hlc iZ hall];have hn:¬((J s:Nat):Int)<(X7 s).size:=Oa
   exact Qh
  have hn:(i:Int)<(X7 s).size:=Oa
  clear hl hlc hc;obtain⟨c,hc⟩:=Xn (l:=s) hil;have hl:=XjK c;cases hlc:X0Q c with
  |true=>
   rw[hlc] at hl;have fH:=X3I hc (show Uj c=true by unfold Uj;rw[hlc];rfl) hall;refine UK ?_;refine Qu ?_;refine XA ?_;exact Qta
  |false=>
   rw[hlc] at hl;by_cases g3:c.toNat=95
   ·have fH:=X3I hc (show Uj c=true by unfold Uj;rw[DT Oa];simp) hall;refine UK ?_;refine Qu ?_;refine XA ?_;exact Qta
   by_cases g1:48<=c.toNat
   ·by_cases g2:c.toNat<=57
    ·have fH:=X3I hc (show Uj c=true by unfold Uj;rw[DT Oa];simp) hall;refine Qia ?_;exact Qta
    ·rw[X6I hc (show Uj c=false by unfold Uj;rw[hlc,DF Oa];rfl)];refine Qua ?_;exact Zr0
   ·rw[X6I hc (show Uj c=false by unfold Uj;rw[hlc,DF Oa];rfl)];refine Qua ?_;exact Zr0
def XbP (s:List UInt8):Con prog 189 [] [.d (.v (.string (X7 s)))] [] (ab (Yc s)):=by
 refine ZC1 func189 ntmps189 fun E=> ?_;have hsz:(X7 s).size=J s:=rfl;by_cases h0:J s<1
 ·rw[Xep (eq_nil_of_length_eq_zero Oa)];have h0':((X7 s).size:Int)<1:=by omega
  exact Ql
 have h0':¬((X7 s).size:Int)<1:=Oa
 by_cases iZ:20<J s
 ·rw[Xfz iZ];have jD:(20:Int)<(X7 s).size:=by omega
  exact Ql
 have jD:¬(20:Int)<(X7 s).size:=Oa
 obtain⟨c,hc⟩:=Xn (l:=s) (k:=0) Oa;refine YA ?_
 refine Xl (fun i:Nat=>i<=J s/\(0<i->X0Q c=true)/\∀j,j<i->∃b,s[j]? =some b/\Uj b=true) (fun i=>⟨65,[(0,.d (.v (.string (X7 s)))),(3,ai i)],[]⟩) (fun i=>J s-i) 0
  ⟨Oa,fun h=>absurd h Oa,fun j hj=>absurd hj Oa⟩
  (X9 rfl ⟨JL,JL,TV⟩ trivial) ?_
 rintro i ⟨hi,hh,hall⟩;by_cases hil:i<J s
 case neg=>
  obtain rfl:i=J s:=Oa
  rw[XdX hc (hh Oa) iZ hall];have hn:¬((J s:Nat):Int)<(X7 s).size:=Oa
  exact Qh
 have hn:(i:Int)<(X7 s).size:=Oa
 obtain⟨x,hx⟩:=Xn (l:=s) hil;by_cases iC:i=0
 ·subst iC;have m8:c=x:=by rw[hc] at hx;exact Option.some.inj hx
  clear hc hh;by_cases a1:97<=x.toNat
  ·by_cases a2:x.toNat<=122
   ·have bQ:X0Q x=true:=X6e Oa;have hh:=bQ;have fH:∀j,j<0+1->∃b,s[j]? =some b/\Uj b=true:=X3I hx (show Uj x=true by unfold Uj;rw[bQ];rfl) hall;refine UI ?_;refine Qu ?_;refine XG ?_;refine Qva ?_;refine Qva ?_;refine XA ?_;exact Qwa
   ·have bQ:X0Q x=false:=X3P Oa;have a3:65<=x.toNat:=by omega
    have a4:¬x.toNat<=90:=Oa
    rw[Xao hx bQ];exact Qya
  by_cases a3:65<=x.toNat
  ·by_cases a4:x.toNat<=90
   ·have bQ:X0Q x=true:=X6e Oa;have hh:=bQ;have fH:∀j,j<0+1->∃b,s[j]? =some b/\Uj b=true:=X3I hx (show Uj x=true by unfold Uj;rw[bQ];rfl) hall;refine QS ?_;refine Qva ?_;refine Qva ?_;refine XA ?_;exact Qwa
   ·have bQ:X0Q x=false:=X3P Oa;rw[Xao hx bQ];exact Qya
  have bQ:X0Q x=false:=X3P Oa;rw[Xao hx bQ];exact Qya
 replace hh:=hh Oa;have uW:¬(i:Int)=0:=Oa
 clear hc;by_cases a1:97<=x.toNat
 ·by_cases a2:x.toNat<=122
  ·have bQ:X0Q x=true:=X6e Oa;have fH:=X3I hx (show Uj x=true by unfold Uj;rw[bQ];rfl) hall;refine UI ?_;refine Qu ?_;refine XG ?_;refine Qva ?_;refine Qva ?_;refine XA ?_;exact Qza
  ·have bQ:X0Q x=false:=X3P Oa;have a3:65<=x.toNat:=by omega
   have a4:¬x.toNat<=90:=Oa
   ·rw[X6I hx (show Uj x=false by unfold Uj;rw[bQ,DF Oa];rfl)];exact QAa
 by_cases a3:65<=x.toNat
 ·by_cases a4:x.toNat<=90
  ·have bQ:X0Q x=true:=X6e Oa;have fH:=X3I hx (show Uj x=true by unfold Uj;rw[bQ];rfl) hall;refine QS ?_;refine Qva ?_;refine Qva ?_;refine XA ?_;exact Qza
  ·have bQ:X0Q x=false:=X3P Oa;by_cases g3:x.toNat=95
   ·have fH:=X3I hx (show Uj x=true by unfold Uj;rw[DT Oa];simp) hall;refine X4 ?_;refine Yr ?_;refine Qu ?_;refine XG ?_;exact Qza
   ·rw[X6I hx (show Uj x=false by unfold Uj;rw[bQ,DF Oa];rfl)];exact QAa
 have bQ:X0Q x=false:=X3P Oa;by_cases g1:48<=x.toNat
 ·by_cases g2:x.toNat<=57
  ·have fH:=X3I hx (show Uj x=true by unfold Uj;rw[DT Oa];simp) hall;refine QBa ?_;exact Qza
  ·rw[X6I hx (show Uj x=false by unfold Uj;rw[bQ,DF Oa];rfl)];exact QAa
 ·rw[X6I hx (show Uj x=false by unfold Uj;rw[bQ,DF Oa];rfl)];exact QAa
end Go.Fw

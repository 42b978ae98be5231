/- Names: the program's and the references'. -/
import Derived.Test.YtlkcofbjniphbaaGreatDoorChecked
import Derived.Laws.RangeAny
import Derived.Test.YtlkcofbjniphbaaGreatDoorB13
set_option maxHeartbeats 8000000
namespace Go.Fw
open Go Go.Proofs
set_option maxRecDepth 100000
set_option linter.unusedVariables false
set_option linter.unusedSimpArgs false
theorem X7S {c:UInt8} (h:(97≤c.toNat∧c.toNat≤122)∨(65≤c.toNat∧c.toNat≤90)):X16 c=true:=decide_eq_true h
theorem X5o {c:UInt8} (h:¬((97≤c.toNat∧c.toNat≤122)∨(65≤c.toNat∧c.toNat≤90))):X16 c=false:=decide_eq_false h
theorem Xgc (c:UInt8):Con Tryz.prog 150 [] [au8 c.toNat] [] (ab (X16 c)):=by
 refine Xg (xs:=[ab (X16 c)]) Tryz.func150 rfl Tryz.ntmps150 rfl rfl rfl (fun E=> ?_)
 by_cases h1:97≤c.toNat
 ·by_cases h2:c.toNat≤122
  ·rw[X7S (by omega)]
   refine Qt ?_;refine Qy ?_;exact QB
  ·rw[X5o (by omega)]
   refine QC ?_;refine QD ?_;exact QH
 by_cases h3:65≤c.toNat
 ·by_cases h4:c.toNat≤90
  ·rw[X7S (by omega)]
   refine W9_ ?_;refine QI ?_;refine QD ?_;exact QJ
  ·rw[X5o (by omega)]
   refine W9_ ?_;refine QI ?_;refine QD ?_;exact QH
 rw[X5o (by omega)]
 refine W9_ ?_;refine QI ?_;refine W4_ ?_;refine QI ?_;exact QH
theorem Xiy {s:List UInt8} (h:s=[]):XZ s=false:=by subst h;rfl
theorem XcT {s:List UInt8} (h:20<s.length):XZ s=false:=by unfold XZ;rw[decide_eq_false (by omega)];rfl
theorem Xie {s:List UInt8}{c:UInt8} (hc:s[0]? =some c) (h:X16 c=false):XZ s=false:=by unfold XZ;rw[hc,Option.getD_some,h];simp
theorem X89 {s:List UInt8}{c:UInt8}{i:Nat} (hc:s[i]? =some c) (h:UI c=false):XZ s=false:=by
 unfold XZ
 rw[show s.all UI=false by rw[List.all_eq_false];exact⟨c,List.mem_of_getElem? hc,by simp[h]⟩]
 simp
theorem XiR {s:List UInt8}{c:UInt8} (hc:s[0]? =some c) (h:X16 c=true) (h20:¬20<s.length) (hall:∀j,j<s.length→∃b,s[j]? =some b∧UI b=true):XZ s=true:=by
 have hl:=(List.getElem?_eq_some_iff.1 hc).1
 unfold XZ
 rw[hc,Option.getD_some,h,decide_eq_true (by omega)]
 simp only[Bool.true_and,List.all_eq_true]
 intro b hb
 obtain⟨j,hj⟩:=List.getElem?_of_mem hb
 obtain⟨b',h1,h2⟩:=hall j (List.getElem?_eq_some_iff.1 hj).1
 rw[hj] at h1
 obtain rfl:=Option.some.inj h1
 exact h2
theorem X5r {s:List UInt8}{i:Nat}{c:UInt8} (hc:s[i]? =some c) (h:UI c=true) (hall:∀j,j<i→∃b,s[j]? =some b∧UI b=true):∀j,j<i+1→∃b,s[j]? =some b∧UI b=true:=fun j hj=>by
 by_cases e:j=i
 ·subst e;exact⟨c,hc,h⟩
 ·exact hall j (by omega)
theorem X46 (s:List UInt8):Con Tryz.prog 96 [] [.d (.v (.string (Xb s)))] [] (ab (XZ s)):=by
 refine Xg (xs:=[ab (XZ s)]) Tryz.func96 rfl Tryz.ntmps96 rfl rfl rfl (fun E=> ?_)
 have hsz:(Xb s).size=s.length:=rfl
 by_cases h0:s=[]
 ·rw[Xiy h0]
  subst h0
  refine Xj ?_;refine QK ?_;exact QO
 by_cases h20:20<s.length
 ·rw[XcT h20]
  have h20':(20:Int)<(Xb s).size:=by omega
  refine Xr ?_;refine QP ?_;exact QO
 have h20':¬(20:Int)<(Xb s).size:=by omega
 obtain⟨c,hc⟩:=XI (l:=s) (k:=0) (by cases s with|nil=>exact absurd rfl h0|cons=>simp)
 have hl:=Xgc c
 cases hlc:X16 c with
 |false=>
  rw[Xie hc hlc]
  rw[hlc] at hl
  refine Xr ?_;refine QQ ?_;refine QR ?_;exact QT
 |true=>
  rw[hlc] at hl
  refine Xr ?_;refine QQ ?_;refine QR ?_;refine W1_ ?_;refine QU ?_;refine W9_ ?_
  refine XK (fun i:Nat=>i≤s.length∧∀j,j<i→∃b,s[j]? =some b∧UI b=true) (fun i=>⟨46,[(0,.d (.v (.string (Xb s)))),(18,ai (Xb s).size),(19,ai i)],[]⟩) (fun i=>s.length-i) 0 ⟨by omega,fun j hj=>by omega⟩
   (Xd rfl ⟨JL,JL,JL,trivial⟩ trivial) ?_
  rintro i ⟨hi,hall⟩
  by_cases hil:i<s.length
  case neg=>
   obtain rfl:i=s.length:=by omega
   rw[XiR hc hlc h20 hall]
   have hn:¬((s.length:Nat):Int)<(Xb s).size:=by omega
   refine W5_ ?_;exact QV
  have hn:(i:Int)<(Xb s).size:=by omega
  clear hl hlc hc
  obtain⟨c,hc⟩:=XI (l:=s) hil
  have hl:=Xgc c
  cases hlc:X16 c with
  |true=>
   rw[hlc] at hl
   have hnx:=X5r hc (show UI c=true by unfold UI;rw[hlc];rfl) hall
   refine Ql ?_;refine QR ?_;refine W2_ ?_;refine QW ?_;refine QY ?_;refine QP ?_;refine QL ?_;refine QZ ?_;exact Qaa
  |false=>
   rw[hlc] at hl
   by_cases g1:48≤c.toNat
   ·by_cases g2:c.toNat≤57
    ·have hnx:=X5r hc (show UI c=true by unfold UI;rw[decide_eq_true (by omega)];simp) hall
     refine Ql ?_;refine QR ?_;refine Xi ?_;refine Qba ?_;refine QL ?_;refine QZ ?_;exact Qaa
    by_cases g3:c.toNat=95
    ·have hnx:=X5r hc (show UI c=true by unfold UI;rw[decide_eq_true (by omega)];simp) hall
     refine Ql ?_;refine QR ?_;refine Xi ?_;refine Qca ?_;refine W5_ ?_;refine Qs ?_;refine Qc ?_;exact Qaa
    ·rw[X89 hc (show UI c=false by unfold UI;rw[hlc,decide_eq_false (by omega)];rfl)]
     refine Ql ?_;refine QR ?_;refine Xi ?_;refine Qca ?_;refine W5_ ?_;exact QN
   ·have g3:¬c.toNat=95:=by omega
    rw[X89 hc (show UI c=false by unfold UI;rw[hlc,decide_eq_false (by omega)];rfl)]
    refine Ql ?_;refine QR ?_;refine W7_ ?_;refine Qda ?_;refine Qr ?_;refine W5_ ?_;exact QN
def X0H (op:Int):Bool×Bool×Bool×Bool:=(decide (op=6),Yo op,Yi op,decide (1≤op∧op≤8))
theorem Xpi (op:Int):Con Tryz.prog 112 [] [ai op] [] (.tup [.agg [ab (X0H op).1,ab (X0H op).2.1,ab (X0H op).2.2.1],ab (X0H op).2.2.2]):=by
 refine Xg (xs:=[.agg [ab (X0H op).1,ab (X0H op).2.1,ab (X0H op).2.2.1],ab (X0H op).2.2.2]) Tryz.func112 rfl Tryz.ntmps112 rfl rfl rfl (fun E=> ?_)
 by_cases k1:op=1
 ·subst k1
  refine XD ?_;refine Qea ?_;exact Qga
 by_cases k2:op=2
 ·subst k2
  refine Qha ?_;refine Qea ?_;exact Qga
 by_cases k7:op=7
 ·subst k7
  refine Qha ?_;refine Qg ?_;exact Qga
 by_cases k3:op=3
 ·subst k3
  refine Qha ?_;refine Qg ?_;refine Qja ?_;exact Qga
 by_cases k4:op=4
 ·subst k4
  refine Qla ?_;exact Qga
 by_cases k5:op=5
 ·subst k5
  refine Qla ?_;refine Qja ?_;exact Qga
 by_cases k8:op=8
 ·subst k8
  refine Qla ?_;refine Qka ?_;exact Qga
 by_cases k6:op=6
 ·subst k6
  refine Qla ?_;refine Qka ?_;refine Qc ?_;exact Qga
 rw[show X0H op=(false,false,false,false) by unfold X0H Yo Yi;rw[decide_eq_false (by omega),decide_eq_false (by omega),decide_eq_false (by omega),decide_eq_false (by omega)]]
 refine Qla ?_;refine Qka ?_;refine Qc ?_;refine Qma ?_;exact Qfa
def X07 (k:Int):Bool×Bool×Bool×Bool:=(X3F k,decide (k=3∨k=5∨k=7),decide (k=6),decide (1≤k∧k≤7))
theorem Xmy (op:Int):Con Tryz.prog 151 [] [ai op] [] (.tup [.agg [ab (X07 op).1,ab (X07 op).2.1,ab (X07 op).2.2.1],ab (X07 op).2.2.2]):=by
 refine Xg (xs:=[.agg [ab (X07 op).1,ab (X07 op).2.1,ab (X07 op).2.2.1],ab (X07 op).2.2.2]) Tryz.func151 rfl Tryz.ntmps151 rfl rfl rfl (fun E=> ?_)
 by_cases k1:op=1
 ·subst k1
  refine XD ?_;refine Qea ?_;exact Qga
 by_cases k2:op=2
 ·subst k2
  refine Qha ?_;refine Qea ?_;exact Qga
 by_cases k4:op=4
 ·subst k4
  refine Qha ?_;refine Qg ?_;exact Qga
 by_cases k3:op=3
 ·subst k3
  refine Qha ?_;refine Qg ?_;refine Qja ?_;exact Qga
 by_cases k5:op=5
 ·subst k5
  refine Qla ?_;exact Qga
 by_cases k6:op=6
 ·subst k6
  refine Qla ?_;refine Qc ?_;exact Qga
 by_cases k7:op=7
 ·subst k7
  refine Qla ?_;refine Qna ?_;exact Qga
 rw[show X07 op=(false,false,false,false) by unfold X07 X3F;rw[decide_eq_false (by omega),decide_eq_false (by omega),decide_eq_false (by omega),decide_eq_false (by omega)]]
 refine Qla ?_;refine Qna ?_;refine Qma ?_;exact Qfa
theorem X9I (n:Int):Con Tryz.prog 113 [] [ai n] [] (ab (idV n)):=by
 refine Xg (xs:=[ab (idV n)]) Tryz.func113 rfl Tryz.ntmps113 rfl rfl rfl (fun E=> ?_)
 by_cases h1:1≤n
 ·by_cases h2:n≤1000000
  ·rw[show idV n=true by unfold idV;exact decide_eq_true ⟨h1,h2⟩]
   refine Xi ?_;exact QB
  ·rw[show idV n=false by unfold idV;exact decide_eq_false (by omega)]
   refine Xi ?_;refine Qz ?_;exact QG
 ·rw[show idV n=false by unfold idV;exact decide_eq_false (by omega)]
  refine Qoa ?_;exact QH
abbrev nj (n:Nat):Value:= .int .i64 n
def inV (n:Int):Bool:=decide (-1000000000000000≤n∧n≤1000000000000000)
theorem X6i (n:Int):Con Tryz.prog 239 [] [ai n] [] (ab (inV n)):=by
 refine Xg (xs:=[ab (inV n)]) Tryz.func239 rfl Tryz.ntmps239 rfl rfl rfl (fun E=> ?_)
 by_cases h1: -1000000000000000≤n
 ·by_cases h2:n≤1000000000000000
  ·rw[show inV n=true by simp[inV,h1,h2]]
   refine Xi ?_;refine Qz ?_;exact Qpa
  ·rw[show inV n=false by simp[inV,h2]]
   refine Xi ?_;refine Qz ?_;exact Qqa
 ·rw[show inV n=false by simp[inV,h1]]
  refine Qoa ?_;refine QF ?_;exact X1 ⟨_,Xw 2 (y:=ab false) (AVal.le_refl _),⟨rfl,trivial⟩,X2 _⟩
theorem XjH (n:Int):Con Tryz.prog 235 [] [ai n] [] (ab (inV n)):=by
 refine Xg (xs:=[ab (inV n)]) Tryz.func235 rfl Tryz.ntmps235 rfl rfl rfl (fun E=> ?_)
 by_cases h1: -1000000000000000≤n
 ·by_cases h2:n≤1000000000000000
  ·rw[show inV n=true by simp[inV,h1,h2]]
   refine Xi ?_;refine Qz ?_;exact Qpa
  ·rw[show inV n=false by simp[inV,h2]]
   refine Xi ?_;refine Qz ?_;exact Qqa
 ·rw[show inV n=false by simp[inV,h1]]
  refine Qoa ?_;refine QF ?_;exact X1 ⟨_,Xw 2 (y:=ab false) (AVal.le_refl _),⟨rfl,trivial⟩,X2 _⟩
theorem Xit (n:Int) (h: -1000000000000000≤n∧n≤1000000000000000):Con Tryz.prog 270 [] [ai n] [] (ai (n.natAbs:Nat)):=by
 refine Xg (xs:=[ai (n.natAbs:Nat)]) Tryz.func270 rfl Tryz.ntmps270 rfl rfl rfl (fun E=> ?_)
 refine Xt ?_;exact X1 ⟨_,Xw 2 (y:=ai (n.natAbs:Nat)) (AVal.le_of_eq (by refine Eq.trans (b:=ai (max n (-n))) rfl ?_;congr 3;omega)),⟨rfl,trivial⟩,X2 _⟩
theorem Xcf (n:Int) (h: -1000000000000000≤n∧n≤1000000000000000):Con Tryz.prog 233 [] [ai n] [] (ai (n.natAbs:Nat)):=by
 refine Xg (xs:=[ai (n.natAbs:Nat)]) Tryz.func233 rfl Tryz.ntmps233 rfl rfl rfl (fun E=> ?_)
 by_cases h0:n<0
 ·refine Xj ?_;refine Qb ?_;exact X1 ⟨_,Xw 2 (y:=ai (n.natAbs:Nat)) (AVal.le_of_eq (by refine Eq.trans (b:=ai (-n)) rfl ?_;congr 3;omega)),⟨rfl,trivial⟩,X2 _⟩
 ·refine Xj ?_;refine Qia ?_;exact X1 ⟨_,Xw 2 (y:=ai (n.natAbs:Nat)) (AVal.le_of_eq (by refine Eq.trans (b:=ai n) rfl ?_;congr 3;omega)),⟨rfl,trivial⟩,X2 _⟩
theorem Xo9 (a b:Int) (ha: -1000000000000000≤a∧a≤1000000000000000) (hb: -1000000000000000≤b∧b≤1000000000000000):Con Tryz.prog 260 [] [ai a,ai b] [] (ai (Nat.gcd a.natAbs b.natAbs:Nat)):=by
 refine Xg (xs:=[ai (Nat.gcd a.natAbs b.natAbs:Nat)]) Tryz.func260 rfl Tryz.ntmps260 rfl rfl rfl (fun E=> ?_)
 have h1:Con Tryz.prog 239 [] [ai a] [] (ab true):=by
  have h:=X6i a
  rwa [show inV a=true by simpa [inV] using ha] at h
 have h2:Con Tryz.prog 239 [] [ai b] [] (ab true):=by
  have h:=X6i b
  rwa [show inV b=true by simpa [inV] using hb] at h
 refine W8_ ?_;refine Z3 (hcon:=h1) ?_;refine W3_ ?_;refine Z3 (hcon:=h2) ?_;refine W1_ ?_;refine QP ?_;refine Qg ?_;refine Z3 (hcon:=Xit a ha) ?_;refine W1_ ?_;refine Z3 (hcon:=Xit b hb) ?_;refine W5_ ?_
 refine XK (ι:=Nat×Nat) (fun i=>Nat.gcd i.1 i.2=Nat.gcd a.natAbs b.natAbs) (fun i=>⟨24,[(0,ai i.1),(1,ai i.2)],[]⟩) (fun i=>i.2) (a.natAbs,b.natAbs) rfl
  (Xd rfl ⟨JL,JL,trivial⟩ trivial) ?_
 rintro⟨x,y⟩ hg
 simp only at hg
 by_cases hy:y=0
 ·subst hy
  rw[←hg,Nat.gcd_zero_right]
  refine W6_ ?_;refine Qia ?_;exact Qp
 ·have hy':¬((y:Int)=0):=by omega
  refine W6_ ?_;refine Qb ?_;refine Z2 (op:= .rem) (r':=nj (x%y)) (u:=nj x) (v:=nj y) ?_ (hr:=by exact US hy);refine W3_ ?_;exact Qra
theorem XlD (x y:Nat) (hx:x≤1000000000000000) (hy:y≤1000000000000000):Con Tryz.prog 256 [] [ai x,ai y] [] (ai (Nat.gcd x y:Nat)):=by
 refine Xg (xs:=[ai (Nat.gcd x y:Nat)]) Tryz.func256 rfl Tryz.ntmps256 rfl rfl rfl (fun E=> ?_)
 refine W6_ ?_
 generalize hG:Nat.gcd x y=G
 refine XK (ι:=Nat×Nat) (fun i=>Nat.gcd i.1 i.2=G) (fun i=>⟨12,[(0,ai i.1),(1,ai i.2)],[]⟩) (fun i=>i.2) (x,y) hG
  (Xd rfl ⟨JL,JL,trivial⟩ trivial) ?_
 rintro⟨x,y⟩ hg
 simp only at hg
 by_cases hy:y=0
 ·subst hy
  rw[←hg,Nat.gcd_zero_right]
  refine W6_ ?_;refine Qia ?_;exact Qp
 ·have hy':(0:Int)<y:=by omega
  refine W6_ ?_;refine Qb ?_;refine Z2 (op:= .rem) (r':=nj (x%y)) (u:=nj x) (v:=nj y) ?_ (hr:=by exact US hy);refine W3_ ?_;exact Qra
abbrev X4T (n d:Int):AVal:= .agg [ai n,ai d]
theorem X4n {n d:Int} (h:¬(1≤d∧d≤1000000000000000∧ -1000000000000000≤n∧n≤1000000000000000)):X0z n d=false:=by simp only[X0z,decide_eq_false h,Bool.false_and]
theorem Xdo {n d:Int} (h:1≤d∧d≤1000000000000000∧ -1000000000000000≤n∧n≤1000000000000000):X0z n d=decide (Nat.gcd n.natAbs d.natAbs=1):=by simp only[X0z,decide_eq_true h,Bool.true_and]
theorem Xqh (n d:Int):Con Tryz.prog 240 [] [X4T n d] [] (ab (X0z n d)):=by
 refine Xg (xs:=[ab (X0z n d)]) Tryz.func240 rfl Tryz.ntmps240 rfl rfl rfl (fun E=> ?_)
 by_cases h1:1≤d
 case neg=>
  rw[X4n (by omega)]
  refine Xi ?_;refine Qsa ?_;refine Qsa ?_;exact Qva
 by_cases h2:d≤1000000000000000
 case neg=>
  rw[X4n (by omega)]
  refine XC ?_;refine Qs ?_;refine Qsa ?_;exact Qva
 by_cases h3: -1000000000000000≤n∧n≤1000000000000000
 case neg=>
  rw[X4n (by omega)]
  have hin:Con Tryz.prog 239 [] [ai n] [] (ab false):=by
   have h:=X6i n
   rwa [show inV n=false by simpa [inV] using h3] at h
  refine XC ?_;refine Qwa ?_;refine Z3 (hcon:=hin) ?_;refine Qs ?_;exact Qva
 rw[Xdo (by omega)]
 have hin:Con Tryz.prog 239 [] [ai n] [] (ab true):=by
  have h:=X6i n
  rwa [show inV n=true by simpa [inV] using h3] at h
 refine XC ?_;refine Qwa ?_;refine Z3 (hcon:=hin) ?_;refine Qr ?_;refine W5_ ?_;refine Z3 (hcon:=Xo9 n d h3 (by omega)) ?_;refine Qxa ?_;exact X1 ⟨_,Xw 2 (y:=ab (decide (Nat.gcd n.natAbs d.natAbs=1))) (AVal.le_of_eq (by refine Eq.trans (b:=ab (decide (((Nat.gcd n.natAbs d.natAbs:Nat):Int)=1))) rfl ?_;exact congrArg ab (decide_eq_decide.2 (by omega)))),⟨rfl,trivial⟩,X2 _⟩
theorem Xdw (n d:Int):Con Tryz.prog 229 [] [X4T n d] [] (ab (X0z n d)):=by
 refine Xg (xs:=[ab (X0z n d)]) Tryz.func229 rfl Tryz.ntmps229 rfl rfl rfl (fun E=> ?_)
 by_cases h1:1≤d
 case neg=>
  rw[X4n (by omega)]
  refine Xi ?_;refine Qsa ?_;refine Qsa ?_;exact Qza
 by_cases h2:d≤1000000000000000
 case neg=>
  rw[X4n (by omega)]
  refine XC ?_;refine Qs ?_;refine Qsa ?_;exact Qza
 by_cases h3: -1000000000000000≤n
 case neg=>
  rw[X4n (by omega)]
  refine XC ?_;refine QAa ?_;refine Qs ?_;exact Qza
 by_cases h4:n≤1000000000000000
 case neg=>
  rw[X4n (by omega)]
  refine XC ?_;refine QAa ?_;refine QAa ?_;refine Qs ?_;refine QL ?_;exact Qya
 rw[Xdo (by omega)]
 obtain⟨e,rfl⟩:∃e:Nat,d=e:=⟨d.toNat,by omega⟩
 refine XC ?_;refine QAa ?_;refine QAa ?_;refine Qwa ?_;refine Z3 (hcon:=Xcf n ⟨h3,h4⟩) ?_;refine W2_ ?_;refine Z3 (hcon:=XlD n.natAbs e (by omega) (by omega)) ?_;refine Qxa ?_;exact X1 ⟨_,Xw 2 (y:=ab (decide (Nat.gcd n.natAbs (e:Int).natAbs=1))) (AVal.le_of_eq (by refine Eq.trans (b:=ab (decide (((Nat.gcd n.natAbs e:Nat):Int)=1))) rfl ?_;exact congrArg ab (decide_eq_decide.2 (by rw[Int.natAbs_natCast];omega)))),⟨rfl,trivial⟩,X2 _⟩
abbrev VY (l:List UInt8):AVal:= .d (.v (.string (Xb l)))
def okB (b:UInt8):Bool:=decide (32≤b.toNat∧b.toNat≤126)
def X2k (s:List UInt8):Int:=if X0q s then-1 else (s.takeWhile okB).length
theorem Xhl {s:List UInt8}:(X2k s<0)↔X0q s=true:=by
 unfold X2k
 cases X0q s<;>simp
theorem Xin {s:List UInt8}{p:Nat} (h:∀j,j<p→∃b,s[j]? =some b∧okB b=true) (hp:p=s.length):X0q s=true:=by
 unfold X0q
 rw[List.all_eq_true]
 intro x hx
 obtain⟨i,hi⟩:=List.getElem?_of_mem hx
 obtain⟨b,h1,h2⟩:=h i (by rw[hp];exact(List.getElem?_eq_some_iff.1 hi).1)
 rw[hi] at h1;cases h1;exact h2
theorem Xmv {s:List UInt8}{p:Nat}{c:UInt8} (h:∀j,j<p→∃b,s[j]? =some b∧okB b=true) (hc:s[p]? =some c) (hb:okB c=false):X2k s=p:=by
 have h1:X0q s=false:=by
  cases hs:X0q s with
  |false=>rfl
  |true=>
   unfold X0q at hs
   rw[List.all_eq_true] at hs
   have:=hs c (List.mem_of_getElem? hc)
   unfold okB at hb
   rw[hb] at this;simp at this
 unfold X2k
 rw[h1,X86 s p h (fun b hb'=>by rw[hc] at hb';cases hb';exact hb)]
 simp
theorem Xfb (l:List UInt8) {p:Nat}{c:UInt8} (h:l[p]? =some c) (hp:p<(Xb l).size):(Xb l)[p]=c:=by
 have h1:=(List.getElem?_eq_some_iff.1 h).2
 exact h1
theorem XoQ (c:Nat) (hc:c≤2147483647):Con Tryz.prog 242 [] [.d (.v (.int .i32 c))] [] (ab (!decide (32≤c∧c≤126))):=by
 refine Xg (xs:=[ab (!decide (32≤c∧c≤126))]) Tryz.func242 rfl Tryz.ntmps242 rfl rfl rfl (fun E=> ?_)
 by_cases h1:c<32
 ·rw[show (!decide (32≤c∧c≤126))=true by simp;omega]
  refine Qoa ?_;exact QBa
 ·by_cases h2:126<c
  ·rw[show (!decide (32≤c∧c≤126))=true by simp;omega]
   refine Xi ?_;refine QF ?_;exact X1 ⟨_,Xw 2 (y:=ab true) (AVal.le_of_eq (by refine Eq.trans (b:=ab (decide (126<(c:Int)))) rfl ?_;exact congrArg ab (decide_eq_true (by omega)))),⟨rfl,trivial⟩,X2 _⟩
  ·rw[show (!decide (32≤c∧c≤126))=false by simp;omega]
   refine Xi ?_;refine QF ?_;exact X1 ⟨_,Xw 2 (y:=ab false) (AVal.le_of_eq (by refine Eq.trans (b:=ab (decide (126<(c:Int)))) rfl ?_;exact congrArg ab (decide_eq_false (by omega)))),⟨rfl,trivial⟩,X2 _⟩
theorem Xna (s:List UInt8) (hs:s.length≤9223372036854775807):Con Tryz.prog 261 [] [VY s,.fn 242 [],ab true] [] (ai (X2k s)):=by
 refine Xg (xs:=[ai (X2k s)]) Tryz.func261 rfl Tryz.ntmps261 rfl rfl rfl (fun E=> ?_)
 have hsz:(Xb s).size=s.length:=rfl
 refine Xi ?_
 refine XK (fun p:Nat=>p≤s.length∧∀j,j<p→∃b,s[j]? =some b∧okB b=true) (fun p=>⟨21,[(1,.fn 242 []),(2,ab true),(10,.ptr 100 0)],[(100,.iter (Xb s) p)]⟩) (fun p=>s.length-p) 0 ⟨by omega,fun j hj=>by omega⟩
  (Xd rfl ⟨JL,JL,JL,trivial⟩ ⟨rfl,trivial⟩) ?_
 rintro p ⟨hp,hall⟩
 by_cases hlt:p<s.length
 ·obtain⟨c,hc⟩:=XI (l:=s) hlt
  have hlt':p<(Xb s).size:=hlt
  have hget:=Xfb s hc hlt'
  have hr:=XoQ (Utf8.decode (Xb s) p).1 (decode_le _ _)
  have go:okB c=true→Utf8.decode (Xb s) p=(c.toNat,1):=fun hok=>decode_ascii _ _ hlt' (by unfold okB at hok;rw[decide_eq_true_eq] at hok;rw[hget];omega)|>.trans (by rw[hget])
  cases hok:okB c with
  |true=>
   have hd:=go hok
   rw[show (!decide (32≤(Utf8.decode (Xb s) p).1∧(Utf8.decode (Xb s) p).1≤126))=false by rw[hd];unfold okB at hok;simp only;rw[hok];rfl] at hr
   refine W6_ ?_;refine JT ?_;refine Xr ?_;refine Z5 (hcon:=hr) ?_;refine W3_ ?_;refine JF ?_;refine W1_ ?_
   refine⟨p+1,⟨by omega,fun j hj=> ?_⟩,by omega,Xd rfl ⟨JL,JL,JL,trivial⟩ ⟨?_,trivial⟩⟩
   ·by_cases e:j=p
    ·subst e;exact⟨c,hc,hok⟩
    ·exact hall j (by omega)
   ·refine Eq.trans (b:=AObj.iter (Xb s) (p+(Utf8.decode (Xb s) p).2)) rfl ?_
    rw[hd]
  |false=>
   rw[Xmv hall hc hok]
   have hbad:(!decide (32≤(Utf8.decode (Xb s) p).1∧(Utf8.decode (Xb s) p).1≤126))=true:=by
    by_cases ha:c.toNat<128
    ·rw[decode_ascii _ _ hlt' (by rw[hget];exact ha),hget]
     unfold okB at hok
     simp only;rw[hok];rfl
    ·have:=(decode_high (Xb s) p hlt' (by rw[hget];omega)).1
     simp;omega
   rw[hbad] at hr
   refine W6_ ?_;refine JT ?_;refine Xr ?_;refine Z5 (hcon:=hr) ?_;refine W3_ ?_;exact QDa
 ·obtain rfl:p=s.length:=by omega
  rw[show X2k s= -1 by unfold X2k;rw[Xin hall rfl];rfl]
  have hge:(Xb s).size≤s.length:=Nat.le_refl _
  refine W6_ ?_;exact QV
theorem Xlo (s:List UInt8) (hs:s.length≤9223372036854775807):Con Tryz.prog 241 [] [VY s,.fn 242 []] [] (ai (X2k s)):=by
 refine Xg (xs:=[ai (X2k s)]) Tryz.func241 rfl Tryz.ntmps241 rfl rfl rfl (fun E=> ?_)
 refine W8_ ?_;refine Z3 (hcon:=Xna s hs) ?_;exact Qq
def Xv:Val→AVal
 | .mk k n d s l=> .agg [ai k,ai n,ai d,VY s,.d (.sl 5 (XU l))]
def VX (l:List Val):Bool:=decide (l.length%2=1∧l.length≤25)&&Vg 0 l
theorem Xhr {v:Val} (h:v.kind=5∨v.kind=6) (m m':Nat):Xe m v=Xe m' v:=by
 obtain⟨k,n,d,s,l⟩:=v
 have h:k=5∨k=6:=h
 rw[Xe,Xe]
 rcases h with rfl|rfl<;>simp
theorem X0l (l:List Val):(XU l).length=l.length:=by rw[X3T,List.length_map]
theorem X3O {l:List Val}{i:Nat}{x:Val} (h:l[i]? =some x):(XU l)[i]? =some (U3 x):=by rw[X3T];exact Y5 h
theorem Xbd {i:Nat}{l:List Val}{x:Val} (h:l[i]? =some x):Vg i (l.drop i)=(decide (x.kind=5+(i%2:Nat))&&Xe 0 x&&Vg (i+1) (l.drop (i+1))):=by
 rw[List.drop_eq_getElem_cons (List.getElem?_eq_some_iff.1 h).1,(List.getElem?_eq_some_iff.1 h).2,Vg]
theorem XgH {m i:Nat}{l:List Val}{x:Val} (h:l[i]? =some x):Vy m (l.drop i)=(Xe m x&&Vy m (l.drop (i+1))):=by
 rw[List.drop_eq_getElem_cons (List.getElem?_eq_some_iff.1 h).1,(List.getElem?_eq_some_iff.1 h).2,Vy]
theorem X7p {i:Nat}{l:List Val}{x:Val} (h:l[i]? =some x) (hk:¬x.kind=5+(i%2:Nat)):Vg i (l.drop i)=false:=by
 rw[Xbd h,decide_eq_false hk];rfl
theorem X8V {i:Nat}{l:List Val}{x:Val} (h:l[i]? =some x) (hv:Xe 0 x=false):Vg i (l.drop i)=false:=by
 rw[Xbd h,hv,Bool.and_false];rfl
theorem X92 {i:Nat}{l:List Val}{x:Val} (h:l[i]? =some x) (hk:x.kind=5+(i%2:Nat)) (hv:Xe 0 x=true):Vg i (l.drop i)=Vg (i+1) (l.drop (i+1)):=by
 rw[Xbd h,decide_eq_true hk,hv];rfl
def X90 (v:Val):Prop:=∀m:Nat,m≤8→Con Tryz.prog 198 [] [Xv v,ai (8-m:Nat)] [] (ab (Xe m v))
def XbK (l:List Val):Prop:=Con Tryz.prog 243 [] [.d (.sl 5 (XU l))] [] (ab (VX l))
theorem Xld (l:List Val) (ih:∀x∈l,X90 x):XbK l:=by
 refine Xg (xs:=[ab (VX l)]) Tryz.func243 rfl Tryz.ntmps243 rfl rfl rfl (fun E=> ?_)
 have hlen:=X0l l
 by_cases h1:l.length%2=0
 ·rw[show VX l=false by unfold VX;rw[decide_eq_false (by omega),Bool.false_and]]
  refine Xt ?_;exact QEa
 by_cases h2:25<l.length
 ·rw[show VX l=false by unfold VX;rw[decide_eq_false (by omega),Bool.false_and]]
  refine XA ?_;exact QS
 rw[show VX l=Vg 0 (l.drop 0) by unfold VX;rw[decide_eq_true (by omega),Bool.true_and];rfl]
 refine XA ?_;refine QU ?_;refine W9_ ?_
 refine XK (fun i:Nat=>i≤l.length∧Vg 0 (l.drop 0)=Vg i (l.drop i)) (fun i=>⟨37,[(15,.d (.sl 5 (XU l))),(16,ai l.length),(17,ai i)],[]⟩) (fun i=>l.length-i) 0 ⟨by omega,rfl⟩
  (Xd rfl ⟨JL,(by refine AVal.le_of_eq ?_;refine Eq.trans (b:=ai ((XU l).length:Nat)) rfl ?_;rw[hlen]),JL,trivial⟩ trivial) ?_
 rintro i ⟨hi,hpv⟩
 by_cases hlt:i<l.length
 ·obtain⟨x,hx⟩:=XI (l:=l) hlt
  have hgx:=X3O hx
  have hixl:i<(XU l).length:=by rw[hlen];exact hlt
  have hvx:=ih x (List.mem_of_getElem? hx) 8 (by omega)
  obtain⟨k,n,d,s,q⟩:=x
  simp only[Xv,Nat.sub_self] at hvx
  rw[U3] at hgx
  rw[hpv]
  by_cases hpar:i%2=0
  case pos=>
   by_cases hk:k=5
   case neg=>
    rw[X7p hx (by rw[hpar];show ¬k=_;omega)]
    refine QFa ?_;refine Xi ?_;exact QEa
   subst hk
   have hfl:=Xhr (v:= .mk 5 n d s q) (.inl rfl) 8 0
   cases hvv:Xe 8 (.mk 5 n d s q) with
   |true=>
    rw[hvv] at hvx hfl
    have hgo:=X92 hx (by rw[hpar];rfl) hfl.symm
    rw[hgo,←hgo,←hpv]
    refine QFa ?_;refine Xt ?_;refine Z3 (hcon:=hvx) ?_;refine W1_ ?_;refine QZ ?_;exact⟨i+1,⟨by omega,hpv.trans hgo⟩,by omega,Xd rfl ⟨JL,JL,JL,trivial⟩ trivial⟩
   |false=>
    rw[hvv] at hvx hfl
    rw[X8V hx hfl.symm]
    refine QFa ?_;refine Xt ?_;exact QGa
  case neg=>
   have hpar:i%2=1:=by omega
   by_cases hk:k=6
   case neg=>
    rw[X7p hx (by rw[hpar];show ¬k=_;omega)]
    refine QHa ?_;refine Xi ?_;exact QEa
   subst hk
   have hfl:=Xhr (v:= .mk 6 n d s q) (.inr rfl) 8 0
   cases hvv:Xe 8 (.mk 6 n d s q) with
   |true=>
    rw[hvv] at hvx hfl
    have hgo:=X92 hx (by rw[hpar];rfl) hfl.symm
    rw[hgo,←hgo,←hpv]
    refine QHa ?_;refine Xt ?_;refine Z3 (hcon:=hvx) ?_;refine W1_ ?_;refine QZ ?_;exact⟨i+1,⟨by omega,hpv.trans hgo⟩,by omega,Xd rfl ⟨JL,JL,JL,trivial⟩ trivial⟩
   |false=>
    rw[hvv] at hvx hfl
    rw[X8V hx hfl.symm]
    refine QHa ?_;refine Xt ?_;exact QGa
 obtain rfl:i=l.length:=by omega
 rw[hpv,List.drop_length,Vg]
 refine W5_ ?_;exact QV
end Go.Fw

/- Valid. -/
import Derived.Test.YtlkcofbjniphbaaGreatDoorB15
set_option maxHeartbeats 8000000
namespace Go.Fw
open Go Go.Proofs
set_option maxRecDepth 100000
set_option linter.unusedVariables false
set_option linter.unusedSimpArgs false
theorem XcU:∀v:Val,X90 v
 | .mk k n d s l=>XrH (.mk k n d s l) fun x hx=>XcU x
termination_by v=>SizeOf.sizeOf v
decreasing_by
 have h1:=List.sizeOf_lt_of_mem (show x∈l from hx)
 simp only[Val.mk.sizeOf_spec]
 omega
theorem X1B (v:Val):Con Tryz.prog 156 [] [Xv v] [] (ab (Xe 8 v)):=by
 refine Xg (xs:=[ab (Xe 8 v)]) Tryz.func156 rfl Tryz.ntmps156 rfl rfl rfl (fun E=> ?_)
 have h:=XcU v 8 (by omega)
 obtain⟨k,n,d,s,l⟩:=v
 simp only[Xv,Nat.sub_self] at h
 refine W8_ ?_;refine Z3 (hcon:=h) ?_;exact Qq
def X5S (v:Val):Prop:=∀m:Nat,m≤8→Con Tryz.prog 194 [] [Xv v,ai m] [] (ab (Xe m v))
theorem XcY {s:List UInt8}{p:Nat}{c:UInt8} (hc:s[p]? =some c) (hb:okB c=false):X0q s=false:=by
 cases hs:X0q s with
 |false=>rfl
 |true=>
  unfold X0q at hs
  rw[List.all_eq_true] at hs
  have:=hs c (List.mem_of_getElem? hc)
  unfold okB at hb
  rw[hb] at this;simp at this
theorem Xqr (s:List UInt8) (hs:s.length≤9223372036854775807):Con Tryz.prog 236 [] [VY s] [] (ab (X0q s&&decide (s.length≤100))):=by
 refine Xg (xs:=[ab (X0q s&&decide (s.length≤100))]) Tryz.func236 rfl Tryz.ntmps236 rfl rfl rfl (fun E=> ?_)
 have hsz:(Xb s).size=s.length:=rfl
 refine Xj ?_
 refine XK (fun p:Nat=>p≤s.length∧∀j,j<p→∃b,s[j]? =some b∧okB b=true) (fun p=>⟨23,[(0,VY s),(3,ai p)],[]⟩) (fun p=>s.length-p) 0 ⟨by omega,fun j hj=>by omega⟩
  (Xd rfl ⟨JL,JL,trivial⟩ trivial) ?_
 rintro p ⟨hp,hall⟩
 by_cases hlt:p<s.length
 ·obtain⟨c,hc⟩:=XI (l:=s) hlt
  have hlt':p<(Xb s).size:=hlt
  have hget:=Xfb s hc hlt'
  by_cases h1:c.toNat<32
  ·rw[XcY hc (show okB c=false by unfold okB;exact decide_eq_false (by omega)),Bool.false_and]
   refine QUb ?_;exact QO
  by_cases h2:126<c.toNat
  ·rw[XcY hc (show okB c=false by unfold okB;exact decide_eq_false (by omega)),Bool.false_and]
   refine Qi ?_;refine XC ?_;exact QS
  have hok:okB c=true:=by unfold okB;exact decide_eq_true (by omega)
  refine Qi ?_;refine XC ?_;refine QVb ?_
  refine⟨p+1,⟨by omega,fun j hj=> ?_⟩,by omega,Xd rfl ⟨JL,JL,trivial⟩ trivial⟩
  by_cases e:j=p
  ·subst e;exact⟨c,hc,hok⟩
  ·exact hall j (by omega)
 obtain rfl:p=s.length:=by omega
 rw[Xin hall rfl,Bool.true_and]
 refine W8_ ?_;refine QWb ?_;exact X1 ⟨_,Xw 2 (y:=ab (decide (s.length≤100))) (AVal.le_of_eq (by refine Eq.trans (b:=ab (decide (((Xb s).size:Int)≤100))) rfl ?_;exact congrArg ab (decide_eq_decide.2 (by omega)))),⟨rfl,trivial⟩,X2 _⟩
theorem XjZ (l:List Val) (hl:l.length≤9223372036854775807) (ih:∀x∈l,X5S x):Con Tryz.prog 237 [] [.d (.sl 5 (XU l))] [] (ab (VX l)):=by
 refine Xg (xs:=[ab (VX l)]) Tryz.func237 rfl Tryz.ntmps237 rfl rfl rfl (fun E=> ?_)
 have hlen:=X0l l
 by_cases h1:l.length%2=0
 ·rw[show VX l=false by unfold VX;rw[decide_eq_false (by omega),Bool.false_and]]
  refine Xt ?_;exact QEa
 by_cases h2:25<l.length
 ·rw[show VX l=false by unfold VX;rw[decide_eq_false (by omega),Bool.false_and]]
  refine XA ?_;exact QS
 rw[show VX l=Vg 0 (l.drop 0) by unfold VX;rw[decide_eq_true (by omega),Bool.true_and];rfl]
 refine XA ?_;refine QXb ?_
 refine XK (fun i:Nat=>i≤l.length∧Vg 0 (l.drop 0)=Vg i (l.drop i)) (fun i=>⟨38,[(0,.d (.sl 5 (XU l))),(3,ai i)],[]⟩) (fun i=>l.length-i) 0 ⟨by omega,rfl⟩
  (Xd rfl ⟨JL,JL,trivial⟩ trivial) ?_
 rintro i ⟨hi,hpv⟩
 by_cases hlt:i<l.length
 ·obtain⟨x,hx⟩:=XI (l:=l) hlt
  have hgx:=X3O hx
  have hvx:=ih x (List.mem_of_getElem? hx) 0 (by omega)
  obtain⟨k,n,d,s,q⟩:=x
  simp only[Xv] at hvx
  rw[U3] at hgx
  rw[hpv]
  by_cases hpar:i%2=0
  case pos=>
   by_cases hk:k=5
   case neg=>
    rw[X7p hx (by rw[hpar];show ¬k=_;omega)]
    refine QYb ?_;refine QZb ?_;refine Qta ?_;exact QN
   subst hk
   cases hvv:Xe 0 (.mk 5 n d s q) with
   |true=>
    rw[hvv] at hvx
    have hgo:=X92 hx (by rw[hpar];rfl) hvv
    rw[←hpv]
    refine QYb ?_;refine JF ?_;refine XA ?_;refine Z3 (hcon:=hvx) ?_;refine W1_ ?_;refine QVb ?_;exact⟨i+1,⟨by omega,hpv.trans hgo⟩,by omega,Xd rfl ⟨JL,JL,trivial⟩ trivial⟩
   |false=>
    rw[hvv] at hvx
    rw[X8V hx hvv]
    refine QYb ?_;refine JF ?_;refine XA ?_;exact QGa
  case neg=>
   have hpar:i%2=1:=by omega
   by_cases hk:k=6
   case neg=>
    rw[X7p hx (by rw[hpar];show ¬k=_;omega)]
    refine Qac ?_;refine Xr ?_;refine Qta ?_;exact QN
   subst hk
   cases hvv:Xe 0 (.mk 6 n d s q) with
   |true=>
    rw[hvv] at hvx
    have hgo:=X92 hx (by rw[hpar];rfl) hvv
    rw[←hpv]
    refine Qac ?_;refine XD ?_;refine Z3 (hcon:=hvx) ?_;refine W1_ ?_;refine QVb ?_;exact⟨i+1,⟨by omega,hpv.trans hgo⟩,by omega,Xd rfl ⟨JL,JL,trivial⟩ trivial⟩
   |false=>
    rw[hvv] at hvx
    rw[X8V hx hvv]
    refine Qac ?_;refine XD ?_;exact QGa
 obtain rfl:i=l.length:=by omega
 rw[hpv,List.drop_length,Vg]
 exact Qbc
theorem XmC (l:List Val) (m:Nat) (hm:m≤8) (hl:l.length≤9223372036854775807) (ih:∀x∈l,X5S x):Con Tryz.prog 238 [] [.d (.sl 5 (XU l)),ai m] [] (ab (decide (1≤m∧l.length≤64)&&Vy (m-1) l)):=by
 refine Xg (xs:=[ab (decide (1≤m∧l.length≤64)&&Vy (m-1) l)]) Tryz.func238 rfl Tryz.ntmps238 rfl rfl rfl (fun E=> ?_)
 have hlen:=X0l l
 by_cases h1:m<1
 ·rw[decide_eq_false (by omega),Bool.false_and]
  refine Xj ?_;exact QEa
 by_cases h2:64<l.length
 ·rw[decide_eq_false (by omega),Bool.false_and]
  refine Xr ?_;exact QS
 rw[show (decide (1≤m∧l.length≤64)&&Vy (m-1) l)=Vy (m-1) (l.drop 0) by rw[decide_eq_true (by omega),Bool.true_and];rfl]
 refine Xr ?_;refine QXb ?_
 refine XK (fun i:Nat=>i≤l.length∧Vy (m-1) (l.drop 0)=Vy (m-1) (l.drop i)) (fun i=>⟨27,[(0,.d (.sl 5 (XU l))),(1,ai m),(5,ai i)],[]⟩) (fun i=>l.length-i) 0 ⟨by omega,rfl⟩
  (Xd rfl ⟨JL,JL,JL,trivial⟩ trivial) ?_
 rintro i ⟨hi,hpv⟩
 by_cases hlt:i<l.length
 ·obtain⟨x,hx⟩:=XI (l:=l) hlt
  have hgx:=X3O hx
  have hvx:=ih x (List.mem_of_getElem? hx) (m-1) (by omega)
  have hst:=XgH (m:=m-1) hx
  have e8:Value.int .i64 ((m:Int)-1)=nj (m-1):=by show Value.int .i64 _=Value.int .i64 _;congr 1;omega
  obtain⟨k',n',d',s',q'⟩:=x
  simp only[Xv] at hvx
  rw[U3] at hgx
  cases hvv:Xe (m-1) (.mk k' n' d' s' q') with
  |true=>
   rw[hvv] at hvx
   rw[hvv,Bool.true_and] at hst
   refine QUb ?_;(refine Z1 (op:= .sub) (r':=nj (m-1)) (u:=nj m) (v:=nj 1) ?_ (hr':=by exact e8) (hr:=by exact Yl (by unfold XT;omega)));refine Z3 (hcon:=hvx) ?_;refine W2_ ?_;refine Qia ?_;exact⟨i+1,⟨by omega,hpv.trans hst⟩,by omega,Xd rfl ⟨JL,JL,JL,trivial⟩ trivial⟩
  |false=>
   rw[hvv] at hvx
   rw[hvv,Bool.false_and] at hst
   rw[hpv,hst]
   refine QUb ?_;(refine Z1 (op:= .sub) (r':=nj (m-1)) (u:=nj m) (v:=nj 1) ?_ (hr':=by exact e8) (hr:=by exact Yl (by unfold XT;omega)));refine Z3 (hcon:=hvx) ?_;exact Qcc
 obtain rfl:i=l.length:=by omega
 rw[hpv,List.drop_length,Vy]
 exact Qbc
mutual
def Yp:Val→Prop
 | .mk k n d s l=>s.length≤9223372036854775807∧l.length≤9223372036854775807∧X0n l
def X0n:List Val→Prop
 |[]=>True
 |v::r=>Yp v∧X0n r
end
theorem X3Z:∀{l:List Val}{x:Val},X0n l→x∈l→Yp x
 |[],_,_,h=>by simp at h
 |v::r,x,h,hx=>by
  rw[X0n] at h
  rcases List.mem_cons.1 hx with rfl|hx
  ·exact h.1
  ·exact X3Z h.2 hx
def Xma (v:Val):Prop:=Yp v→X5S v
theorem Xrt (k n d:Int) (s:List UInt8) (l:List Val):Con Tryz.prog 234 [] [Xv (.mk k n d s l),ab false,ab false,ab false,ab false] [] (ab (decide (n=0)&&decide (d=0)&&decide (s=[])&&decide (l.length=0))):=by
 refine Xg (xs:=[ab (decide (n=0)&&decide (d=0)&&decide (s=[])&&decide (l.length=0))]) Tryz.func234 rfl Tryz.ntmps234 rfl rfl rfl (fun E=> ?_)
 have hlen:=X0l l
 by_cases hn:n=0
 case neg=>
  rw[show (decide (n=0)&&decide (d=0)&&decide (s=[])&&decide (l.length=0))=false by simp[*]]
  exact Qfc
 by_cases hd:d=0
 case neg=>
  rw[show (decide (n=0)&&decide (d=0)&&decide (s=[])&&decide (l.length=0))=false by simp[*]]
  exact Qhc
 by_cases hs:s=[]
 case neg=>
  rw[show (decide (n=0)&&decide (d=0)&&decide (s=[])&&decide (l.length=0))=false by simp[*]]
  refine Qic ?_;exact Qjc
 by_cases hl:l.length=0
 case neg=>
  have hl':¬((l.length:Int)=0):=by omega
  rw[show (decide (n=0)&&decide (d=0)&&decide (s=[])&&decide (l.length=0))=false by simp[*]]
  refine Qic ?_;exact Qmc
 rw[show (decide (n=0)&&decide (d=0)&&decide (s=[])&&decide (l.length=0))=true by simp[*]]
 refine Qic ?_;exact Qoc
theorem X78 (k n d:Int) (s:List UInt8) (l:List Val):Con Tryz.prog 234 [] [Xv (.mk k n d s l),ab true,ab false,ab false,ab false] [] (ab (decide (d=0)&&decide (s=[])&&decide (l.length=0))):=by
 refine Xg (xs:=[ab (decide (d=0)&&decide (s=[])&&decide (l.length=0))]) Tryz.func234 rfl Tryz.ntmps234 rfl rfl rfl (fun E=> ?_)
 have hlen:=X0l l
 by_cases hd:d=0
 case neg=>
  rw[show (decide (d=0)&&decide (s=[])&&decide (l.length=0))=false by simp[*]]
  refine W9_ ?_;refine Qrb ?_;exact Qgc
 by_cases hs:s=[]
 case neg=>
  rw[show (decide (d=0)&&decide (s=[])&&decide (l.length=0))=false by simp[*]]
  refine W9_ ?_;refine Qrb ?_;refine W6_ ?_;refine Qca ?_;exact Qjc
 by_cases hl:l.length=0
 case neg=>
  have hl':¬((l.length:Int)=0):=by omega
  rw[show (decide (d=0)&&decide (s=[])&&decide (l.length=0))=false by simp[*]]
  refine W9_ ?_;refine Qrb ?_;refine W6_ ?_;refine Qca ?_;exact Qmc
 rw[show (decide (d=0)&&decide (s=[])&&decide (l.length=0))=true by simp[*]]
 refine W9_ ?_;refine Qrb ?_;refine W6_ ?_;refine Qca ?_;exact Qoc
theorem Xjk (k n d:Int) (s:List UInt8) (l:List Val):Con Tryz.prog 234 [] [Xv (.mk k n d s l),ab true,ab true,ab false,ab false] [] (ab (decide (s=[])&&decide (l.length=0))):=by
 refine Xg (xs:=[ab (decide (s=[])&&decide (l.length=0))]) Tryz.func234 rfl Tryz.ntmps234 rfl rfl rfl (fun E=> ?_)
 have hlen:=X0l l
 by_cases hs:s=[]
 case neg=>
  rw[show (decide (s=[])&&decide (l.length=0))=false by simp[*]]
  refine W9_ ?_;refine Qrb ?_;refine Qpc ?_;exact Qjc
 by_cases hl:l.length=0
 case neg=>
  have hl':¬((l.length:Int)=0):=by omega
  rw[show (decide (s=[])&&decide (l.length=0))=false by simp[*]]
  refine W9_ ?_;refine Qrb ?_;refine Qpc ?_;exact Qmc
 rw[show (decide (s=[])&&decide (l.length=0))=true by simp[*]]
 refine W9_ ?_;refine Qrb ?_;refine Qpc ?_;exact Qoc
theorem XoA (k n d:Int) (s:List UInt8) (l:List Val):Con Tryz.prog 234 [] [Xv (.mk k n d s l),ab false,ab false,ab true,ab false] [] (ab (decide (n=0)&&decide (d=0)&&decide (l.length=0))):=by
 refine Xg (xs:=[ab (decide (n=0)&&decide (d=0)&&decide (l.length=0))]) Tryz.func234 rfl Tryz.ntmps234 rfl rfl rfl (fun E=> ?_)
 have hlen:=X0l l
 by_cases hn:n=0
 case neg=>
  rw[show (decide (n=0)&&decide (d=0)&&decide (l.length=0))=false by simp[*]]
  exact Qfc
 by_cases hd:d=0
 case neg=>
  rw[show (decide (n=0)&&decide (d=0)&&decide (l.length=0))=false by simp[*]]
  exact Qhc
 by_cases hl:l.length=0
 case neg=>
  have hl':¬((l.length:Int)=0):=by omega
  rw[show (decide (n=0)&&decide (d=0)&&decide (l.length=0))=false by simp[*]]
  refine Qic ?_;refine Qpc ?_;refine W7_ ?_;refine Qkc ?_;exact Qlc
 rw[show (decide (n=0)&&decide (d=0)&&decide (l.length=0))=true by simp[*]]
 refine Qic ?_;refine Qpc ?_;refine W7_ ?_;refine Qkc ?_;exact Qnc
theorem XhZ (k n d:Int) (s:List UInt8) (l:List Val):Con Tryz.prog 234 [] [Xv (.mk k n d s l),ab false,ab false,ab false,ab true] [] (ab (decide (n=0)&&decide (d=0)&&decide (s=[]))):=by
 refine Xg (xs:=[ab (decide (n=0)&&decide (d=0)&&decide (s=[]))]) Tryz.func234 rfl Tryz.ntmps234 rfl rfl rfl (fun E=> ?_)
 have hlen:=X0l l
 by_cases hn:n=0
 case neg=>
  rw[show (decide (n=0)&&decide (d=0)&&decide (s=[]))=false by simp[*]]
  exact Qfc
 by_cases hd:d=0
 case neg=>
  rw[show (decide (n=0)&&decide (d=0)&&decide (s=[]))=false by simp[*]]
  exact Qhc
 by_cases hs:s=[]
 case neg=>
  rw[show (decide (n=0)&&decide (d=0)&&decide (s=[]))=false by simp[*]]
  refine Qic ?_;exact Qjc
 rw[show (decide (n=0)&&decide (d=0)&&decide (s=[]))=true by simp[*]]
 refine Qic ?_;refine W6_ ?_;refine Qca ?_;refine W3_ ?_;refine Qda ?_;exact QBa
end Go.Fw

/- The reference's number. -/
import Derived.Test.YtlkcofbjniphbaaGreatDoorB39
import Derived.Test.YtlkcofbjniphbaaGreatDoorB44
import Derived.Test.YtlkcofbjniphbaaGreatDoorB48
set_option maxHeartbeats 16000000
namespace Go.Fw
open Go Go.Proofs
set_option maxRecDepth 100000
set_option linter.unusedVariables false
set_option linter.unusedSimpArgs false
theorem X91 {b:List UInt8}{k i:Nat}{c:UInt8} (h:(b.drop k)[i]? =some c):b[k+i]? =some c:=by rwa [List.getElem?_drop] at h
theorem XiL:∀{l:List UInt8}{q:Nat}{x:UInt8},l[q]? =some x→Yb (l.drop q)=x.toNat%128+128*Yb (l.drop (q+1)):=by
 intro l q x h
 rw[List.drop_eq_getElem_cons (List.getElem?_eq_some_iff.1 h).1,(List.getElem?_eq_some_iff.1 h).2];rfl
theorem Xc6:∀(l:List UInt8) (q:Nat),Yb (l.drop q)≤Yb l
 |[],q=>by simp
 |y::l,0=>Nat.le_refl _
 |y::l,q+1=>by
  have:=Xc6 l q
  simp only[List.drop_succ_cons,Yb];omega
theorem Xi2 (b:List UInt8) (a:Int) (hb:b.length≤281474976710656):Con Tryz.prog 124 [] [.d (Xk b),ai a] [] (X5D (X21 (Ye b a).1) (Ye b a).2.1 (Ye b a).2.2):=by
 refine Xg (xs:=[X21 (Ye b a).1,ai (Ye b a).2.1,ai (Ye b a).2.2]) Tryz.func124 rfl Tryz.ntmps124 rfl rfl rfl (fun E=> ?_)
 by_cases h1:a<0
 ·rw[show Ye b a=(0,0,1) by unfold Ye;rw[if_pos (.inl h1)]]
  refine Xt ?_;refine QL ?_;refine Qs ?_;exact QRc
 by_cases h2:(b.length:Int)<a
 ·rw[show Ye b a=(0,0,1) by unfold Ye;rw[if_pos (.inr h2)]]
  refine Yc ?_;refine QP ?_;exact QRc
 obtain⟨k,rfl⟩:∃k:Nat,a=k:=⟨a.toNat,by omega⟩
 have hnum:Ye b k=(let l:=b.drop k;let n:=YY l;if n=10 then (0,0,4) else if l.length≤n then (0,0,3) else if n=9∧1<((l[n]?).getD 0).toNat then (0,0,4) else (Yb (l.take (n+1)),(k:Int)+n+1,0)):=by
  unfold Ye;rw[if_neg (by omega),Int.toNat_natCast]
 have hll:(b.drop k).length=b.length-k:=List.length_drop
 refine QSc ?_;refine W7_ ?_
 refine XK (fun i:Nat=>big (b.drop k) i∧i≤10∧i≤(b.drop k).length) (fun i=>⟨79,[(0,.d (Xk b)),(1,ai k),(7,ai i)],[]⟩) (fun i=>10-i) 0 ⟨fun j hj=>by omega,by omega,by omega⟩
  (Xd rfl ⟨JL,JL,JL,trivial⟩ trivial) ?_
 rintro i ⟨hbig,hi10,hil⟩
 generalize hl:b.drop k=l at*
 by_cases e10:i=10
 ·subst e10
  have hm:YY l=10:=X7r hbig (by omega)
  rw[show Ye b k=(0,0,4) by rw[hnum];simp only[hm,if_true]]
  refine W6_ ?_;refine Qta ?_;refine QP ?_;refine QL ?_;refine Qw ?_;refine QXb ?_;exact QRc
 by_cases el:i=l.length
 ·have hm:YY l=i:=X7r hbig (by omega)
  rw[show Ye b k=(0,0,3) by rw[hnum];simp only[hm];rw[if_neg e10,if_pos (by omega)]]
  refine W8_ ?_;(refine Z2 (op:= .add) (r':=ni (k+i)) (u:=ni k) (v:=ni i) ?_ (hr:=by exact Ym (by rw[XJ];omega)));refine W3_ ?_;refine Qs ?_;refine QL ?_;refine Qw ?_;refine QXb ?_;refine Qia ?_;(refine Z2 (op:= .add) (r':=ni (k+i)) (u:=ni k) (v:=ni i) ?_ (hr:=by exact Ym (by rw[XJ];omega)));refine W4_ ?_;exact QRc
 obtain⟨c,hc⟩:=XI (l:=l) (k:=i) (by omega)
 have hbc:b[k+i]? =some c:=X91 (by rw[hl];exact hc)
 have hc8:=c.toNat_lt
 by_cases hge:128≤c.toNat
 ·refine W8_ ?_;(refine Z2 (op:= .add) (r':=ni (k+i)) (u:=ni k) (v:=ni i) ?_ (hr:=by exact Ym (by rw[XJ];omega)));refine W3_ ?_;refine QAa ?_;(refine Z2 (op:= .add) (r':=ni (k+i)) (u:=ni k) (v:=ni i) ?_ (hr:=by exact Ym (by rw[XJ];omega)));refine W3_ ?_;refine Qaf ?_;exact⟨i+1,⟨Xb3 hbig hc hge,by omega,by omega⟩,by omega,Xd rfl ⟨JL,JL,JL,trivial⟩ trivial⟩
 have hm:YY l=i:=X8r hbig hc (by omega) (by omega)
 by_cases h9:i=9∧1<c.toNat
 ·rw[show Ye b k=(0,0,4) by rw[hnum];simp only[hm,hc,Option.getD_some];rw[if_neg e10,if_neg (by omega),if_pos h9]]
  obtain⟨rfl,h91⟩:=h9
  refine W8_ ?_;(refine Z2 (op:= .add) (r':=ni (k+9)) (u:=ni k) (v:=ni 9) ?_ (hr:=by exact Ym (by rw[XJ];omega)));refine W3_ ?_;refine QAa ?_;(refine Z2 (op:= .add) (r':=ni (k+9)) (u:=ni k) (v:=ni 9) ?_ (hr:=by exact Ym (by rw[XJ];omega)));refine W3_ ?_;refine Qs ?_;refine Qma ?_;refine Qia ?_;(refine Z2 (op:= .add) (r':=ni (k+9)) (u:=ni k) (v:=ni 9) ?_ (hr:=by exact Ym (by rw[XJ];omega)));refine W4_ ?_;refine QUc ?_;(refine Z2 (op:= .add) (r':=ni (k+9)) (u:=ni k) (v:=ni 9) ?_ (hr:=by exact Ym (by rw[XJ];omega)));refine W3_ ?_;refine Qs ?_;exact QRc
 rw[show Ye b k=(Yb (l.take (i+1)),(k:Int)+i+1,0) by rw[hnum];simp only[hm,hc,Option.getD_some];rw[if_neg e10,if_neg (by omega),if_neg h9]]
 have hu:Yb (l.take (i+1))<18446744073709551616:=by
  have h1:=X6V l i
  rw[X4z l i c hc]
  by_cases hm9:i=9
  ·subst hm9
   have e9:(2:Nat)^(7*9)=9223372036854775808:=rfl
   rw[e9] at h1 ⊢
   omega
  ·have h2:(2:Nat)^(7*i)≤2^56:=Nat.pow_le_pow_right (by omega) (by omega)
   have e56:(2:Nat)^56=72057594037927936:=rfl
   rw[e56] at h2
   have h4:2^(7*i)*(c.toNat%128)≤72057594037927936*127:=Nat.mul_le_mul h2 (by omega)
   omega
 by_cases hi9:i=9
 ·have hc1:¬(1<c.toNat):=fun h=>h9 ⟨hi9,h⟩
  refine W8_ ?_;(refine Z2 (op:= .add) (r':=ni (k+i)) (u:=ni k) (v:=ni i) ?_ (hr:=by exact Ym (by rw[XJ];omega)));refine W3_ ?_;refine QAa ?_;(refine Z2 (op:= .add) (r':=ni (k+i)) (u:=ni k) (v:=ni i) ?_ (hr:=by exact Ym (by rw[XJ];omega)));refine W3_ ?_;refine Qs ?_;refine Qma ?_;refine Qia ?_;(refine Z2 (op:= .add) (r':=ni (k+i)) (u:=ni k) (v:=ni i) ?_ (hr:=by exact Ym (by rw[XJ];omega)));refine W4_ ?_;refine QUc ?_;(refine Z2 (op:= .add) (r':=ni (k+i)) (u:=ni k) (v:=ni i) ?_ (hr:=by exact Ym (by rw[XJ];omega)));refine W3_ ?_;refine QDe ?_;refine Xt ?_
  refine XK (fun j:Int=> -1≤j∧j≤i) (fun j=>⟨79,[(0,.d (Xk b)),(1,ai k),(7,ai i),(8,X21 (Yb ((l.take (i+1)).drop (j+1).toNat))),(9,ai j)],[]⟩) (fun j=>(j+1).toNat) i ⟨by omega,by omega⟩
   (Xd rfl ⟨JL,JL,JL,(by rw[show ((i:Int)+1).toNat=i+1 by omega,List.drop_of_length_le (by simp;omega)];exact AVal.le_refl _),JL,trivial⟩ trivial) ?_
  rintro j ⟨hj1,hj2⟩
  by_cases hj:0≤j
  ·obtain⟨q,rfl⟩:∃q:Nat,j=q:=⟨j.toNat,by omega⟩
   obtain⟨x,hx⟩:=XI (l:=l) (k:=q) (by omega)
   have hbx:b[k+q]? =some x:=X91 (by rw[hl];exact hx)
   have hx8:=x.toNat_lt
   have hst:Yb ((l.take (i+1)).drop q)=Yb ((l.take (i+1)).drop (q+1))*128+x.toNat%128:=by
    rw[XiL (l:=l.take (i+1)) (q:=q) (x:=x) (by rw[List.getElem?_take_of_lt (by omega)];exact hx)];omega
   have hlt:Yb ((l.take (i+1)).drop q)<18446744073709551616:=Nat.lt_of_le_of_lt (Xc6 _ _) hu
   rw[show ((q:Int)+1).toNat=q+1 by omega]
   refine W6_ ?_;refine QCa ?_;(refine Z2 (op:= .mul) (r':=n64 (Yb ((l.take (i+1)).drop (q+1))*128)) (u:=n64 (Yb ((l.take (i+1)).drop (q+1)))) (v:=n64 128) ?_ (hr:=by exact V0 (by rw[Yf];omega)));refine W3_ ?_;(refine Z2 (op:= .add) (r':=ni (k+q)) (u:=ni k) (v:=ni q) ?_ (hr:=by exact Ym (by rw[XJ];omega)));refine W2_ ?_;refine Z2 (op:= .rem) (r':=n8 (x.toNat%128)) (u:=n8 x.toNat) (v:=n8 128) ?_ (hr:=by exact US (by omega))
   (refine Z0 (u:=n8 (x.toNat%128)) (r:=n64 (x.toNat%128)) ?_ (hr:=by exact YQ rfl rfl (by rw[Yf];omega)))
   (refine Z1 (op:= .add) (r':=n64 (Yb ((l.take (i+1)).drop q))) (u:=n64 (Yb ((l.take (i+1)).drop (q+1))*128)) (v:=n64 (x.toNat%128)) ?_ (hr':=by exact by rw[hst]) (hr:=by exact Ym (by rw[Yf];omega)))
   refine W7_ ?_
   refine⟨(q:Int)-1,⟨by omega,by omega⟩,by omega,Xd rfl ⟨JL,JL,JL,(by rw[show ((q:Int)-1+1).toNat=q by omega];exact AVal.le_refl _),JL,trivial⟩ trivial⟩
  obtain rfl:j= -1:=by omega
  refine W6_ ?_;refine Qia ?_;(refine Z2 (op:= .add) (r':=ni (k+i)) (u:=ni k) (v:=ni i) ?_ (hr:=by exact Ym (by rw[XJ];omega)));exact Qcd
 ·refine W8_ ?_;(refine Z2 (op:= .add) (r':=ni (k+i)) (u:=ni k) (v:=ni i) ?_ (hr:=by exact Ym (by rw[XJ];omega)));refine W3_ ?_;refine QAa ?_;(refine Z2 (op:= .add) (r':=ni (k+i)) (u:=ni k) (v:=ni i) ?_ (hr:=by exact Ym (by rw[XJ];omega)));refine W3_ ?_;refine Qs ?_;refine Qma ?_;refine Qia ?_;(refine Z2 (op:= .add) (r':=ni (k+i)) (u:=ni k) (v:=ni i) ?_ (hr:=by exact Ym (by rw[XJ];omega)));refine W4_ ?_;refine Qma ?_;refine QL ?_;refine Qw ?_;refine QU ?_;refine Xt ?_
  refine XK (fun j:Int=> -1≤j∧j≤i) (fun j=>⟨79,[(0,.d (Xk b)),(1,ai k),(7,ai i),(8,X21 (Yb ((l.take (i+1)).drop (j+1).toNat))),(9,ai j)],[]⟩) (fun j=>(j+1).toNat) i ⟨by omega,by omega⟩
   (Xd rfl ⟨JL,JL,JL,(by rw[show ((i:Int)+1).toNat=i+1 by omega,List.drop_of_length_le (by simp;omega)];exact AVal.le_refl _),JL,trivial⟩ trivial) ?_
  rintro j ⟨hj1,hj2⟩
  by_cases hj:0≤j
  ·obtain⟨q,rfl⟩:∃q:Nat,j=q:=⟨j.toNat,by omega⟩
   obtain⟨x,hx⟩:=XI (l:=l) (k:=q) (by omega)
   have hbx:b[k+q]? =some x:=X91 (by rw[hl];exact hx)
   have hx8:=x.toNat_lt
   have hst:Yb ((l.take (i+1)).drop q)=Yb ((l.take (i+1)).drop (q+1))*128+x.toNat%128:=by
    rw[XiL (l:=l.take (i+1)) (q:=q) (x:=x) (by rw[List.getElem?_take_of_lt (by omega)];exact hx)];omega
   have hlt:Yb ((l.take (i+1)).drop q)<18446744073709551616:=Nat.lt_of_le_of_lt (Xc6 _ _) hu
   rw[show ((q:Int)+1).toNat=q+1 by omega]
   refine W6_ ?_;refine QCa ?_;(refine Z2 (op:= .mul) (r':=n64 (Yb ((l.take (i+1)).drop (q+1))*128)) (u:=n64 (Yb ((l.take (i+1)).drop (q+1)))) (v:=n64 128) ?_ (hr:=by exact V0 (by rw[Yf];omega)));refine W3_ ?_;(refine Z2 (op:= .add) (r':=ni (k+q)) (u:=ni k) (v:=ni q) ?_ (hr:=by exact Ym (by rw[XJ];omega)));refine W2_ ?_;refine Z2 (op:= .rem) (r':=n8 (x.toNat%128)) (u:=n8 x.toNat) (v:=n8 128) ?_ (hr:=by exact US (by omega))
   (refine Z0 (u:=n8 (x.toNat%128)) (r:=n64 (x.toNat%128)) ?_ (hr:=by exact YQ rfl rfl (by rw[Yf];omega)))
   (refine Z1 (op:= .add) (r':=n64 (Yb ((l.take (i+1)).drop q))) (u:=n64 (Yb ((l.take (i+1)).drop (q+1))*128)) (v:=n64 (x.toNat%128)) ?_ (hr':=by exact by rw[hst]) (hr:=by exact Ym (by rw[Yf];omega)))
   refine W7_ ?_
   refine⟨(q:Int)-1,⟨by omega,by omega⟩,by omega,Xd rfl ⟨JL,JL,JL,(by rw[show ((q:Int)-1+1).toNat=q by omega];exact AVal.le_refl _),JL,trivial⟩ trivial⟩
  obtain rfl:j= -1:=by omega
  refine W6_ ?_;refine Qia ?_;(refine Z2 (op:= .add) (r':=ni (k+i)) (u:=ni k) (v:=ni i) ?_ (hr:=by exact Ym (by rw[XJ];omega)));exact Qcd
theorem Xfn (b:List UInt8) (a:Int) (h:(Ye b a).2.2=0) (hb:b.length≤281474976710656):Con Tryz.prog 125 [] [.d (Xk b),ai a,ai (Ye b a).2.1] [] (ab (!V1 b a)):=by
 refine Xg (xs:=[ab (!V1 b a)]) Tryz.func125 rfl Tryz.ntmps125 rfl rfl rfl (fun E=> ?_)
 obtain⟨k,rfl,hk,h1,h2,he⟩:=Xcj h
 have hll:(b.drop k).length=b.length-k:=List.length_drop
 obtain⟨c,hc⟩:=XI (l:=b.drop k) h1
 have hbc:b[k+YY (b.drop k)]? =some c:=X91 hc
 have hp:V1 b (k:Int)=(decide (0<YY (b.drop k))&&decide (c=0)):=by
  show(decide (0<YY (b.drop ((k:Int)).toNat))&&decide (((b.drop ((k:Int)).toNat)[YY (b.drop ((k:Int)).toNat)]?).getD 0=0))=_
  rw[Int.toNat_natCast,hc];rfl
 rw[he,hp]
 generalize YY (b.drop k)=m at*
 have ee:Value.int .i64 (((k+m+1:Nat):Int)-1)=ni (k+m):=by show Value.int .i64 _=Value.int .i64 _;congr 1;omega
 by_cases h0:m=0
 ·subst h0
  refine Xi ?_;refine Qta ?_;exact QBa
 ·have h1':¬(((k+m+1:Nat):Int)=k+1):=by omega
  have hm:0<m:=by omega
  by_cases hz:c=0
  ·have hz3:c.toNat=0:=by rw[hz];rfl
   rw[show (!(decide (0<m)&&decide (c=0)))=false by simp[hm,hz]]
   refine Xr ?_;(refine Z1 (op:= .sub) (r':=ni (k+m)) (u:= .int .i64 ((k+m+1:Nat):Int)) (v:= .int .i64 1) ?_ (hr':=by exact ee) (hr:=by exact Yl (by unfold XT;omega)));refine W3_ ?_;refine QF ?_;exact X1 ⟨_,Xw 6 (y:=ab false) (AVal.le_of_eq (by refine Eq.trans (b:=ab (decide ((c.toNat:Int)≠0))) rfl ?_;simp[hz3])),⟨rfl,trivial⟩,X2 _⟩
  ·have hz3:¬(c.toNat=0):=fun h=>hz (UInt8.toNat_inj.1 h)
   rw[show (!(decide (0<m)&&decide (c=0)))=true by simp[hm,hz]]
   refine Xr ?_;(refine Z1 (op:= .sub) (r':=ni (k+m)) (u:= .int .i64 ((k+m+1:Nat):Int)) (v:= .int .i64 1) ?_ (hr':=by exact ee) (hr:=by exact Yl (by unfold XT;omega)));refine W3_ ?_;refine QF ?_;exact X1 ⟨_,Xw 6 (y:=ab true) (AVal.le_of_eq (by refine Eq.trans (b:=ab (decide ((c.toNat:Int)≠0))) rfl ?_;simp[hz3])),⟨rfl,trivial⟩,X2 _⟩
theorem Xo3 {b:List UInt8}{a:Int}:Xz b a=if (Ye b a).2.2≠0 then (0,0,(Ye b a).2.2) else if 9223372036854775807<(Ye b a).1 then (0,0,4) else if V1 b a=true then (0,0,2) else (((Ye b a).1:Int),(Ye b a).2.1,0):=rfl
theorem XjT {b:List UInt8}{a:Int}:XW b a=if (Ye b a).2.2≠0 then (0,0,(Ye b a).2.2) else if V1 b a=true then (0,0,2) else (zag (Ye b a).1,(Ye b a).2.1,0):=rfl
theorem X5f (b:List UInt8) (a:Int) (hb:b.length≤281474976710656):Con Tryz.prog 75 [] [.d (Xk b),ai a] [] (aN3 (Xz b a)):=by
 refine Xg (xs:=[ai (Xz b a).1,ai (Xz b a).2.1,ai (Xz b a).2.2]) Tryz.func75 rfl Tryz.ntmps75 rfl rfl rfl (fun E=> ?_)
 have hr:=Xi2 b a hb
 have hlt:=Xah (b:=b) (a:=a)
 have hmin:=Xfn b a (hb:=hb)
 rw[Xo3]
 generalize V1 b a=p at*
 generalize Ye b a=r at*
 obtain⟨u,e,err⟩:=r
 simp only at hlt hmin ⊢
 by_cases h2:err=0
 ·have hm:=hmin h2
  rw[if_neg (by simpa using h2)]
  by_cases h1:9223372036854775807<u
  ·rw[if_pos h1]
   refine Qdd ?_;refine Qma ?_;exact QRc
  rw[if_neg h1]
  cases p with
  |true=>
   rw[if_pos rfl]
   refine Qdd ?_;refine Qma ?_;refine Qma ?_;refine Z3 (hcon:=hm) ?_;refine W2_ ?_;exact QRc
  |false=>
   rw[if_neg (by simp)]
   refine Qdd ?_;refine Qma ?_;refine Qma ?_;refine Z3 (hcon:=hm) ?_;refine W2_ ?_;refine Qg ?_;(refine Z0 (u:=n64 u) (r:=ni u) ?_ (hr:=by exact YQ rfl rfl (by rw[XJ];omega)));exact Qcd
 ·rw[if_pos h2]
  refine Qdd ?_;exact QXc
theorem X5l (b:List UInt8) (a:Int) (hb:b.length≤281474976710656):Con Tryz.prog 277 [] [.d (Xk b),ai a] [] (aN3 (XW b a)):=by
 refine Xg (xs:=[ai (XW b a).1,ai (XW b a).2.1,ai (XW b a).2.2]) Tryz.func277 rfl Tryz.ntmps277 rfl rfl rfl (fun E=> ?_)
 have hr:=Xi2 b a hb
 have hlt:=Xah (b:=b) (a:=a)
 have hmin:=Xfn b a (hb:=hb)
 rw[XjT]
 generalize V1 b a=p at*
 generalize Ye b a=r at*
 obtain⟨u,e,err⟩:=r
 simp only at hlt hmin ⊢
 by_cases h2:err=0
 ·have hm:=hmin h2
  rw[if_neg (by simpa using h2)]
  cases p with
  |true=>
   rw[if_pos rfl]
   refine Qdd ?_;refine Qma ?_;refine Z3 (hcon:=hm) ?_;refine W2_ ?_;exact QRc
  |false=>
   rw[if_neg (by simp)]
   have hx:∀w,(Op.unary .neg (ni (u/2))).run Tryz.prog w= .ok (.int .i64 (-((u/2:Nat):Int))) w:=fun w=>Xbo (P:=Tryz.prog) (by omega) w
   by_cases hodd:u%2=1
   ·rw[show zag u= -((u/2:Nat):Int)-1 by unfold zag;rw[if_pos hodd]]
    refine Qdd ?_;refine Qma ?_;refine Z3 (hcon:=hm) ?_;refine Qzd ?_;refine Z2 (op:= .rem) (r':=n64 (u%2)) (u:=n64 u) (v:=n64 2) ?_ (hr:=by exact US (by omega));refine W2_ ?_;refine Qqc ?_
    (refine Z2 (op:= .quo) (r':=n64 (u/2)) (u:=n64 u) (v:=n64 2) ?_ (hr:=by exact X0b (by omega) (by rw[Yf];omega)))
    (refine Z0 (u:=n64 (u/2)) (r:=ni (u/2)) ?_ (hr:=by exact YQ rfl rfl (by rw[XJ];omega)));refine Z4 (u:=ni (u/2)) (r:= .int .i64 (-((u/2:Nat):Int))) ?_ (hr:=by exact hx);refine W6_ ?_;exact QQc
   ·rw[show zag u=((u/2:Nat):Int) by unfold zag;rw[if_neg hodd]]
    refine Qdd ?_;refine Qma ?_;refine Z3 (hcon:=hm) ?_;refine Qzd ?_;refine Z2 (op:= .rem) (r':=n64 (u%2)) (u:=n64 u) (v:=n64 2) ?_ (hr:=by exact US (by omega));refine W2_ ?_;refine Qg ?_
    (refine Z2 (op:= .quo) (r':=n64 (u/2)) (u:=n64 u) (v:=n64 2) ?_ (hr:=by exact X0b (by omega) (by rw[Yf];omega)))
    (refine Z0 (u:=n64 (u/2)) (r:=ni (u/2)) ?_ (hr:=by exact YQ rfl rfl (by rw[XJ];omega)));exact Qcd
 ·rw[if_pos h2]
  refine Qdd ?_;exact QXc
theorem Xg5 (b:List UInt8) (a most:Int) (hb:b.length≤281474976710656):Con Tryz.prog 219 [] [.d (Xk b),ai a,ai most] [] (X5D (XH (U2 b a most).1) (U2 b a most).2.1 (U2 b a most).2.2):=by
 refine Xg (xs:=[XH (U2 b a most).1,ai (U2 b a most).2.1,ai (U2 b a most).2.2]) Tryz.func219 rfl Tryz.ntmps219 rfl rfl rfl (fun E=> ?_)
 have hr:=X5f b a hb
 have hf:=X61 (b:=b) (a:=a)
 rw[XiM]
 generalize Xz b a=r at*
 obtain⟨n,f,err⟩:=r
 simp only at hf ⊢
 by_cases h2:err=0
 ·obtain⟨n,f,rfl,rfl,hf1,hf2⟩:=hf h2
  rw[if_neg (by simpa using h2)]
  by_cases h3:most<(n:Int)
  ·rw[if_pos h3]
   refine Qdd ?_;refine QWb ?_;exact QRc
  rw[if_neg h3]
  by_cases h4:(b.length:Int)-f<n
  ·rw[if_pos h4]
   refine Qdd ?_;refine QWb ?_;refine QZb ?_;exact QRc
  rw[if_neg h4]
  have hsl:((b.map Xc).take (f+n)).drop f=((b.drop f).take n).map Xc:=by rw[List.map_take,List.map_drop,List.drop_take,Nat.add_sub_cancel_left]
  refine Qdd ?_;refine QWb ?_;refine QZb ?_;refine Qma ?_;(refine Z2 (op:= .add) (r':=ni (f+n)) (u:=ni f) (v:=ni n) ?_ (hr:=by exact Ym (by rw[XJ];omega)));refine Qfd ?_;refine W3_ ?_;(refine Z2 (op:= .add) (r':=ni (f+n)) (u:=ni f) (v:=ni n) ?_ (hr:=by exact Ym (by rw[XJ];omega)));refine W4_ ?_;exact QQc
 ·rw[if_pos h2]
  refine Qdd ?_;exact QXc
theorem Xl9 (b:List UInt8) (a:Int) (hb:b.length≤140737488355328):Con Tryz.prog 74 [] [.d (Xk b),ai a] [] (X5D (.d (Xk (UZ b a).1)) (UZ b a).2.1 (UZ b a).2.2):=by
 refine Xg (xs:=[.d (Xk (UZ b a).1),ai (UZ b a).2.1,ai (UZ b a).2.2]) Tryz.func74 rfl Tryz.ntmps74 rfl rfl rfl (fun E=> ?_)
 have hr:=X5f b a (by omega)
 have hf:=X61 (b:=b) (a:=a)
 rw[XiB]
 generalize Xz b a=r at*
 obtain⟨n,f,err⟩:=r
 simp only at hf ⊢
 by_cases h2:err=0
 ·obtain⟨n,f,rfl,rfl,hf1,hf2⟩:=hf h2
  rw[if_neg (by simpa using h2)]
  by_cases h3:(b.length:Int)-f<4
  ·rw[if_pos (.inl h3)]
   refine Qdd ?_;refine QUc ?_;refine QL ?_;refine QK ?_;exact Qhd
  by_cases h4:(b.length:Int)-f-4<n
  ·rw[if_pos (.inr h4)]
   refine Qdd ?_;refine JF ?_;refine XD ?_;refine QP ?_;exact Qhd
  rw[if_neg (by omega)]
  have hsl:((b.map Xc).take (f+n)).drop f=((b.drop f).take n).map Xc:=by rw[List.map_take,List.map_drop,List.drop_take,Nat.add_sub_cancel_left]
  have hbl:((b.drop f).take n).length=n:=by simp;omega
  refine Qdd ?_;refine JF ?_;refine XD ?_;refine Qlh ?_;(refine Z2 (op:= .add) (r':=ni (f+n)) (u:=ni f) (v:=ni n) ?_ (hr:=by exact Ym (by rw[XJ];omega)));refine Qfd ?_;refine W7_ ?_;(refine Z2 (op:= .add) (r':=ni (f+n)) (u:=ni f) (v:=ni n) ?_ (hr:=by exact Ym (by rw[XJ];omega)));refine W3_ ?_;refine Xq (Yg 100 rfl) ?_;refine Xq (Yx 10 100 rfl rfl (by simp)) ?_
  have et:((f:Int)+(n:Int)).toNat=f+n:=by omega
  rw[et,Int.toNat_natCast,Int.toNat_natCast]
  obtain⟨y0,g0⟩:=XI (l:=b) (k:=f+n) (by omega)
  obtain⟨y1,g1⟩:=XI (l:=b) (k:=f+n+1) (by omega)
  obtain⟨y2,g2⟩:=XI (l:=b) (k:=f+n+2) (by omega)
  obtain⟨y3,g3⟩:=XI (l:=b) (k:=f+n+3) (by omega)
  have z0:=y0.toNat_lt
  have z1:=y1.toNat_lt
  have z2:=y2.toNat_lt
  have z3:=y3.toNat_lt
  have ha:X0s b (f+n)=y0.toNat+256*y1.toNat+65536*y2.toNat+16777216*y3.toNat:=by unfold X0s;rw[g0,g1,g2,g3];rfl
  rw[ha]
  generalize (b.drop f).take n=body at*
  by_cases hs:y0.toNat+256*y1.toNat+65536*y2.toNat+16777216*y3.toNat=YE body
  ·rw[if_neg (by simpa using hs)]
   refine W8_ ?_;(refine Z2 (op:= .add) (r':=ni (f+n+1)) (u:=ni (f+n)) (v:=ni 1) ?_ (hr:=by exact Ym (by rw[XJ];omega)));refine W3_ ?_
   (refine Z2 (op:= .mul) (r':=ni (256*y1.toNat)) (u:=ni 256) (v:=ni y1.toNat) ?_ (hr:=by exact V0 (by rw[XJ];omega)))
   (refine Z2 (op:= .add) (r':=ni (y0.toNat+256*y1.toNat)) (u:=ni y0.toNat) (v:=ni (256*y1.toNat)) ?_ (hr:=by exact Ym (by rw[XJ];omega)));refine W2_ ?_;(refine Z2 (op:= .add) (r':=ni (f+n+2)) (u:=ni (f+n)) (v:=ni 2) ?_ (hr:=by exact Ym (by rw[XJ];omega)));refine W3_ ?_
   (refine Z2 (op:= .mul) (r':=ni (65536*y2.toNat)) (u:=ni 65536) (v:=ni y2.toNat) ?_ (hr:=by exact V0 (by rw[XJ];omega)))
   (refine Z2 (op:= .add) (r':=ni (y0.toNat+256*y1.toNat+65536*y2.toNat)) (u:=ni (y0.toNat+256*y1.toNat)) (v:=ni (65536*y2.toNat)) ?_ (hr:=by exact Ym (by rw[XJ];omega)));refine W2_ ?_;(refine Z2 (op:= .add) (r':=ni (f+n+3)) (u:=ni (f+n)) (v:=ni 3) ?_ (hr:=by exact Ym (by rw[XJ];omega)));refine W3_ ?_
   (refine Z2 (op:= .mul) (r':=ni (16777216*y3.toNat)) (u:=ni 16777216) (v:=ni y3.toNat) ?_ (hr:=by exact V0 (by rw[XJ];omega)))
   (refine Z2 (op:= .add) (r':=ni (y0.toNat+256*y1.toNat+65536*y2.toNat+16777216*y3.toNat)) (u:=ni (y0.toNat+256*y1.toNat+65536*y2.toNat)) (v:=ni (16777216*y3.toNat)) ?_ (hr:=by exact Ym (by rw[XJ];omega)))
   refine W7_ ?_;refine Z3 (hcon:=Xbj body) ?_;refine W2_ ?_;refine QUc ?_;exact X1 ⟨_,St.le_trans (Xw 4 (y:= .d (Xk body)) (AVal.le_refl _)) (Xw 5 (y:=ai ((f:Int)+n+4)) (AVal.le_of_eq (by refine Eq.trans (b:=ai _) rfl ?_;simp))),⟨rfl,rfl,rfl,trivial⟩,X2 _⟩
  ·rw[if_pos hs]
   refine W8_ ?_;(refine Z2 (op:= .add) (r':=ni (f+n+1)) (u:=ni (f+n)) (v:=ni 1) ?_ (hr:=by exact Ym (by rw[XJ];omega)));refine W3_ ?_
   (refine Z2 (op:= .mul) (r':=ni (256*y1.toNat)) (u:=ni 256) (v:=ni y1.toNat) ?_ (hr:=by exact V0 (by rw[XJ];omega)))
   (refine Z2 (op:= .add) (r':=ni (y0.toNat+256*y1.toNat)) (u:=ni y0.toNat) (v:=ni (256*y1.toNat)) ?_ (hr:=by exact Ym (by rw[XJ];omega)));refine W2_ ?_;(refine Z2 (op:= .add) (r':=ni (f+n+2)) (u:=ni (f+n)) (v:=ni 2) ?_ (hr:=by exact Ym (by rw[XJ];omega)));refine W3_ ?_
   (refine Z2 (op:= .mul) (r':=ni (65536*y2.toNat)) (u:=ni 65536) (v:=ni y2.toNat) ?_ (hr:=by exact V0 (by rw[XJ];omega)))
   (refine Z2 (op:= .add) (r':=ni (y0.toNat+256*y1.toNat+65536*y2.toNat)) (u:=ni (y0.toNat+256*y1.toNat)) (v:=ni (65536*y2.toNat)) ?_ (hr:=by exact Ym (by rw[XJ];omega)));refine W2_ ?_;(refine Z2 (op:= .add) (r':=ni (f+n+3)) (u:=ni (f+n)) (v:=ni 3) ?_ (hr:=by exact Ym (by rw[XJ];omega)));refine W3_ ?_
   (refine Z2 (op:= .mul) (r':=ni (16777216*y3.toNat)) (u:=ni 16777216) (v:=ni y3.toNat) ?_ (hr:=by exact V0 (by rw[XJ];omega)))
   (refine Z2 (op:= .add) (r':=ni (y0.toNat+256*y1.toNat+65536*y2.toNat+16777216*y3.toNat)) (u:=ni (y0.toNat+256*y1.toNat+65536*y2.toNat)) (v:=ni (16777216*y3.toNat)) ?_ (hr:=by exact Ym (by rw[XJ];omega)))
   refine W7_ ?_;refine Z3 (hcon:=Xbj body) ?_;refine W2_ ?_;exact Qhd
 ·rw[if_pos h2]
  refine Qdd ?_;refine QWc ?_;exact Qgd
open Go
theorem XpE {m:Nat}{k n d:Int}{s:List UInt8}{l:List Val} (h:Xe m (.mk k n d s l)=true):s.length≤100∧l.length≤64:=by
 rw[Xe] at h
 by_cases h4:k=4
 ·subst h4;simp at h;exact⟨by omega,by rw[h.1.2];simp⟩
 by_cases h7:k=7
 ·subst h7;simp at h;exact⟨by rw[h.1.2];simp,by omega⟩
 by_cases h8:k=8
 ·subst h8;simp at h;exact⟨by rw[h.1.2];simp,by omega⟩
 simp[h4,h7,h8] at h
 exact⟨by rw[h.1.1.2];simp,by rw[h.1.2];simp⟩
theorem Xb6:∀(v:Val) (m:Nat),Xe m v=true→Yp v
 | .mk k n d s l,m,h=>by
  have h1:=XpE h
  rw[Yp]
  exact⟨by omega,by omega,X9c fun x hx=>Xb6 x m (Xay h x hx)⟩
termination_by v=>SizeOf.sizeOf v
decreasing_by
 have h1:=List.sizeOf_lt_of_mem (show x∈l from hx)
 simp only[Val.mk.sizeOf_spec]
 omega
theorem XdV (b:List UInt8) (a most:Int) (hm:0≤most):((U2 b a most).1.length:Int)≤most:=by
 obtain⟨n,hn⟩:=X4V b a
 unfold U2
 simp only
 split
 ·simpa using hm
 split
 ·simpa using hm
 split
 ·simpa using hm
 ·rename_i h1 h2 h3
  rw[hn] at h2 ⊢
  simp
  omega
theorem XfZ {g:Nat→Int→Val×Int×Int}{a:Int} (hg:∀i q,(g i q).2.2=0→Xe 8 (g i q).1=true):∀k,(Y8 g a k).2.2=0→∀x∈(Y8 g a k).1,Xe 8 x=true
 |0,_,x,hx=>by simp[Y8] at hx
 |k+1,h,x,hx=>by
  by_cases e:(Y8 g a k).2.2=0
  ·rw[X30 e] at h hx
   rcases List.mem_append.1 hx with hx|hx
   ·exact XfZ hg k e x hx
   ·obtain rfl:=List.mem_singleton.1 hx
    exact hg _ _ h
  ·rw[X3f e (k+1) (by omega)] at h;exact absurd h e
theorem Xqg {k n:Int} (h:Vv k n=false):n≤64:=by
 unfold Vv at h
 split at h<;>simp at h<;>omega
theorem Xom {gl gp:Nat→Int→Val×Int×Int}{b:List UInt8}{a k:Int} (hgl:∀i q,(gl i q).2.2=0→Xe 8 (gl i q).1=true) (hgp:∀i q,(gp i q).2.2=0→Xe 8 (gp i q).1=true)
  (h:(YU gl gp b a k).2.2=0):Yp (YU gl gp b a k).1:=by
 unfold YU at h ⊢
 split
 ·simp[Yp,X0n]
 rename_i h1;rw[if_neg h1] at h
 split
 ·simp only;split<;>simp[Yp,X0n]
 rename_i h2;rw[if_neg h2] at h
 split
 ·have:=XdV b a 100 (by omega)
  simp only[Yp,X0n]
  exact⟨by omega,by simp,trivial⟩
 rename_i h3;rw[if_neg h3] at h
 split
 ·rename_i h4;rw[if_pos h4] at h
  simp only at h ⊢
  split
  ·simp[Yp,X0n]
  rename_i h5;rw[if_neg h5] at h
  split
  ·simp[Yp,X0n]
  rename_i h6;rw[if_neg h6] at h
  have h6:=Xqg (by simpa using h6)
  have hall:∀g,(g=gl∨g=gp)→(Y8 g (Xz b a).2.1 (Xz b a).1.toNat).2.2=0→Yp (.mk k 0 0 [] (Y8 g (Xz b a).2.1 (Xz b a).1.toNat).1):=by
   intro g hg he
   have hl:=Xgs he
   simp only[Yp]
   refine⟨by simp,by rw[hl];omega,X9c fun x hx=>Xb6 x 8 (XfZ (fun i q hh=> ?_) _ he x hx)⟩
   rcases hg with rfl|rfl
   ·exact hgl i q hh
   ·exact hgp i q hh
  simp only at h
  split
  ·rename_i h7;rw[if_pos h7] at h;exact hall gl (.inl rfl) h
  ·rename_i h7;rw[if_neg h7] at h;exact hall gp (.inr rfl) h
 ·simp[Yp,X0n]
theorem X5u:Yp zV:=by rw[Yp];exact⟨by simp,by simp,by rw[X0n];trivial⟩
theorem XmW (b:List UInt8) (a e:Int):(rsS b a e).1.length≤20:=by
 unfold rsS
 split
 ·simp
 ·have:=XdV b a 20 (by omega)
  omega
theorem XpG (b:List UInt8) (a e:Int):Yp (rvS b a e).1:=by
 unfold rvS
 split
 ·exact X5u
 ·by_cases hz:(Ug b a).2.2=0
  ·have:=XbY (b:=b) (a:=a) (v:=(Ug b a).1) (e:=(Ug b a).2.1) (by rw[←hz])
   exact Xb6 _ _ this.2.1
  ·unfold Ug at hz ⊢
   split
   ·exact X5u
   ·rename_i h1
    rw[if_neg h1] at hz
    simp only at hz ⊢
    split
    ·exact X5u
    ·rename_i h2
     rw[if_neg h2] at hz
     exact absurd (by simpa using h2) hz
theorem XdF (b:List UInt8) (a e:Int):X3c (UP b a e).1:=by
 unfold UP
 constructor
 ·simp only
  by_cases h:Yo (rkI b a e 8).1=true
  ·simp only[if_pos h]
   exact Nat.le_trans (XmW _ _ _) (by omega)
  ·simp only[if_neg h]
   simp
 ·simp only
  by_cases h:Yi (rkI b a e 8).1=true
  ·simp only[if_pos h]
   exact XpG _ _ _
  ·simp only[if_neg h]
   exact X5u
def X1I (r:Val×Int×Int):Val×Int×Int:=if r.2.2≠0 then (zV,0,r.2.2) else r
def X3z (g:Nat→Int→Val×Int×Int) (b:List UInt8) (a k:Int):Val×Int×Int:=
 let c:=Xz b a
 if c.2.2≠0 then (.mk k 0 0 [] [],0,c.2.2) else if Vv k c.1 then (.mk k 0 0 [] [],0,2) else
  let p:=Y8 g c.2.1 c.1.toNat;if p.2.2≠0 then (.mk k 0 0 [] p.1.dropLast,0,p.2.2) else (.mk k 0 0 [] p.1,p.2.1,0)
def UV (gl gp:Nat→Int→Val×Int×Int) (b:List UInt8) (a k:Int):Val×Int×Int:=
 if k=7∨k=8 then X3z (if k=8 then gl else gp) b a k else YU gl gp b a k
theorem Xfm (gl gp:Nat→Int→Val×Int×Int) (b:List UInt8) (a k:Int):
  (UV gl gp b a k).2.2=(YU gl gp b a k).2.2∧((YU gl gp b a k).2.2=0→UV gl gp b a k=YU gl gp b a k):=by
 unfold UV
 by_cases h:k=7∨k=8
 ·rw[if_pos h]
  have h1:¬(k=1∨k=2∨k=5∨k=6):=by omega
  have h3:¬k=3:=by omega
  have h4:¬k=4:=by omega
  unfold X3z YU
  rw[if_neg h1,if_neg h3,if_neg h4,if_pos h]
  simp only
  by_cases e1:(Xz b a).2.2=0
  ·have e1':¬(Xz b a).2.2≠0:=fun h=>h e1
   simp only[if_neg e1']
   by_cases e2:Vv k (Xz b a).1=true
   ·simp only[if_pos e2]
    exact⟨trivial,fun h=>absurd h (by decide)⟩
   ·simp only[if_neg e2]
    generalize Y8 (if k=8 then gl else gp) (Xz b a).2.1 (Xz b a).1.toNat=p
    by_cases e3:p.2.2=0
    ·have e3':¬p.2.2≠0:=fun h=>h e3
     simp only[if_neg e3']
     exact⟨e3.symm,fun _=>by rw[←e3]⟩
    ·have e3':p.2.2≠0:=e3
     simp only[if_pos e3']
     exact⟨trivial,fun h=>absurd h e3⟩
  ·have e1':(Xz b a).2.2≠0:=e1
   simp only[if_pos e1']
   exact⟨trivial,fun h=>absurd h e1⟩
 ·rw[if_neg h]
  exact⟨rfl,fun _=>rfl⟩
theorem XrV (gl gp:Nat→Int→Val×Int×Int) (m:Nat) (b:List UInt8) (a want:Int):X1I (Vm gl gp m b a want)=
  if a=b.length then (zV,0,3) else
  if 8<((((b[a.toNat]?).getD 0).toNat:Nat):Int)∨(((((b[a.toNat]?).getD 0).toNat:Nat):Int)=8∧m=0)∨(want≠0∧((((b[a.toNat]?).getD 0).toNat:Nat):Int)≠want) then (zV,0,2) else
   if (UV gl gp b (a+1) (((b[a.toNat]?).getD 0).toNat:Nat)).2.2≠0 then (zV,0,(UV gl gp b (a+1) (((b[a.toNat]?).getD 0).toNat:Nat)).2.2) else
   if Xe 8 (UV gl gp b (a+1) (((b[a.toNat]?).getD 0).toNat:Nat)).1=false then (zV,0,2) else UV gl gp b (a+1) (((b[a.toNat]?).getD 0).toNat:Nat):=by
 unfold Vm
 by_cases h1:a=b.length
 ·rw[if_pos h1,if_pos h1];rfl
 rw[if_neg h1,if_neg h1]
 simp only
 generalize ((((b[a.toNat]?).getD 0).toNat:Nat):Int)=k
 by_cases h2:8<k∨(k=8∧m=0)∨(want≠0∧k≠want)
 ·rw[if_pos h2,if_pos h2];rfl
 rw[if_neg h2,if_neg h2]
 obtain⟨e1,e2⟩:=Xfm gl gp b (a+1) k
 generalize YU gl gp b (a+1) k=c at*
 by_cases e3:c.2.2=0
 ·have e3':¬c.2.2≠0:=fun h=>h e3
  rw[e2 e3,if_neg e3']
  by_cases e4:Xe 8 c.1=false
  ·rw[if_pos ⟨e3,e4⟩,if_pos e4];rfl
  ·rw[if_neg (fun h=>e4 h.2),if_neg e4]
   unfold X1I
   rw[if_neg e3']
 ·rw[if_neg (fun h=>e3 h.1),e1,if_pos e3]
  unfold X1I
  rw[if_pos e3]
theorem Xqy (b:List UInt8) (a:Int):Ug b a=if a<0∨(b.length:Int)<a then (zV,0,1) else X1I (X0t b 8 a):=rfl
theorem Xmu {b:List UInt8}{a:Int} (h:(XW b a).2.2≠0):(XW b a).2.1=0:=by
 unfold XW at h ⊢
 simp only at h ⊢
 split
 ·rfl
 ·rename_i h1
  rw[if_neg h1] at h
  split
  ·rfl
  ·rename_i h2
   rw[if_neg h2] at h
   exact absurd rfl h
def X44 (b:List UInt8) (a:Nat) (lists path:Int) (r:Val×Int×Int):Prop:=
 Con Tryz.prog 253 [] [.d (Xk b),ai a,ai lists,ai path] [] (.tup [Xv r.1,ai r.2.1,ai r.2.2])
def X5c (b:List UInt8) (a:Int) (k lists:Int) (r:Val×Int×Int):Prop:=
 Con Tryz.prog 278 [] [.d (Xk b),ai a,ai k,ai lists] [] (.tup [Xv r.1,ai r.2.1,ai r.2.2])
theorem Xoi (b:List UInt8) (m:Nat) (a:Int) (gl:Nat→Int→Val×Int×Int) (R:Val×Int×Int) (hm:m≤8) (hb:b.length≤281474976710656)
  (hge:∀i q:Nat,q≤b.length→VS b (gl i q).2) (hg:∀i q:Nat,q≤b.length→X44 b q (8-m+1) (-1) (X1I (gl i q))) (hG:R=X3z gl b a 8):X5c b a 8 (8-m) R:=by
 refine Xg (xs:=[Xv R.1,ai R.2.1,ai R.2.2]) Tryz.func278 rfl Tryz.ntmps278 rfl rfl rfl (fun E=> ?_)
 have hc:=X5f b a hb
 have hue:=X45 b a
 unfold X3z at hG
 simp only at hG
 obtain⟨N,hN⟩:=X4V b a
 generalize Xz b a=u at*
 obtain⟨n,a2,e2⟩:=u
 simp only at hN
 subst hN
 simp only[Int.toNat_natCast] at hc hG hue
 by_cases he2:e2=0
 case neg=>
  rw[if_pos he2] at hG
  subst hG
  refine Qni ?_;refine QCd ?_;exact Qoi
 subst he2
 rw[if_neg (by simp)] at hG
 have h00:=hue rfl
 simp only at h00
 clear hue
 by_cases hN:64<N
 ·rw[if_pos (by simp[Vv];omega)] at hG
  subst hG
  have hN':(N:Int)>64:=by omega
  refine Qni ?_;refine Qed ?_;refine Qs ?_;refine Qw ?_;refine QX ?_;refine QVa ?_;refine Qaf ?_;exact Qoi
 rw[if_neg (by simp[Vv];omega)] at hG
 have hN':¬(N:Int)>64:=by omega
 refine Qni ?_;refine Qed ?_;refine QAa ?_;refine Qw ?_;refine QVa ?_;refine QE ?_;refine QXb ?_;refine Xq (X3S 101 4 121 5 (cs:=[ai 8,ai 0,ai 0,.d (.v (.string (Xb []))),ani]) rfl rfl rfl rfl rfl) ?_
 refine XK (fun i:Nat=>i≤N∧(Y8 gl a2 i).2.2=0∧(Y8 gl a2 i).1.length=i) (fun i=>⟨87,[(0,.d (Xk b)),(2,ai 8),(3,ai (8-m)),(8,.ptr 100 0),(11,.ptr 101 0),(12,ai N),(13,ai (Y8 gl a2 i).2.1),(15,ai i)],[(100,.box [ai 0,ai 0,ai 0,.d (.v (.string (Xb []))),ani]),(101,.box [ai 8,ai 0,ai 0,.d (.v (.string (Xb []))),.own 121 (Y8 gl a2 i).1.length]),(121,.row 5 (XU (Y8 gl a2 i).1))]⟩) (fun i=>N-i) 0 ⟨by omega,rfl,rfl⟩
  (Xd rfl ⟨JL,JL,JL,JL,JL,JL,JL,JL,trivial⟩ ⟨rfl,rfl,rfl,trivial⟩) ?_
 intro i hi
 obtain⟨hi,hpe,hil⟩:=hi
 have hlen:=X0l (Y8 gl a2 i).1
 by_cases hiN:i<N
 case neg=>
  obtain rfl:i=N:=by omega
  rw[if_neg (by simpa using hpe)] at hG
  generalize Y8 gl a2 i=p at*
  obtain⟨l,pa,pe⟩:=p
  simp only at hpe hil hG hlen
  subst hpe hG
  refine QHe ?_;refine W7_ ?_;exact Qpi
 obtain⟨q,hq1,hq2⟩:=X4f hge h00 i hpe
 have hcall:=hg i q hq2
 unfold X44 at hcall
 have hsucc:=X30 hpe
 have hsl:=X8E hpe
 rw[hq1] at hsucc
 generalize gl i q=r at hcall hsucc
 by_cases hre:r.2.2=0
 case neg=>
  have hst:=X3f (g:=gl) (a:=a2) (k:=i+1) (by rw[hsucc];exact hre) N (by omega)
  rw[hst,if_pos (by rw[hsucc];exact hre),hsucc] at hG
  unfold X1I at hcall
  rw[if_pos hre] at hcall
  generalize Y8 gl a2 i=p at*
  obtain⟨l,pa,pe⟩:=p
  obtain⟨x,xa,xe⟩:=r
  simp only[List.dropLast_concat] at hq1 hpe hil hG hlen hcall hre
  clear hsucc hst hsl
  subst hG hq1 hpe
  simp only[Xv,XU] at hcall
  refine QHe ?_;refine W7_ ?_;refine JT ?_;refine Yw ?_;refine Qma ?_;refine Z3 (hcon:=hcall) ?_;refine XA ?_;refine QCd ?_;exact Qef
 have hpe2:(Y8 gl a2 (i+1)).2.2=0:=by rw[hsucc];exact hre
 unfold X1I at hcall
 rw[if_neg (by simpa using hre)] at hcall
 generalize Y8 gl a2 i=p at*
 obtain⟨l,pa,pe⟩:=p
 obtain⟨x,xa,xe⟩:=r
 simp only at hq1 hpe hil hsucc hlen hcall hre
 subst hq1 hpe hre
 obtain⟨xk,xn,xd,xs,xl⟩:=x
 simp only[Xv] at hcall
 skip
 refine W7_ ?_;refine JT ?_;refine Yw ?_;refine Qma ?_;refine Z3 (hcon:=hcall) ?_;refine Qpe ?_;refine X5m ?_
 refine⟨i+1,⟨by omega,hpe2,hsl⟩,by omega,?_⟩
 dsimp only
 rw[hsucc]
 refine Xd rfl ⟨JL,JL,JL,JL,JL,JL,JL,JL,trivial⟩ ⟨rfl,?_,?_,trivial⟩
 ·refine Eq.trans (b:=AObj.box ([ai 8,ai 0,ai 0,.d (.v (.string (Xb []))),.own 121 _])) rfl ?_
  congr 6;simp[hlen]
 ·exact QLe
theorem Xhg (b:List UInt8) (m:Nat) (a:Int) (gp:Nat→Int→Val×Int×Int) (R:Val×Int×Int) (hm:m≤8) (hb:b.length≤281474976710656)
  (hge:∀i q:Nat,q≤b.length→VS b (gp i q).2) (hg:∀i q:Nat,q≤b.length→X44 b q (8-m) i (X1I (gp i q))) (hG:R=X3z gp b a 7):X5c b a 7 (8-m) R:=by
 refine Xg (xs:=[Xv R.1,ai R.2.1,ai R.2.2]) Tryz.func278 rfl Tryz.ntmps278 rfl rfl rfl (fun E=> ?_)
 have hc:=X5f b a hb
 have hue:=X45 b a
 unfold X3z at hG
 simp only at hG
 obtain⟨N,hN⟩:=X4V b a
 generalize Xz b a=u at*
 obtain⟨n,a2,e2⟩:=u
 simp only at hN
 subst hN
 simp only[Int.toNat_natCast] at hc hG hue
 by_cases he2:e2=0
 case neg=>
  rw[if_pos he2] at hG
  subst hG
  refine Qni ?_;refine QCd ?_;exact Qqi
 subst he2
 rw[if_neg (by simp)] at hG
 have h00:=hue rfl
 simp only at h00
 clear hue
 by_cases hN:25<N
 ·rw[if_pos (by simp[Vv];omega)] at hG
  subst hG
  have hN':(N:Int)>25:=by omega
  refine Qni ?_;refine Qma ?_;refine QI ?_;refine W7_ ?_;refine Qrb ?_;refine Que ?_;refine QWc ?_;exact Qqi
 have hN':¬(N:Int)>25:=by omega
 by_cases hN3:N%2=0
 ·rw[if_pos (by simp[Vv];omega)] at hG
  subst hG
  have hN4:((N%2:Nat):Int)=0:=by omega
  refine Qni ?_;refine Qma ?_;refine QI ?_;refine W8_ ?_;refine Qri ?_;refine W1_ ?_;refine Qca ?_;refine QP ?_;refine QWc ?_;exact Qqi
 rw[if_neg (by simp[Vv];omega)] at hG
 have hN4:¬((N%2:Nat):Int)=0:=by omega
 refine Qni ?_;refine Qma ?_;refine QI ?_;refine W8_ ?_;refine Qri ?_;refine W1_ ?_;refine Qca ?_;refine QXb ?_;refine Xq (X3S 101 4 121 5 (cs:=[ai 7,ai 0,ai 0,.d (.v (.string (Xb []))),ani]) rfl rfl rfl rfl rfl) ?_
 refine XK (fun i:Nat=>i≤N∧(Y8 gp a2 i).2.2=0∧(Y8 gp a2 i).1.length=i) (fun i=>⟨87,[(0,.d (Xk b)),(2,ai 7),(3,ai (8-m)),(8,.ptr 100 0),(11,.ptr 101 0),(12,ai N),(13,ai (Y8 gp a2 i).2.1),(15,ai i)],[(100,.box [ai 0,ai 0,ai 0,.d (.v (.string (Xb []))),ani]),(101,.box [ai 7,ai 0,ai 0,.d (.v (.string (Xb []))),.own 121 (Y8 gp a2 i).1.length]),(121,.row 5 (XU (Y8 gp a2 i).1))]⟩) (fun i=>N-i) 0 ⟨by omega,rfl,rfl⟩
  (Xd rfl ⟨JL,JL,JL,JL,JL,JL,JL,JL,trivial⟩ ⟨rfl,rfl,rfl,trivial⟩) ?_
 intro i hi
 obtain⟨hi,hpe,hil⟩:=hi
 have hlen:=X0l (Y8 gp a2 i).1
 by_cases hiN:i<N
 case neg=>
  obtain rfl:i=N:=by omega
  rw[if_neg (by simpa using hpe)] at hG
  generalize Y8 gp a2 i=p at*
  obtain⟨l,pa,pe⟩:=p
  simp only at hpe hil hG hlen
  subst hpe hG
  refine QNe ?_;refine W7_ ?_;exact Qpi
 obtain⟨q,hq1,hq2⟩:=X4f hge h00 i hpe
 have hcall:=hg i q hq2
 unfold X44 at hcall
 have hsucc:=X30 hpe
 have hsl:=X8E hpe
 rw[hq1] at hsucc
 generalize gp i q=r at hcall hsucc
 by_cases hre:r.2.2=0
 case neg=>
  have hst:=X3f (g:=gp) (a:=a2) (k:=i+1) (by rw[hsucc];exact hre) N (by omega)
  rw[hst,if_pos (by rw[hsucc];exact hre),hsucc] at hG
  unfold X1I at hcall
  rw[if_pos hre] at hcall
  generalize Y8 gp a2 i=p at*
  obtain⟨l,pa,pe⟩:=p
  obtain⟨x,xa,xe⟩:=r
  simp only[List.dropLast_concat] at hq1 hpe hil hG hlen hcall hre
  clear hsucc hst hsl
  subst hG hq1 hpe
  simp only[Xv,XU] at hcall
  refine QNe ?_;refine W7_ ?_;refine JT ?_;refine Yw ?_;refine JT ?_;refine XA ?_;refine Z3 (hcon:=hcall) ?_;refine XA ?_;refine QCd ?_;exact Qef
 have hpe2:(Y8 gp a2 (i+1)).2.2=0:=by rw[hsucc];exact hre
 unfold X1I at hcall
 rw[if_neg (by simpa using hre)] at hcall
 generalize Y8 gp a2 i=p at*
 obtain⟨l,pa,pe⟩:=p
 obtain⟨x,xa,xe⟩:=r
 simp only at hq1 hpe hil hsucc hlen hcall hre
 subst hq1 hpe hre
 obtain⟨xk,xn,xd,xs,xl⟩:=x
 simp only[Xv] at hcall
 skip
 refine W7_ ?_;refine JT ?_;refine Yw ?_;refine JT ?_;refine XA ?_;refine Z3 (hcon:=hcall) ?_;refine Qpe ?_;refine X5m ?_
 refine⟨i+1,⟨by omega,hpe2,hsl⟩,by omega,?_⟩
 dsimp only
 rw[hsucc]
 refine Xd rfl ⟨JL,JL,JL,JL,JL,JL,JL,JL,trivial⟩ ⟨rfl,?_,?_,trivial⟩
 ·refine Eq.trans (b:=AObj.box ([ai 7,ai 0,ai 0,.d (.v (.string (Xb []))),.own 121 _])) rfl ?_
  congr 6;simp[hlen]
 ·exact QLe
end Go.Fw

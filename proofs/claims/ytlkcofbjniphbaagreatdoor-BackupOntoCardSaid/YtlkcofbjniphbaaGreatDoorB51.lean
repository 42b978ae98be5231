/- The reader of records: the reference's. -/
import Derived.KernelRfl
import Derived.Test.YtlkcofbjniphbaaGreatDoorB43
import Derived.Test.YtlkcofbjniphbaaGreatDoorB50
set_option maxHeartbeats 64000000
namespace Go.Fw
open Go Go.Proofs
set_option maxRecDepth 100000
set_option linter.unusedVariables false
set_option linter.unusedSimpArgs false
abbrev X10 (b:List UInt8) (a e:Int):AVal:= .agg [.d (Xk b),ai a,ai e]
theorem Xqs:Con Tryz.prog 220 [] [] [] (Xv zV):=by
 refine Xg (xs:=[Xv zV]) Tryz.func220 rfl Tryz.ntmps220 rfl rfl rfl (fun E=> ?_)
 refine W9_ ?_;exact X1 ⟨_,XF 100 (cs':=[ai 0,ai 0,ai 0,XH [],.d (.sl 5 [])]) rfl JM rfl,⟨⟨100,0,_,rfl,rfl,.inr ⟨5,_,rfl,rfl,rfl,rfl⟩⟩,trivial⟩,X2 _⟩
theorem Xll (b:List UInt8) (a e limit:Int) (hb:b.length≤281474976710656) (ha:e=0→0≤a∧a≤b.length):Con Tryz.prog 177 [] [X10 b a e,ai limit] [] (.tup [X10 b (rkI b a e limit).2.1 (rkI b a e limit).2.2,ai (rkI b a e limit).1]):=by
 refine Xg (xs:=[X10 b (rkI b a e limit).2.1 (rkI b a e limit).2.2,ai (rkI b a e limit).1]) Tryz.func177 rfl Tryz.ntmps177 rfl rfl rfl (fun E=> ?_)
 have hlm:(b.map Xc).length=b.length:=by simp
 unfold rkI
 by_cases he:e=0
 case neg=>
  rw[if_pos he]
  exact QDi
 subst he
 rw[if_neg (by simp)]
 obtain⟨m,rfl⟩:∃m:Nat,a=m:=⟨a.toNat,by have:=ha rfl;omega⟩
 rw[Int.toNat_natCast]
 by_cases h1:b.length≤m
 ·rw[show rkS b m 0 limit=(0,(m:Int),3) by unfold rkS;rw[if_neg (by simp),if_pos h1]]
  have h1':((b.map Xc).length:Int)≤m:=by omega
  refine Qoe ?_;refine Xi ?_;exact QEi
 have h1':¬((b.map Xc).length:Int)≤m:=by omega
 obtain⟨c,hc⟩:=XI (l:=b) (k:=m) (by omega)
 have hrk:rkS b m 0 limit=if ((c.toNat:Nat):Int)<1∨limit<((c.toNat:Nat):Int) then (0,(m:Int),2) else (((c.toNat:Nat):Int),(m:Int)+1,0):=by
  unfold rkS;rw[if_neg (by simp),if_neg h1,hc,Option.getD_some]
 have hxm:(b.map Xc)[m]? =some (Xc c):=Y5 hc
 by_cases h2:((c.toNat:Nat):Int)<1
 ·rw[hrk,if_pos (.inl h2)]
  refine Qoe ?_;refine Xi ?_;refine JF ?_;refine Us ?_;refine QK ?_;exact QEi
 by_cases h3:limit<((c.toNat:Nat):Int)
 ·rw[hrk,if_pos (.inr h3)]
  refine Qoe ?_;refine Xi ?_;refine JF ?_;refine UY ?_;refine QP ?_;exact QEi
 rw[hrk,if_neg (by omega)]
 refine Qoe ?_;refine Xi ?_;refine JF ?_;refine UY ?_;refine QU ?_;refine Yc ?_;exact Qwh
theorem XcL (b:List UInt8) (a e:Int) (hb:b.length≤281474976710656):Con Tryz.prog 178 [] [X10 b a e] [] (.tup [X10 b (rnS b a e).2.1 (rnS b a e).2.2,ai (rnS b a e).1]):=by
 refine Xg (xs:=[X10 b (rnS b a e).2.1 (rnS b a e).2.2,ai (rnS b a e).1]) Tryz.func178 rfl Tryz.ntmps178 rfl rfl rfl (fun E=> ?_)
 have hu:=X5f b a hb
 unfold rnS
 generalize Xz b a=u at*
 obtain⟨u1,u2,u3⟩:=u
 by_cases he:e=0
 ·rw[if_neg (by simpa using he)]
  refine Xr ?_;refine Qma ?_;refine Qre ?_;refine X1g ?_;exact Qwh
 ·rw[if_pos he]
  exact QDi
theorem XfM (b:List UInt8) (a e:Int) (hb:b.length≤281474976710656):Con Tryz.prog 179 [] [X10 b a e] [] (.tup [X10 b (rsS b a e).2.1 (rsS b a e).2.2,XH (rsS b a e).1]):=by
 refine Xg (xs:=[X10 b (rsS b a e).2.1 (rsS b a e).2.2,XH (rsS b a e).1]) Tryz.func179 rfl Tryz.ntmps179 rfl rfl rfl (fun E=> ?_)
 have hu:=Xg5 b a 20 hb
 unfold rsS
 generalize U2 b a 20=u at*
 obtain⟨u1,u2,u3⟩:=u
 by_cases he:e=0
 ·rw[if_neg (by simpa using he)]
  refine Xr ?_;refine Qma ?_;refine Qre ?_;refine X1g ?_;exact Qwh
 ·rw[if_pos he]
  exact QDi
theorem Xqi (b:List UInt8) (a e:Int) (hb:b.length≤281474976710656):Con Tryz.prog 180 [] [X10 b a e] [] (.tup [X10 b (rvS b a e).2.1 (rvS b a e).2.2,Xv (rvS b a e).1]):=by
 refine Xg (xs:=[X10 b (rvS b a e).2.1 (rvS b a e).2.2,Xv (rvS b a e).1]) Tryz.func180 rfl Tryz.ntmps180 rfl rfl rfl (fun E=> ?_)
 have hu:=Xot b hb a
 have hz:=Xqs
 unfold rvS
 generalize Ug b a=u at*
 obtain⟨⟨k,n,d,s,l⟩,u2,u3⟩:=u
 simp only[Xv] at hu hz
 by_cases he:e=0
 ·rw[if_neg (by simpa using he)]
  simp only[Xv]
  refine Xr ?_;refine Qma ?_;refine Qre ?_;refine Xb9 ?_;exact QFi
 ·rw[if_pos he]
  simp only[Xv]
  refine Xr ?_;refine Qqc ?_;refine Z3 (hcon:=hz) ?_;refine W3_ ?_;exact QFi
theorem Xqx (b:List UInt8) (a e:Int) (hb:b.length≤281474976710656) (ha:e=0→0≤a∧a≤b.length):Con Tryz.prog 126 [] [X10 b a e] [] (.tup [X10 b (UP b a e).2.1 (UP b a e).2.2,Xx (UP b a e).1]):=by
 refine Xg (xs:=[X10 b (UP b a e).2.1 (UP b a e).2.2,Xx (UP b a e).1]) Tryz.func126 rfl Tryz.ntmps126 rfl rfl rfl (fun E=> ?_)
 have hk:=Xll b a e 8 hb ha
 unfold UP
 generalize rkI b a e 8=k at*
 obtain⟨op,a1,e1⟩:=k
 simp only at hk ⊢
 have hf:=XhO op
 have hg:=XiK op
 have hi:=XcL b a1 e1 hb
 generalize rnS b a1 e1=i at*
 obtain⟨id,a2,e2⟩:=i
 simp only at hi ⊢
 by_cases h6:op=6
 ·subst h6
  simp only[if_true,if_pos (show Yo 6=true by decide),if_neg (show ¬Yi 6=true by decide)]
  rw[show Yo 6=true by decide] at hf
  rw[show Yi 6=false by decide] at hg
  have hs:=XcL b a2 e2 hb
  generalize rnS b a2 e2=f at*
  obtain⟨src,a3,e3⟩:=f
  simp only at hs ⊢
  have hd:=XcL b a3 e3 hb
  generalize rnS b a3 e3=t at*
  obtain⟨dst,a4,e4⟩:=t
  simp only at hd ⊢
  have hn:=XfM b a4 e4 hb
  generalize rsS b a4 e4=s at*
  obtain⟨name,a5,e5⟩:=s
  simp only[Xx] at*
  refine Xr ?_;refine Z3 (hcon:=hk) ?_;refine XA ?_;refine Z3 (hcon:=hi) ?_;refine Us ?_;refine Qqc ?_;refine QMd ?_;refine Xj ?_;refine Z3 (hcon:=hd) ?_;refine X1g ?_;refine QNd ?_;refine W1_ ?_;refine Qqc ?_;refine QLd ?_;refine UY ?_;refine Z3 (hcon:=hg) ?_;refine W1_ ?_;refine QWb ?_;exact X1 ⟨_,XF 102 (cs':=[ai 6,ai id,ai src,ai dst,XH name,ai 0,ai 0,ai 0,XH [],.d (.sl 5 [])]) rfl JM rfl,⟨⟨101,0,_,rfl,rfl,.inr ⟨3,_,rfl,rfl,rfl,rfl⟩⟩,⟨102,0,_,rfl,rfl,.inr ⟨10,_,rfl,rfl,rfl,rfl⟩⟩,trivial⟩,X2 _⟩
 simp only[if_neg h6]
 by_cases hn:Yo op=true
 case neg=>
  have hv:¬Yi op=true:=by revert hn;unfold Yo Yi;simp;omega
  simp only[if_neg hn,if_neg hv]
  rw[show Yo op=false by simpa using hn] at hf
  rw[show Yi op=false by simpa using hv] at hg
  simp only[Xx] at*
  refine QGi ?_;refine Qc ?_;refine Z3 (hcon:=hg) ?_;refine W1_ ?_;refine QWb ?_;exact X1 ⟨_,XF 102 (cs':=[ai op,ai id,ai 0,ai 0,XH [],ai 0,ai 0,ai 0,XH [],.d (.sl 5 [])]) rfl JM rfl,⟨⟨101,0,_,rfl,rfl,.inr ⟨3,_,rfl,rfl,rfl,rfl⟩⟩,⟨102,0,_,rfl,rfl,.inr ⟨10,_,rfl,rfl,rfl,rfl⟩⟩,trivial⟩,X2 _⟩
 simp only[if_pos hn]
 rw[hn] at hf
 have hs:=XfM b a2 e2 hb
 generalize rsS b a2 e2=s at*
 obtain⟨name,a3,e3⟩:=s
 simp only at hs ⊢
 by_cases hv:Yi op=true
 case neg=>
  simp only[if_neg hv]
  rw[show Yi op=false by simpa using hv] at hg
  simp only[Xx] at*
  refine QGi ?_;refine Qqc ?_;refine QMd ?_;refine UY ?_;refine Z3 (hcon:=hg) ?_;refine W1_ ?_;refine QWb ?_;exact X1 ⟨_,XF 102 (cs':=[ai op,ai id,ai 0,ai 0,XH name,ai 0,ai 0,ai 0,XH [],.d (.sl 5 [])]) rfl JM rfl,⟨⟨101,0,_,rfl,rfl,.inr ⟨3,_,rfl,rfl,rfl,rfl⟩⟩,⟨102,0,_,rfl,rfl,.inr ⟨10,_,rfl,rfl,rfl,rfl⟩⟩,trivial⟩,X2 _⟩
 simp only[if_pos hv]
 rw[hv] at hg
 have hr:=Xqi b a3 e3 hb
 generalize rvS b a3 e3=v at*
 obtain⟨⟨vk,vn,vd,vs,vl⟩,a4,e4⟩:=v
 simp only[Xx,Xv] at*
 refine QGi ?_;refine Qqc ?_;refine QMd ?_;refine UY ?_;refine Z3 (hcon:=hg) ?_;refine W1_ ?_;refine Qqc ?_;refine Z3 (hcon:=hr) ?_;refine X1a ?_;exact X1 ⟨_,St.le_refl _,⟨⟨101,0,_,rfl,rfl,.inr ⟨3,_,rfl,rfl,rfl,rfl⟩⟩,⟨102,0,_,rfl,rfl,.inr ⟨10,_,rfl,rfl,rfl,rfl⟩⟩,trivial⟩,X2 _⟩
theorem Xjq (b:List UInt8) (a:Int) (hb:b.length≤281474976710656):Con Tryz.prog 77 [] [.d (Xk b),ai a] [] (.tup [Xx (Va b a).1,ai (Va b a).2.1,ai (Va b a).2.2]):=by
 refine Xg (xs:=[Xx (Va b a).1,ai (Va b a).2.1,ai (Va b a).2.2]) Tryz.func77 rfl Tryz.ntmps77 rfl rfl rfl (fun E=> ?_)
 have hlm:(b.map Xc).length=b.length:=by simp
 unfold Va
 by_cases h1:a<0
 ·rw[if_pos (.inl h1)]
  refine Xt ?_;refine QL ?_;refine Qaf ?_;exact QXh
 by_cases h2:(b.length:Int)<a
 ·rw[if_pos (.inr h2)]
  have h2':((b.map Xc).length:Int)<a:=by omega
  refine Yc ?_;refine QP ?_;refine QWc ?_;exact QXh
 rw[if_neg (by omega)]
 have h2':¬((b.map Xc).length:Int)<a:=by omega
 have hr:=Xqx b a 0 hb (fun _=>by omega)
 have hc:=Xbt (UP b a 0).1 (XdF b a 0).2
 generalize UP b a 0=r at*
 obtain⟨c,at_,e⟩:=r
 simp only at hr hc ⊢
 generalize YJ c=ce at*
 obtain⟨op,id,src,dst,name,⟨k,n,d,s,l⟩⟩:=c
 simp only[Xx] at hr hc ⊢
 by_cases he:e=0
 ·subst he
  rw[if_pos rfl]
  by_cases h3:ce=0
  ·subst h3
   rw[if_neg (by simp)]
   refine Yc ?_;refine QVb ?_;refine Z3 (hcon:=hr) ?_;refine XA ?_;refine Qm ?_;refine QJd ?_;refine Xj ?_;refine QUc ?_;exact QYh
  ·rw[if_pos h3]
   refine Yc ?_;refine QVb ?_;refine Z3 (hcon:=hr) ?_;refine XA ?_;refine Qm ?_;refine QJd ?_;refine Xj ?_;refine JT ?_;refine W9_ ?_;exact QXh
 ·rw[if_neg he,if_pos he]
  refine Yc ?_;refine QVb ?_;refine Z3 (hcon:=hr) ?_;refine Qpe ?_;refine Qi ?_;refine W9_ ?_;exact QXh
open Go
theorem Xhq {α:Type}{f:Rd→α×Rd}{P:α→Prop} (h:∀s,P (f s).1):∀(n:Nat) (s:Rd),∀x∈(Y2 f n s).1,P x
 |0,s,x,hx=>by simp[Y2] at hx
 |n+1,s,x,hx=>by
  rw[Y2] at hx
  split at hx
  ·simp at hx
  ·simp only[List.mem_cons] at hx
   rcases hx with rfl|hx
   ·exact h s
   ·exact Xhq h n _ x hx
def X4u {α:Type} (a:Int) (r:α×Int×Int):α×Int×Int:=(r.1,if r.2.2=0 then r.2.1+a else r.2.1,r.2.2)
theorem XjU {b:List UInt8}{a:Nat} (h:a≤b.length):Ye b a=X4u a (Ye (b.drop a) 0):=by
 have c1:¬((a:Int)<0∨(b.length:Int)<a):=by omega
 have c0:¬((0:Int)<0∨(((b.drop a).length:Nat):Int)<0):=by omega
 unfold Ye X4u
 rw[if_neg c1,if_neg c0]
 simp only[Int.toNat_natCast,Int.toNat_zero,List.drop_zero]
 generalize b.drop a=l
 by_cases q1:YY l=10
 ·simp only[q1,if_true]
  simp
 by_cases q2:l.length≤YY l
 ·simp only[q1,q2,if_true,if_false]
  simp
 by_cases q3:YY l=9∧1<((l[YY l]?).getD 0).toNat
 ·simp only[if_neg q1,if_neg q2,if_pos q3]
  simp
 ·simp only[q1,q2,q3,if_true,if_false]
  refine Prod.ext rfl (Prod.ext ?_ rfl)
  simp only
  omega
theorem Xly {b:List UInt8}{a:Nat} (h:a≤b.length):Xz b a=X4u a (Xz (b.drop a) 0):=by
 have hp:V1 b a=V1 (b.drop a) 0:=by
  unfold V1
  simp only[Int.toNat_natCast,Int.toNat_zero,List.drop_zero]
 unfold Xz
 rw[hp,XjU h]
 generalize Ye (b.drop a) 0=r
 obtain⟨n,m,e⟩:=r
 unfold X4u
 simp only
 by_cases he:e=0
 ·subst he
  simp only[ne_eq,not_true_eq_false,if_false,if_true]
  split
  ·simp
  ·split
   ·simp
   ·simp
 ·rw[if_pos he,if_pos he]
  simp[he]
theorem Xs9 {b:List UInt8}{a:Nat} (h:a≤b.length):UZ b a=X4u a (UZ (b.drop a) 0):=by
 have hu:=Xly h
 have hf:=X61 (b:=b.drop a) (a:=0)
 unfold UZ
 rw[hu]
 generalize Xz (b.drop a) 0=r at*
 obtain⟨n,m,e⟩:=r
 unfold X4u
 simp only at hf ⊢
 by_cases he:e=0
 ·subst he
  obtain⟨n',m',h1,h2,h3,h4⟩:=hf rfl
  subst h1 h2
  simp only[ne_eq,not_true_eq_false,if_false,if_true,List.length_drop]
  have e1:((m':Int)+a).toNat=a+m':=by omega
  have e2:((m':Int)+a+n').toNat=a+(m'+n'):=by omega
  have e3:((m':Int)+n').toNat=m'+n':=by omega
  have e4:X0s b (a+(m'+n'))=X0s (b.drop a) (m'+n'):=by
   unfold X0s
   simp only[List.getElem?_drop,Nat.add_assoc]
  simp only[List.length_drop] at h3
  rw[e1,e2,e3,e4,Int.toNat_natCast,Int.toNat_natCast,List.drop_drop]
  have c1:((b.length:Int)-(m'+a)<4∨(b.length:Int)-(m'+a)-4<n')↔(((b.length-a:Nat):Int)-m'<4∨((b.length-a:Nat):Int)-m'-4<n'):=by
   constructor<;>intro h<;>rcases h with h|h<;>omega
  by_cases q:(((b.length-a:Nat):Int)-m'<4∨((b.length-a:Nat):Int)-m'-4<n')
  ·rw[if_pos (c1.2 q),if_pos q]
   simp
  ·rw[if_neg (fun h=>q (c1.1 h)),if_neg q]
   by_cases q2:X0s (b.drop a) (m'+n')=YE ((b.drop (a+m')).take n')
   ·rw[if_neg (by simp[q2]),if_neg (by simp[q2])]
    simp only[if_true]
    refine Prod.ext rfl (Prod.ext ?_ rfl)
    simp only
    omega
   ·rw[if_pos q2,if_pos q2]
    simp
 ·rw[if_pos he,if_pos he]
  simp[he]
def oR (B:List UInt8) (s:Rd):AObj:= .box [.d (Xk B),.d (Xk s.c),ai ((s.k:Int)+4),ai s.a,ai s.e]
theorem Xgr (B:List UInt8) (s:Rd) (m er:Int):Con Tryz.prog 76 [(0,oR B s)] [.ptr 0 0,ai m,ai er] [(0,oR B (s.put (if er=0 then m else s.a) er))] (.tup []):=by
 refine Xg (xs:=[]) Tryz.func76 rfl Tryz.ntmps76 rfl rfl rfl (fun E=> ?_)
 obtain⟨k,c,a,e⟩:=s
 unfold oR Rd.put
 simp only
 by_cases h:er=0
 ·subst h
  rw[if_pos rfl]
  refine Xr ?_;exact Qme
 ·rw[if_neg h]
  refine Qoe ?_;exact Qbg
theorem XiE (B:List UInt8) (s:Rd) (hs:Uk s):Con Tryz.prog 33 [(0,oR B s)] [.ptr 0 0] [(0,oR B (UJ s))] (.tup []):=by
 refine Xg (xs:=[]) Tryz.func33 rfl Tryz.ntmps33 rfl rfl rfl (fun E=> ?_)
 obtain⟨k,c,a,e⟩:=s
 obtain⟨a0,a1⟩:=hs
 simp only at a0 a1
 have hlm:(c.map Xc).length=c.length:=by simp
 unfold UJ oR Rd.put
 simp only
 by_cases he:e=0
 case neg=>
  rw[if_neg (fun h=>he h.1)]
  simp only
  exact Qcg
 subst he
 by_cases ha:a<c.length
 ·have ha':a≠(c.map Xc).length:=by omega
  rw[if_pos ⟨rfl,ha⟩]
  simp only
  exact Qdg
 ·have ha':¬a≠(c.map Xc).length:=by omega
  rw[if_neg (fun h=>ha h.2)]
  simp only
  exact Qeg
theorem XdH (B b:List UInt8) (s:Rd) (hB:B.length≤1073741824) (h4:s.e=0→4≤B.length∧B.drop 4=b) (hk:s.k≤b.length):Con Tryz.prog 31 [(0,oR B s)] [.ptr 0 0] [(0,oR B (Yu b s))] (.tup []):=by
 refine Xg (xs:=[]) Tryz.func31 rfl Tryz.ntmps31 rfl rfl rfl (fun E=> ?_)
 obtain⟨k,c0,a,e⟩:=s
 simp only at h4 hk
 unfold Yu oR
 simp only
 by_cases he:e=0
 case neg=>
  rw[if_pos he]
  simp only
  refine QRf ?_;exact X1 ⟨_,St.le_refl _,trivial,Xn ⟨rfl,trivial⟩⟩
 subst he
 obtain⟨h4l,h4⟩:=h4 rfl
 rw[if_neg (by simp)]
 have hc:=Xl9 B ((k:Int)+4) (by omega)
 have hlb:b.length=B.length-4:=by rw[←h4,List.length_drop]
 have hsh:=Xs9 (b:=B) (a:=k+4) (by omega)
 have hdd:B.drop (k+4)=b.drop k:=by rw[←h4,List.drop_drop,Nat.add_comm]
 rw[hdd,show(((k+4:Nat):Nat):Int)=(k:Int)+4 by omega] at hsh
 rw[hsh] at hc
 generalize hu:UZ (b.drop k) 0=u at*
 obtain⟨c,z,er⟩:=u
 unfold X4u at hc
 simp only at hc ⊢
 by_cases her:er=0
 ·subst her
  obtain⟨f,rfl,hf⟩:=Xi5 hu
  rw[if_pos rfl] at hc ⊢
  rw[Int.toNat_natCast]
  have hz:(((k+f:Nat):Nat):Int)+4=(f:Int)+((k:Int)+4):=by omega
  rw[hz]
  refine Qag ?_;refine Xi ?_;refine QJd ?_;refine Xh6 ?_;exact Qme
 ·rw[if_neg her] at hc ⊢
  refine Qag ?_;refine Xi ?_;refine QJd ?_;refine Xh6 ?_;exact Qne
theorem Xeb (B:List UInt8) (s:Rd) (hc:s.c.length≤281474976710656):Con Tryz.prog 32 [(0,oR B s)] [.ptr 0 0] [(0,oR B (XL s).2)] (ai (XL s).1):=by
 refine Xg (xs:=[ai (XL s).1]) Tryz.func32 rfl Tryz.ntmps32 rfl rfl rfl (fun E=> ?_)
 obtain⟨k,c,a,e⟩:=s
 simp only at hc
 have hf:=X5f c a hc
 unfold XL Vc
 simp only
 by_cases he:e=0
 case neg=>
  rw[if_pos he]
  unfold oR
  simp only
  refine Xr ?_;refine Qe ?_;exact Qf
 subst he
 rw[if_neg (by simp)]
 generalize Xz c a=r at*
 obtain⟨x,m,er⟩:=r
 simp only at hf ⊢
 have hst:=Xgr B ⟨k,c,a,0⟩ m er
 generalize Rd.put ⟨k,c,a,0⟩ (if er=0 then m else a) er=s' at*
 obtain⟨k',c',a',e'⟩:=s'
 unfold oR at hst ⊢
 simp only at hst ⊢
 refine Qoe ?_;refine Xi ?_;refine QNd ?_;refine Xr ?_;refine Z3 (hcon:=hst) ?_;exact Qte
theorem Xlu (B b:List UInt8) (s:Rd) (h4:s.e=0→4≤B.length∧B.drop 4=b) (hk:s.k≤b.length):Con Tryz.prog 35 [(0,oR B s)] [.ptr 0 0] [(0,oR B (VU b s))] (.tup []):=by
 refine Xg (xs:=[]) Tryz.func35 rfl Tryz.ntmps35 rfl rfl rfl (fun E=> ?_)
 obtain⟨k,c,a,e⟩:=s
 have hlm:(B.map Xc).length=B.length:=by simp
 simp only at h4 hk
 unfold VU oR Rd.put
 simp only
 by_cases he:e=0
 case neg=>
  rw[if_neg (fun h=>he h.1)]
  simp only
  exact Qcg
 subst he
 obtain⟨h4l,h4⟩:=h4 rfl
 have hlb:b.length=B.length-4:=by rw[←h4,List.length_drop]
 by_cases ha:k<b.length
 ·have ha':(k:Int)+4≠(B.map Xc).length:=by omega
  rw[if_pos ⟨rfl,ha⟩]
  simp only
  exact Qdg
 ·have ha':¬(k:Int)+4≠(B.map Xc).length:=by omega
  rw[if_neg (fun h=>ha h.2)]
  simp only
  exact Qeg
def H4 (B b:List UInt8) (s:Rd):Prop:=s.e=0→4≤B.length∧B.drop 4=b
theorem XaO {α:Type}{f:Rd→α×Rd}{B b:List UInt8}{s:Rd} (hp:PartR f) (h:H4 B b s):H4 B b (f s).2:=fun he=>h (hp.back he)
theorem Xf2 {B b:List UInt8}{s:Rd} (h:H4 B b s):H4 B b (Yu b s):=fun he=>by
 by_cases q:s.e=0
 ·exact h q
 ·rw[Xb7 q] at he;exact absurd he q
theorem Xeh {B b:List UInt8}{s:Rd} (h:H4 B b s):H4 B b (UJ s):=fun he=>by
 by_cases q:s.e=0
 ·exact h q
 ·rw[Xcd q] at he;exact absurd he q
theorem XiW {α:Type}{f:Rd→α×Rd}{B b:List UInt8}{s:Rd} (hp:PartR f) (h:H4 B b s):H4 B b (Ys b f s).2:=Xeh (XaO hp (Xf2 h))
theorem Xfr {α:Type}{f:Rd→α×Rd}{B b:List UInt8} (hp:PartR f):∀(n:Nat) (s:Rd),H4 B b s→H4 B b (Y2 (Ys b f) n s).2
 |0,s,h=>h
 |n+1,s,h=>by
  rw[Y2]
  split
  ·exact h
  ·exact Xfr hp n _ (XiW hp h)
theorem XnZ (B b:List UInt8) (s:Rd) (hB:B.length≤1073741824) (h4:s.e=0→4≤B.length∧B.drop 4=b) (hk:s.k≤b.length):Con Tryz.prog 31 [(140,oR B s)] [.ptr 140 0] [(140,oR B (Yu b s))] (.tup []):=U0 0 140 (XdH B b s hB h4 hk)
theorem Xk9 (B:List UInt8) (s:Rd) (hs:Uk s):Con Tryz.prog 33 [(140,oR B s)] [.ptr 140 0] [(140,oR B (UJ s))] (.tup []):=U0 0 140 (XiE B s hs)
theorem Xog (B b:List UInt8) (s:Rd) (h4:s.e=0→4≤B.length∧B.drop 4=b) (hk:s.k≤b.length):Con Tryz.prog 35 [(140,oR B s)] [.ptr 140 0] [(140,oR B (VU b s))] (.tup []):=U0 0 140 (Xlu B b s h4 hk)
theorem Xee (B:List UInt8) (s:Rd) (hc:s.c.length≤281474976710656):Con Tryz.prog 32 [(140,oR B s)] [.ptr 140 0] [(140,oR B (XL s).2)] (ai (XL s).1):=U0 0 140 (Xeb B s hc)
theorem Xrl (B:List UInt8):Con Tryz.prog 30 [] [.d (Xk B),XH Yn] [(100,oR B (Vi B))] (.ptr 100 0):=by
 refine Xg (xs:=[.ptr 100 0]) Tryz.func30 rfl Tryz.ntmps30 rfl rfl rfl (fun E=> ?_)
 have hlm:(B.map Xc).length=B.length:=by simp
 have hg4:Yn.length=4:=rfl
 unfold Vi oR
 simp only
 by_cases h4:B.length<4
 ·have h4':((B.map Xc).length:Int)<4:=by omega
  rw[if_neg (fun h=>by have:=congrArg List.length h;simp[Yn] at this;omega)]
  refine Us ?_;refine QW ?_;refine Qs ?_;refine Qje ?_;exact QHi
 have h4':¬((B.map Xc).length:Int)<4:=by omega
 have hle:4≤(B.map Xc).length:=by omega
 have hsl:((B.map Xc).take 4).drop 0=(B.take 4).map Xc:=by rw[List.drop_zero,List.map_take]
 by_cases h:B.take 4=Yn
 ·rw[if_pos h]
  have hn:¬B.take 4≠Yn:=by simpa using h
  refine Yw ?_;refine Z7 (lb:=0) (hb:=4) (ys:=(B.take 4).map Xc) ?_ (hys:=by exact hsl);refine W3_ ?_;refine QVb ?_;exact X1 ⟨_,XF 100 (cs':=[.d (Xk B),.d (Xk []),ai 4,ai 0,ai 0]) rfl JM rfl,⟨rfl,trivial⟩,Xn ⟨rfl,trivial⟩⟩
 ·rw[if_neg h]
  refine Yw ?_;refine Z7 (lb:=0) (hb:=4) (ys:=(B.take 4).map Xc) ?_ (hys:=by exact hsl);refine W3_ ?_;refine QP ?_;refine Qje ?_;exact QHi
theorem XlA (B:List UInt8):Con Tryz.prog 30 [] [.d (Xk B),XH Yn] [(140,oR B (Vi B))] (.ptr 140 0):=U0 100 140 (Xrl B)
theorem Xsc (b:List UInt8) (a:Int):X3c (Va b a).1:=by
 have hz:X3c zC:=⟨by simp,X5u⟩
 unfold Va
 simp only
 split
 ·exact hz
 ·generalize (if (UP b a 0).2.2=0 then YJ (UP b a 0).1 else (UP b a 0).2.2)=e
  split
  ·exact hz
  ·exact XdF b a 0
theorem Xlw (s:Rd):X3c (Yr s).1:=by
 unfold Yr Vc
 by_cases q:s.e=0
 ·rw[if_neg (by simp[q])];exact Xsc s.c s.a
 ·rw[if_pos q];exact⟨by simp,X5u⟩
theorem XmK {b:List UInt8}{n:Nat}{s:Rd} (hi:RdInv b s):∀c∈(Y2 (Ys b (YG Yr)) n s).1.flatten,X3c c:=by
 intro c hc
 obtain⟨l,hl,hc⟩:=List.mem_flatten.1 hc
 exact Xb1 (P:=fun l:List Chg=> ∀c∈l,X3c c) X3k X4e (fun s _=>Xhq Xlw _ _) n s hi l hl c hc
theorem Xos (g:Gra):XG g= .agg ((Xat g).map .d):=rfl
theorem Xow (s:Rd):Yr s=if s.e≠0 then (zC,s) else ((Va s.c s.a).1,s.put (if (Va s.c s.a).2.2=0 then (Va s.c s.a).2.1 else s.a) (Va s.c s.a).2.2):=rfl
theorem Xr1 (B b:List UInt8) (s:Rd) (hB:B.length≤1073741824) (hbl:b.length≤1073741824) (h4:s.e=0→4≤B.length∧B.drop 4=b) (hi:RdInv b s):Con Tryz.prog 34 [(0,oR B s)] [.ptr 0 0] [(0,oR B (Ys b (YG Yr) s).2)] (.d (.sl 10 ((Ys b (YG Yr) s).1.map Y1))):=by
 refine Xg (xs:=[.d (.sl 10 ((Ys b (YG Yr) s).1.map Y1))]) Tryz.func34 rfl Tryz.ntmps34 rfl rfl rfl (fun E=> ?_)
 have ho:=XdH B b s hB h4 hi.k
 have hi1:=(X2n hi).1
 unfold Ys YG
 simp only
 generalize Yu b s=s0 at*
 have hc0:=hi1.c
 have hN:=Xeb B s0 (by omega)
 obtain⟨m,hm,hml⟩:=X1A s0
 have hok:=Vh.ok s0 hi1.ok
 have hcs:=(Vd.keep s0).2
 rw[hm] at hN ⊢
 rw[Int.toNat_natCast]
 generalize (XL s0).2=s1 at*
 have hc:s1.c.length≤1073741824:=by rw[hcs];omega
 have hLb:=XaP X5R X5J (n:=m) hok hc
 have hLo:=X9X X5J m s1 hok
 generalize hL:Y2 Yr m s1=L at*
 have hcl:=XiE B L.2 hLo
 generalize UJ L.2=s9 at*
 clear h4 hi hi1 hm hcs hc0 hLo
 obtain⟨k,c,a,e⟩:=s
 obtain⟨k0,c0,a0,e0⟩:=s0
 obtain⟨k1,c1,a1,e1⟩:=s1
 obtain⟨k9,c9,a9,e9⟩:=s9
 unfold oR at*
 simp only at*
 refine W7_ ?_;refine Z3 (hcon:=ho) ?_;refine W4_ ?_;refine Z3 (hcon:=hN) ?_;refine Xt ?_
 clear ho hN
 refine Xq (V3 4 130 10 rfl rfl rfl) ?_
 refine XK (ι:=List Chg×Nat×Nat×Rd) (fun q=>q.1++(Y2 Yr q.2.2.1 q.2.2.2).1=L.1∧(Y2 Yr q.2.2.1 q.2.2.2).2=L.2∧q.2.2.2.c.length≤1073741824∧Uk q.2.2.2∧q.2.1+q.2.2.1=m)
  (fun q=>⟨49,[(0,.ptr 0 0),(3,ai (m:Nat)),(4,.own 130 (q.1.map Y1).length),(5,ai (q.2.1:Nat))],[(0,.box [.d (Xk B),.d (Xk q.2.2.2.c),ai ((q.2.2.2.k:Int)+4),ai q.2.2.2.a,ai q.2.2.2.e]),(130,.row 10 (q.1.map Y1))]⟩) (fun q=>q.2.2.1) ([],0,m,⟨k1,c1,a1,e1⟩)
  ⟨by rw[hL];rfl,by rw[hL],hc,hok,by simp⟩
  (Xd rfl JM ⟨rfl,rfl,trivial⟩) ?_
 rintro⟨acc,i,j,s⟩ ⟨h1,h2,h3,h4,h5⟩
 simp only at h1 h2 h3 h4 h5
 have hroom0:=Xab h1 hLb
 have hroom:(acc.map Y1).length≤1073741825:=by rw[List.length_map];exact hroom0
 by_cases hj:j=0∨s.e≠0
 ·have hLL:=X3X h1 h2 hj
  subst hLL
  have hgd:(¬(i:Int)<(m:Nat))∨((i:Int)<(m:Nat)∧s.e≠0):=by
   rcases hj with rfl|h
   ·exact .inl (by omega)
   ·by_cases h0:(i:Int)<(m:Nat)
    ·exact .inr ⟨h0,h⟩
    ·exact .inl h0
  simp only at hcl ⊢
  obtain⟨k,c,a,e⟩:=s
  simp only at hgd hcl ⊢
  rcases hgd with hj'|⟨hj',he⟩
  ·refine W7_ ?_;refine QW ?_;refine QP ?_;refine Qg ?_;refine Z3 (hcon:=hcl) ?_;refine W6_ ?_;exact Qhg
  ·refine Xt ?_;refine Qs ?_;refine Qg ?_;refine Z3 (hcon:=hcl) ?_;refine W6_ ?_;exact Qhg
 clear hcl
 obtain⟨j,rfl⟩:∃i,j=i+1:=⟨j-1,by omega⟩
 have hj':(i:Int)<(m:Nat):=by omega
 have he:s.e=0:=by
  by_cases q:s.e=0
  ·exact q
  ·exact absurd (.inr q) hj
 clear hj
 rw[X3b he] at h1 h2
 simp only at h1 h2
 have hc2:=(X5R.keep s).2
 have hok3:=X5J.ok s h4
 have h3':(Yr s).2.c.length≤1073741824:=by rw[hc2];exact h3
 have hvE:=Xow s
 rw[if_neg (by simp[he])] at hvE
 have hv:=Xjq s.c s.a (by omega)
 generalize Va s.c s.a=v at*
 obtain⟨x,at',er⟩:=v
 simp only at hvE
 have hst:=Xgr B s at' er
 rw[hvE] at h1 h2 hok3 h3'
 simp only at h1 h2 hok3 h3'
 generalize s.put (if er=0 then at' else s.a) er=s3 at*
 have happ:(acc++[x]).map Y1=acc.map Y1++[Y1 x]:=by simp
 clear hvE hc2
 obtain⟨k,c,a,e⟩:=s
 obtain⟨k3,c3,a3,e3⟩:=s3
 obtain⟨op,id,src,dst,name,⟨vk,vn,vd,vs,vl⟩⟩:=x
 simp only at he
 subst he
 unfold oR at hst
 simp only[Xx] at hv hst
 refine Xt ?_;refine QKc ?_;refine Xr ?_;refine Qyd ?_;refine XC ?_;refine Z3 (hcon:=hst) ?_;refine Xr ?_
 refine⟨(acc++[_],i+1,j,⟨k3,c3,a3,e3⟩),⟨by simpa using h1,h2,h3',hok3,by simp only;omega⟩,by show j<j+1;omega,?_⟩
 rw[happ]
 exact Xd rfl ⟨JL,JL,AVal.le_of_eq (by refine Eq.trans (b:=AVal.own 130 (_+_)) rfl ?_;simp only[List.length_append,List.length_cons,List.length_nil]),JL,trivial⟩ ⟨rfl,rfl,trivial⟩
theorem XkO (B b:List UInt8) (s:Rd) (hB:B.length≤1073741824) (hbl:b.length≤1073741824) (h4:s.e=0→4≤B.length∧B.drop 4=b) (hi:RdInv b s):Con Tryz.prog 34 [(140,oR B s)] [.ptr 140 0] [(140,oR B (Ys b (YG Yr) s).2)] (.d (.sl 10 ((Ys b (YG Yr) s).1.map Y1))):=U0 0 140 (Xr1 B b s hB hbl h4 hi)
theorem XnU {b:List UInt8}{s:Rd} (hi:RdInv b s):(Ys b (YG Yr) s).1.length≤b.length+1:=XdE (X2n hi).1
theorem XrI (g:Gra) (ts:Int) (B:List UInt8) (hB:B.length≤65536) (hg:GraHold g):Con Tryz.prog 9 [] [XG g,ai ts,.d (Xk B)] [] (.tup [XG (Vz g ts B).1,ai (Vz g ts B).2.1,ai (Vz g ts B).2.2]):=by
 refine Xg (xs:=[XG (Vz g ts B).1,ai (Vz g ts B).2.1,ai (Vz g ts B).2.2]) Tryz.func9 rfl Tryz.ntmps9 rfl rfl rfl (fun E=> ?_)
 have k0:=XlA B
 have hinv:RdInv (B.drop 4) (Vi B):=⟨Nat.zero_le _,⟨Int.le_refl _,by simp[Vi]⟩,by simp[Vi]⟩
 have h4:H4 B (B.drop 4) (Vi B):=fun he=>by
  unfold Vi at he
  simp only at he
  by_cases q:B.take 4=Yn
  ·have:=congrArg List.length q
   simp only[Yn,List.length_take,List.length_cons,List.length_nil] at this
   exact⟨by omega,rfl⟩
  ·rw[if_neg q] at he
   simp at he
 have hbl:(B.drop 4).length≤65536:=by rw[List.length_drop];omega
 rw[Xcx g ts B]
 unfold X22
 generalize B.drop 4=b' at*
 generalize Vi B=s0 at*
 have ko:=XnZ B b' s0 (by omega) h4 hinv.k
 have hi1:=(X2n hinv).1
 have hh1:=Xf2 h4
 have hhd:X4U b' s0=(((XL (Yu b' s0)).1,(XL (XL (Yu b' s0)).2).1),UJ (XL (XL (Yu b' s0)).2).2):=rfl
 rw[hhd]
 clear hhd h4
 simp only
 generalize Yu b' s0=o1 at*
 have h1:=Xee B o1 (by have:=hi1.c;omega)
 have hi2:=X2P Vd Vh.ok hi1
 have hh2:=XaO Vd hh1
 obtain⟨m1,hm1,hml1⟩:=X1A o1
 rw[hm1] at h1
 generalize ho2:(XL o1).2=o2 at*
 have h2:=Xee B o2 (by have:=hi2.c;omega)
 have hi3:=X2P Vd Vh.ok hi2
 have hh3:=XaO Vd hh2
 obtain⟨m2,hm2,hml2⟩:=X1A o2
 rw[hm2] at h2
 generalize ho3:(XL o2).2=o3 at*
 have ks:=Xk9 B o3 hi3.ok
 have hi4:=(X98 hi3).1
 have hh4:=Xeh hh3
 simp only[hm1,hm2]
 generalize UJ o3=s4 at*
 clear hm1 hm2 ho2 ho3 hi1 hi2 hi3 hinv hh1 hh2 hh3
 have hi5:RdInv b' (X0h (((m1:Int),(m2:Int)),s4)):=by
  unfold X0h
  split
  ·exact⟨hi4.k,hi4.ok,hi4.c⟩
  ·exact hi4
 have hh5:H4 B b' (X0h (((m1:Int),(m2:Int)),s4)):=by
  unfold X0h
  split
  ·exact fun he=>absurd he (by simp[Rd.put])
  ·exact hh4
 have ho1:(s4.e=0∧(m2:Int)<m1)→X0h (((m1:Int),(m2:Int)),s4)=s4.put s4.a 2:=fun q=>if_pos q
 have ho2:¬(s4.e=0∧(m2:Int)<m1)→X0h (((m1:Int),(m2:Int)),s4)=s4:=fun q=>if_neg q
 have hnn:((m2:Int)-(m1:Nat)).toNat=m2-m1:=by omega
 rw[hnn]
 clear hnn hi4 hh4
 generalize X0h (((m1:Int),(m2:Int)),s4)=s5 at*
 have hLb:=XgT (n:=m2-m1) (by omega) hi5
 have hLk:=(X4o X3k X4e (m2-m1) s5 hi5).1.k
 have hLh:=XmK (n:=m2-m1) hi5
 have hL4:=Xfr (f:=YG Yr) X3k (m2-m1) s5 hh5
 have hf:=Xog B b' (Y2 (Ys b' (YG Yr)) (m2-m1) s5).2 hL4 hLk
 generalize hL0:Y2 (Ys b' (YG Yr)) (m2-m1) s5=L0 at*
 clear hLk hL4
 have hLb':L0.1.flatten.length≤4295098369:=hLb
 generalize hLf:L0.1.flatten=F at*
 obtain⟨LL,R⟩:=L0
 simp only at hLf hf hLh ⊢
 have hL1:(Y2 (Ys b' (YG Yr)) (m2-m1) s5).1.flatten=F:=by rw[hL0];exact hLf
 have hL2:(Y2 (Ys b' (YG Yr)) (m2-m1) s5).2=R:=by rw[hL0]
 clear hL0
 obtain⟨p0,q0,r0,t0⟩:=s0
 obtain⟨p1,q1,r1,t1⟩:=o1
 obtain⟨p2,q2,r2,t2⟩:=o2
 obtain⟨p3,q3,r3,t3⟩:=o3
 obtain⟨k,c,a,e⟩:=s4
 obtain⟨k5,c5,a5,e5⟩:=s5
 obtain⟨ns,es,nn,ne⟩:=g
 have hap:=Xet ⟨ns,es,nn,ne⟩ F hg (by omega) hLh
 unfold oR at k0 ko h1 h2 ks hf
 unfold Rd.put at ho1
 simp only[Rd.mk.injEq] at k0 ko h1 h2 ks hf ho1 ho2 ⊢
 simp only[XG] at*
 clear hLh hg
 refine QZh ?_;refine W5_ ?_;refine Z3 (hcon:=h2) ?_;refine W5_ ?_;refine Z3 (hcon:=ks) ?_;refine W3_ ?_
 clear k0 ko h1 h2 ks
 refine X2h ⟨95,[(1,ai ts),(3,.ptr 100 0),(6,.ptr 101 0),(9,.ptr 140 0),(10,ai (m1:Nat)),(11,ai (m2:Nat)),(36,ab (decide (e=0∧(m2:Int)<(m1:Nat))))],[(100,.box [.d (.sl 3 (ns.map Xp)),.d (.sl 5 (es.map Xs)),ai nn,ai ne]),(101,.box [ani,ani,ai 0,ai 0]),(140,.box [.d (Xk B),.d (Xk c),ai ((k:Int)+4),ai a,ai e])]⟩ ?_ ?_
 ·clear hf hap hL1 hL2 hi5 hh5 ho1 ho2
  by_cases he:e=0
  ·by_cases hlt:(m2:Int)<(m1:Nat)
   ·rw[decide_eq_true (show e=0∧(m2:Int)<(m1:Nat) from⟨he,hlt⟩)]
    refine Xj ?_;refine Qs ?_;exact Xd rfl ⟨JL,JL,JL,JL,JL,JL,AVal.le_of_eq (congrArg ab (decide_eq_true hlt)),trivial⟩ ⟨rfl,rfl,rfl,trivial⟩
   ·rw[decide_eq_false (show ¬(e=0∧(m2:Int)<(m1:Nat)) from fun q=>hlt q.2)]
    refine Xj ?_;refine Qs ?_;exact Xd rfl ⟨JL,JL,JL,JL,JL,JL,AVal.le_of_eq (congrArg ab (decide_eq_false hlt)),trivial⟩ ⟨rfl,rfl,rfl,trivial⟩
  ·rw[decide_eq_false (show ¬(e=0∧(m2:Int)<(m1:Nat)) from fun q=>he q.1)]
   refine W7_ ?_;refine Qsa ?_;exact Qng
 refine X2h ⟨95,[(1,ai ts),(3,.ptr 100 0),(6,.ptr 101 0),(9,.ptr 140 0),(10,ai (m1:Nat)),(11,ai (m2:Nat))],[(100,.box [.d (.sl 3 (ns.map Xp)),.d (.sl 5 (es.map Xs)),ai nn,ai ne]),(101,.box [ani,ani,ai 0,ai 0]),(140,.box [.d (Xk B),.d (Xk c5),ai ((k5:Int)+4),ai a5,ai e5])]⟩ ?_ ?_
 ·clear hf hap hL1 hL2 hi5 hh5
  by_cases q:e=0∧(m2:Int)<(m1:Nat)
  ·rw[decide_eq_true q]
   obtain⟨rfl,rfl,rfl,rfl⟩:=ho1 q
   refine Qb ?_;exact Qng
  ·rw[decide_eq_false q]
   obtain⟨rfl,rfl,rfl,rfl⟩:=ho2 q
   refine JF ?_;refine W1_ ?_;exact Qng
 clear ho1 ho2
 refine Xj ?_
 refine X2h ⟨95,[(1,ai ts),(3,.ptr 100 0),(6,.ptr 101 0),(9,.ptr 140 0),(10,ai (m1:Nat)),(11,ai (m2:Nat)),(12,.d (.sl 10 (F.map Y1)))],[(100,.box [.d (.sl 3 (ns.map Xp)),.d (.sl 5 (es.map Xs)),ai nn,ai ne]),(101,.box [ani,ani,ai 0,ai 0]),(140,.box [.d (Xk B),.d (Xk R.c),ai ((R.k:Int)+4),ai R.a,ai R.e])]⟩ ?_ ?_
 ·clear hf hap
  refine Xq (V3 12 130 10 rfl rfl rfl) ?_;refine W1_ ?_
  refine XK (ι:=List Chg×Nat×Rd) (fun q=>q.1++(Y2 (Ys b' (YG Yr)) (m2-q.2.1) q.2.2).1.flatten=F∧(Y2 (Ys b' (YG Yr)) (m2-q.2.1) q.2.2).2=R∧RdInv b' q.2.2∧H4 B b' q.2.2)
   (fun q=>⟨95,[(1,ai ts),(3,.ptr 100 0),(6,.ptr 101 0),(9,.ptr 140 0),(10,ai (m1:Nat)),(11,ai (m2:Nat)),(12,.own 130 (q.1.map Y1).length),(13,ai (q.2.1:Nat))],[(100,.box [.d (.sl 3 (ns.map Xp)),.d (.sl 5 (es.map Xs)),ai nn,ai ne]),(101,.box [ani,ani,ai 0,ai 0]),(130,.row 10 (q.1.map Y1)),(140,.box [.d (Xk B),.d (Xk q.2.2.c),ai ((q.2.2.k:Int)+4),ai q.2.2.a,ai q.2.2.e])]⟩) (fun q=>m2-q.2.1) ([],m1,⟨k5,c5,a5,e5⟩)
   ⟨by rw[hL1];rfl,hL2,hi5,hh5⟩
   (Xd rfl JM ⟨rfl,rfl,rfl,rfl,trivial⟩) ?_
  clear hL1 hL2 hi5 hh5
  rintro⟨acc,i,s⟩ ⟨g1,g2,hinv,h4⟩
  simp only at g1 g2 hinv h4
  by_cases hj:m2-i=0∨s.e≠0
  ·have hme:Y2 (Ys b' (YG Yr)) (m2-i) s=([],s):=by
    rcases hj with h|h
    ·rw[h];rfl
    ·exact X5E h
   rw[hme] at g1 g2
   simp only[List.flatten_nil,List.append_nil] at g1 g2
   subst g1 g2
   have hgd:(¬(i:Int)<(m2:Nat))∨((i:Int)<(m2:Nat)∧s.e≠0):=by
    rcases hj with h|h
    ·exact .inl (by omega)
    ·by_cases h0:(i:Int)<(m2:Nat)
     ·exact .inr ⟨h0,h⟩
     ·exact .inl h0
   clear hme hinv h4
   obtain⟨k,c,a,e⟩:=s
   simp only at hgd ⊢
   rcases hgd with hj'|⟨hj',he⟩
   ·refine QGe ?_;refine W1_ ?_;exact Qei
   ·refine Xt ?_;refine QDe ?_;refine W1_ ?_;exact Qei
  have hj':(i:Int)<(m2:Nat):=by omega
  have hsub:m2-i=(m2-(i+1))+1:=by omega
  have he:s.e=0:=by
   by_cases q:s.e=0
   ·exact q
   ·exact absurd (.inr q) hj
  rw[hsub,X3b he] at g1 g2
  simp only[List.flatten_cons] at g1 g2
  rw[←List.append_assoc] at g1
  have hv3:=(X4a (f:=YG Yr) X3k X4e hinv).1
  have hv4:=XiW (f:=YG Yr) X3k h4
  have k1:=XkO B b' s (by omega) (by omega) h4 hinv
  have hil:=XnU hinv
  generalize (Ys b' (YG Yr) s).1=xl at*
  generalize (Ys b' (YG Yr) s).2=s3 at*
  have hroom0:acc.length+xl.length≤4295098369:=by
   have:=congrArg List.length g1
   simp only[List.length_append] at this
   omega
  have hroom:(acc.map Y1).length≤4295098369:=by rw[List.length_map];omega
  have hroom2:(xl.map Y1).length≤65537:=by rw[List.length_map];omega
  have happ:(acc++xl).map Y1=acc.map Y1++xl.map Y1:=by simp
  have hmm:m2-(i+1)<m2-i:=by omega
  clear hj hinv h4 hsub
  obtain⟨k,c,a,e⟩:=s
  obtain⟨k3,c3,a3,e3⟩:=s3
  simp only at he
  subst he
  unfold oR at k1
  simp only at k1
  refine Xt ?_;refine Qs ?_;refine Qb ?_;refine Z3 (hcon:=k1) ?_;refine W8_ ?_
  refine⟨(acc++xl,i+1,⟨k3,c3,a3,e3⟩),⟨g1,g2,hv3,hv4⟩,hmm,?_⟩
  rw[happ]
  exact Xd rfl ⟨JL,JL,JL,JL,JL,JL,AVal.le_of_eq (by refine Eq.trans (b:=AVal.own 130 (_+_)) rfl ?_;simp only[List.length_append]),JL,trivial⟩ ⟨rfl,rfl,rfl,rfl,trivial⟩
 clear hL1 hL2 hi5 hh5
 generalize VU b' R=z at*
 obtain⟨zk,zc,za,e⟩:=z
 obtain⟨Rk,Rc,Ra,Re⟩:=R
 simp only at hf ⊢
 by_cases he:e=0
 case neg=>
  rw[X95 he]
  simp only[XG,List.map_nil]
  refine W3_ ?_;refine QNd ?_;refine Xj ?_;refine Qw ?_;refine QU ?_;refine Xj ?_;refine Qje ?_;exact Qbi
 subst he
 by_cases ht:(m1:Int)=ts
 case neg=>
  rw[Xc9 ht]
  simp only[XG,List.map_nil]
  refine W3_ ?_;refine QNd ?_;refine Xr ?_;refine QKc ?_;refine XA ?_;refine Qje ?_;exact Qbi
 subst ht
 by_cases hgr:(Yd ⟨ns,es,nn,ne⟩ F).2.2=0
 case neg=>
  rw[Xiu (by rw[hLf];exact hgr),hLf]
  simp only[List.map_nil]
  generalize Yd ⟨ns,es,nn,ne⟩ F=r at*
  obtain⟨⟨n3,n4,n5,n6⟩,n7,n8⟩:=r
  simp only[XG] at*
  refine W3_ ?_;refine QNd ?_;refine Xr ?_;refine QDe ?_;refine Xj ?_;refine Qc ?_;refine Z3 (hcon:=hap) ?_;refine XA ?_;refine QCd ?_;exact Qbi
 rw[X9U (by rw[hLf];exact hgr),hLf]
 simp only
 rw[hgr] at hap
 generalize Yd ⟨ns,es,nn,ne⟩ F=r at*
 obtain⟨⟨n3,n4,n5,n6⟩,n7,n8⟩:=r
 simp only[XG] at*
 refine W3_ ?_;refine QNd ?_;refine Xr ?_;refine QDe ?_;refine Xj ?_;refine Qc ?_;refine Z3 (hcon:=hap) ?_;refine XA ?_;refine Qed ?_;exact Qfi
theorem XoV (g:Gra) (ts:Int) (b:List UInt8):GraHold (Vz g ts b).1:=by
 unfold Vz
 simp only
 split
 ·exact Xb5
 ·split
  ·exact Xb5
  ·exact XcM _ _
theorem XpP (g:Gra) (ts:Int) (b:List UInt8) (hg:GraHold g):Con Tryz.prog 3 [] [XG g,ai ts,.d (Xk b)] [] (ab true):=by
 refine Xg (xs:=[ab true]) Tryz.func3 rfl Tryz.ntmps3 rfl rfl rfl (fun E=> ?_)
 have ha:=Xbu
 have hlm:(b.map Xc).length=b.length:=by simp
 have hs:=Xh2 g 30 40 hg
 generalize X5a g 30 40=sm at*
 cases sm with
 |false=>
  clear hg
  obtain⟨ns,es,nn,ne⟩:=g
  unfold XG at*
  simp only at*
  refine W9_ ?_;refine QMd ?_;refine W2_ ?_;refine QK ?_;refine Qm ?_;refine Z3 (hcon:=ha) ?_;refine W2_ ?_
  (show AWP Tryz.prog E _ _ _;refine X1 ?_;exact(show Xy _ _ _ _ _ from⟨_,St.le_refl _,⟨rfl,trivial⟩,X2 _⟩))
 |true=>
  by_cases hl:(2000:Int)<((b.map Xc).length:Nat)
  ·clear hg
   obtain⟨ns,es,nn,ne⟩:=g
   unfold XG at*
   simp only at*
   refine W9_ ?_;refine QMd ?_;refine W5_ ?_;refine QP ?_;refine Qm ?_;refine Z3 (hcon:=ha) ?_;refine W2_ ?_
   (show AWP Tryz.prog E _ _ _;refine X1 ?_;exact(show Xy _ _ _ _ _ from⟨_,St.le_refl _,⟨rfl,trivial⟩,X2 _⟩))
  have h1:=Xaq g ts b (by omega) hg
  have h2:=XrI g ts b (by omega) hg
  have h3:=XbD (Vz g ts b).1 (XoV g ts b)
  generalize Vz g ts b=r at*
  obtain⟨⟨n3,n4,n5,n6⟩,n,e⟩:=r
  have he:e=e:=rfl
  have hn:n=n:=rfl
  clear hg
  obtain⟨ns,es,nn,ne⟩:=g
  unfold XG at*
  simp only at*
  refine W9_ ?_;refine QMd ?_;refine W5_ ?_;refine QVb ?_;refine Z3 (hcon:=h1) ?_;refine XC ?_;refine Z3 (hcon:=h2) ?_;refine Xr ?_;refine Z3 (hcon:=h3) ?_;refine W4_ ?_;refine QAa ?_;refine Qs ?_;refine QIi ?_
  (show AWP Tryz.prog E _ _ _;refine X1 ?_;exact(show Xy _ _ _ _ _ from⟨_,St.le_refl _,⟨rfl,trivial⟩,X2 _⟩))
theorem Xny:Tryz.prog.cellsOf 5=1:=by kernel_rfl
section
variable {H:Type}{enc:TypeId×Value→H}{W:World}
theorem XqC:Opens enc Tryz.prog W 26 (fun _:List UInt8=>True) (fun l=>[Xk l]):=
 (XqB Tryz.underlying26 Xny (by decide) (XkP Tryz.underlying5)).to id fun _ _=>⟨trivial,rfl⟩
end
end Go.Fw

/- The reader of records: a byte, a number. -/
import Derived.Test.YtlkcofbjniphbaaGreatDoorB33
set_option maxHeartbeats 64000000
namespace Go.Fw
open Go Go.Proofs
set_option maxRecDepth 100000
set_option linter.unusedVariables false
set_option linter.unusedSimpArgs false
theorem Xmh (b:List UInt8) (a e:Int) (hb:b.length≤281474976710656):Con Tryz.prog 109 [(0,oRd b a e)] [.ptr 0 0] [(0,if e=0 then oRd b (Xz b a).2.1 (Xz b a).2.2 else oRd b a e)] (ai (if e=0 then (Xz b a).1 else 0)):=by
 refine Xg (xs:=[ai (if e=0 then (Xz b a).1 else 0)]) Tryz.func109 rfl Tryz.ntmps109 rfl rfl rfl (fun E=> ?_)
 by_cases h:e=0
 ·rw[if_pos h,if_pos h]
  have hu:=X4R b a hb
  generalize Xz b a=u at*
  obtain⟨u1,u2,u3⟩:=u
  refine XD ?_;refine QNc ?_;refine Qre ?_;refine XD ?_;exact Qf
 ·rw[if_neg h,if_neg h]
  refine XD ?_;refine Qia ?_;exact Qf
def rnS (b:List UInt8) (a e:Int):Int×Int×Int:=if e≠0 then (0,a,e) else Xz b a
def rvS (b:List UInt8) (a e:Int):Val×Int×Int:=if e≠0 then (zV,a,e) else Ug b a
theorem X8K (b:List UInt8) (a e:Int) (hb:b.length≤281474976710656):Con Tryz.prog 109 [(0,oRd b a e)] [.ptr 0 0] [(0,oRd b (rnS b a e).2.1 (rnS b a e).2.2)] (ai (rnS b a e).1):=by
 have h:=Xmh b a e hb
 unfold rnS
 by_cases he:e=0
 ·rw[if_pos he,if_pos he] at h
  rw[if_neg (by simpa using he)]
  exact h
 ·rw[if_neg he,if_neg he] at h
  rw[if_pos he]
  exact h
def UP (b:List UInt8) (a e:Int):Chg×Int×Int:=
 let k:=rkI b a e 8
 let i:=rnS b k.2.1 k.2.2
 let f:=if k.1=6 then rnS b i.2.1 i.2.2 else (0,i.2.1,i.2.2)
 let t:=if k.1=6 then rnS b f.2.1 f.2.2 else (0,f.2.1,f.2.2)
 let s:=if Yo k.1=true then rsS b t.2.1 t.2.2 else ([],t.2.1,t.2.2)
 let v:=if Yi k.1=true then rvS b s.2.1 s.2.2 else (zV,s.2.1,s.2.2)
 (⟨k.1,i.1,f.1,t.1,s.1,v.1⟩,v.2.1,v.2.2)
theorem Xne (b:List UInt8) (a e limit:Int):((rkI b a e limit).1=0∧(rkI b a e limit).2.2≠0)∨(1≤(rkI b a e limit).1∧(rkI b a e limit).1≤limit∧(rkI b a e limit).2.2=0):=by
 unfold rkI
 by_cases h:e=0
 ·subst h
  rw[if_neg (by simp)]
  unfold rkS
  rw[if_neg (by simp)]
  split
  ·exact .inl ⟨rfl,by simp⟩
  ·split
   ·exact .inl ⟨rfl,by simp⟩
   ·exact .inr ⟨by simp only;omega,by simp only;omega,rfl⟩
 ·rw[if_pos h]
  exact .inl ⟨rfl,h⟩
theorem Xgd {b:List UInt8}{a e:Int} (h:e≠0):rnS b a e=(0,a,e):=if_pos h
theorem XfU {b:List UInt8}{a e:Int} (h:e≠0):rvS b a e=(zV,a,e):=if_pos h
theorem Xai {b:List UInt8}{a:Int}:rvS b a 0=Ug b a:=if_neg (by simp)
theorem XmN (b:List UInt8) (a e:Int) (hb:b.length≤281474976710656) (ha:e=0→0≤a∧a≤b.length):Con Tryz.prog 70 [(0,oRd b a e)] [.ptr 0 0] [(0,oRd b (UP b a e).2.1 (UP b a e).2.2)] (Xx (UP b a e).1):=by
 refine Xg (xs:=[Xx (UP b a e).1]) Tryz.func70 rfl Tryz.ntmps70 rfl rfl rfl (fun E=> ?_)
 have hk:=Xdf b a e 8 hb ha
 have hop:=Xne b a e 8
 unfold UP
 generalize rkI b a e 8=k at*
 obtain⟨op,a1,e1⟩:=k
 simp only at hk hop ⊢
 have hf:=XiI op
 by_cases h0:op=0
 ·subst h0
  have he:e1≠0:=by omega
  have hi:=X8K b a1 e1 hb
  have hs:=X4r b a1 e1 hb
  rw[Xgd he] at hi ⊢
  rw[Xf8 he] at hs
  simp only[if_neg (show ¬(0:Int)=6 by omega),if_neg (show ¬Yo 0=true by decide),if_neg (show ¬Yi 0=true by decide)]
  simp only[Xx] at*
  refine QTh ?_;refine Xr ?_;refine Qs ?_;refine Qia ?_;exact X1 ⟨_,XF 100 (cs':=[ai 0,ai 0,ai 0,ai 0,XH [],ai 0,ai 0,ai 0,XH [],.d (.sl 5 [])]) rfl JM rfl,⟨⟨100,0,_,rfl,rfl,.inr ⟨10,_,rfl,rfl,rfl,rfl⟩⟩,trivial⟩,Xn ⟨rfl,trivial⟩⟩
 have hop:1≤op∧op≤8∧e1=0:=by omega
 obtain⟨o1,o2,rfl⟩:=hop
 have hi:=X8K b a1 0 hb
 generalize rnS b a1 0=i at*
 obtain⟨id,a2,e2⟩:=i
 simp only at hi ⊢
 by_cases h6:op=6
 ·subst h6
  simp only[if_true,if_pos (show Yo 6=true by decide),if_neg (show ¬Yi 6=true by decide)]
  have hs:=X8K b a2 e2 hb
  generalize rnS b a2 e2=f at*
  obtain⟨src,a3,e3⟩:=f
  simp only at hs ⊢
  have hd:=X8K b a3 e3 hb
  generalize rnS b a3 e3=t at*
  obtain⟨dst,a4,e4⟩:=t
  simp only at hd ⊢
  have hn:=X4r b a4 e4 hb
  generalize rsS b a4 e4=s at*
  obtain⟨name,a5,e5⟩:=s
  simp only[Xx] at*
  refine QSh ?_;refine W8_ ?_;refine Qqc ?_;refine QMd ?_;refine W5_ ?_;refine Z3 (hcon:=hd) ?_;refine Qi ?_;refine W2_ ?_;refine QLd ?_;refine W8_ ?_;refine QW ?_;refine QVb ?_;exact X1 ⟨_,XF 100 (cs':=[ai 6,ai id,ai src,ai dst,XH name,ai 0,ai 0,ai 0,XH [],.d (.sl 5 [])]) rfl JM rfl,⟨⟨100,0,_,rfl,rfl,.inr ⟨10,_,rfl,rfl,rfl,rfl⟩⟩,trivial⟩,Xn ⟨rfl,trivial⟩⟩
 simp only[if_neg h6]
 by_cases hn:Yo op=true
 case neg=>
  have hv:¬Yi op=true:=by revert hn;unfold Yo Yi;simp;omega
  simp only[if_neg hn,if_neg hv]
  have hu:op=1∨op=2∨op=7:=by revert hn;unfold Yo;simp;omega
  rcases hu with rfl|rfl|rfl
  ·simp only[Xx] at*
   exact QUh
  ·simp only[Xx] at*
   exact QUh
  ·simp only[Xx] at*
   exact QUh
 simp only[if_pos hn]
 have hs:=X4r b a2 e2 hb
 generalize rsS b a2 e2=s at*
 obtain⟨name,a3,e3⟩:=s
 simp only at hs ⊢
 by_cases hv:Yi op=true
 case neg=>
  simp only[if_neg hv]
  have hu:op=3∨op=4:=by revert hn hv;unfold Yo Yi;simp;omega
  rcases hu with rfl|rfl
  ·simp only[Xx] at*
   refine QTh ?_;refine W8_ ?_;refine QW ?_;refine QVb ?_;exact QVh
  ·simp only[Xx] at*
   refine QTh ?_;refine W8_ ?_;refine QW ?_;refine QVb ?_;exact QVh
 simp only[if_pos hv]
 have hu:op=5∨op=8:=by revert hv;unfold Yi;simp
 by_cases he:e3=0
 ·subst he
  rw[Xai]
  have hr:=Xfu b hb a3
  generalize Ug b a3=v at*
  obtain⟨⟨vk,vn,vd,vs,vl⟩,a4,e4⟩:=v
  rcases hu with rfl|rfl
  ·simp only[Xx,Xv] at*
   refine QTh ?_;refine Xr ?_;refine QKc ?_;refine Yc ?_;refine Z3 (hcon:=hr) ?_;refine Us ?_;exact QWh
  ·simp only[Xx,Xv] at*
   refine QTh ?_;refine Xr ?_;refine QKc ?_;refine Yc ?_;refine Z3 (hcon:=hr) ?_;refine Us ?_;exact QWh
 ·rw[XfU he]
  rcases hu with rfl|rfl
  ·simp only[Xx] at*
   refine QTh ?_;refine Xr ?_;refine Qs ?_;refine Qia ?_;exact QVh
  ·simp only[Xx] at*
   refine QTh ?_;refine Xr ?_;refine Qs ?_;refine Qia ?_;exact QVh
open Go
theorem X7o {b:List UInt8}{a:Int}:rnS b a 0=Xz b a:=if_neg (by simp)
theorem XcI {b:List UInt8}{a e n m:Int} (h:rnS b a e=(n,m,0)):e=0:=by
 by_cases he:e=0
 ·exact he
 ·rw[Xgd he] at h
  simp at h
  exact absurd h.2.2 he
theorem XlH {b:List UInt8}{a e m:Int}{v:Val} (h:rvS b a e=(v,m,0)):e=0:=by
 by_cases he:e=0
 ·exact he
 ·rw[XfU he] at h
  simp at h
  exact absurd h.2.2 he
theorem XqN {b:List UInt8}{a at_:Int}{c:Chg} (h0:0≤a) (h:UP b a 0=(c,at_,0)):only b a at_ (YP c)∧a<at_∧1≤c.op∧c.op≤8:=by
 unfold UP at h
 simp only at h
 generalize hk:rkI b a 0 8=k at h
 obtain⟨op,a1,e1⟩:=k
 simp only at h
 generalize hi:rnS b a1 e1=i at h
 obtain⟨id,a2,e2⟩:=i
 simp only at h
 generalize hf:(if op=6 then rnS b a2 e2 else (0,a2,e2))=f at h
 obtain⟨src,a3,e3⟩:=f
 simp only at h
 generalize ht:(if op=6 then rnS b a3 e3 else (0,a3,e3))=t at h
 obtain⟨dst,a4,e4⟩:=t
 simp only at h
 generalize hs:(if Yo op=true then rsS b a4 e4 else ([],a4,e4))=s at h
 obtain⟨name,a5,e5⟩:=s
 simp only at h
 generalize hv:(if Yi op=true then rvS b a5 e5 else (zV,a5,e5))=v at h
 obtain⟨v,a6,e6⟩:=v
 simp only[Prod.mk.injEq] at h
 obtain⟨rfl,rfl,rfl⟩:=h
 have z5:e5=0:=by
  split at hv
  ·exact XlH hv
  ·simp at hv;exact hv.2.2
 subst z5
 have z4:e4=0:=by
  split at hs
  ·exact X72 hs
  ·simp at hs;exact hs.2.2
 subst z4
 have z3:e3=0:=by
  split at ht
  ·exact XcI ht
  ·simp at ht;exact ht.2.2
 subst z3
 have z2:e2=0:=by
  split at hf
  ·exact XcI hf
  ·simp at hf;exact hf.2.2
 subst z2
 have z1:=XcI hi
 subst z1
 obtain⟨p1,p2,p3,p4⟩:=XgV h0 hk
 rw[X7o] at hi
 obtain⟨q1,q2,q3,q4⟩:=X3r hi
 have r1:only b a2 a4 (if op=6 then Xm src++Xm dst else [])∧a2≤a4:=by
  by_cases h6:op=6
  ·rw[if_pos h6] at hf ht ⊢
   rw[X7o] at hf ht
   have x1:=X3r hf
   have x2:=X3r ht
   exact⟨X1h x1.1 x2.1,by omega⟩
  ·rw[if_neg h6] at hf ht ⊢
   simp at hf ht
   obtain⟨_,rfl⟩:=hf
   obtain⟨_,rfl⟩:=ht
   have:=q1.2.1
   exact⟨X6c (by have:=p1.1;omega) q1.2.2.1,by omega⟩
 have r2:only b a4 a5 (if Yo op=true then XX name else [])∧a4≤a5:=by
  by_cases h6:Yo op=true
  ·rw[if_pos h6] at hs ⊢
   rw[Xb0] at hs
   have x1:=X4G hs
   exact⟨x1.1,by omega⟩
  ·rw[if_neg h6] at hs ⊢
   simp at hs
   obtain⟨_,rfl⟩:=hs
   exact⟨X6c (by have:=r1.1.1;have:=r1.1.2.1;omega) r1.1.2.2.1,by omega⟩
 have r3:only b a5 a6 (if Yi op=true then YN v else [])∧a5≤a6:=by
  by_cases h6:Yi op=true
  ·rw[if_pos h6] at hv ⊢
   rw[Xai] at hv
   have x1:=XbY hv
   exact⟨x1.1,x1.1.2.1⟩
  ·rw[if_neg h6] at hv ⊢
   simp at hv
   obtain⟨_,rfl⟩:=hv
   exact⟨X6c (by have:=r2.1.1;have:=r2.1.2.1;omega) r2.1.2.2.1,by omega⟩
 refine⟨?_,by omega,p3,p4⟩
 unfold YP
 simp only
 rw[XgY]
 exact X1h p1 (X1h (X1h (X1h q1 r1.1) r2.1) r3.1)
abbrev zC:Chg:=⟨0,0,0,0,[],zV⟩
def Va (b:List UInt8) (a:Int):Chg×Int×Int:=
 if a<0∨(b.length:Int)<a then (zC,0,1) else
  let r:=UP b a 0
  let e:=if r.2.2=0 then YJ r.1 else r.2.2
  if e≠0 then (zC,0,e) else (r.1,r.2.1,0)
theorem XkD (c:Chg) (ρ:Nat→Nat):(Xx c).ren ρ=Xx c:=by
 obtain⟨op,id,src,dst,name,⟨k,n,d,s,l⟩⟩:=c
 rfl
theorem Xnk (b:List UInt8) (a e:Int) (hb:b.length≤281474976710656) (ha:e=0→0≤a∧a≤b.length):Con Tryz.prog 70 [(101,oRd b a e)] [.ptr 101 0] [(101,oRd b (UP b a e).2.1 (UP b a e).2.2)] (Xx (UP b a e).1):=by
 have h:=U0 0 101 (XmN b a e hb ha)
 rw[XkD] at h
 exact h
theorem XnS (b:List UInt8) (a:Int) (hb:b.length≤281474976710656):Con Tryz.prog 27 [] [.d (Xk b),ai a] [] (.tup [Xx (Va b a).1,ai (Va b a).2.1,ai (Va b a).2.2]):=by
 refine Xg (xs:=[Xx (Va b a).1,ai (Va b a).2.1,ai (Va b a).2.2]) Tryz.func27 rfl Tryz.ntmps27 rfl rfl rfl (fun E=> ?_)
 have hlm:(b.map Xc).length=b.length:=by simp
 unfold Va
 by_cases h1:a<0
 ·rw[if_pos (.inl h1)]
  refine Xt ?_;refine QL ?_;refine Qaf ?_;exact QXh
 by_cases h2:(b.length:Int)<a
 ·rw[if_pos (.inr h2)]
  have h2':((b.map Xc).length:Int)<a:=by omega
  refine Yc ?_;refine QP ?_;refine QWc ?_;exact QXh
 rw[if_neg (by omega)]
 have h2':¬((b.map Xc).length:Int)<a:=by omega
 have hr:=Xnk b a 0 hb (fun _=>by omega)
 have hc:=X4c (UP b a 0).1
 generalize UP b a 0=r at*
 obtain⟨c,at_,e⟩:=r
 simp only at hr hc ⊢
 generalize YJ c=ce at*
 obtain⟨op,id,src,dst,name,⟨k,n,d,s,l⟩⟩:=c
 simp only[Xx] at hr hc ⊢
 by_cases he:e=0
 ·subst he
  rw[if_pos rfl]
  by_cases h3:ce=0
  ·subst h3
   rw[if_neg (by simp)]
   refine Qjf ?_;refine Qoe ?_;refine Xt ?_;exact QYh
  ·rw[if_pos h3]
   refine Qjf ?_;refine Xr ?_;refine Qje ?_;exact QXh
 ·rw[if_neg he,if_pos he]
  refine Qif ?_;refine QUc ?_;refine Qje ?_;exact QXh
def Yr:Rd→Chg×Rd:=Vc zC Va
def X4U (b:List UInt8) (s:Rd):(Int×Int)×Rd:=Ys b (fun s=>let a:=XL s;let c:=XL a.2;((a.1,c.1),c.2)) s
def X0h (x:(Int×Int)×Rd):Rd:=if x.2.e=0∧x.1.2<x.1.1 then x.2.put x.2.a 2 else x.2
def X22 (b:List UInt8) (s:Rd):(Int×Int×List (List Chg))×Rd:=
 let h:=X4U b s
 let m:=Y2 (Ys b (YG Yr)) (h.1.2-h.1.1).toNat (X0h h)
 ((h.1.1,h.1.2,m.1),VU b m.2)
def X31 (b:List UInt8):List UInt8:=if b.take 4=Yn then b.drop 4 else []
def Vi (b:List UInt8):Rd:=⟨0,[],0,if b.take 4=Yn then 0 else 2⟩
def XcH (ts:Int) (x:(Int×Int×List (List Chg))×Rd):Int:=if x.2.e≠0 then x.2.e else if x.1.1≠ts then 26 else 0
def Vz (g:Gra) (ts:Int) (b:List UInt8):Gra×Int×Int:=
 let x:=X22 (b.drop 4) (Vi b)
 if XcH ts x≠0 then (YL,0,XcH ts x) else
 let r:=Yd g x.1.2.2.flatten
 if r.2.2≠0 then (YL,0,r.2.2) else (r.1,x.1.2.1,0)
theorem Xb1 {α:Type}{f:Rd→α×Rd}{b:List UInt8}{P:α→Prop} (hp:PartR f) (ho:∀s,Uk s→Uk (f s).2) (h:∀s,RdInv b s→P (f s).1):∀(n:Nat) (s:Rd),RdInv b s→∀x∈(Y2 (Ys b f) n s).1,P x
 |0,s,_,x,hx=>by simp[Y2] at hx
 |n+1,s,hi,x,hx=>by
  rw[Y2] at hx
  split at hx
  ·simp at hx
  ·simp only[List.mem_cons] at hx
   rcases hx with rfl|hx
   ·exact h _ (X2n hi).1
   ·exact Xb1 hp ho h n _ (X4a hp ho hi).1 x hx
theorem X62:(Yn.map Xc).length=4:=rfl
theorem Xq3 (b:List UInt8):Con Tryz.prog 105 [] [.d (Xk b),.d (Xk Yn)] [] (ab (decide (b.take 4=Yn))):=by
 refine Xg (xs:=[ab (decide (b.take 4=Yn))]) Tryz.func105 rfl Tryz.ntmps105 rfl rfl rfl (fun E=> ?_)
 have hlm:(b.map Xc).length=b.length:=by simp
 have hc:=Xfz (b.take 4) Yn
 have hg4:Yn.length=4:=rfl
 by_cases h4:4≤b.length
 ·have h4':((Yn.map Xc).length:Int)≤(b.map Xc).length:=by rw[X62];omega
  have hsl:((b.map Xc).take (Yn.map Xc).length).drop 0=(b.take 4).map Xc:=by rw[X62,List.drop_zero,List.map_take]
  have hle:(Yn.map Xc).length≤(b.map Xc).length:=by omega
  generalize decide (b.take 4=Yn)=r at*
  refine XA ?_;refine Z7 (lb:=0) (hb:=(Yn.map Xc).length) (ys:=(b.take 4).map Xc) ?_ (hys:=by exact hsl);refine W1_ ?_;refine QJd ?_;exact QBa
 ·have h4':¬((Yn.map Xc).length:Int)≤(b.map Xc).length:=by rw[X62];omega
  rw[decide_eq_false (fun h=>by have:=congrArg List.length h;simp[Yn] at this;omega)]
  refine Xt ?_;exact Qva
theorem Xp5 (b:List UInt8):Con Tryz.prog 66 [] [.d (Xk b),.d (Xk Yn)] [] (.tup [.d (Xk (if b.take 4=Yn then b.drop 4 else b)),ab (decide (b.take 4=Yn))]):=by
 refine Xg (xs:=[.d (Xk (if b.take 4=Yn then b.drop 4 else b)),ab (decide (b.take 4=Yn))]) Tryz.func66 rfl Tryz.ntmps66 rfl rfl rfl (fun E=> ?_)
 have hlm:(b.map Xc).length=b.length:=by simp
 have hc:=Xq3 b
 have hg4:Yn.length=4:=rfl
 by_cases h:b.take 4=Yn
 ·rw[if_pos h]
  rw[decide_eq_true h] at hc ⊢
  have h4:(Yn.map Xc).length≤(b.map Xc).length:=by
   have:=congrArg List.length h
   simp only[List.length_take] at this
   have h4:Yn.length=4:=rfl
   rw[X62]
   omega
  have hsl:((b.map Xc).take (b.map Xc).length).drop (Yn.map Xc).length=(b.drop 4).map Xc:=by rw[X62,List.take_length,List.map_drop]
  refine Qjg ?_;refine W2_ ?_;refine Qia ?_;refine Z7 (lb:=(Yn.map Xc).length) (hb:=(b.map Xc).length) (ys:=(b.drop 4).map Xc) ?_ (hys:=by exact hsl);exact QPc
 ·rw[if_neg h]
  rw[decide_eq_false h] at hc ⊢
  refine Qjg ?_;refine W2_ ?_;refine Qb ?_;exact QOc
theorem Xju (b:List UInt8):Con Tryz.prog 22 [] [.d (Xk b),XH Yn] [(100,oB (X31 b) (Vi b))] (.ptr 100 0):=by
 refine Xg (xs:=[.ptr 100 0]) Tryz.func22 rfl Tryz.ntmps22 rfl rfl rfl (fun E=> ?_)
 have hc:=Xp5 b
 have hg4:Yn.length≤9223372036854775807:=by decide
 unfold X31 Vi oB
 by_cases h:b.take 4=Yn
 ·rw[if_pos h] at hc ⊢
  rw[if_pos h]
  rw[decide_eq_true h] at hc
  simp only[List.drop_zero]
  refine Qhe ?_;refine Xt ?_;refine QWb ?_;exact Qkg
 ·rw[if_neg h] at hc ⊢
  rw[if_neg h]
  rw[decide_eq_false h] at hc
  simp only[List.drop_zero]
  refine Qhe ?_;refine Xt ?_;refine Qb ?_;exact Qlg
theorem Xoy (b:List UInt8):RdInv (X31 b) (Vi b):=⟨Nat.zero_le _,⟨Int.le_refl _,by simp[Vi]⟩,by simp[Vi]⟩
theorem XoU (b:List UInt8):(X31 b).length≤b.length:=by
 unfold X31
 split<;>simp
theorem Xpm (b:List UInt8):Con Tryz.prog 22 [] [.d (Xk b),XH Yn] [(140,oB (X31 b) (Vi b))] (.ptr 140 0):=U0 100 140 (Xju b)
theorem Xsb (b:List UInt8) (s:Rd) (hc:s.c.length≤281474976710656):Con Tryz.prog 26 [(0,oB b s)] [.ptr 0 0,.fn 27 []] [(0,oB b (Yr s).2)] (Xx (Yr s).1):=by
 refine Xg (xs:=[Xx (Yr s).1]) Tryz.func26 rfl Tryz.ntmps26 rfl rfl rfl (fun E=> ?_)
 obtain⟨k,c,a,e⟩:=s
 simp only at hc
 have hf:=XnS c a hc
 unfold Yr Vc oB Rd.put
 simp only
 by_cases he:e=0
 case neg=>
  rw[if_pos he]
  simp only
  refine XD ?_;refine QCa ?_;exact X1 ⟨_,XF 100 (cs':=[ai 0,ai 0,ai 0,ai 0,.d (.v (.string (Xb []))),ai 0,ai 0,ai 0,.d (.v (.string (Xb []))),.d (.sl 5 [])]) rfl JM rfl,⟨⟨100,0,_,rfl,rfl,.inr ⟨10,_,rfl,rfl,rfl,rfl⟩⟩,trivial⟩,Xn ⟨rfl,trivial⟩⟩
 subst he
 rw[if_neg (by simp)]
 generalize Va c a=r at*
 obtain⟨x,m,er⟩:=r
 obtain⟨op,id,src,dst,name,⟨vk,vn,vd,vs,vl⟩⟩:=x
 simp only[Xx,Xv] at hf ⊢
 by_cases her:er=0
 ·subst her
  rw[if_pos rfl]
  refine Qfg ?_;exact QWh
 ·rw[if_neg her]
  refine Qgg ?_;exact QWh
theorem X5R:PartR Yr:=X4b zC Va
theorem XmT {c:List UInt8}{a:Int}{x:Chg}{e:Int} (h:Va c a=(x,e,0)):only c a e (YP x)∧a<e∧YJ x=0:=by
 unfold Va at h
 by_cases h0:a<0∨(c.length:Int)<a
 ·rw[if_pos h0] at h;simp at h
 ·rw[if_neg h0] at h
  generalize hr:UP c a 0=r at h
  obtain⟨y,z,e'⟩:=r
  simp only at h
  by_cases he:e'=0
  ·subst he
   simp only[if_true] at h
   by_cases hy:YJ y=0
   ·rw[if_neg (by simp[hy])] at h
    simp only[Prod.mk.injEq,and_true] at h
    obtain⟨rfl,rfl⟩:=h
    obtain⟨h1,h2,_⟩:=XqN (by omega) hr
    exact⟨h1,h2,hy⟩
   ·rw[if_pos hy] at h
    simp only[Prod.mk.injEq] at h
    exact absurd h.2.2 hy
  ·rw[if_neg he,if_pos he] at h
   simp only[Prod.mk.injEq] at h
   exact absurd h.2.2 he
theorem X5J:GoR 1 Yr:=X66 (by omega) fun c a x e h=>by
 obtain⟨h1,h2,_⟩:=XmT h
 exact⟨by omega,h1.2.2.1⟩
theorem X3k:PartR (YG Yr):=X7O X5R
theorem X4e:∀s,Uk s→Uk (YG Yr s).2:=fun s hs=>X8a X5J hs
def X1T (g:Gra) (ts:Int) (x:Int×Int×List (List Chg)) (e:Int):Gra×Int×Int:=
 if e≠0 then (YL,0,e) else if x.1≠ts then (YL,0,26) else
 if (Yd g x.2.2.flatten).2.2≠0 then (YL,0,(Yd g x.2.2.flatten).2.2) else ((Yd g x.2.2.flatten).1,x.2.1,0)
theorem X95 {g:Gra}{ts:Int}{x:Int×Int×List (List Chg)}{e:Int} (h:e≠0):X1T g ts x e=(YL,0,e):=by
 unfold X1T;rw[if_pos h]
theorem Xc9 {g:Gra}{ts a z:Int}{l:List (List Chg)} (h:a≠ts):X1T g ts (a,z,l) 0=(YL,0,26):=by
 unfold X1T;rw[if_neg (by simp),if_pos h]
theorem Xiu {g:Gra}{ts z:Int}{l:List (List Chg)} (h:(Yd g l.flatten).2.2≠0):X1T g ts (ts,z,l) 0=(YL,0,(Yd g l.flatten).2.2):=by
 unfold X1T;rw[if_neg (by simp),if_neg (by simp),if_pos h]
theorem X9U {g:Gra}{ts z:Int}{l:List (List Chg)} (h:(Yd g l.flatten).2.2=0):X1T g ts (ts,z,l) 0=((Yd g l.flatten).1,z,0):=by
 unfold X1T;rw[if_neg (by simp),if_neg (by simp),if_neg (by simp[h])]
theorem Xcx (g:Gra) (ts:Int) (b:List UInt8):Vz g ts b=X1T g ts (X22 (b.drop 4) (Vi b)).1 (X22 (b.drop 4) (Vi b)).2.e:=by
 unfold Vz X1T XcH
 generalize X22 (b.drop 4) (Vi b)=x
 simp only
 by_cases h:x.2.e≠0
 ·rw[if_pos h,if_pos h,if_pos h]
 ·rw[if_neg h,if_neg h]
  by_cases h2:x.1.1≠ts
  ·rw[if_pos h2,if_pos h2,if_pos (by decide)]
  ·rw[if_neg h2,if_neg h2,if_neg (by simp)]
theorem Xh5 {b:List UInt8}{s:Rd} (h:s.e≠0):X22 b s=((0,0,[]),s):=by
 have hh:X4U b s=((0,0),s):=by
  unfold X4U Ys
  simp only[Xb7 h,XhG h,Xcd h]
 have ho:X0h ((0,0),s)=s:=by unfold X0h;rw[if_neg (fun q=>h q.1)]
 unfold X22
 rw[hh]
 simp only[ho,X5E h]
 unfold VU
 rw[if_neg (fun q=>h q.1)]
theorem Xms (g:Gra) (ts:Int) (b:List UInt8):Vz g ts b=X1T g ts (X22 (X31 b) (Vi b)).1 (X22 (X31 b) (Vi b)).2.e:=by
 rw[Xcx]
 unfold X31 Vi
 by_cases h:b.take 4=Yn
 ·rw[if_pos h,if_pos h]
 ·rw[if_neg h,if_neg h,Xh5 (by simp),Xh5 (by simp)]
theorem Xht {α:Type}{k:Nat}:∀(l:List (List α)),(∀x∈l,x.length≤k)→l.flatten.length≤l.length*k
 |[],_=>by simp
 |x::l,h=>by
  have h1:=Xht l fun y hy=>h y (List.mem_cons_of_mem _ hy)
  have h2:=h x (List.mem_cons_self ..)
  simp only[List.flatten_cons,List.length_append,List.length_cons,Nat.add_mul,Nat.one_mul]
  omega
theorem XdE {b:List UInt8}{s:Rd} (hi:RdInv b s):(YG Yr s).1.length≤b.length+1:=by
 have h:=X9m X5R X5J (XL s).1.toNat (XL s).2 (Vh.ok s hi.ok)
 have h1:=(Vd.keep s).2
 have h2:=(Vh.ok s hi.ok).1
 have h3:=hi.c
 rw[h1] at h
 show(Y2 Yr (XL s).1.toNat (XL s).2).1.length≤_
 omega
theorem XgT {b:List UInt8}{n:Nat}{s:Rd} (hb:b.length≤65536) (hi:RdInv b s):(Y2 (Ys b (YG Yr)) n s).1.flatten.length≤4295098369:=by
 have h1:=(X4o X3k X4e n s hi).2
 have h2:=Xb1 (P:=fun l:List Chg=>l.length≤65537) X3k X4e (fun s hs=>by have:=XdE hs;omega) n s hi
 have h3:=Xht _ h2
 have h4:(Y2 (Ys b (YG Yr)) n s).1.length*65537≤65537*65537:=Nat.mul_le_mul_right _ (by omega)
 omega
theorem XmQ (b:List UInt8) (s:Rd) (hc:s.c.length≤281474976710656):Con Tryz.prog 26 [(140,oB b s)] [.ptr 140 0,.fn 27 []] [(140,oB b (Yr s).2)] (Xx (Yr s).1):=by
 have h:=Xsb b s hc
 generalize (Yr s).1=x at*
 obtain⟨op,id,src,dst,name,⟨vk,vn,vd,vs,vl⟩⟩:=x
 exact U0 0 140 h
theorem Xaq (g:Gra) (ts:Int) (b:List UInt8) (hb:b.length≤65536) (hg:GraHold g):Con Tryz.prog 8 [] [XG g,ai ts,.d (Xk b)] [] (.tup [XG (Vz g ts b).1,ai (Vz g ts b).2.1,ai (Vz g ts b).2.2]):=by
 refine Xg (xs:=[XG (Vz g ts b).1,ai (Vz g ts b).2.1,ai (Vz g ts b).2.2]) Tryz.func8 rfl Tryz.ntmps8 rfl rfl rfl (fun E=> ?_)
 have hbl:=XoU b
 have hinv:=Xoy b
 rw[Xms g ts b]
 have k0:=Xpm b
 unfold X22
 generalize X31 b=b' at*
 generalize Vi b=s0 at*
 have ko:=X52 b' s0 (by omega)
 have hi1:=(X2n hinv).1
 have hhd:X4U b' s0=(((XL (Yu b' s0)).1,(XL (XL (Yu b' s0)).2).1),UJ (XL (XL (Yu b' s0)).2).2):=rfl
 rw[hhd]
 clear hhd
 simp only
 generalize Yu b' s0=o1 at*
 have h1:=X3E b' o1 (by have:=hi1.c;omega)
 have hi2:=X2P Vd Vh.ok hi1
 obtain⟨m1,hm1,hml1⟩:=X1A o1
 rw[hm1] at h1
 generalize ho2:(XL o1).2=o2 at*
 have h2:=X3E b' o2 (by have:=hi2.c;omega)
 have hi3:=X2P Vd Vh.ok hi2
 obtain⟨m2,hm2,hml2⟩:=X1A o2
 rw[hm2] at h2
 generalize ho3:(XL o2).2=o3 at*
 have ks:=X5g b' o3
 have hi4:=(X98 hi3).1
 simp only[hm1,hm2]
 generalize UJ o3=s4 at*
 clear hm1 hm2 ho2 ho3 hi1 hi2 hi3 hinv
 by_cases he4:s4.e=0
 case neg=>
  have ho:X0h (((m1:Int),(m2:Int)),s4)=s4:=by unfold X0h;rw[if_neg (fun q=>he4 q.1)]
  rw[ho,X5E he4]
  have hE:VU b' s4=s4:=by unfold VU;rw[if_neg (fun q=>he4 q.1)]
  have hf:=X9i b' s4 hi4.k
  rw[hE] at hf ⊢
  rw[X95 he4]
  clear ho hE
  obtain⟨p0,q0,r0,t0⟩:=s0
  obtain⟨p1,q1,r1,t1⟩:=o1
  obtain⟨p2,q2,r2,t2⟩:=o2
  obtain⟨p3,q3,r3,t3⟩:=o3
  obtain⟨k,c,a,e⟩:=s4
  obtain⟨ns,es,nn,ne⟩:=g
  unfold oB at k0 ko h1 h2 ks hf
  simp only at he4 k0 ko h1 h2 ks hf ⊢
  simp only[XG,List.map_nil] at*
  refine Qai ?_;refine Xj ?_;refine Qw ?_;refine QU ?_;refine XC ?_
  clear k0 ko h1 h2 ks
  refine XK (ι:=Unit) (fun _=>True) (fun _=>⟨101,[(1,ai ts),(3,.ptr 100 0),(6,.ptr 101 0),(9,.ptr 140 0),(10,ai (m1:Nat)),(11,ai (m2:Nat)),(13,ai ((m2:Int)-(m1:Nat)))],[(100,.box [.d (.sl 3 (ns.map Xp)),.d (.sl 5 (es.map Xs)),ai nn,ai ne]),(101,.box [ani,ani,ai 0,ai 0]),(140,.box [.d (Xk (b'.drop k)),.d (Xk c),ai a,ai e])]⟩) (fun _=>0) () trivial (Xd rfl JM ⟨rfl,rfl,rfl,trivial⟩) ?_
  rintro⟨⟩ _
  by_cases hz:(0:Int)<(m2:Int)-(m1:Nat)
  ·refine Qt ?_;refine Qc ?_;exact Qdi
  ·refine W6_ ?_;refine QW ?_;refine QZ ?_;exact Qdi
 by_cases hlt:(m2:Int)<(m1:Nat)
 case pos=>
  have ho:X0h (((m1:Int),(m2:Int)),s4)=s4.put s4.a 2:=by unfold X0h;rw[if_pos ⟨he4,hlt⟩]
  have he5:(s4.put s4.a 2).e≠0:=by simp[Rd.put]
  rw[ho,X5E he5]
  have hE:VU b' (s4.put s4.a 2)=s4.put s4.a 2:=by unfold VU;rw[if_neg (fun q=>he5 q.1)]
  have hf:=X9i b' (s4.put s4.a 2) hi4.k
  rw[hE] at hf ⊢
  rw[X95 he5]
  clear ho hE
  obtain⟨p0,q0,r0,t0⟩:=s0
  obtain⟨p1,q1,r1,t1⟩:=o1
  obtain⟨p2,q2,r2,t2⟩:=o2
  obtain⟨p3,q3,r3,t3⟩:=o3
  obtain⟨k,c,a,e⟩:=s4
  obtain⟨ns,es,nn,ne⟩:=g
  simp only at he4
  subst he4
  unfold oB at k0 ko h1 h2 ks hf
  unfold Rd.put at hf ⊢
  simp only at k0 ko h1 h2 ks hf ⊢
  simp only[XG,List.map_nil] at*
  refine Qai ?_;refine Xr ?_;refine QKc ?_;refine Yw ?_
  clear k0 ko h1 h2 ks
  refine XK (ι:=Unit) (fun _=>True) (fun _=>⟨101,[(1,ai ts),(3,.ptr 100 0),(6,.ptr 101 0),(9,.ptr 140 0),(10,ai (m1:Nat)),(11,ai (m2:Nat)),(13,ai ((m2:Int)-(m1:Nat)))],[(100,.box [.d (.sl 3 (ns.map Xp)),.d (.sl 5 (es.map Xs)),ai nn,ai ne]),(101,.box [ani,ani,ai 0,ai 0]),(140,.box [.d (Xk (b'.drop k)),.d (Xk c),ai a,ai 2])]⟩) (fun _=>0) () trivial (Xd rfl JM ⟨rfl,rfl,rfl,trivial⟩) ?_
  rintro⟨⟩ _
  have hz:¬(0:Int)<(m2:Int)-(m1:Nat):=by omega
  refine W6_ ?_;refine QW ?_;refine QZ ?_;exact Qdi
 have ho:X0h (((m1:Int),(m2:Int)),s4)=s4:=by unfold X0h;rw[if_neg (fun q=>hlt q.2)]
 rw[ho]
 obtain⟨n,hn⟩:∃n:Nat,(m2:Int)-(m1:Nat)=n:=⟨m2-m1,by omega⟩
 have hnl:n≤9223372036854775807:=by omega
 rw[hn,Int.toNat_natCast]
 have hLb:=XgT (n:=n) (by omega) hi4
 have hLk:=(X4o X3k X4e n s4 hi4).1.k
 have hf:=X9i b' (Y2 (Ys b' (YG Yr)) n s4).2 hLk
 generalize hL0:Y2 (Ys b' (YG Yr)) n s4=L0 at*
 clear ho hLk
 have hLb':L0.1.flatten.length≤4295098369:=hLb
 generalize hLf:L0.1.flatten=F at*
 obtain⟨LL,R⟩:=L0
 simp only at hLf hf ⊢
 have hL1:(Y2 (Ys b' (YG Yr)) n s4).1.flatten=F:=by rw[hL0];exact hLf
 have hL2:(Y2 (Ys b' (YG Yr)) n s4).2=R:=by rw[hL0]
 clear hL0
 obtain⟨p0,q0,r0,t0⟩:=s0
 obtain⟨p1,q1,r1,t1⟩:=o1
 obtain⟨p2,q2,r2,t2⟩:=o2
 obtain⟨p3,q3,r3,t3⟩:=o3
 obtain⟨k,c,a,e⟩:=s4
 obtain⟨ns,es,nn,ne⟩:=g
 simp only at he4
 subst he4
 have hap:=Xa3 ⟨ns,es,nn,ne⟩ F hg (by omega)
 unfold oB at k0 ko h1 h2 ks hf
 simp only at k0 ko h1 h2 ks hf ⊢
 simp only[XG] at*
 refine Qai ?_;refine Xr ?_;refine QDe ?_;refine Xj ?_
 (refine Z1 (op:= .sub) (r':= .int .i64 (n:Nat)) (u:= .int .i64 (m2:Nat)) (v:= .int .i64 (m1:Nat)) ?_ (hr':=by exact congrArg (Value.int .i64) hn) (hr:=by exact Yl (by unfold XT;omega)))
 refine W2_ ?_
 clear k0 ko h1 h2 ks
 refine X2h ⟨101,[(1,ai ts),(3,.ptr 100 0),(6,.ptr 101 0),(9,.ptr 140 0),(10,ai (m1:Nat)),(11,ai (m2:Nat)),(12,.d (.sl 10 (F.map Y1)))],[(100,.box [.d (.sl 3 (ns.map Xp)),.d (.sl 5 (es.map Xs)),ai nn,ai ne]),(101,.box [ani,ani,ai 0,ai 0]),(140,.box [.d (Xk (b'.drop R.k)),.d (Xk R.c),ai R.a,ai R.e])]⟩ ?_ ?_
 ·clear hf hap
  refine Xq (V3 12 130 10 rfl rfl rfl) ?_;refine W1_ ?_
  refine XK (ι:=List Chg×Nat×Rd) (fun q=>q.1++(Y2 (Ys b' (YG Yr)) q.2.1 q.2.2).1.flatten=F∧(Y2 (Ys b' (YG Yr)) q.2.1 q.2.2).2=R∧RdInv b' q.2.2∧q.2.1≤9223372036854775807)
   (fun q=>⟨101,[(1,ai ts),(3,.ptr 100 0),(6,.ptr 101 0),(9,.ptr 140 0),(10,ai (m1:Nat)),(11,ai (m2:Nat)),(12,.own 130 (q.1.map Y1).length),(13,ai (q.2.1:Nat))],[(100,.box [.d (.sl 3 (ns.map Xp)),.d (.sl 5 (es.map Xs)),ai nn,ai ne]),(101,.box [ani,ani,ai 0,ai 0]),(130,.row 10 (q.1.map Y1)),(140,.box [.d (Xk (b'.drop q.2.2.k)),.d (Xk q.2.2.c),ai q.2.2.a,ai q.2.2.e])]⟩) (fun q=>q.2.1) ([],n,⟨k,c,a,0⟩)
   ⟨by rw[hL1];rfl,hL2,hi4,hnl⟩
   (Xd rfl JM ⟨rfl,rfl,rfl,rfl,trivial⟩) ?_
  clear hL1 hL2 hi4 hn
  rintro⟨acc,j,s⟩ ⟨g1,g2,hinv,g4⟩
  simp only at g1 g2 hinv g4
  by_cases hj:j=0∨s.e≠0
  ·have hme:Y2 (Ys b' (YG Yr)) j s=([],s):=by
    rcases hj with rfl|h
    ·rfl
    ·exact X5E h
   rw[hme] at g1 g2
   simp only[List.flatten_nil,List.append_nil] at g1 g2
   subst g1 g2
   have hgd:(¬(0:Int)<(j:Nat))∨((0:Int)<(j:Nat)∧s.e≠0):=by
    rcases hj with rfl|h
    ·exact .inl (by simp)
    ·by_cases h0:(0:Int)<(j:Nat)
     ·exact .inr ⟨h0,h⟩
     ·exact .inl h0
   obtain⟨k,c,a,e⟩:=s
   simp only at hgd ⊢
   rcases hgd with hj'|⟨hj',he⟩
   ·refine Qmg ?_;exact Qei
   ·refine QUf ?_;exact Qei
  obtain⟨i,rfl⟩:∃i,j=i+1:=⟨j-1,by omega⟩
  have hj':(0:Int)<(i+1:Nat):=by omega
  have he:s.e=0:=by
   by_cases q:s.e=0
   ·exact q
   ·exact absurd (.inr q) hj
  rw[X3b he] at g1 g2
  simp only[List.flatten_cons] at g1 g2
  rw[←List.append_assoc] at g1
  have hv1:=(X2n hinv).1
  have hv3:=(X4a (f:=YG Yr) X3k X4e hinv).1
  have k1:=X52 b' s (by omega)
  have hit:Ys b' (YG Yr) s=((Y2 Yr (XL (Yu b' s)).1.toNat (XL (Yu b' s)).2).1,UJ (Y2 Yr (XL (Yu b' s)).1.toNat (XL (Yu b' s)).2).2):=rfl
  rw[hit] at g1 g2 hv3
  simp only at g1 g2 hv3
  generalize Yu b' s=s1 at*
  have hc1:=hv1.c
  have k2:=X3E b' s1 (by omega)
  obtain⟨m,hm,hml⟩:=X1A s1
  rw[hm] at k2 g1 g2 hv3
  rw[Int.toNat_natCast] at g1 g2 hv3
  have hok:=Vh.ok s1 hv1.ok
  have hcs:=(Vd.keep s1).2
  generalize (XL s1).2=s2 at*
  have hc2:s2.c.length≤65536:=by rw[hcs];omega
  generalize hT:((acc++(Y2 Yr m s2).1,(Y2 Yr m s2).2):List Chg×Rd)=T
  have hT1:acc++(Y2 Yr m s2).1=T.1:=by rw[←hT]
  have hT2:(Y2 Yr m s2).2=T.2:=by rw[←hT]
  clear hT
  rw[hT1] at g1
  rw[hT2] at g1 g2 hv3
  have hTb:T.1.length≤4295098369:=by
   have:=congrArg List.length g1
   rw[List.length_append] at this
   omega
  have k3:=X5g b' T.2
  generalize UJ T.2=s3 at*
  clear hit hv1 hj hm hcs hc1 hinv
  obtain⟨k,c,a,e⟩:=s
  obtain⟨k',c',a',e'⟩:=s1
  obtain⟨k2',c2',a2',e2'⟩:=s2
  obtain⟨k4,c4,a4,e4⟩:=s3
  obtain⟨Tl,Tr⟩:=T
  simp only at he hTb hT1 hT2 g1 k3
  subst he
  unfold oB at k1 k2 k3
  simp only at k1 k2 k3
  refine Qt ?_;refine Qm ?_;refine YB ?_;refine W3_ ?_;refine Z3 (hcon:=k1) ?_;refine W5_ ?_;refine Z3 (hcon:=k2) ?_;refine W2_ ?_
  refine X2h ⟨101,[(1,ai ts),(3,.ptr 100 0),(6,.ptr 101 0),(9,.ptr 140 0),(10,ai (m1:Nat)),(11,ai (m2:Nat)),(12,.own 130 (Tl.map Y1).length),(13,ai ((i+1:Nat):Int))],[(100,.box [.d (.sl 3 (ns.map Xp)),.d (.sl 5 (es.map Xs)),ai nn,ai ne]),(101,.box [ani,ani,ai 0,ai 0]),(130,.row 10 (Tl.map Y1)),(140,.box [.d (Xk (b'.drop Tr.k)),.d (Xk Tr.c),ai Tr.a,ai Tr.e])]⟩ ?_ ?_
  ·clear k1 k2 k3
   refine W1_ ?_
   refine XK (ι:=List Chg×Nat×Rd) (fun q=>q.1++(Y2 Yr q.2.1 q.2.2).1=Tl∧(Y2 Yr q.2.1 q.2.2).2=Tr∧Uk q.2.2∧q.2.2.c.length≤65536∧q.2.1≤9223372036854775807)
    (fun q=>⟨101,[(1,ai ts),(3,.ptr 100 0),(6,.ptr 101 0),(9,.ptr 140 0),(10,ai (m1:Nat)),(11,ai (m2:Nat)),(12,.own 130 (q.1.map Y1).length),(13,ai ((i+1:Nat):Int)),(14,ai (q.2.1:Nat))],[(100,.box [.d (.sl 3 (ns.map Xp)),.d (.sl 5 (es.map Xs)),ai nn,ai ne]),(101,.box [ani,ani,ai 0,ai 0]),(130,.row 10 (q.1.map Y1)),(140,.box [.d (Xk (b'.drop q.2.2.k)),.d (Xk q.2.2.c),ai q.2.2.a,ai q.2.2.e])]⟩) (fun q=>q.2.1) (acc,m,⟨k2',c2',a2',e2'⟩)
    ⟨hT1,hT2,hok,hc2,hml⟩
    (Xd rfl JM ⟨rfl,rfl,rfl,rfl,trivial⟩) ?_
   clear hT1 hT2 hok hc2
   rintro⟨ac,q,s⟩ ⟨f1,f2,f3,f4,f5⟩
   simp only at f1 f2 f3 f4 f5
   have hroom0:ac.length≤4295098369:=by
    have:=congrArg List.length f1
    rw[List.length_append] at this
    omega
   have hroom:(ac.map Y1).length≤4295098369:=by rw[List.length_map];exact hroom0
   by_cases hj:q=0∨s.e≠0
   ·have hLL:=X3X (L:=(Tl,Tr)) f1 f2 hj
    simp only[Prod.mk.injEq] at hLL
    obtain⟨e1,e2⟩:=hLL
    replace e1:=e1.symm
    replace e2:=e2.symm
    subst e1
    subst e2
    have hgd:(¬(0:Int)<(q:Nat))∨((0:Int)<(q:Nat)∧s.e≠0):=by
     rcases hj with rfl|h
     ·exact .inl (by simp)
     ·by_cases h0:(0:Int)<(q:Nat)
      ·exact .inr ⟨h0,h⟩
      ·exact .inl h0
    obtain⟨k,c,a,e⟩:=s
    simp only at hgd ⊢
    rcases hgd with hj''|⟨hj'',he⟩
    ·refine Qmg ?_;exact Qbh
    ·refine QUf ?_;exact Qbh
   obtain⟨q,rfl⟩:∃i,q=i+1:=⟨q-1,by omega⟩
   have hj'':(0:Int)<(q+1:Nat):=by omega
   have he:s.e=0:=by
    by_cases q:s.e=0
    ·exact q
    ·exact absurd (.inr q) hj
   rw[X3b he] at f1 f2
   simp only at f1 f2
   have kc:=XmQ b' s (by omega)
   have hok3:=X5J.ok s f3
   have hc3:=(X5R.keep s).2
   generalize (Yr s).1=x at*
   generalize (Yr s).2=s5 at*
   have hc5:s5.c.length≤65536:=by rw[hc3];exact f4
   have happ:(ac++[x]).map Y1=ac.map Y1++[Y1 x]:=by simp
   clear hc3 hj
   obtain⟨k,c,a,e⟩:=s
   obtain⟨k5,c5,a5,e5⟩:=s5
   obtain⟨op,id,src,dst,name,⟨vk,vn,vd,vs,vl⟩⟩:=x
   simp only at he
   subst he
   unfold oB at kc
   simp only[Xx] at kc
   refine Qt ?_;refine Qb ?_;refine Z3 (hcon:=kc) ?_;refine W6_ ?_
   (refine Z1 (op:= .sub) (r':=nj q) (u:= .int .i64 ((q+1:Nat):Int)) (v:= .int .i64 1) ?_ (hr':=by exact congrArg (Value.int .i64) (show(((q+1:Nat):Int)-1)=(q:Int) by omega)) (hr:=by exact Yl (by unfold XT;omega)))
   refine W2_ ?_
   refine⟨(ac++[_],q,⟨k5,c5,a5,e5⟩),⟨by simpa using f1,f2,hok3,hc5,by simp only;omega⟩,by show q<q+1;omega,?_⟩
   rw[happ]
   exact Qbh
  obtain⟨tk,tc,ta,te⟩:=Tr
  simp only at k3 ⊢
  refine W2_ ?_;refine Z3 (hcon:=k3) ?_;refine W3_ ?_
  (refine Z1 (op:= .sub) (r':=nj i) (u:= .int .i64 ((i+1:Nat):Int)) (v:= .int .i64 1) ?_ (hr':=by exact congrArg (Value.int .i64) (show(((i+1:Nat):Int)-1)=(i:Int) by omega)) (hr:=by exact Yl (by unfold XT;omega)))
  refine W2_ ?_
  refine⟨(Tl,i,⟨k4,c4,a4,e4⟩),⟨g1,g2,hv3,by simp only;omega⟩,by show i<i+1;omega,?_⟩
  exact Qbh
 clear hL1 hL2 hn hnl
 generalize VU b' R=z at*
 obtain⟨zk,zc,za,e⟩:=z
 obtain⟨Rk,Rc,Ra,Re⟩:=R
 simp only at hf ⊢
 by_cases he:e=0
 case neg=>
  rw[X95 he]
  simp only[XG,List.map_nil]
  refine Qog ?_;exact Qci
 subst he
 by_cases ht:(m1:Int)=ts
 case neg=>
  rw[Xc9 ht]
  simp only[XG,List.map_nil]
  refine Qog ?_;refine QWb ?_;refine QWc ?_;exact Qbi
 subst ht
 by_cases hgr:(Yd ⟨ns,es,nn,ne⟩ F).2.2=0
 case neg=>
  rw[Xiu (by rw[hLf];exact hgr),hLf]
  simp only[List.map_nil]
  generalize Yd ⟨ns,es,nn,ne⟩ F=r at*
  obtain⟨⟨n3,n4,n5,n6⟩,n7,n8⟩:=r
  simp only[XG] at*
  refine Qog ?_;refine QWb ?_;refine Qc ?_;refine Z3 (hcon:=hap) ?_;refine XA ?_;refine QCd ?_;exact Qbi
 rw[X9U (by rw[hLf];exact hgr),hLf]
 simp only
 rw[hgr] at hap
 generalize Yd ⟨ns,es,nn,ne⟩ F=r at*
 obtain⟨⟨n3,n4,n5,n6⟩,n7,n8⟩:=r
 simp only[XG] at*
 refine Qog ?_;refine QWb ?_;refine Qc ?_;refine Z3 (hcon:=hap) ?_;refine XA ?_;refine Qed ?_;exact Qfi
end Go.Fw

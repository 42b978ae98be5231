/- Reading values: the count and the kind. -/
import Derived.Test.YtlkcofbjniphbaaGreatDoorB21
set_option maxHeartbeats 16000000
namespace Go.Fw
open Go Go.Proofs
set_option maxRecDepth 100000
set_option linter.unusedVariables false
set_option linter.unusedSimpArgs false
def Vo (k:Int) (u:Int×Int×Int):Int:=if u.2.2≠0 then u.2.2 else if Vv k u.1 then 2 else 0
theorem Xko (b:List UInt8) (a e:Int) (hb:b.length≤281474976710656):Con Tryz.prog 201 [(0,oRd b a e)] [.ptr 0 0,ai 64,ab false] [(0,oRd b (Xz b a).2.1 (Vo 8 (Xz b a)))] (ai (Xz b a).1):=by
 have hu:=X4R b a hb
 have hz:(Xz b a).2.2≠0→(Xz b a).1=0:=by
  intro h;rw[X7m] at h ⊢
  split
  ·rfl
  ·split
   ·rfl
   ·rename_i h1 h2;simp[h1,h2] at h
 generalize Xz b a=u at*
 obtain⟨n,at_,e'⟩:=u
 simp only at hz
 refine Xg (xs:=[ai n]) Tryz.func201 rfl Tryz.ntmps201 rfl rfl rfl (fun E=> ?_)
 by_cases h:64<n
 ·have he:e'=0:=by
   by_cases h0:e'=0
   ·exact h0
   ·have:=hz h0;omega
  subst he
  rw[show Vo 8 (n,at_,0)=2 by simp[Vo,Vv,h]]
  refine Qse ?_;refine Xb9 ?_;refine Qv ?_;refine QVa ?_;refine Qs ?_;refine Qm ?_;refine Z3 (hcon:=Xe5 b at_ 0 2) ?_;exact Qte
 ·rw[show Vo 8 (n,at_,e')=e' by by_cases h0:e'=0<;>simp[Vo,Vv,h,h0]]
  refine Qse ?_;refine XnD ?_;refine Qwb ?_;refine QVb ?_;exact Qf
theorem XjW (b:List UInt8) (a e:Int) (hb:b.length≤281474976710656):Con Tryz.prog 201 [(0,oRd b a e)] [.ptr 0 0,ai 25,ab true] [(0,oRd b (Xz b a).2.1 (Vo 7 (Xz b a)))] (ai (Xz b a).1):=by
 have hu:=X4R b a hb
 have hz:(Xz b a).2.2≠0→(Xz b a).1=0:=by
  intro h;rw[X7m] at h ⊢
  split
  ·rfl
  ·split
   ·rfl
   ·rename_i h1 h2;simp[h1,h2] at h
 have hp:0≤(Xz b a).1:=by
  rw[X7m]
  split
  ·simp
  ·split<;>simp
 generalize Xz b a=u at*
 obtain⟨n,at_,e'⟩:=u
 simp only at hz hp
 refine Xg (xs:=[ai n]) Tryz.func201 rfl Tryz.ntmps201 rfl rfl rfl (fun E=> ?_)
 have hf:=Xe5 b at_ e' 2
 by_cases h:25<n
 ·have he:e'=0:=by
   by_cases h0:e'=0
   ·exact h0
   ·have:=hz h0;omega
  subst he
  rw[show Vo 7 (n,at_,0)=2 by simp[Vo,Vv,h]]
  rw[if_pos rfl] at hf
  refine Qse ?_;refine Xb9 ?_;refine Qv ?_;refine QVa ?_;refine Qs ?_;refine Qm ?_;refine QNd ?_;exact Qte
 ·by_cases h2:n%2=0
  ·rw[show Vo 7 (n,at_,e')=if e'=0 then 2 else e' by simp only[Vo,Vv];by_cases h0:e'=0<;>simp[h0,h2]]
   refine Qse ?_;refine X76 ?_;refine Que ?_;refine Qm ?_;refine QNd ?_;exact Qte
  ·rw[show Vo 7 (n,at_,e')=e' by by_cases h0:e'=0<;>simp[Vo,Vv,h,h2,h0]]
   refine Qse ?_;refine X76 ?_;refine Qr ?_;refine QVb ?_;exact Qf
def X0w (b:List UInt8) (a:Nat) (m:Nat) (want:Int):Int×Int×Int:=
 if a=b.length then (0,(a:Int),3) else let k:Int:=((b[a]?).getD 0).toNat
  if 8<k∨(k=8∧m=0)∨(want≠0∧k≠want) then (0,(a:Int),2) else (k,(a:Int)+1,0)
theorem Xmg (b:List UInt8) (a m:Nat) (want:Int) (hm:m≤8) (ha:a≤b.length) (hb:b.length≤281474976710656):Con Tryz.prog 199 [(0,oRd b a 0)] [.ptr 0 0,ai (8-m),ai want] [(0,oRd b (X0w b a m want).2.1 (X0w b a m want).2.2)] (ai (X0w b a m want).1):=by
 refine Xg (xs:=[ai (X0w b a m want).1]) Tryz.func199 rfl Tryz.ntmps199 rfl rfl rfl (fun E=> ?_)
 by_cases ha':a=b.length
 ·rw[show X0w b a m want=(0,(a:Int),3) by unfold X0w;rw[if_pos ha']]
  have hai:(a:Int)=b.length:=by omega
  refine Qoe ?_;refine XA ?_;exact Qve
 obtain⟨c,hc⟩:=XI (l:=b) (k:=a) (by omega)
 have e1:X0w b a m want=if 8<(c.toNat:Int)∨((c.toNat:Int)=8∧m=0)∨(want≠0∧(c.toNat:Int)≠want) then (0,(a:Int),2) else ((c.toNat:Int),(a:Int)+1,0):=by
  unfold X0w;rw[if_neg ha',hc];rfl
 have hai:(a:Int)≠b.length:=by omega
 by_cases h8:8<(c.toNat:Int)
 ·rw[e1,if_pos (.inl h8)]
  refine Qoe ?_;refine Qpe ?_;refine X87 ?_;refine Qy ?_;refine Qs ?_;exact Qwe
 by_cases hw:want≠0∧(c.toNat:Int)≠want
 ·rw[e1,if_pos (.inr (.inr hw))]
  obtain⟨hw1,hw2⟩:=hw
  by_cases hk:(c.toNat:Int)=8
  ·by_cases hm0:m=0
   ·have:(8:Int)-m≥8:=by omega
    refine Qoe ?_;refine Qpe ?_;refine X1g ?_;refine Que ?_;exact Qwe
   ·have:¬(8:Int)-m≥8:=by omega
    refine Qoe ?_;refine Qpe ?_;refine X1g ?_;refine Qcb ?_;refine W7_ ?_;refine Que ?_;exact Qve
  ·refine Qoe ?_;refine Qpe ?_;refine X1a ?_;refine Qxe ?_;refine W7_ ?_;refine Que ?_;exact Qve
 by_cases hk:(c.toNat:Int)=8
 ·by_cases hm0:m=0
  ·rw[e1,if_pos (.inr (.inl ⟨hk,hm0⟩))]
   have:(8:Int)-m≥8:=by omega
   refine Qoe ?_;refine Qpe ?_;refine X1g ?_;refine Que ?_;exact Qwe
  ·rw[e1,if_neg (by omega)]
   have:¬(8:Int)-m≥8:=by omega
   by_cases hw0:want=0
   ·refine Qoe ?_;refine Qpe ?_;refine X1g ?_;refine Qcb ?_;refine W4_ ?_;refine Qwb ?_;exact Qye
   ·have hw1:(c.toNat:Int)=want:=by omega
    refine Qoe ?_;refine Qpe ?_;refine X1g ?_;refine Qcb ?_;refine W7_ ?_;refine Qr ?_;exact Qye
 ·rw[e1,if_neg (by omega)]
  by_cases hw0:want=0
  ·refine Qoe ?_;refine Qpe ?_;refine X1a ?_;refine Qxe ?_;refine W4_ ?_;refine Qwb ?_;exact Qye
  ·have hw1:(c.toNat:Int)=want:=by omega
   refine Qoe ?_;refine Qpe ?_;refine X1a ?_;refine Qxe ?_;refine W7_ ?_;refine Qr ?_;exact Qye
def X2m (b:List UInt8) (a:Nat) (nest want:Int) (r:Val×Int×Int):Prop:=
 Con Tryz.prog 164 [(0,oRd b a 0)] [.ptr 0 0,ai nest,ai want] [(0,oRd b r.2.1 r.2.2)] (Xv r.1)
def UH (c:Val×Int×Int):Val×Int×Int:=if c.2.2=0∧Xe 8 c.1=false then (c.1,c.2.1,2) else c
theorem X8W (l:List Val) (k n d:Int) (s:List UInt8) (q:List Val):XU l++[[.v (.int .i64 k),.v (.int .i64 n),.v (.int .i64 d),.v (.string (Xb s)),.sl 5 (XU q)]]=XU (l++[.mk k n d s q]):=by
 rw[X3T l,X3T (l++_),List.map_append,List.map_cons,List.map_nil,U3]
theorem XoN {b:List UInt8}{a m:Nat}{want:Int} (h:(X0w b a m want).2.2≠0) (gl gp:Nat→Int→Val×Int×Int):Vm gl gp m b a want=(zV,(X0w b a m want).2.1,(X0w b a m want).2.2):=by
 unfold X0w at*
 unfold Vm
 by_cases ha:a=b.length
 ·rw[if_pos ha] at*;rw[if_pos (by omega)]
 ·rw[if_neg ha] at*
  rw[if_neg (by omega),Int.toNat_natCast]
  simp only at*
  split
  ·rfl
  ·rename_i h2;rw[if_neg h2] at h;simp at h
theorem Xkd {b:List UInt8}{a m:Nat}{want:Int} (ha:a≤b.length) (h:(X0w b a m want).2.2=0):
  ∃k:Nat,X0w b a m want=((k:Int),(a:Int)+1,0)∧a<b.length∧k≤8∧(k=8→m≠0)∧(want≠0→(k:Int)=want)∧∀gl gp,Vm gl gp m b a want=UH (YU gl gp b (a+1) k):=by
 unfold X0w at*
 by_cases ha':a=b.length
 ·rw[if_pos ha'] at h;simp at h
 rw[if_neg ha'] at*
 simp only at*
 split at h
 ·simp at h
 rename_i h2
 refine⟨_,by rw[if_neg h2],by omega,by omega,fun h3 h4=>h2 (.inr (.inl ⟨by omega,h4⟩)),fun h3=>Classical.byContradiction fun h4=>h2 (.inr (.inr ⟨h3,h4⟩)),fun gl gp=> ?_⟩
 unfold Vm
 rw[if_neg (by omega),Int.toNat_natCast]
 simp only
 rw[if_neg h2]
 rfl
theorem Xoj (b:List UInt8) (m a:Nat) (want:Int) (gl gp:Nat→Int→Val×Int×Int) (R:Val×Int×Int) (hm:m≤8) (ha:a<b.length) (hb:b.length≤281474976710656)
  (hge:∀i q:Nat,q≤b.length→VS b (gl i q).2) (hg:∀i q:Nat,q≤b.length→X2m b q (8-m+1) 0 (gl i q))
  (hk:Con Tryz.prog 199 [(0,oRd b a 0)] [.ptr 0 0,ai (8-m),ai want] [(0,oRd b ((a:Int)+1) 0)] (ai 8)) (hG:R=UH (YU gl gp b (a+1) 8)):X2m b a (8-m) want R:=by
 refine Xg (xs:=[Xv R.1]) Tryz.func164 rfl Tryz.ntmps164 rfl rfl rfl (fun E=> ?_)
 ·have hc:=Xko b (a+1) 0 hb
  have hcz:YU gl gp b (a+1) 8=if Vo 8 (Xz b (a+1))≠0 then (.mk 8 0 0 [] [],(Xz b (a+1)).2.1,Vo 8 (Xz b (a+1))) else
    (.mk 8 0 0 [] (Y8 gl (Xz b (a+1)).2.1 (Xz b (a+1)).1.toNat).1,(Y8 gl (Xz b (a+1)).2.1 (Xz b (a+1)).1.toNat).2.1,(Y8 gl (Xz b (a+1)).2.1 (Xz b (a+1)).1.toNat).2.2):=by
   simp only[YU,Vo]
   by_cases e1:(Xz b (a+1)).2.2=0
   ·by_cases e2:Vv 8 (Xz b (a+1)).1=true<;>simp[e1,e2]
   ·simp[e1]
  have hue:=X45 b (a+1)
  obtain⟨N,hN⟩:=X4V b (a+1)
  have hNb:Vo 8 (Xz b (a+1))=0→(Xz b (a+1)).2.2=0∧N≤64:=by
   unfold Vo
   rw[hN]
   split
   ·intro h;contradiction
   ·rename_i h1
    split
    ·intro h;simp at h
    ·rename_i h2
     refine fun _=>⟨Classical.not_not.1 h1,?_⟩
     simp[Vv] at h2
     omega
  generalize Vo 8 (Xz b (a+1))=ce at*
  generalize Xz b (a+1)=u at*
  obtain⟨n,a2,e2⟩:=u
  simp only at hN
  subst hN
  simp only[Int.toNat_natCast] at hc hcz hue hNb
  by_cases hce:ce=0
  case neg=>
   rw[if_pos hce] at hcz
   rw[hcz] at hG
   obtain rfl:R=(.mk 8 0 0 [] [],a2,ce):=by rw[hG];simp[UH,hce]
   refine QCe ?_;refine Qc ?_;refine Qqc ?_;refine QKd ?_
   refine XK (fun _:Unit=>True) (fun _=>⟨135,[(0,.ptr 0 0),(1,ai (8-m)),(2,ai want),(6,.ptr 100 0),(7,.ptr 101 0),(11,ai N),(12,ai 0)],[(0,oRd b a2 ce),(100,.box [ai 0,ai 0,ai 0,.d (.v (.string (Xb []))),ani]),(101,.box [ai 8,ai 0,ai 0,.d (.v (.string (Xb []))),ani])]⟩) (fun _=>0) () trivial
    (Xd rfl ⟨JL,JL,JL,JL,JL,JL,JL,trivial⟩ ⟨rfl,rfl,rfl,trivial⟩) ?_
   intro _ _
   by_cases h0N:0<N
   ·refine Xt ?_;refine QDe ?_;refine QEe ?_;exact QFe
   ·refine QGe ?_;refine QEe ?_;exact QFe
  subst hce
  obtain⟨he2,hN⟩:=hNb rfl
  subst he2
  rw[if_neg (by simp)] at hcz
  rw[hcz] at hG
  clear hcz
  have h00:=hue rfl
  simp only at h00
  clear hue
  refine QCe ?_;refine Qc ?_;refine Qqc ?_;refine QKd ?_;refine Xq (X3S 101 4 121 5 (cs:=[ai 8,ai 0,ai 0,.d (.v (.string (Xb []))),ani]) rfl rfl rfl rfl rfl) ?_
  refine XK (fun i:Nat=>i≤N∧(Y8 gl a2 i).1.length=i) (fun i=>⟨135,[(0,.ptr 0 0),(1,ai (8-m)),(2,ai want),(6,.ptr 100 0),(7,.ptr 101 0),(11,ai N),(12,ai i)],[(0,oRd b (Y8 gl a2 i).2.1 (Y8 gl a2 i).2.2),(100,.box [ai 0,ai 0,ai 0,.d (.v (.string (Xb []))),ani]),(101,.box [ai 8,ai 0,ai 0,.d (.v (.string (Xb []))),.own 121 (Y8 gl a2 i).1.length]),(121,.row 5 (XU (Y8 gl a2 i).1))]⟩) (fun i=>N-i) 0 ⟨by omega,rfl⟩
   (Xd rfl ⟨JL,JL,JL,JL,JL,JL,JL,trivial⟩ ⟨rfl,rfl,rfl,rfl,trivial⟩) ?_
  intro i hi
  obtain⟨hi,hil⟩:=hi
  have hlen:=X0l (Y8 gl a2 i).1
  by_cases hpe:(Y8 gl a2 i).2.2=0
  case neg=>
   have hst:=X3f hpe N hi
   rw[hst] at hG
   generalize Y8 gl a2 i=p at*
   obtain⟨l,pa,pe⟩:=p
   simp only at hpe hil hG hlen hst
   clear hst
   obtain rfl:R=(.mk 8 0 0 [] l,pa,pe):=by rw[hG];simp[UH,hpe]
   refine QHe ?_
   by_cases hiN:i<N
   ·refine Xt ?_;refine QDe ?_;exact QJe
   ·refine QGe ?_;exact QJe
  by_cases hiN:i<N
  case neg=>
   obtain rfl:i=N:=by omega
   generalize Y8 gl a2 i=p at*
   obtain⟨l,pa,pe⟩:=p
   simp only at hpe hil hG hlen
   subst hpe
   have hval:=X1B (.mk 8 0 0 [] l)
   simp only[Xv] at hval
   refine QHe ?_
   cases hv:Xe 8 (.mk 8 0 0 [] l) with
   |false=>
    rw[hv] at hval
    obtain rfl:R=(.mk 8 0 0 [] l,pa,2):=by rw[hG];simp[UH,hv]
    refine QGe ?_;refine Xi ?_;refine QKe ?_;refine Qje ?_;exact QIe
   |true=>
    rw[hv] at hval
    obtain rfl:R=(.mk 8 0 0 [] l,pa,0):=by rw[hG];simp[UH,hv]
    refine QGe ?_;refine Xi ?_;refine QKe ?_;refine Qia ?_;exact QIe
  obtain⟨q,hq1,hq2⟩:=X4f hge h00 i hpe
  have hcall:=hg i q hq2
  unfold X2m at hcall
  have hsucc:=X30 hpe
  have hsl:=X8E hpe
  rw[hq1] at hsucc
  generalize gl i q=r at hcall hsucc
  generalize Y8 gl a2 i=p at*
  obtain⟨l,pa,pe⟩:=p
  obtain⟨x,xa,xe⟩:=r
  simp only at hq1 hpe hil hsucc hlen hcall
  subst hq1 hpe
  obtain⟨xk,xn,xd,xs,xl⟩:=x
  simp only[Xv] at hcall
  skip
  refine Xt ?_;refine QKc ?_;refine W9_ ?_;refine Z3 (hcon:=hcall) ?_;refine Xj ?_
  refine⟨i+1,⟨by omega,hsl⟩,by omega,?_⟩
  dsimp only
  rw[hsucc]
  refine Xd rfl ⟨JL,JL,JL,JL,JL,JL,JL,trivial⟩ ⟨rfl,rfl,?_,?_,trivial⟩
  ·refine Eq.trans (b:=AObj.box ([ai 8,ai 0,ai 0,.d (.v (.string (Xb []))),.own 121 _])) rfl ?_
   congr 6;simp[hlen]
  ·exact QLe
theorem XrK (b:List UInt8) (m a:Nat) (want:Int) (gl gp:Nat→Int→Val×Int×Int) (R:Val×Int×Int) (hm:m≤8) (ha:a<b.length) (hb:b.length≤281474976710656)
  (hge:∀i q:Nat,q≤b.length→VS b (gp i q).2) (hg:∀i q:Nat,q≤b.length→X2m b q (8-m) (5+(i%2:Nat)) (gp i q))
  (hk:Con Tryz.prog 199 [(0,oRd b a 0)] [.ptr 0 0,ai (8-m),ai want] [(0,oRd b ((a:Int)+1) 0)] (ai 7)) (hG:R=UH (YU gl gp b (a+1) 7)):X2m b a (8-m) want R:=by
 refine Xg (xs:=[Xv R.1]) Tryz.func164 rfl Tryz.ntmps164 rfl rfl rfl (fun E=> ?_)
 ·have hc:=XjW b (a+1) 0 hb
  have hcz:YU gl gp b (a+1) 7=if Vo 7 (Xz b (a+1))≠0 then (.mk 7 0 0 [] [],(Xz b (a+1)).2.1,Vo 7 (Xz b (a+1))) else
    (.mk 7 0 0 [] (Y8 gp (Xz b (a+1)).2.1 (Xz b (a+1)).1.toNat).1,(Y8 gp (Xz b (a+1)).2.1 (Xz b (a+1)).1.toNat).2.1,(Y8 gp (Xz b (a+1)).2.1 (Xz b (a+1)).1.toNat).2.2):=by
   simp only[YU,Vo]
   by_cases e1:(Xz b (a+1)).2.2=0
   ·by_cases e2:Vv 7 (Xz b (a+1)).1=true<;>simp[e1,e2]
   ·simp[e1]
  have hue:=X45 b (a+1)
  obtain⟨N,hN⟩:=X4V b (a+1)
  have hNb:Vo 7 (Xz b (a+1))=0→(Xz b (a+1)).2.2=0∧N≤64:=by
   unfold Vo
   rw[hN]
   split
   ·intro h;contradiction
   ·rename_i h1
    split
    ·intro h;simp at h
    ·rename_i h2
     refine fun _=>⟨Classical.not_not.1 h1,?_⟩
     simp[Vv] at h2
     omega
  generalize Vo 7 (Xz b (a+1))=ce at*
  generalize Xz b (a+1)=u at*
  obtain⟨n,a2,e2⟩:=u
  simp only at hN
  subst hN
  simp only[Int.toNat_natCast] at hc hcz hue hNb
  by_cases hce:ce=0
  case neg=>
   rw[if_pos hce] at hcz
   rw[hcz] at hG
   obtain rfl:R=(.mk 7 0 0 [] [],a2,ce):=by rw[hG];simp[UH,hce]
   refine QCe ?_;refine Qna ?_;refine Qqc ?_;refine QKd ?_
   refine XK (fun _:Unit=>True) (fun _=>⟨135,[(0,.ptr 0 0),(1,ai (8-m)),(2,ai want),(6,.ptr 100 0),(7,.ptr 101 0),(13,ai N),(14,ai 0)],[(0,oRd b a2 ce),(100,.box [ai 0,ai 0,ai 0,.d (.v (.string (Xb []))),ani]),(101,.box [ai 7,ai 0,ai 0,.d (.v (.string (Xb []))),ani])]⟩) (fun _=>0) () trivial
    (Xd rfl ⟨JL,JL,JL,JL,JL,JL,JL,trivial⟩ ⟨rfl,rfl,rfl,trivial⟩) ?_
   intro _ _
   by_cases h0N:0<N
   ·refine Xt ?_;refine QDe ?_;refine QEe ?_;exact QMe
   ·refine QGe ?_;refine QEe ?_;exact QMe
  subst hce
  obtain⟨he2,hN⟩:=hNb rfl
  subst he2
  rw[if_neg (by simp)] at hcz
  rw[hcz] at hG
  clear hcz
  have h00:=hue rfl
  simp only at h00
  clear hue
  refine QCe ?_;refine Qna ?_;refine Qqc ?_;refine QKd ?_;refine Xq (X3S 101 4 121 5 (cs:=[ai 7,ai 0,ai 0,.d (.v (.string (Xb []))),ani]) rfl rfl rfl rfl rfl) ?_
  refine XK (fun i:Nat=>i≤N∧(Y8 gp a2 i).1.length=i) (fun i=>⟨135,[(0,.ptr 0 0),(1,ai (8-m)),(2,ai want),(6,.ptr 100 0),(7,.ptr 101 0),(13,ai N),(14,ai i)],[(0,oRd b (Y8 gp a2 i).2.1 (Y8 gp a2 i).2.2),(100,.box [ai 0,ai 0,ai 0,.d (.v (.string (Xb []))),ani]),(101,.box [ai 7,ai 0,ai 0,.d (.v (.string (Xb []))),.own 121 (Y8 gp a2 i).1.length]),(121,.row 5 (XU (Y8 gp a2 i).1))]⟩) (fun i=>N-i) 0 ⟨by omega,rfl⟩
   (Xd rfl ⟨JL,JL,JL,JL,JL,JL,JL,trivial⟩ ⟨rfl,rfl,rfl,rfl,trivial⟩) ?_
  intro i hi
  obtain⟨hi,hil⟩:=hi
  have hlen:=X0l (Y8 gp a2 i).1
  by_cases hpe:(Y8 gp a2 i).2.2=0
  case neg=>
   have hst:=X3f hpe N hi
   rw[hst] at hG
   generalize Y8 gp a2 i=p at*
   obtain⟨l,pa,pe⟩:=p
   simp only at hpe hil hG hlen hst
   clear hst
   obtain rfl:R=(.mk 7 0 0 [] l,pa,pe):=by rw[hG];simp[UH,hpe]
   refine QNe ?_
   by_cases hiN:i<N
   ·refine Xt ?_;refine QDe ?_;exact QJe
   ·refine QGe ?_;exact QJe
  by_cases hiN:i<N
  case neg=>
   obtain rfl:i=N:=by omega
   generalize Y8 gp a2 i=p at*
   obtain⟨l,pa,pe⟩:=p
   simp only at hpe hil hG hlen
   subst hpe
   have hval:=X1B (.mk 7 0 0 [] l)
   simp only[Xv] at hval
   refine QNe ?_
   cases hv:Xe 8 (.mk 7 0 0 [] l) with
   |false=>
    rw[hv] at hval
    obtain rfl:R=(.mk 7 0 0 [] l,pa,2):=by rw[hG];simp[UH,hv]
    refine QGe ?_;refine Xi ?_;refine QKe ?_;refine Qje ?_;exact QIe
   |true=>
    rw[hv] at hval
    obtain rfl:R=(.mk 7 0 0 [] l,pa,0):=by rw[hG];simp[UH,hv]
    refine QGe ?_;refine Xi ?_;refine QKe ?_;refine Qia ?_;exact QIe
  obtain⟨q,hq1,hq2⟩:=X4f hge h00 i hpe
  have hcall:=hg i q hq2
  unfold X2m at hcall
  have hsucc:=X30 hpe
  have hsl:=X8E hpe
  rw[hq1] at hsucc
  generalize gp i q=r at hcall hsucc
  generalize Y8 gp a2 i=p at*
  obtain⟨l,pa,pe⟩:=p
  obtain⟨x,xa,xe⟩:=r
  simp only at hq1 hpe hil hsucc hlen hcall
  subst hq1 hpe
  obtain⟨xk,xn,xd,xs,xl⟩:=x
  simp only[Xv] at hcall
  have hi2:((i:Int)%2)=((i%2:Nat):Int):=by omega
  refine Xt ?_;refine QKc ?_;refine W9_ ?_;refine Za (op:= .rem) (r':= .int .i64 ((i%2:Nat):Int)) (u:= .int .i64 i) (v:= .int .i64 2) ?_ (hr':=by exact congrArg (Value.int .i64) hi2);refine W1_ ?_;refine Z3 (hcon:=hcall) ?_;refine Xj ?_
  refine⟨i+1,⟨by omega,hsl⟩,by omega,?_⟩
  dsimp only
  rw[hsucc]
  refine Xd rfl ⟨JL,JL,JL,JL,JL,JL,JL,trivial⟩ ⟨rfl,rfl,?_,?_,trivial⟩
  ·refine Eq.trans (b:=AObj.box ([ai 7,ai 0,ai 0,.d (.v (.string (Xb []))),.own 121 _])) rfl ?_
   congr 6;simp[hlen]
  ·exact QLe
theorem Xar (b:List UInt8) (m a:Nat) (want:Int) (gl gp:Nat→Int→Val×Int×Int) (hm:m≤8) (ha:a≤b.length) (hb:b.length≤281474976710656)
  (hgl:∀i q:Nat,q≤b.length→VS b (gl i q).2) (hgp:∀i q:Nat,q≤b.length→VS b (gp i q).2)
  (hl:want=0→m≠0→∀i q:Nat,q≤b.length→X2m b q (8-m+1) 0 (gl i q)) (hp:want=0→∀i q:Nat,q≤b.length→X2m b q (8-m) (5+(i%2:Nat)) (gp i q)) (hw:want≠0→want=5∨want=6):
  X2m b a (8-m) want (Vm gl gp m b a want):=by
 have hk:=Xmg b a m want hm ha hb
 by_cases hbad:(X0w b a m want).2.2=0
 case neg=>
  rw[XoN hbad]
  refine Xg (xs:=[Xv zV]) Tryz.func164 rfl Tryz.ntmps164 rfl rfl rfl (fun E=> ?_)
  generalize X0w b a m want=u at*
  refine Qze ?_;refine Xr ?_;refine QCa ?_;exact QOe
 obtain⟨k,hkk,hlt,hk8,hkm,hkw,hG⟩:=Xkd ha hbad
 rw[hkk] at hk
 clear hbad hkk
 replace hG:=hG gl gp
 generalize hR:Vm gl gp m b a want=R at*
 simp only at hk
 by_cases h8:k=8
 ·subst h8
  have hw0:want=0:=Classical.byContradiction fun h=>by
   have h1:=hkw h
   rcases hw h with h2|h2<;>omega
  exact Xoj b m a want gl gp R hm hlt hb hgl (hl hw0 (hkm rfl)) hk hG
 by_cases h7:k=7
 ·subst h7
  have hw0:want=0:=Classical.byContradiction fun h=>by
   have h1:=hkw h
   rcases hw h with h2|h2<;>omega
  exact XrK b m a want gl gp R hm hlt hb hgp (hp hw0) hk hG
 refine Xg (xs:=[Xv R.1]) Tryz.func164 rfl Tryz.ntmps164 rfl rfl rfl (fun E=> ?_)
 by_cases h0:k=0
 ·subst h0
  rw[show ((0:Nat):Int)=0 from rfl] at hk hG
  rw[show YU gl gp b (a+1) 0=(.mk 0 0 0 [] [],(a:Int)+1,0) by simp[YU]] at hG
  have hval:=X1B (.mk 0 0 0 [] [])
  simp only[Xv] at hval
  have hv:Xe 8 (.mk 0 0 0 [] [])=true:=by rw[Xe];simp
  rw[hv] at hval
  obtain rfl:R=(.mk 0 0 0 [] [],(a:Int)+1,0):=by rw[hG];simp[UH,hv]
  refine QCe ?_;refine Qna ?_;refine QZb ?_;refine QKe ?_;refine Qia ?_;exact QOe
 by_cases h1:k=1
 ·subst h1
  rw[show ((1:Nat):Int)=1 from rfl] at hk hG
  have hn:=X4X b (a+1) 0 hb
  rw[if_pos rfl,if_pos rfl] at hn
  rw[show YU gl gp b (a+1) 1=(.mk 1 (XW b (a+1)).1 0 [] [],(XW b (a+1)).2.1,(XW b (a+1)).2.2) by simp[YU]] at hG
  generalize XW b (a+1)=u at*
  obtain⟨n,a2,e2⟩:=u
  simp only at hn hG
  by_cases he:e2=0
  ·subst he
   have hval:=X1B (.mk 1 n 0 [] [])
   simp only[Xv] at hval
   cases hv:Xe 8 (.mk 1 n 0 [] []) with
   |false=>
    rw[hv] at hval
    obtain rfl:R=((.mk 1 n 0 [] []),a2,2):=by rw[hG];simp[UH,hv]
    refine QAe ?_;refine QPe ?_;exact QQe
   |true=>
    rw[hv] at hval
    obtain rfl:R=((.mk 1 n 0 [] []),a2,0):=by rw[hG];simp[UH,hv]
    refine QAe ?_;refine QRe ?_;exact QQe
  ·obtain rfl:R=((.mk 1 n 0 [] []),a2,e2):=by rw[hG];simp[UH,he]
   refine QAe ?_;refine QSe ?_;exact QQe
 by_cases h2:k=2
 ·subst h2
  rw[show ((2:Nat):Int)=2 from rfl] at hk hG
  have hn:=X4X b (a+1) 0 hb
  rw[if_pos rfl,if_pos rfl] at hn
  rw[show YU gl gp b (a+1) 2=(.mk 2 (XW b (a+1)).1 0 [] [],(XW b (a+1)).2.1,(XW b (a+1)).2.2) by simp[YU]] at hG
  generalize XW b (a+1)=u at*
  obtain⟨n,a2,e2⟩:=u
  simp only at hn hG
  by_cases he:e2=0
  ·subst he
   have hval:=X1B (.mk 2 n 0 [] [])
   simp only[Xv] at hval
   cases hv:Xe 8 (.mk 2 n 0 [] []) with
   |false=>
    rw[hv] at hval
    obtain rfl:R=((.mk 2 n 0 [] []),a2,2):=by rw[hG];simp[UH,hv]
    refine QAe ?_;refine Qc ?_;refine QPe ?_;exact QTe
   |true=>
    rw[hv] at hval
    obtain rfl:R=((.mk 2 n 0 [] []),a2,0):=by rw[hG];simp[UH,hv]
    refine QAe ?_;refine Qc ?_;refine QRe ?_;exact QTe
  ·obtain rfl:R=((.mk 2 n 0 [] []),a2,e2):=by rw[hG];simp[UH,he]
   refine QAe ?_;refine Qc ?_;refine QSe ?_;exact QTe
 by_cases h5:k=5
 ·subst h5
  rw[show ((5:Nat):Int)=5 from rfl] at hk hG
  have hn:=X4X b (a+1) 0 hb
  rw[if_pos rfl,if_pos rfl] at hn
  rw[show YU gl gp b (a+1) 5=(.mk 5 (XW b (a+1)).1 0 [] [],(XW b (a+1)).2.1,(XW b (a+1)).2.2) by simp[YU]] at hG
  generalize XW b (a+1)=u at*
  obtain⟨n,a2,e2⟩:=u
  simp only at hn hG
  by_cases he:e2=0
  ·subst he
   have hval:=X1B (.mk 5 n 0 [] [])
   simp only[Xv] at hval
   cases hv:Xe 8 (.mk 5 n 0 [] []) with
   |false=>
    rw[hv] at hval
    obtain rfl:R=((.mk 5 n 0 [] []),a2,2):=by rw[hG];simp[UH,hv]
    refine QAe ?_;refine Qna ?_;refine QPe ?_;exact QUe
   |true=>
    rw[hv] at hval
    obtain rfl:R=((.mk 5 n 0 [] []),a2,0):=by rw[hG];simp[UH,hv]
    refine QAe ?_;refine Qna ?_;refine QRe ?_;exact QUe
  ·obtain rfl:R=((.mk 5 n 0 [] []),a2,e2):=by rw[hG];simp[UH,he]
   refine QAe ?_;refine Qna ?_;refine QSe ?_;exact QUe
 by_cases h6:k=6
 ·subst h6
  rw[show ((6:Nat):Int)=6 from rfl] at hk hG
  have hn:=X4X b (a+1) 0 hb
  rw[if_pos rfl,if_pos rfl] at hn
  rw[show YU gl gp b (a+1) 6=(.mk 6 (XW b (a+1)).1 0 [] [],(XW b (a+1)).2.1,(XW b (a+1)).2.2) by simp[YU]] at hG
  generalize XW b (a+1)=u at*
  obtain⟨n,a2,e2⟩:=u
  simp only at hn hG
  by_cases he:e2=0
  ·subst he
   have hval:=X1B (.mk 6 n 0 [] [])
   simp only[Xv] at hval
   cases hv:Xe 8 (.mk 6 n 0 [] []) with
   |false=>
    rw[hv] at hval
    obtain rfl:R=((.mk 6 n 0 [] []),a2,2):=by rw[hG];simp[UH,hv]
    refine QVe ?_;refine Xr ?_;refine QKe ?_;refine Qje ?_;exact QWe
   |true=>
    rw[hv] at hval
    obtain rfl:R=((.mk 6 n 0 [] []),a2,0):=by rw[hG];simp[UH,hv]
    refine QVe ?_;refine Xr ?_;refine QKe ?_;refine Qia ?_;exact QWe
  ·obtain rfl:R=((.mk 6 n 0 [] []),a2,e2):=by rw[hG];simp[UH,he]
   refine QVe ?_;refine Xt ?_;refine Qw ?_;refine QVb ?_;exact QWe
 by_cases h3:k=3
 ·subst h3
  rw[show ((3:Nat):Int)=3 from rfl] at hk hG
  have hn:=X4X b (a+1) 0 hb
  rw[if_pos rfl,if_pos rfl] at hn
  have hz:= @XpN b (a+1)
  have hc:YU gl gp b (a+1) 3=if (XW b (a+1)).2.2≠0 then (.mk 3 0 0 [] [],(XW b (a+1)).2.1,(XW b (a+1)).2.2) else (.mk 3 (XW b (a+1)).1 (XW b (XW b (a+1)).2.1).1 [] [],(XW b (XW b (a+1)).2.1).2.1,(XW b (XW b (a+1)).2.1).2.2):=by simp[YU]
  generalize XW b (a+1)=u at*
  obtain⟨n,a2,e2⟩:=u
  simp only at hn hz hc
  have hn2:=X4X b a2 e2 hb
  by_cases he2:e2=0
  ·subst he2
   rw[if_pos rfl,if_pos rfl] at hn2
   rw[if_neg (by simp)] at hc
   rw[hc] at hG
   generalize XW b a2=u at*
   obtain⟨d,a3,e3⟩:=u
   simp only at hn2 hG
   by_cases he:e3=0
   ·subst he
    have hval:=X1B (.mk 3 n d [] [])
    simp only[Xv] at hval
    cases hv:Xe 8 (.mk 3 n d [] []) with
    |false=>
     rw[hv] at hval
     obtain rfl:R=((.mk 3 n d [] []),a3,2):=by rw[hG];simp[UH,hv]
     refine QXe ?_;refine Xr ?_;refine QKe ?_;refine Qje ?_;exact QYe
    |true=>
     rw[hv] at hval
     obtain rfl:R=((.mk 3 n d [] []),a3,0):=by rw[hG];simp[UH,hv]
     refine QXe ?_;refine Xr ?_;refine QKe ?_;refine Qia ?_;exact QYe
   ·obtain rfl:R=((.mk 3 n d [] []),a3,e3):=by rw[hG];simp[UH,he]
    refine QXe ?_;refine Xt ?_;refine Qw ?_;refine QVb ?_;exact QYe
  ·rw[if_neg he2,if_neg he2] at hn2
   rw[if_pos he2] at hc
   rw[hc] at hG
   obtain rfl:=hz he2
   obtain rfl:R=(.mk 3 0 0 [] [],a2,e2):=by rw[hG];simp[UH,he2]
   refine QXe ?_;refine Xt ?_;refine Qw ?_;refine QVb ?_;exact X1 ⟨_,XF 100 (cs:=[ai 3,ai 0,ai 0,.d (.v (.string (Xb []))),ani]) (cs':=[ai 3,ai 0,ai 0,.d (.v (.string (Xb []))),.d (.sl 5 [])]) rfl ⟨AVal.le_refl _,AVal.le_refl _,AVal.le_refl _,AVal.le_refl _,AVal.le_nil 5,trivial⟩ rfl,⟨⟨100,0,_,rfl,rfl,.inr ⟨5,_,rfl,rfl,rfl,rfl⟩⟩,trivial⟩,Xn ⟨rfl,trivial⟩⟩
 by_cases h4:k=4
 ·subst h4
  rw[show ((4:Nat):Int)=4 from rfl] at hk hG
  have hn:=X9C b (a+1) 100 hb
  rw[show YU gl gp b (a+1) 4=(.mk 4 0 0 (U2 b (a+1) 100).1 [],(U2 b (a+1) 100).2.1,(U2 b (a+1) 100).2.2) by simp[YU]] at hG
  generalize U2 b (a+1) 100=u at*
  obtain⟨s,a2,e2⟩:=u
  simp only at hn hG
  by_cases he:e2=0
  ·subst he
   have hval:=X1B (.mk 4 0 0 s [])
   simp only[Xv] at hval
   cases hv:Xe 8 (.mk 4 0 0 s []) with
   |false=>
    rw[hv] at hval
    obtain rfl:R=((.mk 4 0 0 s []),a2,2):=by rw[hG];simp[UH,hv]
    refine QCe ?_;refine JT ?_;refine Xj ?_;refine QLd ?_;refine X76 ?_;refine QKe ?_;refine Qje ?_;exact QZe
   |true=>
    rw[hv] at hval
    obtain rfl:R=((.mk 4 0 0 s []),a2,0):=by rw[hG];simp[UH,hv]
    refine QCe ?_;refine JT ?_;refine Xj ?_;refine QLd ?_;refine X76 ?_;refine QKe ?_;refine Qia ?_;exact QZe
  ·obtain rfl:R=((.mk 4 0 0 s []),a2,e2):=by rw[hG];simp[UH,he]
   refine QCe ?_;refine JT ?_;refine Xj ?_;refine QLd ?_;refine XfF ?_;refine Qw ?_;refine QVb ?_;exact QZe
 omega
end Go.Fw

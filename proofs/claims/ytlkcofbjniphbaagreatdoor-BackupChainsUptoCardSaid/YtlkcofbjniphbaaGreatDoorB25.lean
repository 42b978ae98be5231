/- The program's check of a graph. -/
import Derived.Test.YtlkcofbjniphbaaGreatDoorB23
set_option maxHeartbeats 32000000
namespace Go.Fw
open Go Go.Proofs
set_option maxRecDepth 100000
set_option linter.unusedVariables false
set_option linter.unusedSimpArgs false
def UA (n:Nod):AVal:= .agg [ai n.id,.d (.sl 1 (n.labels.map Xl)),.d (.sl 6 (n.props.map Xh))]
def X6a (n:Nod):Prop:=n.labels.length≤9223372036854775807∧(∀s∈n.labels,s.length≤9223372036854775807)∧n.props.length≤9223372036854775807∧∀p∈n.props,X34 p
def X7z (e:Edg):Prop:=e.typ.length≤9223372036854775807∧e.props.length≤9223372036854775807∧∀p∈e.props,X34 p
structure GraHold (g:Gra):Prop where
 nl:g.nodes.length≤9223372036854775807
 el:g.edges.length≤9223372036854775807
 nodes:∀n∈g.nodes,X6a n
 edges:∀e∈g.edges,X7z e
theorem XcP {nn:Int}{l:List Nod}{n:Nod}:VL nn (Uo l 0) n=if n.id<1∨nn≤n.id then 1 else V2 n.labels n.props:=by
 unfold VL Uo
 rw[if_neg (by simp)]
theorem Xfy {nn:Int}{l:List Nod}{j:Nat}{p n:Nod} (h:l[j]? =some p):VL nn (Uo l (j+1)) n=if n.id≤p.id then 26 else if n.id<1∨nn≤n.id then 1 else V2 n.labels n.props:=by
 unfold VL
 rw[X4I,h]
 simp
theorem Xi7 {ns:List Nod}{ne:Int}{l:List Edg}{n:Edg}:X0m ns ne (Uo l 0) n=if n.id<1∨ne≤n.id then 1
 else if U4 ns n.src=false∨U4 ns n.dst=false then 10 else if XZ n.typ=false then 6 else V2 [] n.props:=by
 unfold X0m Uo
 rw[if_neg (by simp)]
theorem Xed {ns:List Nod}{ne:Int}{l:List Edg}{j:Nat}{p n:Edg} (h:l[j]? =some p):X0m ns ne (Uo l (j+1)) n=if n.id≤p.id then 26 else if n.id<1∨ne≤n.id then 1
 else if U4 ns n.src=false∨U4 ns n.dst=false then 10 else if XZ n.typ=false then 6 else V2 [] n.props:=by
 unfold X0m
 rw[X4I,h]
 simp
theorem X9A {x y:Int} (h:x<y):Yv x y= -1:=if_pos h
theorem Xc3 {x y:Int} (h:¬x<y):¬Yv x y<0:=by
 unfold Yv
 rw[if_neg h]
 split<;>decide
theorem Xac {x y:Int}:decide (Yv x y=0)=decide (x=y):=by
 unfold Yv
 by_cases h:x<y
 ·rw[if_pos h,decide_eq_false (by decide),decide_eq_false (by omega)]
 ·rw[if_neg h]
  by_cases h':y<x
  ·rw[if_pos h',decide_eq_false (by decide),decide_eq_false (by omega)]
  ·rw[if_neg h',decide_eq_true rfl,decide_eq_true (by omega)]
theorem XfG (x:Nod) (n:Int):Con Tryz.prog 148 [] [UA x,ai n] [] (ai (Yv x.id n)):=by
 refine Xg (xs:=[ai (Yv x.id n)]) Tryz.func148 rfl Tryz.ntmps148 rfl rfl rfl (fun E=> ?_)
 have hc:=X4m x.id n
 obtain⟨id,labels,props⟩:=x
 simp only[UA] at hc ⊢
 generalize Yv id n=q at*
 refine QLa ?_;refine QIa ?_;refine QMa ?_;refine QQa ?_;refine QJd ?_;exact QWa
theorem XmV (l:List Nod) (n:Int) (hl:l.length≤4294967296) (hr:X81 l):Con Tryz.prog 147 [] [.d (.sl 3 (l.map Xp)),ai n,.fn 148 []] [] (.tup [ai (X7w l n),ab (U4 l n)]):=by
 refine Xg (xs:=[ai (X7w l n),ab (U4 l n)]) Tryz.func147 rfl Tryz.ntmps147 rfl rfl rfl (fun E=> ?_)
 have hlm:(l.map Xp).length=l.length:=by simp
 refine QIa ?_;refine QJa ?_;refine QKa ?_;refine Qsf ?_;refine U7 (hg:=JSa) (hx:=JSb) (hT:=JSb) (hd:=JSb) ?_;refine QKa ?_;refine Qsf ?_;refine QJa ?_;refine QKa ?_;refine X5 ?_;refine YB ?_
 refine XK (ι:=Nat×Nat) (fun q=>q.1≤q.2∧q.2≤l.length∧(∀(k:Nat) (x:Nod),k<q.1→l[k]? =some x→x.id<n)∧(∀(k:Nat) (x:Nod),q.2≤k→l[k]? =some x→n≤x.id)) (fun q=>⟨49,[(0,.d (.sl 3 (l.map Xp))),(1,ai n),(2,.fn 148 []),(8,ai (l.map Xp).length),(9,ai q.1),(10,ai q.2)],[]⟩) (fun q=>q.2-q.1) (0,l.length)
  ⟨Nat.zero_le _,Nat.le_refl _,fun k x h=>absurd h (Nat.not_lt_zero _),fun k x h hx=>absurd (List.getElem?_eq_some_iff.1 hx).1 (Nat.not_lt.2 h)⟩
  (Xd rfl ⟨JL,JL,JL,JL,JL,AVal.le_of_eq (by show ai _=ai _;rw[hlm]),trivial⟩ trivial) ?_
 rintro⟨i,j⟩ ⟨h1,h2,h3,h4⟩
 simp only at h1 h2 h3 h4
 by_cases hij:i<j
 case neg=>
  obtain rfl:i=j:=by omega
  have hlow:=Xmj h2 h3 (fun x hx=>by have:=h4 i x (Nat.le_refl _) hx;omega)
  have hhas:=XlQ hr h3 h4
  rw[hlow,hhas]
  have hij':¬(i:Int)<(i:Nat):=by omega
  by_cases hil:i<l.length
  ·have hil':(i:Int)<(l.map Xp).length:=by omega
   obtain⟨x,hx⟩:=XI (l:=l) hil
   have hxc:(l.map Xp)[i]? =some (Xp x):=Y5 hx
   have hc:=XfG x n
   have hd:decide (∃y,l[i]? =some y∧y.id=n)=decide (Yv x.id n=0):=by rw[Xac,hx];simp
   rw[hd]
   generalize Yv x.id n=c at*
   obtain⟨id,labels,props⟩:=x
   simp only[UA,Xp] at hc hxc
   refine Qtf ?_;refine Quf ?_;refine X57 ?_;refine Qsf ?_;refine QLb ?_;refine QEb ?_;refine QLb ?_;refine Qvf ?_;refine Qmb ?_;refine Qr ?_;refine QJa ?_;refine QKa ?_
   first|exact X1 ⟨_,St.le_refl _,⟨rfl,rfl,trivial⟩,X2 _⟩|exact X1 ⟨_,St.le_refl _,⟨⟨rfl,rfl,trivial⟩,trivial⟩,X2 _⟩
  ·have hil':¬(i:Int)<(l.map Xp).length:=by omega
   have hd:decide (∃y,l[i]? =some y∧y.id=n)=false:=by
    refine decide_eq_false ?_
    rintro⟨y,hy,_⟩
    exact hil (List.getElem?_eq_some_iff.1 hy).1
   rw[hd]
   refine Qtf ?_;refine Quf ?_;refine X57 ?_;refine Qsf ?_;refine QLb ?_;refine QEb ?_;refine QTa ?_;refine QL ?_;refine QE ?_;refine QJa ?_;refine QKa ?_
   first|exact X1 ⟨_,St.le_refl _,⟨rfl,rfl,trivial⟩,X2 _⟩|exact X1 ⟨_,St.le_refl _,⟨⟨rfl,rfl,trivial⟩,trivial⟩,X2 _⟩
 have hij':(i:Int)<(j:Nat):=by omega
 obtain⟨x,hx⟩:=XI (l:=l) (k:=(i+j)/2) (by omega)
 have hxc:(l.map Xp)[(i+j)/2]? =some (Xp x):=Y5 hx
 have hc:=XfG x n
 have e2:n64 ((i+j)/2^1)=n64 ((i+j)/2):=rfl
 have hid:x.id=x.id:=rfl
 by_cases hlt:x.id<n
 ·have hinv:∀(k:Nat) (y:Nod),k<(i+j)/2+1→l[k]? =some y→y.id<n:=fun k y hk hy=>by
   by_cases e:k=(i+j)/2
   ·subst e;rw[hx] at hy;injection hy with hy;subst hy;exact hlt
   ·have:=hr k ((i+j)/2) y x hy hx (by omega);omega
  rw[X9A hlt] at hc
  obtain⟨id,labels,props⟩:=x
  simp only[UA,Xp] at hc hxc
  refine Qtf ?_;refine QOb ?_;refine JT ?_;refine XP ?_;refine YB ?_;refine Qsf ?_;refine QQa ?_
  (refine Z2 (op:= .add) (r':=ni (i+j)) (u:=ni i) (v:=ni j) ?_ (hr:=by exact Ym (by rw[XJ];omega)))
  (refine Z0 (u:=ni (i+j)) (r:=n64 (i+j)) ?_ (hr:=by exact YQ rfl rfl (by rw[Yf];omega)))
  refine Qwf ?_;(refine Z0 (u:=n64 ((i+j)/2)) (r:=ni ((i+j)/2)) ?_ (hr:=by exact YQ rfl rfl (by rw[XJ];omega)));refine QKa ?_;refine Qsf ?_;refine Qvf ?_;refine QOb ?_;refine JT ?_;refine JR ?_;refine QQa ?_;refine X6 (op:= .add) (u:= .int _ _) (v:= .int _ _) (hg:=JSa) (hx:=JSb) (hy:=JSb) (hr:=JSq) (h1:=JSb) (hd:=JSb) ?_;refine QKa ?_;exact Qxf
 ·have hinv:∀(k:Nat) (y:Nod),(i+j)/2≤k→l[k]? =some y→n≤y.id:=fun k y hk hy=>by
   by_cases e:k=(i+j)/2
   ·subst e;rw[hx] at hy;injection hy with hy;subst hy;omega
   ·have:=hr ((i+j)/2) k x y hx hy (by omega);omega
  have hge:=Xc3 hlt
  generalize Yv x.id n=c at*
  obtain⟨id,labels,props⟩:=x
  simp only[UA,Xp] at hc hxc
  refine Qtf ?_;refine QOb ?_;refine JT ?_;refine XP ?_;refine YB ?_;refine Qsf ?_;refine QQa ?_
  (refine Z2 (op:= .add) (r':=ni (i+j)) (u:=ni i) (v:=ni j) ?_ (hr:=by exact Ym (by rw[XJ];omega)))
  (refine Z0 (u:=ni (i+j)) (r:=n64 (i+j)) ?_ (hr:=by exact YQ rfl rfl (by rw[Yf];omega)))
  refine Qwf ?_;(refine Z0 (u:=n64 ((i+j)/2)) (r:=ni ((i+j)/2)) ?_ (hr:=by exact YQ rfl rfl (by rw[XJ];omega)));refine QKa ?_;refine Qsf ?_;refine Qvf ?_;refine Quf ?_;refine JR ?_;refine QQa ?_;refine QKa ?_;exact Qyf
theorem XiG (l:List Nod) (n:Int) (hl:l.length≤4294967296) (hr:X81 l):Con Tryz.prog 95 [] [.d (.sl 3 (l.map Xp)),ai n] [] (ab (U4 l n)):=by
 refine Xg (xs:=[ab (U4 l n)]) Tryz.func95 rfl Tryz.ntmps95 rfl rfl rfl (fun E=> ?_)
 have hs:=XmV l n hl hr
 generalize X7w l n=a at*
 generalize U4 l n=b at*
 refine QIa ?_;refine QKa ?_;refine Qsf ?_;refine QQa ?_;refine QMd ?_;refine QQa ?_;refine Xc5 (hg:=JSa) (hx:=JSb) (hy:=JSc) (hd:=JSb) ?_;refine Xc5 (hg:=JSa) (hx:=JSb) (hy:=JSc) (hd:=JSb) ?_;refine QJa ?_;refine QKa ?_;refine Qsf ?_;exact QWa
theorem X8m {ns:List Nod}{es:List Edg}{nn ne:Int} (h:2000<ns.length∨4000<es.length):YH ⟨ns,es,nn,ne⟩=4:=if_pos h
theorem X3K {ns:List Nod}{es:List Edg}{nn ne:Int} (h1:¬2000<ns.length) (h2:¬4000<es.length) (h:nn<1∨1000001<nn∨ne<1∨1000001<ne):YH ⟨ns,es,nn,ne⟩=1:=by
 unfold YH
 simp only
 rw[if_neg (fun q=>q.elim h1 h2),if_pos h]
theorem XgE {ns:List Nod}{es:List Edg}{nn ne:Int} (h1:¬2000<ns.length) (h2:¬4000<es.length) (a1:¬nn<1) (a2:¬1000001<nn) (a3:¬ne<1) (a4:¬1000001<ne):
  YH ⟨ns,es,nn,ne⟩=if V9 nn none ns≠0 then V9 nn none ns else X0c ns ne none es:=by
 unfold YH
 simp only
 rw[if_neg (fun q=>q.elim h1 h2),if_neg (by omega)]
theorem X7q (g:Gra) (hok:GraHold g):Con Tryz.prog 55 [] [XG g] [] (ai (YH g)):=by
 obtain⟨ns,es,nn,ne⟩:=g
 obtain⟨hnl,hel,hnh,heh⟩:=hok
 simp only at hnl hel hnh heh
 unfold XG
 simp only
 refine Xg (xs:=[ai (YH ⟨ns,es,nn,ne⟩)]) Tryz.func55 rfl Tryz.ntmps55 rfl rfl rfl (fun E=> ?_)
 have hlm:(ns.map Xp).length=ns.length:=by simp
 have hle:(es.map Xs).length=es.length:=by simp
 by_cases h1:2000<ns.length
 ·rw[X8m (.inl h1)]
  have h1':(2000:Int)<(ns.map Xp).length:=by omega
  refine QLa ?_;refine QNa ?_;refine Qhb ?_;refine QTa ?_;exact QYa
 have h1':¬(2000:Int)<(ns.map Xp).length:=by omega
 by_cases h2:4000<es.length
 ·rw[X8m (.inr h2)]
  have h2':(4000:Int)<(es.map Xs).length:=by omega
  refine QLa ?_;refine QNa ?_;refine Qhb ?_;refine QRa ?_;refine Qhb ?_;exact QMb
 have h2':¬(4000:Int)<(es.map Xs).length:=by omega
 by_cases a1:nn<1
 ·rw[X3K h1 h2 (.inl a1)]
  refine Qzf ?_;refine Qsb ?_;refine Qsb ?_;refine Qsb ?_;exact QXa
 by_cases a2:1000001<nn
 ·rw[X3K h1 h2 (.inr (.inl a2))]
  refine Qzf ?_;refine QAf ?_;refine QE ?_;refine Qsb ?_;refine Qsb ?_;exact QXa
 by_cases a3:ne<1
 ·rw[X3K h1 h2 (.inr (.inr (.inl a3)))]
  refine QBf ?_;refine Qsb ?_;exact QXa
 by_cases a4:1000001<ne
 ·rw[X3K h1 h2 (.inr (.inr (.inr a4)))]
  refine QBf ?_;refine QAf ?_;exact QMb
 rw[XgE h1 h2 a1 a2 a3 a4]
 generalize hN:V9 nn none ns=N
 generalize hM:X0c ns ne none es=M
 refine QBf ?_;refine QAf ?_;refine QHb ?_;refine QNb ?_
 refine XK (fun i:Nat=>i≤ns.length∧V9 nn (Uo ns i) (ns.drop i)=N) (fun i=>⟨135,[(1,.ptr 100 0),(38,.d (.sl 3 (ns.map Xp))),(39,ai (ns.map Xp).length),(40,ai i)],[(100,.box [.d (.sl 3 (ns.map Xp)),.d (.sl 5 (es.map Xs)),ai nn,ai ne])]⟩) (fun i=>ns.length-i) 0 ⟨Nat.zero_le _,by simpa [Uo] using hN⟩
  (Xd rfl JM ⟨rfl,trivial⟩) ?_
 rintro i ⟨hi,hg⟩
 by_cases hil:i<ns.length
 case pos=>
  have hn:(i:Int)<(ns.map Xp).length:=by omega
  obtain⟨x,hx⟩:=XI (l:=ns) hil
  have hxc:(ns.map Xp)[i]? =some (Xp x):=Y5 hx
  have hxh:=hnh x (List.mem_of_getElem? hx)
  have hpc:=XeC x.labels x.props hxh.1 hxh.2.2.2
  rw[XdN hx] at hg
  clear hxh
  by_cases h0:i=0
  ·subst h0
   rw[XcP] at hg
   obtain⟨id,labels,props⟩:=x
   simp only[Xp] at hxc hpc hg
   by_cases q2:id<1
   ·rw[if_pos (show id<1∨nn≤id from .inl q2),if_pos (by decide)] at hg
    subst hg
    rw[if_pos (by decide)]
    refine QDf ?_;exact QFf
   by_cases q3:nn≤id
   ·rw[if_pos (show id<1∨nn≤id from .inr q3),if_pos (by decide)] at hg
    subst hg
    rw[if_pos (by decide)]
    refine QDf ?_;refine QGf ?_;exact QMb
   rw[if_neg (show ¬(id<1∨nn≤id) from fun h=>h.elim q2 q3)] at hg
   generalize V2 labels props=e at*
   by_cases he:e=0
   ·subst he
    rw[if_neg (by simp)] at hg
    refine QDf ?_;refine QGf ?_;refine QIf ?_;refine QSb ?_;exact⟨0+1,⟨by omega,hg⟩,by omega,Xd rfl JM ⟨rfl,trivial⟩⟩
   ·rw[if_pos he] at hg
    subst hg
    rw[if_pos he]
    refine QDf ?_;refine QGf ?_;refine QIf ?_;exact QJf
  ·obtain⟨j,rfl⟩:∃j,i=j+1:=⟨i-1,by omega⟩
   obtain⟨p,hp⟩:=XI (l:=ns) (k:=j) (by omega)
   have hpp:(ns.map Xp)[j]? =some (Xp p):=Y5 hp
   rw[Xfy hp] at hg
   clear hp
   obtain⟨id,labels,props⟩:=x
   obtain⟨pid,plabels,pprops⟩:=p
   simp only[Xp] at hxc hpc hg hpp
   by_cases q1:id≤pid
   ·rw[if_pos q1,if_pos (by decide)] at hg
    subst hg
    rw[if_pos (by decide)]
    refine QKf ?_
    (refine Z1 (op:= .sub) (r':= .int .i64 ((j:Nat):Int)) (u:= .int .i64 ((j+1:Nat):Int)) (v:= .int .i64 1) ?_ (hr':=by exact congrArg (Value.int .i64) (show(((j+1:Nat):Int)-1)=(j:Int) by omega)) (hr:=by exact Yl (by unfold XT;omega)))
    refine QLf ?_;refine QCb ?_;exact QYa
   rw[if_neg q1] at hg
   by_cases q2:id<1
   ·rw[if_pos (show id<1∨nn≤id from .inl q2),if_pos (by decide)] at hg
    subst hg
    rw[if_pos (by decide)]
    refine QKf ?_
    (refine Z1 (op:= .sub) (r':= .int .i64 ((j:Nat):Int)) (u:= .int .i64 ((j+1:Nat):Int)) (v:= .int .i64 1) ?_ (hr':=by exact congrArg (Value.int .i64) (show(((j+1:Nat):Int)-1)=(j:Int) by omega)) (hr:=by exact Yl (by unfold XT;omega)))
    refine QMf ?_;exact QFf
   by_cases q3:nn≤id
   ·rw[if_pos (show id<1∨nn≤id from .inr q3),if_pos (by decide)] at hg
    subst hg
    rw[if_pos (by decide)]
    refine QKf ?_
    (refine Z1 (op:= .sub) (r':= .int .i64 ((j:Nat):Int)) (u:= .int .i64 ((j+1:Nat):Int)) (v:= .int .i64 1) ?_ (hr':=by exact congrArg (Value.int .i64) (show(((j+1:Nat):Int)-1)=(j:Int) by omega)) (hr:=by exact Yl (by unfold XT;omega)))
    refine QMf ?_;refine QGf ?_;exact QMb
   rw[if_neg (show ¬(id<1∨nn≤id) from fun h=>h.elim q2 q3)] at hg
   generalize V2 labels props=e at*
   by_cases he:e=0
   ·subst he
    rw[if_neg (by simp)] at hg
    refine QKf ?_
    (refine Z1 (op:= .sub) (r':= .int .i64 ((j:Nat):Int)) (u:= .int .i64 ((j+1:Nat):Int)) (v:= .int .i64 1) ?_ (hr':=by exact congrArg (Value.int .i64) (show(((j+1:Nat):Int)-1)=(j:Int) by omega)) (hr:=by exact Yl (by unfold XT;omega)))
    refine QMf ?_;refine QGf ?_;refine QIf ?_;refine QSb ?_;exact⟨j+1+1,⟨by omega,hg⟩,by omega,Xd rfl JM ⟨rfl,trivial⟩⟩
   ·rw[if_pos he] at hg
    subst hg
    rw[if_pos he]
    refine QKf ?_
    (refine Z1 (op:= .sub) (r':= .int .i64 ((j:Nat):Int)) (u:= .int .i64 ((j+1:Nat):Int)) (v:= .int .i64 1) ?_ (hr':=by exact congrArg (Value.int .i64) (show(((j+1:Nat):Int)-1)=(j:Int) by omega)) (hr:=by exact Yl (by unfold XT;omega)))
    refine QMf ?_;refine QGf ?_;refine QIf ?_;exact QJf
 obtain rfl:i=ns.length:=by omega
 have hn:¬((ns.length:Nat):Int)<(ns.map Xp).length:=by omega
 rw[List.drop_length,V9] at hg
 subst hg
 rw[if_neg (by simp)]
 have hris:=(XfE ns none hN).2
 refine QTb ?_;refine QNa ?_;refine QNb ?_
 refine XK (fun i:Nat=>i≤es.length∧X0c ns ne (Uo es i) (es.drop i)=M) (fun i=>⟨135,[(1,.ptr 100 0),(79,.d (.sl 5 (es.map Xs))),(80,ai (es.map Xs).length),(81,ai i)],[(100,.box [.d (.sl 3 (ns.map Xp)),.d (.sl 5 (es.map Xs)),ai nn,ai ne])]⟩) (fun i=>es.length-i) 0 ⟨Nat.zero_le _,by simpa [Uo] using hM⟩
  (Xd rfl JM ⟨rfl,trivial⟩) ?_
 clear hi hil hn
 rintro i ⟨hi,hg⟩
 by_cases hil:i<es.length
 case neg=>
  obtain rfl:i=es.length:=by omega
  have hn:¬((es.length:Nat):Int)<(es.map Xs).length:=by omega
  rw[List.drop_length,X0c] at hg
  subst hg
  refine QTb ?_;refine QIa ?_;exact QWa
 have hn:(i:Int)<(es.map Xs).length:=by omega
 obtain⟨x,hx⟩:=XI (l:=es) hil
 have hxc:(es.map Xs)[i]? =some (Xs x):=Y5 hx
 have hxh:=heh x (List.mem_of_getElem? hx)
 have hpc:=XeC [] x.props (by simp) hxh.2.2
 have hs1:=XiG ns x.src (by omega) hris
 have hs2:=XiG ns x.dst (by omega) hris
 have hnm:=X46 x.typ
 rw[XeZ hx] at hg
 clear hxh
 by_cases h0:i=0
 ·subst h0
  rw[Xi7] at hg
  obtain⟨id,src,dst,typ,props⟩:=x
  simp only[Xs] at hxc hpc hg hs1 hs2 hnm
  simp only[List.map_nil] at hpc
  generalize U4 ns src=b1 at*
  generalize U4 ns dst=b2 at*
  generalize XZ typ=b3 at*
  generalize V2 [] props=e at*
  by_cases q2:id<1
  ·rw[if_pos (show id<1∨ne≤id from .inl q2),if_pos (by decide)] at hg
   subst hg
   refine QDf ?_;exact QFf
  by_cases q3:ne≤id
  ·rw[if_pos (show id<1∨ne≤id from .inr q3),if_pos (by decide)] at hg
   subst hg
   refine QDf ?_;refine QGf ?_;exact QMb
  rw[if_neg (show ¬(id<1∨ne≤id) from fun h=>h.elim q2 q3)] at hg
  cases b1 with
  |false=>
   rw[if_pos (show false=false∨b2=false from .inl rfl),if_pos (by decide)] at hg
   subst hg
   refine QDf ?_;refine QNf ?_;refine QTa ?_;refine Qv ?_;exact QYa
  |true=>
   cases b2 with
   |false=>
    rw[if_pos (show true=false∨false=false from .inr rfl),if_pos (by decide)] at hg
    subst hg
    refine QDf ?_;refine QOf ?_;exact QMb
   |true=>
    rw[if_neg (show ¬(true=false∨true=false) by simp)] at hg
    cases b3 with
    |false=>
     rw[if_pos (show false=false from rfl),if_pos (by decide)] at hg
     subst hg
     refine QDf ?_;refine QPf ?_;exact QXa
    |true=>
     rw[if_neg (show ¬true=false by simp)] at hg
     by_cases he:e=0
     ·subst he
      rw[if_neg (by simp)] at hg
      refine QDf ?_;refine QQf ?_;refine QSb ?_;exact⟨0+1,⟨by omega,hg⟩,by omega,Xd rfl JM ⟨rfl,trivial⟩⟩
     ·rw[if_pos he] at hg
      subst hg
      refine QDf ?_;refine QQf ?_;exact QJf
 ·obtain⟨j,rfl⟩:∃j,i=j+1:=⟨i-1,by omega⟩
  obtain⟨p,hp⟩:=XI (l:=es) (k:=j) (by omega)
  have hpp:(es.map Xs)[j]? =some (Xs p):=Y5 hp
  rw[Xed hp] at hg
  clear hp
  obtain⟨id,src,dst,typ,props⟩:=x
  obtain⟨pid,psrc,pdst,ptyp,pprops⟩:=p
  simp only[Xs] at hxc hpc hg hpp hs1 hs2 hnm
  simp only[List.map_nil] at hpc
  generalize U4 ns src=b1 at*
  generalize U4 ns dst=b2 at*
  generalize XZ typ=b3 at*
  generalize V2 [] props=e at*
  by_cases q1:id≤pid
  ·rw[if_pos q1,if_pos (by decide)] at hg
   subst hg
   refine QKf ?_
   (refine Z1 (op:= .sub) (r':= .int .i64 ((j:Nat):Int)) (u:= .int .i64 ((j+1:Nat):Int)) (v:= .int .i64 1) ?_ (hr':=by exact congrArg (Value.int .i64) (show(((j+1:Nat):Int)-1)=(j:Int) by omega)) (hr:=by exact Yl (by unfold XT;omega)))
   refine QLf ?_;refine QCb ?_;exact QYa
  rw[if_neg q1] at hg
  by_cases q2:id<1
  ·rw[if_pos (show id<1∨ne≤id from .inl q2),if_pos (by decide)] at hg
   subst hg
   refine QKf ?_
   (refine Z1 (op:= .sub) (r':= .int .i64 ((j:Nat):Int)) (u:= .int .i64 ((j+1:Nat):Int)) (v:= .int .i64 1) ?_ (hr':=by exact congrArg (Value.int .i64) (show(((j+1:Nat):Int)-1)=(j:Int) by omega)) (hr:=by exact Yl (by unfold XT;omega)))
   refine QMf ?_;exact QFf
  by_cases q3:ne≤id
  ·rw[if_pos (show id<1∨ne≤id from .inr q3),if_pos (by decide)] at hg
   subst hg
   refine QKf ?_
   (refine Z1 (op:= .sub) (r':= .int .i64 ((j:Nat):Int)) (u:= .int .i64 ((j+1:Nat):Int)) (v:= .int .i64 1) ?_ (hr':=by exact congrArg (Value.int .i64) (show(((j+1:Nat):Int)-1)=(j:Int) by omega)) (hr:=by exact Yl (by unfold XT;omega)))
   refine QMf ?_;refine QGf ?_;exact QMb
  rw[if_neg (show ¬(id<1∨ne≤id) from fun h=>h.elim q2 q3)] at hg
  cases b1 with
  |false=>
   rw[if_pos (show false=false∨b2=false from .inl rfl),if_pos (by decide)] at hg
   subst hg
   refine QKf ?_
   (refine Z1 (op:= .sub) (r':= .int .i64 ((j:Nat):Int)) (u:= .int .i64 ((j+1:Nat):Int)) (v:= .int .i64 1) ?_ (hr':=by exact congrArg (Value.int .i64) (show(((j+1:Nat):Int)-1)=(j:Int) by omega)) (hr:=by exact Yl (by unfold XT;omega)))
   refine QMf ?_;refine QNf ?_;refine QTa ?_;refine Qv ?_;exact QYa
  |true=>
   cases b2 with
   |false=>
    rw[if_pos (show true=false∨false=false from .inr rfl),if_pos (by decide)] at hg
    subst hg
    refine QKf ?_
    (refine Z1 (op:= .sub) (r':= .int .i64 ((j:Nat):Int)) (u:= .int .i64 ((j+1:Nat):Int)) (v:= .int .i64 1) ?_ (hr':=by exact congrArg (Value.int .i64) (show(((j+1:Nat):Int)-1)=(j:Int) by omega)) (hr:=by exact Yl (by unfold XT;omega)))
    refine QMf ?_;refine QOf ?_;exact QMb
   |true=>
    rw[if_neg (show ¬(true=false∨true=false) by simp)] at hg
    cases b3 with
    |false=>
     rw[if_pos (show false=false from rfl),if_pos (by decide)] at hg
     subst hg
     refine QKf ?_
     (refine Z1 (op:= .sub) (r':= .int .i64 ((j:Nat):Int)) (u:= .int .i64 ((j+1:Nat):Int)) (v:= .int .i64 1) ?_ (hr':=by exact congrArg (Value.int .i64) (show(((j+1:Nat):Int)-1)=(j:Int) by omega)) (hr:=by exact Yl (by unfold XT;omega)))
     refine QMf ?_;refine QPf ?_;exact QXa
    |true=>
     rw[if_neg (show ¬true=false by simp)] at hg
     by_cases he:e=0
     ·subst he
      rw[if_neg (by simp)] at hg
      refine QKf ?_
      (refine Z1 (op:= .sub) (r':= .int .i64 ((j:Nat):Int)) (u:= .int .i64 ((j+1:Nat):Int)) (v:= .int .i64 1) ?_ (hr':=by exact congrArg (Value.int .i64) (show(((j+1:Nat):Int)-1)=(j:Int) by omega)) (hr:=by exact Yl (by unfold XT;omega)))
      refine QMf ?_;refine QQf ?_;refine QSb ?_;exact⟨j+1+1,⟨by omega,hg⟩,by omega,Xd rfl JM ⟨rfl,trivial⟩⟩
     ·rw[if_pos he] at hg
      subst hg
      refine QKf ?_
      (refine Z1 (op:= .sub) (r':= .int .i64 ((j:Nat):Int)) (u:= .int .i64 ((j+1:Nat):Int)) (v:= .int .i64 1) ?_ (hr':=by exact congrArg (Value.int .i64) (show(((j+1:Nat):Int)-1)=(j:Int) by omega)) (hr:=by exact Yl (by unfold XT;omega)))
      refine QMf ?_;refine QQf ?_;exact QJf
end Go.Fw

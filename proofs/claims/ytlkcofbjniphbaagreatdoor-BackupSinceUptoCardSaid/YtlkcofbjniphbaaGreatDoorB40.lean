/- Nodes looked up; their copies. -/
import Derived.Test.YtlkcofbjniphbaaGreatDoorB33
import Derived.Test.YtlkcofbjniphbaaGreatDoorB39
set_option maxHeartbeats 16000000
namespace Go.Fw
open Go Go.Proofs
set_option maxRecDepth 100000
set_option linter.unusedVariables false
set_option linter.unusedSimpArgs false
theorem XjV (g:Gra) (id:Int) (hl:g.nodes.length≤9223372036854775807) (hh:∀n∈g.nodes,Xj1 n):Con Tryz.prog 129 [] [XG g,ai id] [] (.tup [UA ((X2w g.nodes id).getD X2D),ab (X2w g.nodes id).isSome]):=by
 refine Xg (xs:=[UA ((X2w g.nodes id).getD X2D),ab (X2w g.nodes id).isSome]) Tryz.func129 rfl Tryz.ntmps129 rfl rfl rfl (fun E=> ?_)
 obtain⟨ns,es,nn,ne⟩:=g
 unfold XG
 simp only at hl hh ⊢
 generalize hG:X2w ns id=G
 refine Xt ?_
 refine XK (fun i:Nat=>i≤ns.length∧X2w (ns.drop i) id=G) (fun i=>⟨28,[(1,ai id),(2,.ptr 100 0),(4,.ptr 101 0),(6,ai i)],[(100,.box [.d (.sl 3 (ns.map Xp)),.d (.sl 5 (es.map Xs)),ai nn,ai ne]),(101,.box [ai 0,ani,ani])]⟩) (fun i=>ns.length-i) 0 ⟨Nat.zero_le _,by simpa using hG⟩
  (Xd rfl JM ⟨rfl,rfl,trivial⟩) ?_
 rintro i ⟨hi,hg⟩
 by_cases hil:i<ns.length
 case neg=>
  have hn:¬(i:Int)<(ns.map Xp).length:=by rw[List.length_map];omega
  rw[List.drop_of_length_le (by omega)] at hg
  have hg:none=G:=hg
  subst hg
  simp only[Option.getD_none,Option.isSome_none,X2D,UA,List.map_nil]
  refine Qie ?_
  (show AWP Tryz.prog E _ _ _;refine X1 ?_;exact(show Xy _ _ _ _ _ from⟨_,XF 101 (cs':=[ai 0,.d (.sl 1 []),.d (.sl 6 [])]) rfl JM rfl,⟨⟨101,0,_,rfl,rfl,.inr ⟨3,_,rfl,rfl,rfl,rfl⟩⟩,rfl,trivial⟩,X2 _⟩))
 have hn:(i:Int)<(ns.map Xp).length:=by rw[List.length_map];omega
 obtain⟨x,hx⟩:=XI (l:=ns) hil
 have hxc:(ns.map Xp)[i]? =some (Xp x):=Y5 hx
 rw[Xqw hx] at hg
 obtain⟨f1,f2,f3⟩:=hh x (List.mem_of_getElem? hx)
 obtain⟨xid,labels,props⟩:=x
 simp only[Xp] at hxc hg f1 f2 f3
 clear hx
 by_cases hq:xid=id
 ·rw[if_pos hq] at hg
  subst hg
  subst hq
  simp only[Option.getD_some,Option.isSome_some,UA]
  clear hh f1 f2 f3
  refine QRf ?_;refine XC ?_;refine JT ?_;refine Xj ?_
  (show AWP Tryz.prog E _ _ _;refine X1 ?_;exact(show Xy _ _ _ _ _ from⟨_,St.le_refl _,⟨⟨101,0,_,rfl,rfl,.inr ⟨3,_,rfl,rfl,rfl,rfl⟩⟩,rfl,trivial⟩,X2 _⟩))
 rw[if_neg hq] at hg
 exact Qvh
abbrev Xk5:Nod:=⟨0,[],[]⟩
def X0C:List Nod→Int→Nod×Bool
 |[],_=>(Xk5,false)
 |x::r,n=>if x.id=n then (x,true) else X0C r n
theorem Xf0:∀(l:List Nod) (n:Int),(X0C l n).2=U4 l n
 |[],n=>rfl
 |x::r,n=>by
  unfold X0C U4
  rw[List.any_cons]
  by_cases h:x.id=n
  ·simp[h]
  ·have:=Xf0 r n
   unfold U4 at this
   simp[h,this]
theorem Xkx {l:List Nod}{n:Int}{i:Nat}{x:Nod} (h:l[i]? =some x):X0C (l.drop i) n=if x.id=n then (x,true) else X0C (l.drop (i+1)) n:=by
 obtain⟨hi,rfl⟩:=List.getElem?_eq_some_iff.1 h
 rw[List.drop_eq_getElem_cons hi,X0C]
theorem Xih (ns:List Nod) (es:List Edg) (nn ne n:Int) (hl:ns.length≤9223372036854775807):Con Tryz.prog 129 [] [.agg [.d (.sl 3 (ns.map Xp)),.d (.sl 5 (es.map Xs)),ai nn,ai ne],ai n] [] (.tup [UA (X0C ns n).1,ab (X0C ns n).2]):=by
 refine Xg (xs:=[UA (X0C ns n).1,ab (X0C ns n).2]) Tryz.func129 rfl Tryz.ntmps129 rfl rfl rfl (fun E=> ?_)
 have hlm:(ns.map Xp).length=ns.length:=by simp
 generalize hG:X0C ns n=G
 refine Xt ?_
 refine XK (fun i:Nat=>i≤ns.length∧X0C (ns.drop i) n=G) (fun i=>⟨28,[(1,ai n),(2,.ptr 100 0),(4,.ptr 101 0),(6,ai i)],[(100,.box [.d (.sl 3 (ns.map Xp)),.d (.sl 5 (es.map Xs)),ai nn,ai ne]),(101,.box [ai 0,ani,ani])]⟩) (fun i=>ns.length-i) 0 ⟨Nat.zero_le _,by simpa using hG⟩
  (Xd rfl JM ⟨rfl,rfl,trivial⟩) ?_
 rintro i ⟨hi,hg⟩
 by_cases hil:i<ns.length
 case neg=>
  obtain rfl:i=ns.length:=by omega
  have hn:¬((ns.length:Nat):Int)<(ns.map Xp).length:=by omega
  rw[List.drop_length,X0C] at hg
  subst hg
  simp only[UA,List.map_nil]
  refine Qie ?_;exact X1 ⟨_,XF 101 (cs':=[ai 0,.d (.sl 1 []),.d (.sl 6 [])]) rfl JM rfl,⟨⟨101,0,_,rfl,rfl,.inr ⟨3,_,rfl,rfl,rfl,rfl⟩⟩,rfl,trivial⟩,X2 _⟩
 have hn:(i:Int)<(ns.map Xp).length:=by omega
 obtain⟨x,hx⟩:=XI (l:=ns) hil
 have hxc:(ns.map Xp)[i]? =some (Xp x):=Y5 hx
 rw[Xkx hx] at hg
 obtain⟨id,labels,props⟩:=x
 simp only[Xp] at hxc hg
 by_cases he:id=n
 ·rw[if_pos he] at hg
  subst hg
  simp only[UA]
  refine QRf ?_;refine XC ?_;refine JT ?_;refine Xj ?_;exact Qwh
 ·rw[if_neg he] at hg
  exact Qvh
theorem Xqj (ns:List Nod) (es:List Edg) (nn ne:Int) (hok:∀n∈ns,X6a n) (hl:ns.length≤9223372036854775807) (i:Nat) (x:Nod) (hx:ns[i]? =some x):Con Tryz.prog 127 [] [.agg [.d (.sl 3 (ns.map Xp)),.d (.sl 5 (es.map Xs)),ai nn,ai ne],ai i] [] (ai (VL nn (Uo ns i) x)):=by
 refine Xg (xs:=[ai (VL nn (Uo ns i) x)]) Tryz.func127 rfl Tryz.ntmps127 rfl rfl rfl (fun E=> ?_)
 have hil:=(List.getElem?_eq_some_iff.1 hx).1
 have hxc:(ns.map Xp)[i]? =some (Xp x):=Y5 hx
 have hxh:=hok x (List.mem_of_getElem? hx)
 have hpc:=XeR x.labels x.props hxh.1 hxh.2.2.2
 clear hxh
 by_cases h0:i=0
 ·subst h0
  rw[XcP]
  obtain⟨id,labels,props⟩:=x
  simp only[Xp] at hxc hpc ⊢
  by_cases q2:id<1
  ·rw[if_pos (show id<1∨nn≤id from .inl q2)]
   refine UY ?_;refine QL ?_;refine Qta ?_;refine Qlh ?_;exact QTf
  by_cases q3:nn≤id
  ·rw[if_pos (show id<1∨nn≤id from .inr q3)]
   refine Qxh ?_;exact QS
  rw[if_neg (show ¬(id<1∨nn≤id) from fun h=>h.elim q2 q3)]
  generalize V2 labels props=e at*
  refine Qxh ?_;refine QXb ?_;exact Qyh
 ·obtain⟨j,rfl⟩:∃j,i=j+1:=⟨i-1,by omega⟩
  obtain⟨p,hp⟩:=XI (l:=ns) (k:=j) (by omega)
  have hpp:(ns.map Xp)[j]? =some (Xp p):=Y5 hp
  rw[Xfy hp]
  clear hp hx
  obtain⟨id,labels,props⟩:=x
  obtain⟨pid,plabels,pprops⟩:=p
  simp only[Xp] at hxc hpc hpp ⊢
  by_cases q1:id≤pid
  ·rw[if_pos q1]
   refine X1S ?_
   (refine Z1 (op:= .sub) (r':= .int .i64 ((j:Nat):Int)) (u:= .int .i64 ((j+1:Nat):Int)) (v:= .int .i64 1) ?_ (hr':=by exact congrArg (Value.int .i64) (show(((j+1:Nat):Int)-1)=(j:Int) by omega)) (hr:=by exact Yl (by unfold XT;omega)))
   refine W4_ ?_;exact QN
  rw[if_neg q1]
  by_cases q2:id<1
  ·rw[if_pos (show id<1∨nn≤id from .inl q2)]
   refine X1S ?_
   (refine Z1 (op:= .sub) (r':= .int .i64 ((j:Nat):Int)) (u:= .int .i64 ((j+1:Nat):Int)) (v:= .int .i64 1) ?_ (hr':=by exact congrArg (Value.int .i64) (show(((j+1:Nat):Int)-1)=(j:Int) by omega)) (hr:=by exact Yl (by unfold XT;omega)))
   refine W4_ ?_;refine Qs ?_;refine QWb ?_;exact QTf
  by_cases q3:nn≤id
  ·rw[if_pos (show id<1∨nn≤id from .inr q3)]
   refine X1S ?_
   (refine Z1 (op:= .sub) (r':= .int .i64 ((j:Nat):Int)) (u:= .int .i64 ((j+1:Nat):Int)) (v:= .int .i64 1) ?_ (hr':=by exact congrArg (Value.int .i64) (show(((j+1:Nat):Int)-1)=(j:Int) by omega)) (hr:=by exact Yl (by unfold XT;omega)))
   refine W4_ ?_;refine QDe ?_;refine Xr ?_;exact QS
  rw[if_neg (show ¬(id<1∨nn≤id) from fun h=>h.elim q2 q3)]
  generalize V2 labels props=e at*
  refine X1S ?_
  (refine Z1 (op:= .sub) (r':= .int .i64 ((j:Nat):Int)) (u:= .int .i64 ((j+1:Nat):Int)) (v:= .int .i64 1) ?_ (hr':=by exact congrArg (Value.int .i64) (show(((j+1:Nat):Int)-1)=(j:Int) by omega)) (hr:=by exact Yl (by unfold XT;omega)))
  refine W4_ ?_;refine QDe ?_;refine Xr ?_;refine QXb ?_;exact Qyh
theorem Xq9 (ns:List Nod) (es:List Edg) (nn ne:Int) (hok:∀e∈es,X7z e) (hnl:ns.length≤9223372036854775807) (hl:es.length≤9223372036854775807) (i:Nat) (x:Edg) (hx:es[i]? =some x):Con Tryz.prog 128 [] [.agg [.d (.sl 3 (ns.map Xp)),.d (.sl 5 (es.map Xs)),ai nn,ai ne],ai i] [] (ai (X0m ns ne (Uo es i) x)):=by
 refine Xg (xs:=[ai (X0m ns ne (Uo es i) x)]) Tryz.func128 rfl Tryz.ntmps128 rfl rfl rfl (fun E=> ?_)
 have hil:=(List.getElem?_eq_some_iff.1 hx).1
 have hxc:(es.map Xs)[i]? =some (Xs x):=Y5 hx
 have hxh:=hok x (List.mem_of_getElem? hx)
 have hpc:=XeR [] x.props (by simp) hxh.2.2
 have hs1:=Xih ns es nn ne x.src hnl
 have hs2:=Xih ns es nn ne x.dst hnl
 rw[Xf0] at hs1 hs2
 have hnm:=Xcl x.typ
 clear hxh
 by_cases h0:i=0
 ·subst h0
  rw[Xi7]
  obtain⟨id,src,dst,typ,props⟩:=x
  simp only[Xs,UA] at hxc hpc hs1 hs2 hnm ⊢
  simp only[List.map_nil] at hpc
  generalize U4 ns src=b1 at*
  generalize U4 ns dst=b2 at*
  generalize (X0C ns src).1=m1 at*
  generalize (X0C ns dst).1=m2 at*
  generalize XZ typ=b3 at*
  generalize V2 [] props=e at*
  by_cases q2:id<1
  ·rw[if_pos (show id<1∨ne≤id from .inl q2)]
   refine UY ?_;refine QL ?_;refine Qta ?_;refine Qlh ?_;exact QTf
  by_cases q3:ne≤id
  ·rw[if_pos (show id<1∨ne≤id from .inr q3)]
   refine Qxh ?_;exact QS
  rw[if_neg (show ¬(id<1∨ne≤id) from fun h=>h.elim q2 q3)]
  cases b1 with
  |false=>
   rw[if_pos (show false=false∨b2=false from .inl rfl)]
   refine Qzh ?_;refine Xr ?_;refine Qv ?_;exact QN
  |true=>
   cases b2 with
   |false=>
    rw[if_pos (show true=false∨false=false from .inr rfl)]
    refine Qzh ?_;refine XA ?_;exact QS
   |true=>
    rw[if_neg (show ¬(true=false∨true=false) by simp)]
    cases b3 with
    |false=>
     rw[if_pos (show false=false from rfl)]
     refine Qzh ?_;refine QAh ?_;exact Qcc
    |true=>
     rw[if_neg (show ¬true=false by simp)]
     refine Qzh ?_;refine QAh ?_;refine Qzd ?_;exact Qyh
 ·obtain⟨j,rfl⟩:∃j,i=j+1:=⟨i-1,by omega⟩
  obtain⟨p,hp⟩:=XI (l:=es) (k:=j) (by omega)
  have hpp:(es.map Xs)[j]? =some (Xs p):=Y5 hp
  rw[Xed hp]
  clear hp hx
  obtain⟨id,src,dst,typ,props⟩:=x
  obtain⟨pid,psrc,pdst,ptyp,pprops⟩:=p
  simp only[Xs,UA] at hxc hpc hpp hs1 hs2 hnm ⊢
  simp only[List.map_nil] at hpc
  generalize U4 ns src=b1 at*
  generalize U4 ns dst=b2 at*
  generalize (X0C ns src).1=m1 at*
  generalize (X0C ns dst).1=m2 at*
  generalize XZ typ=b3 at*
  generalize V2 [] props=e at*
  by_cases q1:id≤pid
  ·rw[if_pos q1]
   refine X1S ?_
   (refine Z1 (op:= .sub) (r':= .int .i64 ((j:Nat):Int)) (u:= .int .i64 ((j+1:Nat):Int)) (v:= .int .i64 1) ?_ (hr':=by exact congrArg (Value.int .i64) (show(((j+1:Nat):Int)-1)=(j:Int) by omega)) (hr:=by exact Yl (by unfold XT;omega)))
   refine W4_ ?_;exact QN
  rw[if_neg q1]
  by_cases q2:id<1
  ·rw[if_pos (show id<1∨ne≤id from .inl q2)]
   refine X1S ?_
   (refine Z1 (op:= .sub) (r':= .int .i64 ((j:Nat):Int)) (u:= .int .i64 ((j+1:Nat):Int)) (v:= .int .i64 1) ?_ (hr':=by exact congrArg (Value.int .i64) (show(((j+1:Nat):Int)-1)=(j:Int) by omega)) (hr:=by exact Yl (by unfold XT;omega)))
   refine W4_ ?_;refine Qs ?_;refine QWb ?_;exact QTf
  by_cases q3:ne≤id
  ·rw[if_pos (show id<1∨ne≤id from .inr q3)]
   refine X1S ?_
   (refine Z1 (op:= .sub) (r':= .int .i64 ((j:Nat):Int)) (u:= .int .i64 ((j+1:Nat):Int)) (v:= .int .i64 1) ?_ (hr':=by exact congrArg (Value.int .i64) (show(((j+1:Nat):Int)-1)=(j:Int) by omega)) (hr:=by exact Yl (by unfold XT;omega)))
   refine W4_ ?_;refine QDe ?_;refine Xr ?_;exact QS
  rw[if_neg (show ¬(id<1∨ne≤id) from fun h=>h.elim q2 q3)]
  cases b1 with
  |false=>
   rw[if_pos (show false=false∨b2=false from .inl rfl)]
   refine X1S ?_
   (refine Z1 (op:= .sub) (r':= .int .i64 ((j:Nat):Int)) (u:= .int .i64 ((j+1:Nat):Int)) (v:= .int .i64 1) ?_ (hr':=by exact congrArg (Value.int .i64) (show(((j+1:Nat):Int)-1)=(j:Int) by omega)) (hr:=by exact Yl (by unfold XT;omega)))
   refine QBh ?_;refine Xr ?_;refine Qv ?_;exact QN
  |true=>
   cases b2 with
   |false=>
    rw[if_pos (show true=false∨false=false from .inr rfl)]
    refine X1S ?_
    (refine Z1 (op:= .sub) (r':= .int .i64 ((j:Nat):Int)) (u:= .int .i64 ((j+1:Nat):Int)) (v:= .int .i64 1) ?_ (hr':=by exact congrArg (Value.int .i64) (show(((j+1:Nat):Int)-1)=(j:Int) by omega)) (hr:=by exact Yl (by unfold XT;omega)))
    refine QBh ?_;refine XA ?_;exact QS
   |true=>
    rw[if_neg (show ¬(true=false∨true=false) by simp)]
    cases b3 with
    |false=>
     rw[if_pos (show false=false from rfl)]
     refine X1S ?_
     (refine Z1 (op:= .sub) (r':= .int .i64 ((j:Nat):Int)) (u:= .int .i64 ((j+1:Nat):Int)) (v:= .int .i64 1) ?_ (hr':=by exact congrArg (Value.int .i64) (show(((j+1:Nat):Int)-1)=(j:Int) by omega)) (hr:=by exact Yl (by unfold XT;omega)))
     refine QBh ?_;refine QAh ?_;exact Qcc
    |true=>
     rw[if_neg (show ¬true=false by simp)]
     refine X1S ?_
     (refine Z1 (op:= .sub) (r':= .int .i64 ((j:Nat):Int)) (u:= .int .i64 ((j+1:Nat):Int)) (v:= .int .i64 1) ?_ (hr':=by exact congrArg (Value.int .i64) (show(((j+1:Nat):Int)-1)=(j:Int) by omega)) (hr:=by exact Yl (by unfold XT;omega)))
     refine QBh ?_;refine QAh ?_;refine Qzd ?_;exact Qyh
theorem Xen (g:Gra) (hok:GraHold g):Con Tryz.prog 78 [] [XG g] [] (ai (YH g)):=by
 obtain⟨ns,es,nn,ne⟩:=g
 obtain⟨hnl,hel,hnh,heh⟩:=hok
 simp only at hnl hel hnh heh
 unfold XG
 simp only
 refine Xg (xs:=[ai (YH ⟨ns,es,nn,ne⟩)]) Tryz.func78 rfl Tryz.ntmps78 rfl rfl rfl (fun E=> ?_)
 have hlm:(ns.map Xp).length=ns.length:=by simp
 have hle:(es.map Xs).length=es.length:=by simp
 by_cases h1:2000<ns.length
 ·rw[X8m (.inl h1)]
  have h1':(2000:Int)<(ns.map Xp).length:=by omega
  refine Xr ?_;exact QO
 have h1':¬(2000:Int)<(ns.map Xp).length:=by omega
 by_cases h2:4000<es.length
 ·rw[X8m (.inr h2)]
  have h2':(4000:Int)<(es.map Xs).length:=by omega
  refine XD ?_;exact QS
 have h2':¬(4000:Int)<(es.map Xs).length:=by omega
 by_cases a1:nn<1
 ·rw[X3K h1 h2 (.inl a1)]
  refine XD ?_;refine Qlh ?_;refine QK ?_;refine QK ?_;exact QEa
 by_cases a2:1000001<nn
 ·rw[X3K h1 h2 (.inr (.inl a2))]
  refine XD ?_;refine QU ?_;refine Xi ?_;refine QP ?_;refine QK ?_;exact QEa
 by_cases a3:ne<1
 ·rw[X3K h1 h2 (.inr (.inr (.inl a3)))]
  refine XD ?_;refine QU ?_;refine Xi ?_;refine QQd ?_;refine QP ?_;exact QEa
 by_cases a4:1000001<ne
 ·rw[X3K h1 h2 (.inr (.inr (.inr a4)))]
  refine XD ?_;refine QU ?_;refine Xi ?_;refine QQd ?_;refine QQd ?_;exact QS
 rw[XgE h1 h2 a1 a2 a3 a4]
 generalize hN:V9 nn none ns=N
 generalize hM:X0c ns ne none es=M
 refine XD ?_;refine QU ?_;refine Xi ?_;refine QQd ?_;refine QQd ?_;refine QXb ?_
 refine XK (fun i:Nat=>i≤ns.length∧V9 nn (Uo ns i) (ns.drop i)=N) (fun i=>⟨61,[(1,.ptr 100 0),(3,ai i)],[(100,.box [.d (.sl 3 (ns.map Xp)),.d (.sl 5 (es.map Xs)),ai nn,ai ne])]⟩) (fun i=>ns.length-i) 0 ⟨Nat.zero_le _,by simpa [Uo] using hN⟩
  (Xd rfl JM ⟨rfl,trivial⟩) ?_
 rintro i ⟨hi,hg⟩
 by_cases hil:i<ns.length
 case pos=>
  have hn:(i:Int)<(ns.map Xp).length:=by omega
  obtain⟨x,hx⟩:=XI (l:=ns) hil
  have hc:=Xqj ns es nn ne hnh hnl i x hx
  rw[XdN hx] at hg
  generalize VL nn (Uo ns i) x=e at*
  by_cases he:e=0
  ·subst he
   rw[if_neg (by simp)] at hg
   refine W9_ ?_;refine QWc ?_;refine QKd ?_;refine Qia ?_;exact QCh
  ·rw[if_pos he] at hg
   subst hg
   rw[if_pos he]
   refine W9_ ?_;refine QWc ?_;refine QKd ?_;exact QDa
 obtain rfl:i=ns.length:=by omega
 have hn:¬((ns.length:Nat):Int)<(ns.map Xp).length:=by omega
 rw[List.drop_length,V9] at hg
 subst hg
 rw[if_neg (by simp)]
 refine Qie ?_
 refine XK (fun i:Nat=>i≤es.length∧X0c ns ne (Uo es i) (es.drop i)=M) (fun i=>⟨61,[(1,.ptr 100 0),(5,ai i)],[(100,.box [.d (.sl 3 (ns.map Xp)),.d (.sl 5 (es.map Xs)),ai nn,ai ne])]⟩) (fun i=>es.length-i) 0 ⟨Nat.zero_le _,by simpa [Uo] using hM⟩
  (Xd rfl JM ⟨rfl,trivial⟩) ?_
 clear hi hil hn
 rintro i ⟨hi,hg⟩
 by_cases hil:i<es.length
 case neg=>
  obtain rfl:i=es.length:=by omega
  have hn:¬((es.length:Nat):Int)<(es.map Xs).length:=by omega
  rw[List.drop_length,X0c] at hg
  subst hg
  refine W9_ ?_;exact QV
 have hn:(i:Int)<(es.map Xs).length:=by omega
 obtain⟨x,hx⟩:=XI (l:=es) hil
 have hc:=Xq9 ns es nn ne heh hnl hel i x hx
 rw[XeZ hx] at hg
 generalize X0m ns ne (Uo es i) x=e at*
 by_cases he:e=0
 ·subst he
  rw[if_neg (by simp)] at hg
  refine W9_ ?_;refine QWc ?_;refine QKd ?_;refine Qia ?_;exact QCh
 ·rw[if_pos he] at hg
  subst hg
  refine W9_ ?_;refine QWc ?_;refine QKd ?_;exact QDa
theorem Xnf (l:List (List UInt8)) (s:List UInt8):X1K l s=XO Y7 l s:=by
 unfold X1K XO
 congr 1
 funext x
 exact decide_eq_decide.2 ⟨fun h=>h.symm,fun h=>h.symm⟩
theorem Xrv (l:List (List UInt8)) (s:List UInt8) (hl:l.length≤100000):Con Tryz.prog 186 [] [.d (.sl 1 (l.map Xl)),XH s] [] (.d (.sl 1 ((UT Y7 l s).map Xl))):=by
 refine Xg (xs:=[.d (.sl 1 ((UT Y7 l s).map Xl))]) Tryz.func186 rfl Tryz.ntmps186 rfl rfl rfl (fun E=> ?_)
 have hlm:(l.map Xl).length=l.length:=by simp
 have hRl:=X9o (key:=Y7) l s
 generalize hR:UT Y7 l s=R at*
 refine XC ?_;refine Xq (V3 5 130 1 rfl rfl rfl) ?_
 refine XK (ι:=Nat×List (List UInt8)) (fun q=>q.1≤l.length∧q.2++UT Y7 (l.drop q.1) s=R) (fun q=>⟨27,[(0,.d (.sl 1 (l.map Xl))),(1,XH s),(5,.own 130 (q.2.map Xl).length),(6,ai q.1)],[(130,.row 1 (q.2.map Xl))]⟩) (fun q=>l.length-q.1) (0,[]) ⟨Nat.zero_le _,by simpa using hR⟩
  (Xd rfl JM ⟨rfl,trivial⟩) ?_
 rintro⟨i,out⟩ ⟨hi,hg⟩
 simp only at hi hg
 by_cases hil:i<l.length
 case neg=>
  have hn:¬(i:Int)<(l.map Xl).length:=by omega
  rw[List.drop_of_length_le (by omega),show UT Y7 ([]:List (List UInt8)) s=[] from rfl,List.append_nil] at hg
  subst hg
  refine QJc ?_;refine Qof ?_;refine Xq (Yx 4 130 rfl rfl (by simp)) ?_
  (show AWP Tryz.prog E _ _ _;refine X1 ?_;exact(show Xy _ _ _ _ _ from⟨_,St.le_refl _,⟨rfl,trivial⟩,X2 _⟩))
 have hn:(i:Int)<(l.map Xl).length:=by omega
 obtain⟨x,hx⟩:=XI (l:=l) hil
 have hxc:(l.map Xl)[i]? =some (Xl x):=Y5 hx
 rw[Xcb hx] at hg
 have hrm:=X3M hg
 have hroom:(out.map Xl).length≤100000:=by rw[List.length_map];omega
 simp only[Xl] at hxc
 by_cases hq:x=s
 ·subst hq
  rw[if_pos rfl,List.nil_append] at hg
  refine Qi ?_;refine Xt ?_;refine Qia ?_;exact⟨(i+1,out),⟨by simp only;omega,hg⟩,by simp only;omega,Xd rfl JM ⟨rfl,trivial⟩⟩
 ·rw[if_neg (show ¬Y7 x=s from hq),←List.append_assoc] at hg
  refine Qi ?_;refine Xt ?_;refine JT ?_;refine XA ?_
  refine⟨(i+1,out++[x]),⟨by simp only;omega,hg⟩,by simp only;omega,?_⟩
  dsimp only
  rw[List.map_append]
  exact QVf
theorem XrC (l:List (List UInt8)) (s:List UInt8) (hl:l.length≤100000) (hs:YX ltS Y7 l) (hh:XO Y7 l s=false):Con Tryz.prog 185 [] [.d (.sl 1 (l.map Xl)),XH s] [] (.d (.sl 1 ((Uv ltS Y7 l s [s]).map Xl))):=by
 refine Xg (xs:=[.d (.sl 1 ((Uv ltS Y7 l s [s]).map Xl))]) Tryz.func185 rfl Tryz.ntmps185 rfl rfl rfl (fun E=> ?_)
 have hlm:(l.map Xl).length=l.length:=by simp
 rw[X55 hh]
 have hle:=X6X (lt:=ltS) (key:=Y7) l s
 have h1:=Xb4 (lt:=ltS) (key:=Y7) (l:=l) (k:=s)
 have h2:∀x,l[Xu ltS Y7 l s]? =some x→ltS x s=false∧x≠s:=fun x hx=>⟨X8Q hx,fun e=>by
  subst e
  have:XO Y7 l x=true:=by unfold XO;rw[List.any_eq_true];exact⟨x,List.mem_of_getElem? hx,by simp⟩
  rw[hh] at this;cases this⟩
 generalize Xu ltS Y7 l s=k at*
 clear hs hh
 refine XC ?_
 refine XK (fun i:Nat=>i≤k) (fun i=>⟨47,[(0,.d (.sl 1 (l.map Xl))),(1,XH s),(5,ani),(6,ai i)],[]⟩) (fun i=>l.length-i) 0 (Nat.zero_le _)
  (Xd rfl JM trivial) ?_
 intro i hi
 by_cases hik:i<k
 case pos=>
  have hil:i<l.length:=by omega
  have hn:(i:Int)<(l.map Xl).length:=by omega
  obtain⟨x,hx⟩:=XI (l:=l) hil
  have hxc:(l.map Xl)[i]? =some (Xl x):=Y5 hx
  have hlt:=h1 x (by rw[List.mem_take_iff_getElem];obtain⟨hl,rfl⟩:=List.getElem?_eq_some_iff.1 hx;exact⟨i,by omega,rfl⟩)
  have hlt:Op.bytesLess x s=true:=hlt
  simp only[Xl] at hxc
  clear h1 h2
  refine Xr ?_;refine Qkf ?_;refine Qaf ?_;exact⟨i+1,by omega,by omega,Xd rfl JM trivial⟩
 obtain rfl:i=k:=by omega
 have hspl:(l.take i++[s]++l.drop i).map Xl=[]++((l.map Xl).take i).drop 0++[Xl s]++((l.map Xl).take (l.map Xl).length).drop i:=by rw[List.take_length];simp
 rw[hspl]
 have hr1:((l.map Xl).take i).length=i:=by rw[List.length_take];omega
 have hr2:((l.map Xl).drop i).length=l.length-i:=by rw[List.length_drop];omega
 by_cases hil:i<l.length
 case pos=>
  have hn:(i:Int)<(l.map Xl).length:=by omega
  have hn2:¬(i:Int)=(l.map Xl).length:=by omega
  obtain⟨x,hx⟩:=XI (l:=l) hil
  have hxc:(l.map Xl)[i]? =some (Xl x):=Y5 hx
  obtain⟨hlt,hne⟩:=h2 x hx
  have hlt:Op.bytesLess x s=false:=hlt
  simp only[Xl] at hxc
  clear h1 h2 hx hik hi
  refine Xr ?_;refine Qkf ?_;refine QDe ?_;refine W2_ ?_;refine Xq (V3 5 130 1 rfl rfl rfl) ?_;refine X87 ?_;refine QP ?_;refine QNc ?_;refine Qof ?_;refine Xq (Yx 4 130 rfl rfl (by simp only[List.length_append])) ?_
  (show AWP Tryz.prog E _ _ _;refine X1 ?_;exact(show Xy _ _ _ _ _ from⟨_,St.le_refl _,⟨rfl,trivial⟩,X2 _⟩))
 case neg=>
  have hn:¬(i:Int)<(l.map Xl).length:=by omega
  have hn2:(i:Int)=(l.map Xl).length:=by omega
  clear h1 h2 hik hi
  refine W8_ ?_;refine Qta ?_;refine QU ?_;refine W2_ ?_;refine Xq (V3 5 130 1 rfl rfl rfl) ?_;refine Yc ?_;refine Qta ?_;refine QKc ?_;refine Yc ?_;refine Qof ?_;refine Xq (Yx 4 130 rfl rfl (by simp only[List.length_append])) ?_
  (show AWP Tryz.prog E _ _ _;refine X1 ?_;exact(show Xy _ _ _ _ _ from⟨_,St.le_refl _,⟨rfl,trivial⟩,X2 _⟩))
theorem Xfq (l:List Prp) (key:List UInt8) (v:Val) (hl:l.length≤100000) (hv:Yp v):Con Tryz.prog 182 [] [.d (.sl 6 (l.map Xh)),XH key,Xv v] [] (.tup [.d (.sl 6 ((YI l key v).map Xh)),ab (decide ((YI l key v).length≤16))]):=by
 refine Xg (xs:=[.d (.sl 6 ((YI l key v).map Xh)),ab (decide ((YI l key v).length≤16))]) Tryz.func182 rfl Tryz.ntmps182 rfl rfl rfl (fun E=> ?_)
 have hlm:(l.map Xh).length=l.length:=by simp
 have hnu:=Xdb v hv
 have hRl:(YI l key v).length≤l.length+1:=by
  refine Nat.le_trans X3t ?_
  split<;>simp
 generalize hR:YI l key v=R at*
 unfold YI at hR
 clear hv
 obtain⟨vk,vn,vd,vs,vl⟩:=v
 simp only[Xv] at*
 refine X5m ?_;refine Xq (V3 8 130 6 rfl rfl rfl) ?_
 refine XK (ι:=Nat×Bool×List Prp) (fun q=>q.1≤l.length∧q.2.2++X1w ltS Prp.key (l.drop q.1) key (if Um (.mk vk vn vd vs vl)=true then [] else [⟨key,.mk vk vn vd vs vl⟩]) q.2.1=R) (fun q=>⟨68,[(0,.d (.sl 6 (l.map Xh))),(1,XH key),(5,.ptr 100 0),(8,.own 130 (q.2.2.map Xh).length),(9,ab q.2.1),(10,ai q.1)],[(100,.box [ai vk,ai vn,ai vd,.d (.v (.string (Xb vs))),.d (.sl 5 (XU vl))]),(130,.row 6 (q.2.2.map Xh))]⟩) (fun q=>l.length-q.1) (0,false,[]) ⟨Nat.zero_le _,by simpa [X1w] using hR⟩
  (Xd rfl JM ⟨rfl,rfl,trivial⟩) ?_
 rintro⟨i,b,out⟩ ⟨hi,hg⟩
 simp only at hi hg
 have hrm:=X3M hg
 have hroom:(out.map Xh).length≤100001:=by rw[List.length_map];omega
 by_cases hil:i<l.length
 case neg=>
  have hn:¬(i:Int)<(l.map Xh).length:=by omega
  rw[List.drop_of_length_le (by omega),Xbw] at hg
  cases b with
  |true=>
   rw[if_pos rfl,List.append_nil] at hg
   subst hg
   have hm:(out.map Xh).length=out.length:=by simp
   refine W8_ ?_;refine Qma ?_;refine Qw ?_;refine QU ?_;refine Xj ?_;refine Qof ?_;refine Xq (Yx 6 130 rfl rfl rfl) ?_
   (show AWP Tryz.prog E _ _ _;refine X1 ?_;refine(show Xy _ _ _ _ _ from⟨_,St.le_refl _,⟨rfl,?_,trivial⟩,X2 _⟩);refine Eq.trans (b:=ab (decide ((_:Int)≤16))) rfl ?_;exact congrArg ab (decide_eq_decide.2 (by(try simp only[List.length_append,List.length_map,List.length_singleton]);omega)))
  |false=>
   rw[if_neg (by simp)] at hg
   cases hz:Um (.mk vk vn vd vs vl) with
   |true=>
    rw[hz] at hg hnu
    rw[if_pos rfl,List.append_nil] at hg
    subst hg
    have hm:(out.map Xh).length=out.length:=by simp
    refine W8_ ?_;refine QWb ?_;refine Z3 (hcon:=hnu) ?_;refine QUd ?_;refine QUc ?_;refine Qof ?_;refine Xq (Yx 6 130 rfl rfl rfl) ?_
    (show AWP Tryz.prog E _ _ _;refine X1 ?_;refine(show Xy _ _ _ _ _ from⟨_,St.le_refl _,⟨rfl,?_,trivial⟩,X2 _⟩);refine Eq.trans (b:=ab (decide ((_:Int)≤16))) rfl ?_;exact congrArg ab (decide_eq_decide.2 (by(try simp only[List.length_append,List.length_map,List.length_singleton]);omega)))
   |false=>
    rw[hz] at hg hnu
    rw[if_neg (by simp)] at hg
    subst hg
    have hm:(out.map Xh).length=out.length:=by simp
    have hap:(out++[(⟨key,.mk vk vn vd vs vl⟩:Prp)]).map Xh=out.map Xh++[[.v (.string (Xb key)),.v (.int .i64 vk),.v (.int .i64 vn),.v (.int .i64 vd),.v (.string (Xb vs)),.sl 5 (XU vl)]]:=by simp[Xh,U3]
    rw[hap,List.length_append,List.length_singleton]
    refine W8_ ?_;refine QWb ?_;refine Z3 (hcon:=hnu) ?_;refine QUd ?_;refine JT ?_;refine Us ?_;refine Qof ?_;refine Xq (Yx 6 130 rfl rfl (by simp only[List.length_append])) ?_
    (show AWP Tryz.prog E _ _ _;refine X1 ?_;refine(show Xy _ _ _ _ _ from⟨_,St.le_refl _,⟨rfl,?_,trivial⟩,X2 _⟩);refine Eq.trans (b:=ab (decide ((_:Int)≤16))) rfl ?_;exact congrArg ab (decide_eq_decide.2 (by(try simp only[List.length_append,List.length_map,List.length_singleton]);omega)))
 have hn:(i:Int)<(l.map Xh).length:=by omega
 obtain⟨x,hx⟩:=XI (l:=l) hil
 have hxc:(l.map Xh)[i]? =some (Xh x):=Y5 hx
 have hirr:ltS x.key key=true→x.key≠key:=fun h e=>by rw[e,X0Y.irr] at h;cases h
 rw[Xc1 hx hirr] at hg
 obtain⟨xk,⟨wk,wn,wd,ws,wl⟩⟩:=x
 simp only[Xh,U3] at hxc hg hirr
 clear hx
 cases b with
 |true=>
  rw[if_neg (by simp),List.nil_append,Bool.true_or] at hg
  by_cases hq:xk=key
  ·subst hq
   rw[if_pos rfl,List.nil_append] at hg
   refine Qi ?_;refine W9_ ?_;refine QL ?_;refine Qw ?_;refine QU ?_;refine Xi ?_;refine Qia ?_
   refine⟨(i+1,true,out),⟨by simp only;omega,hg⟩,by simp only;omega,?_⟩
   dsimp only
   skip
   exact Xd rfl ⟨JL,JL,JL,JL,JL,JL,trivial⟩ ⟨rfl,rfl,trivial⟩
  ·rw[if_neg hq,←List.append_assoc] at hg
   have hap:(out++[(⟨xk,.mk wk wn wd ws wl⟩:Prp)]).map Xh=out.map Xh++[[.v (.string (Xb xk)),.v (.int .i64 wk),.v (.int .i64 wn),.v (.int .i64 wd),.v (.string (Xb ws)),.sl 5 (XU wl)]]:=by simp[Xh,U3]
   refine Qi ?_;refine W9_ ?_;refine QL ?_;refine Qw ?_;refine QU ?_;refine Xi ?_;refine JT ?_;refine XA ?_
   refine⟨(i+1,true,out++[(⟨xk,.mk wk wn wd ws wl⟩:Prp)]),⟨by simp only;omega,hg⟩,by simp only;omega,?_⟩
   dsimp only
   rw[hap]
   exact QDh
 |false=>
  by_cases hp:ltS xk key=true
  ·have hq:=hirr hp
   rw[hp,if_neg (by simp),if_neg hq,List.nil_append,←List.append_assoc] at hg
   have hp':Op.bytesLess xk key=true:=hp
   have hap:(out++[(⟨xk,.mk wk wn wd ws wl⟩:Prp)]).map Xh=out.map Xh++[[.v (.string (Xb xk)),.v (.int .i64 wk),.v (.int .i64 wn),.v (.int .i64 wd),.v (.string (Xb ws)),.sl 5 (XU wl)]]:=by simp[Xh,U3]
   refine QEh ?_;refine QDe ?_;refine Xi ?_;refine JT ?_;refine XA ?_
   refine⟨(i+1,false,out++[(⟨xk,.mk wk wn wd ws wl⟩:Prp)]),⟨by simp only;omega,hg⟩,by simp only;omega,?_⟩
   dsimp only
   rw[hap]
   exact QDh
  ·have hp:ltS xk key=false:=by simpa using hp
   have hp':Op.bytesLess xk key=false:=hp
   rw[hp,if_pos ⟨rfl,rfl⟩] at hg
   cases hz:Um (.mk vk vn vd vs vl) with
   |true=>
    rw[hz] at hg hnu
    rw[if_pos rfl,List.nil_append] at hg
    by_cases hq:xk=key
    ·subst hq
     rw[if_pos rfl,List.nil_append] at hg
     refine QFh ?_;refine W2_ ?_;refine QZb ?_;refine Qia ?_
     refine⟨(i+1,true,out),⟨by simp only;omega,hg⟩,by simp only;omega,?_⟩
     dsimp only
     skip
     exact Xd rfl ⟨JL,JL,JL,JL,JL,JL,trivial⟩ ⟨rfl,rfl,trivial⟩
    ·rw[if_neg hq,←List.append_assoc] at hg
     have hap:(out++[(⟨xk,.mk wk wn wd ws wl⟩:Prp)]).map Xh=out.map Xh++[[.v (.string (Xb xk)),.v (.int .i64 wk),.v (.int .i64 wn),.v (.int .i64 wd),.v (.string (Xb ws)),.sl 5 (XU wl)]]:=by simp[Xh,U3]
     refine QFh ?_;refine W2_ ?_;refine QZb ?_;refine JT ?_;refine XA ?_
     refine⟨(i+1,true,out++[(⟨xk,.mk wk wn wd ws wl⟩:Prp)]),⟨by simp only;omega,hg⟩,by simp only;omega,?_⟩
     dsimp only
     rw[hap]
     exact QDh
   |false=>
    rw[hz] at hg hnu
    rw[if_neg (by simp)] at hg
    by_cases hq:xk=key
    ·subst hq
     rw[if_pos rfl,List.append_nil,←List.append_assoc] at hg
     have hap:(out++[(⟨xk,.mk vk vn vd vs vl⟩:Prp)]).map Xh=out.map Xh++[[.v (.string (Xb xk)),.v (.int .i64 vk),.v (.int .i64 vn),.v (.int .i64 vd),.v (.string (Xb vs)),.sl 5 (XU vl)]]:=by simp[Xh,U3]
     refine QFh ?_;refine W2_ ?_;refine JT ?_;refine Yw ?_;refine Qia ?_
     refine⟨(i+1,true,out++[(⟨xk,.mk vk vn vd vs vl⟩:Prp)]),⟨by simp only;omega,hg⟩,by simp only;omega,?_⟩
     dsimp only
     rw[hap]
     exact QDh
    ·rw[if_neg hq,List.append_assoc,←List.append_assoc,←List.append_assoc] at hg
     have hap:(out++[(⟨key,.mk vk vn vd vs vl⟩:Prp)]++[(⟨xk,.mk wk wn wd ws wl⟩:Prp)]).map Xh=(out.map Xh++[[.v (.string (Xb key)),.v (.int .i64 vk),.v (.int .i64 vn),.v (.int .i64 vd),.v (.string (Xb vs)),.sl 5 (XU vl)]])++[[.v (.string (Xb xk)),.v (.int .i64 wk),.v (.int .i64 wn),.v (.int .i64 wd),.v (.string (Xb ws)),.sl 5 (XU wl)]]:=by simp[Xh,U3]
     refine QFh ?_;refine W2_ ?_;refine JT ?_;refine Yw ?_;refine JT ?_;refine XA ?_
     refine⟨(i+1,true,out++[(⟨key,.mk vk vn vd vs vl⟩:Prp)]++[(⟨xk,.mk wk wn wd ws wl⟩:Prp)]),⟨by simp only;omega,hg⟩,by simp only;omega,?_⟩
     dsimp only
     rw[hap]
     exact QDh
end Go.Fw

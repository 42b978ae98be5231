/- A graph compared with itself. -/
import Derived.Test.YtlkcofbjniphbaaGreatDoorB24
import Derived.Test.YtlkcofbjniphbaaGreatDoorB25
set_option maxHeartbeats 32000000
namespace Go.Fw
open Go Go.Proofs
set_option maxRecDepth 100000
set_option linter.unusedVariables false
set_option linter.unusedSimpArgs false
theorem Xkf (ns:List Nod) (es:List Edg) (nn ne:Int) (hg:GraHold ⟨ns,es,nn,ne⟩):Con Tryz.prog 37 [] [.agg [.d (.sl 3 (ns.map Xp)),.d (.sl 5 (es.map Xs)),ai nn,ai ne],.agg [.d (.sl 3 (ns.map Xp)),.d (.sl 5 (es.map Xs)),ai nn,ai ne]] [] (ab true):=by
 refine Xg (xs:=[ab true]) Tryz.func37 rfl Tryz.ntmps37 rfl rfl rfl (fun E=> ?_)
 have hln:(ns.map Xp).length=ns.length:=by simp
 have hle:(es.map Xs).length=es.length:=by simp
 have hnl:=hg.nl
 have hel:=hg.el
 simp only at hnl hel
 refine XqW ?_;refine QXb ?_
 refine XK (fun i:Nat=>i≤ns.length) (fun i=>⟨116,[(2,.ptr 100 0),(3,.ptr 101 0),(5,ai i)],[(100,.box [.d (.sl 3 (ns.map Xp)),.d (.sl 5 (es.map Xs)),ai nn,ai ne]),(101,.box [.d (.sl 3 (ns.map Xp)),.d (.sl 5 (es.map Xs)),ai nn,ai ne])]⟩) (fun i=>ns.length-i) 0 (Nat.zero_le _)
  (Xd rfl JM ⟨rfl,rfl,trivial⟩) ?_
 intro i hi
 by_cases hil:i<ns.length
 case pos=>
  have hn:(i:Int)<(ns.map Xp).length:=by omega
  obtain⟨x,hx⟩:=XI (l:=ns) hil
  have hxc:(ns.map Xp)[i]? =some (Xp x):=Y5 hx
  have hh:=hg.nodes x (List.mem_of_getElem? hx)
  have c1:=XnC x.labels hh.1
  have c2:=XeF x.props (fun p hp=>(hh.2.2.2 p hp).2) hh.2.2.1
  clear hh
  obtain⟨id,labels,props⟩:=x
  simp only[Xp] at hxc c1 c2
  clear hx
  refine QRf ?_;refine XfF ?_;refine Z3 (hcon:=c1) ?_;refine W1_ ?_;refine QSf ?_;refine Z3 (hcon:=c2) ?_;refine W1_ ?_;refine QVb ?_;exact⟨i+1,hil,by omega,Xd rfl JM ⟨rfl,rfl,trivial⟩⟩
 obtain rfl:i=ns.length:=by omega
 have hn:¬((ns.length:Nat):Int)<(ns.map Xp).length:=by omega
 refine Qie ?_
 clear hi hil hn
 refine XK (fun i:Nat=>i≤es.length) (fun i=>⟨116,[(2,.ptr 100 0),(3,.ptr 101 0),(8,ai i)],[(100,.box [.d (.sl 3 (ns.map Xp)),.d (.sl 5 (es.map Xs)),ai nn,ai ne]),(101,.box [.d (.sl 3 (ns.map Xp)),.d (.sl 5 (es.map Xs)),ai nn,ai ne])]⟩) (fun i=>es.length-i) 0 (Nat.zero_le _)
  (Xd rfl JM ⟨rfl,rfl,trivial⟩) ?_
 intro i hi
 by_cases hil:i<es.length
 case pos=>
  have hn:(i:Int)<(es.map Xs).length:=by omega
  obtain⟨x,hx⟩:=XI (l:=es) hil
  have hxc:(es.map Xs)[i]? =some (Xs x):=Y5 hx
  have hh:=hg.edges x (List.mem_of_getElem? hx)
  have c2:=XeF x.props (fun p hp=>(hh.2.2 p hp).2) hh.2.1
  clear hh
  obtain⟨id,src,dst,typ,props⟩:=x
  simp only[Xs] at hxc c2
  clear hx
  refine QRf ?_;refine X76 ?_;refine QE ?_;refine W6_ ?_;refine QE ?_;refine W6_ ?_;refine QSf ?_;refine Z3 (hcon:=c2) ?_;refine W1_ ?_;refine QVb ?_;exact⟨i+1,hil,by omega,Xd rfl JM ⟨rfl,rfl,trivial⟩⟩
 obtain rfl:i=es.length:=by omega
 have hn:¬((es.length:Nat):Int)<(es.map Xs).length:=by omega
 refine W9_ ?_;exact QV
theorem XbD (g:Gra) (hg:GraHold g):Con Tryz.prog 10 [] [XG g,XG g] [] (ab true):=by
 obtain⟨ns,es,nn,ne⟩:=g
 have hc:=Xkf ns es nn ne hg
 unfold XG
 simp only
 refine Xg (xs:=[ab true]) Tryz.func10 rfl Tryz.ntmps10 rfl rfl rfl (fun E=> ?_)
 refine Yw ?_;refine Qwa ?_;refine QJd ?_;exact QBa
def X02:List Prp→Int→Int
 |[],left=>left
 |p::r,left=>if left<0 then left else X02 r (X0u 12 p.v (left-(p.key.length/50:Nat)))
theorem Xnt {l:List Prp}{left:Int} (h:left<0):X02 l left=left:=by
 cases l with
 |nil=>rfl
 |cons x r=>rw[X02,if_pos h]
theorem XpT {l:List Prp}{i:Nat}{x:Prp}{left:Int} (h:l[i]? =some x) (h0:¬left<0):X02 (l.drop i) left=X02 (l.drop (i+1)) (X0u 12 x.v (left-(x.key.length/50:Nat))):=by
 rw[List.drop_eq_getElem_cons (List.getElem?_eq_some_iff.1 h).1,(List.getElem?_eq_some_iff.1 h).2,X02,if_neg h0]
theorem Xfg (l:List Prp) (left:Int) (h0:left≤1000000) (hl:l.length≤9223372036854775807) (hok:∀p∈l,X34 p):Con Tryz.prog 17 [] [.d (.sl 6 (l.map Xh)),ai left] [] (ai (X02 l left)):=by
 refine Xg (xs:=[ai (X02 l left)]) Tryz.func17 rfl Tryz.ntmps17 rfl rfl rfl (fun E=> ?_)
 have hlm:(l.map Xh).length=l.length:=by simp
 generalize hG:X02 l left=G
 refine Xj ?_
 refine XK (ι:=Nat×Int) (fun q=>q.1≤l.length∧q.2≤1000000∧X02 (l.drop q.1) q.2=G) (fun q=>⟨32,[(0,.d (.sl 6 (l.map Xh))),(1,ai q.2),(5,ai q.1)],[]⟩) (fun q=>l.length-q.1) (0,left) ⟨Nat.zero_le _,h0,by simpa using hG⟩
  (Xd rfl JM trivial) ?_
 rintro⟨i,cur⟩ ⟨hi,c2,hg⟩
 simp only at hi c2 hg
 by_cases hil:i<l.length
 case neg=>
  obtain rfl:i=l.length:=by omega
  rw[List.drop_length,X02] at hg
  subst hg
  have hn:¬((l.length:Nat):Int)<(l.map Xh).length:=by omega
  refine W8_ ?_;refine Qv ?_;refine QVb ?_;exact Qp
 have hn:(i:Int)<(l.map Xh).length:=by omega
 by_cases hneg:cur<0
 ·rw[Xnt hneg] at hg
  subst hg
  have hpos:¬0≤cur:=by omega
  refine Xj ?_;refine Qs ?_;refine Qia ?_;exact Qp
 have hpos:0≤cur:=by omega
 obtain⟨x,hx⟩:=XI (l:=l) hil
 have hxc:(l.map Xh)[i]? =some (Xh x):=Y5 hx
 obtain⟨o1,o2⟩:=hok x (List.mem_of_getElem? hx)
 rw[XpT hx hneg] at hg
 obtain⟨key,v⟩:=x
 simp only at o1 o2 hg
 have hsz:(Xb key).size=key.length:=rfl
 have hcall:=XfK v o2 12 (cur-(key.length/50:Nat)) (by omega) (by omega) (by omega)
 have hlow:=Xgi v 12 (cur-(key.length/50:Nat)) o2 (by omega) (by omega)
 generalize X0u 12 v (cur-(key.length/50:Nat))=z at*
 obtain⟨xk,xn,xd,xs,xl⟩:=v
 simp only[Xv,Xh,U3] at hcall hxc
 clear hx
 refine Xj ?_;refine QKc ?_;refine Yc ?_;(refine Z2 (op:= .quo) (r':=nj ((Xb key).size/50)) (u:=nj (Xb key).size) (v:=nj 50) ?_ (hr:=by exact X0b (by omega) (by rw[XJ];omega)));refine W1_ ?_;refine Qke ?_;exact⟨(i+1,z),⟨by show i+1≤l.length;omega,hlow.2,hg⟩,by show l.length-(i+1)<l.length-i;omega,Xd rfl JM trivial⟩
def X1x:List (List UInt8)→Int→Int
 |[],left=>left
 |p::r,left=>if left<0 then left else X1x r (left-(p.length/50:Nat))
theorem XlX {l:List (List UInt8)}{left:Int} (h:left<0):X1x l left=left:=by
 cases l with
 |nil=>rfl
 |cons x r=>rw[X1x,if_pos h]
theorem Xl8 {l:List (List UInt8)}{i:Nat}{x:List UInt8}{left:Int} (h:l[i]? =some x) (h0:¬left<0):X1x (l.drop i) left=X1x (l.drop (i+1)) (left-(x.length/50:Nat)):=by
 rw[List.drop_eq_getElem_cons (List.getElem?_eq_some_iff.1 h).1,(List.getElem?_eq_some_iff.1 h).2,X1x,if_neg h0]
theorem Xbe:∀(l:List (List UInt8)) (left:Int),X1x l left≤left
 |[],left=>Int.le_refl _
 |p::r,left=>by
  rw[X1x]
  split
  ·exact Int.le_refl _
  ·have:=Xbe r (left-(p.length/50:Nat))
   omega
theorem X7W:∀(l:List Prp) (left:Int),left≤1000000→(∀p∈l,X34 p)→X02 l left≤1000000
 |[],left,h,_=>h
 |p::r,left,h,ho=>by
  rw[X02]
  split
  ·exact h
  ·have hp:=ho p (by simp)
   have h1:=hp.1
   exact X7W r _ (Xgi p.v 12 _ hp.2 (by omega) (by omega)).2 fun q hq=>ho q (by simp[hq])
def X1V:List Nod→Int→Int
 |[],left=>left
 |n::r,left=>if left<0 then left else X1V r (X1x n.labels (X02 n.props (left-n.labels.length)))
def X2q:List Edg→Int→Int
 |[],left=>left
 |n::r,left=>if left<0 then left else X2q r (X02 n.props (left-(n.typ.length/50:Nat)))
theorem Xqn {l:List Nod}{left:Int} (h:left<0):X1V l left=left:=by
 cases l with
 |nil=>rfl
 |cons x r=>rw[X1V,if_pos h]
theorem Xrk {l:List Nod}{i:Nat}{x:Nod}{left:Int} (h:l[i]? =some x) (h0:¬left<0):X1V (l.drop i) left=X1V (l.drop (i+1)) (X1x x.labels (X02 x.props (left-x.labels.length))):=by
 rw[List.drop_eq_getElem_cons (List.getElem?_eq_some_iff.1 h).1,(List.getElem?_eq_some_iff.1 h).2,X1V,if_neg h0]
theorem XkW {l:List Edg}{left:Int} (h:left<0):X2q l left=left:=by
 cases l with
 |nil=>rfl
 |cons x r=>rw[X2q,if_pos h]
theorem XpF {l:List Edg}{i:Nat}{x:Edg}{left:Int} (h:l[i]? =some x) (h0:¬left<0):X2q (l.drop i) left=X2q (l.drop (i+1)) (X02 x.props (left-(x.typ.length/50:Nat))):=by
 rw[List.drop_eq_getElem_cons (List.getElem?_eq_some_iff.1 h).1,(List.getElem?_eq_some_iff.1 h).2,X2q,if_neg h0]
def X5a (g:Gra) (a b:Int):Bool:=if a<g.nodes.length∨b<g.edges.length then false else decide (0≤X2q g.edges (X1V g.nodes 2000))
theorem Xi4:∀(l:List Nod) (left:Int),left≤1000000→(∀n∈l,X6a n)→X1V l left≤1000000
 |[],left,h,_=>h
 |n::r,left,h,ho=>by
  rw[X1V]
  split
  ·exact h
  ·have h1:=X7W n.props (left-n.labels.length) (by omega) (ho n (by simp)).2.2.2
   have h2:=Xbe n.labels (X02 n.props (left-n.labels.length))
   exact Xi4 r _ (by omega) fun q hq=>ho q (by simp[hq])
theorem Xh2 (g:Gra) (a b:Int) (hg:GraHold g):Con Tryz.prog 6 [] [XG g,ai a,ai b] [] (ab (X5a g a b)):=by
 refine Xg (xs:=[ab (X5a g a b)]) Tryz.func6 rfl Tryz.ntmps6 rfl rfl rfl (fun E=> ?_)
 obtain⟨ns,es,nn,ne⟩:=g
 have hln:(ns.map Xp).length=ns.length:=by simp
 have hle:(es.map Xs).length=es.length:=by simp
 have hnl:=hg.nl
 have hel:=hg.el
 have hno:=hg.nodes
 have hed:=hg.edges
 clear hg
 simp only at hnl hel hno hed
 unfold X5a XG
 simp only
 by_cases h1:a<ns.length
 ·have h1':a<(ns.map Xp).length:=by omega
  rw[if_pos (.inl h1)]
  refine XC ?_;exact QTf
 have h1':¬a<(ns.map Xp).length:=by omega
 by_cases h2:b<es.length
 ·have h2':b<(es.map Xs).length:=by omega
  rw[if_pos (.inr h2)]
  refine Yw ?_;exact QS
 have h2':¬b<(es.map Xs).length:=by omega
 rw[if_neg (fun h=>h.elim h1 h2)]
 have hG1:=Xi4 ns 2000 (by omega) hno
 generalize hG:X1V ns 2000=G at*
 generalize hF:X2q es G=F
 refine Yw ?_;refine QU ?_;refine Xj ?_
 refine X2h ⟨98,[(3,.ptr 100 0),(7,ai G)],[(100,.box [.d (.sl 3 (ns.map Xp)),.d (.sl 5 (es.map Xs)),ai nn,ai ne])]⟩ ?_ ?_
 ·refine W1_ ?_
  refine XK (ι:=Nat×Int) (fun q=>q.1≤ns.length∧q.2≤1000000∧X1V (ns.drop q.1) q.2=G) (fun q=>⟨98,[(3,.ptr 100 0),(7,ai q.2),(8,ai q.1)],[(100,.box [.d (.sl 3 (ns.map Xp)),.d (.sl 5 (es.map Xs)),ai nn,ai ne])]⟩) (fun q=>ns.length-q.1) (0,2000) ⟨Nat.zero_le _,by show(2000:Int)≤_;omega,by simpa using hG⟩
   (Xd rfl JM ⟨rfl,trivial⟩) ?_
  rintro⟨i,cur⟩ ⟨hi,hc2,hg⟩
  simp only at hi hc2 hg
  by_cases hil:i<ns.length
  case neg=>
   obtain rfl:i=ns.length:=by omega
   rw[List.drop_length,X1V] at hg
   subst hg
   have hn:¬((ns.length:Nat):Int)<(ns.map Xp).length:=by rw[List.length_map];omega
   refine Qoa ?_;refine QU ?_;refine W1_ ?_;exact Xd rfl JM ⟨rfl,trivial⟩
  have hn:(i:Int)<(ns.map Xp).length:=by rw[List.length_map];omega
  by_cases hneg:cur<0
  ·rw[Xqn hneg] at hg
   subst hg
   have hpos:¬0≤cur:=by omega
   refine QUf ?_;exact Xd rfl JM ⟨rfl,trivial⟩
  have hpos:0≤cur:=by omega
  obtain⟨x,hx⟩:=XI (l:=ns) hil
  have hxc:(ns.map Xp)[i]? =some (Xp x):=Y5 hx
  rw[Xrk hx hneg] at hg
  have hh:=hno x (List.mem_of_getElem? hx)
  obtain⟨id,labels,props⟩:=x
  obtain⟨hll,hlo,hpl,hpo⟩:=hh
  simp only[Xp] at hll hlo hpl hpo hxc hg
  clear hx
  have hlm:(labels.map Xl).length=labels.length:=by simp
  have hcall:=Xfg props (cur-labels.length) (by omega) hpl hpo
  have hz1:=X7W props (cur-labels.length) (by omega) hpo
  have hcur:cur-((labels.map Xl).length:Int)=cur-labels.length:=by rw[hlm]
  generalize hz:X02 props (cur-labels.length)=z at*
  have hw1:=Xbe labels z
  generalize hW:X1x labels z=W at*
  refine Qt ?_;refine Qm ?_;refine YB ?_;refine Us ?_
  (refine Z1 (op:= .sub) (r':= .int .i64 (cur-labels.length)) (u:= .int .i64 cur) (v:= .int .i64 ((labels.map Xl).length:Int)) ?_ (hr':=by exact congrArg (Value.int .i64) hcur) (hr:=by exact Yl (by unfold XT;omega)))
  refine Z3 (hcon:=hcall) ?_;refine W6_ ?_
  show AWP Tryz.prog E _ _ _
  refine Xok ⟨98,[(3,.ptr 100 0),(7,ai W),(8,ai i)],[(100,.box [.d (.sl 3 (ns.map Xp)),.d (.sl 5 (es.map Xs)),ai nn,ai ne])]⟩ ?_ ?_
  ·refine W1_ ?_
   refine XK (ι:=Nat×Int) (fun q=>q.1≤labels.length∧q.2≤1000000∧X1x (labels.drop q.1) q.2=W) (fun q=>⟨98,[(3,.ptr 100 0),(7,ai q.2),(8,ai i),(9,.ptr 101 0),(10,ai q.1)],[(100,.box [.d (.sl 3 (ns.map Xp)),.d (.sl 5 (es.map Xs)),ai nn,ai ne]),(101,.box [ai id,.d (.sl 1 (labels.map Xl)),.d (.sl 6 (props.map Xh))])]⟩) (fun q=>labels.length-q.1) (0,z) ⟨Nat.zero_le _,hz1,by simpa using hW⟩
    (Xd rfl JM ⟨rfl,rfl,trivial⟩) ?_
   rintro⟨k,cur2⟩ ⟨hk,hc3,hg2⟩
   simp only at hk hc3 hg2
   by_cases hkl:k<labels.length
   case neg=>
    obtain rfl:k=labels.length:=by omega
    rw[List.drop_length,X1x] at hg2
    subst hg2
    have hn:¬((labels.length:Nat):Int)<(labels.map Xl).length:=by rw[List.length_map];omega
    refine Qoa ?_;refine QU ?_;refine W1_ ?_;exact Xd rfl JM ⟨rfl,trivial⟩
   have hn:(k:Int)<(labels.map Xl).length:=by rw[List.length_map];omega
   by_cases hneg2:cur2<0
   ·rw[XlX hneg2] at hg2
    subst hg2
    have hpos2:¬0≤cur2:=by omega
    refine QUf ?_;exact Xd rfl JM ⟨rfl,trivial⟩
   have hpos2:0≤cur2:=by omega
   obtain⟨x,hx⟩:=XI (l:=labels) hkl
   have hxc:(labels.map Xl)[k]? =some (Xl x):=Y5 hx
   rw[Xl8 hx hneg2] at hg2
   have hxl:=hlo x (List.mem_of_getElem? hx)
   have hsz:(Xb x).size=x.length:=rfl
   clear hx
   refine Qt ?_;refine Qje ?_;(refine Z2 (op:= .quo) (r':=nj ((Xb x).size/50)) (u:=nj (Xb x).size) (v:=nj 50) ?_ (hr:=by exact X0b (by omega) (by rw[XJ];omega)));refine W8_ ?_;exact⟨(k+1,cur2-(x.length/50:Nat)),⟨by show k+1≤labels.length;omega,by show cur2-_≤_;omega,hg2⟩,by show labels.length-(k+1)<labels.length-k;omega,Xd rfl JM ⟨rfl,rfl,trivial⟩⟩
  intro T hT
  show AWP Tryz.prog E _ _ _
  refine Xq hT ?_
  clear hT T
  refine W5_ ?_;exact⟨(i+1,W),⟨by show i+1≤ns.length;omega,by show W≤1000000;omega,hg⟩,by show ns.length-(i+1)<ns.length-i;omega,Xd rfl JM ⟨rfl,trivial⟩⟩
 refine W6_ ?_
 refine XK (ι:=Nat×Int) (fun q=>q.1≤es.length∧q.2≤1000000∧X2q (es.drop q.1) q.2=F) (fun q=>⟨98,[(3,.ptr 100 0),(7,ai q.2),(11,ai q.1)],[(100,.box [.d (.sl 3 (ns.map Xp)),.d (.sl 5 (es.map Xs)),ai nn,ai ne])]⟩) (fun q=>es.length-q.1) (0,G) ⟨Nat.zero_le _,hG1,by simpa using hF⟩
  (Xd rfl JM ⟨rfl,trivial⟩) ?_
 rintro⟨i,cur⟩ ⟨hi,hc2,hg⟩
 simp only at hi hc2 hg
 by_cases hil:i<es.length
 case neg=>
  obtain rfl:i=es.length:=by omega
  rw[List.drop_length,X2q] at hg
  subst hg
  have hn:¬((es.length:Nat):Int)<(es.map Xs).length:=by rw[List.length_map];omega
  refine Qoa ?_;refine QXb ?_;exact Qp
 have hn:(i:Int)<(es.map Xs).length:=by rw[List.length_map];omega
 by_cases hneg:cur<0
 ·rw[XkW hneg] at hg
  subst hg
  have hpos:¬0≤cur:=by omega
  refine Qt ?_;refine Qma ?_;exact Qp
 have hpos:0≤cur:=by omega
 obtain⟨x,hx⟩:=XI (l:=es) hil
 have hxc:(es.map Xs)[i]? =some (Xs x):=Y5 hx
 rw[XpF hx hneg] at hg
 have hh:=hed x (List.mem_of_getElem? hx)
 obtain⟨id,src,dst,typ,props⟩:=x
 obtain⟨hll,hpl,hpo⟩:=hh
 simp only[Xs] at hll hpl hpo hxc hg
 clear hx
 have hsz:(Xb typ).size=typ.length:=rfl
 have hcall:=Xfg props (cur-(typ.length/50:Nat)) (by omega) hpl hpo
 have hz1:=X7W props (cur-(typ.length/50:Nat)) (by omega) hpo
 generalize hz:X02 props (cur-(typ.length/50:Nat))=z at*
 refine Xi ?_;refine QKc ?_;refine Us ?_;(refine Z2 (op:= .quo) (r':=nj ((Xb typ).size/50)) (u:=nj (Xb typ).size) (v:=nj 50) ?_ (hr:=by exact X0b (by omega) (by rw[XJ];omega)));refine W1_ ?_;refine Qke ?_;exact⟨(i+1,z),⟨by show i+1≤es.length;omega,by show z≤1000000;omega,hg⟩,by show es.length-(i+1)<es.length-i;omega,Xd rfl JM ⟨rfl,trivial⟩⟩
open Go
structure KOrd {κ:Type} (lt:κ→κ→Bool):Prop where
 irr:∀a,lt a a=false
 tr:∀a b c,lt a b=true→lt b c=true→lt a c=true
 tri:∀a b,lt a b=false→lt b a=false→a=b
section
variable {α κ:Type}{lt:κ→κ→Bool}{key:α→κ}
def YX (lt:κ→κ→Bool) (key:α→κ) (l:List α):Prop:=l.Pairwise fun a b=>lt (key a) (key b)=true
def Xu (lt:κ→κ→Bool) (key:α→κ) (l:List α) (k:κ):Nat:=(l.takeWhile fun x=>lt (key x) k).length
theorem Xcn {p:α→Bool}:∀{l:List α}{x:α},x∈l.takeWhile p→p x=true
 |y::l,x,h=>by
  cases hp:p y with
  |true=>
   rw[List.takeWhile_cons_of_pos hp] at h
   rcases List.mem_cons.1 h with rfl|h
   ·exact hp
   ·exact Xcn h
  |false=>rw[List.takeWhile_cons_of_neg (by simp[hp])] at h;simp at h
 |[],x,h=>by simp at h
theorem X7T {p:α→Bool}:∀l:List α,l.takeWhile p=l.take (l.takeWhile p).length∧l.dropWhile p=l.drop (l.takeWhile p).length
 |[]=>⟨rfl,rfl⟩
 |x::l=>by
  cases h:p x with
  |true=>
   rw[List.takeWhile_cons_of_pos h,List.dropWhile_cons_of_pos h]
   obtain⟨h1,h2⟩:=X7T (p:=p) l
   exact⟨by rw[List.length_cons,List.take_succ_cons,←h1],by rw[List.length_cons,List.drop_succ_cons,←h2]⟩
  |false=>
   rw[List.takeWhile_cons_of_neg (by simp[h]),List.dropWhile_cons_of_neg (by simp[h])]
   exact⟨rfl,rfl⟩
theorem X6X (l:List α) (k:κ):Xu lt key l k≤l.length:=by
 unfold Xu
 have:=(X7T (p:=fun x=>lt (key x) k) l).1
 have:=congrArg List.length this
 rw[List.length_take] at this
 omega
theorem Xal (l:List α) (k:κ):(l.takeWhile fun x=>lt (key x) k)=l.take (Xu lt key l k):=(X7T l).1
theorem X7f (l:List α) (k:κ):(l.dropWhile fun x=>lt (key x) k)=l.drop (Xu lt key l k):=(X7T l).2
theorem Xb4 {l:List α}{k:κ}:∀x∈l.take (Xu lt key l k),lt (key x) k=true:=by
 intro x hx
 rw[←Xal] at hx
 exact Xcn (p:=fun x=>lt (key x) k) hx
theorem X8Q {l:List α}{k:κ}{x:α} (h:l[Xu lt key l k]? =some x):lt (key x) k=false:=by
 have h1:(l.dropWhile fun x=>lt (key x) k).head? =some x:=by
  rw[X7f,List.head?_drop];exact h
 have:=List.head?_dropWhile_not (fun x=>lt (key x) k) l
 rw[h1] at this
 simpa using this
theorem XoD (ho:KOrd lt) {l:List α}{k:κ} (hs:YX lt key l):∀x∈l.drop (Xu lt key l k),lt (key x) k=false:=by
 intro x hx
 obtain⟨j,hj⟩:=List.getElem?_of_mem hx
 rw[List.getElem?_drop] at hj
 cases j with
 |zero=>exact X8Q (by simpa using hj)
 |succ j=>
  have hlt:Xu lt key l k+(j+1)<l.length:=(List.getElem?_eq_some_iff.1 hj).1
  have h0:l[Xu lt key l k]? =some l[Xu lt key l k]:=List.getElem?_eq_getElem (by omega)
  have h1:=X8Q h0
  have h2:=(List.pairwise_iff_getElem.1 hs) (Xu lt key l k) (Xu lt key l k+(j+1)) (by omega) hlt (by omega)
  rw[List.getElem?_eq_getElem hlt] at hj
  simp only[Option.some.injEq] at hj
  rw[hj] at h2
  by_cases q:lt (key x) k=true
  ·rw[ho.tr _ _ _ h2 q] at h1;cases h1
  ·simpa using q
theorem Xbg {p:α→Bool}:∀{l:List α},(∀x∈l,p x=true)→l.filter p=l:=fun h=>List.filter_eq_self.2 h
variable [DecidableEq κ]
def XO (key:α→κ) (l:List α) (k:κ):Bool:=l.any fun x=>decide (key x=k)
def Uv (lt:κ→κ→Bool) (key:α→κ) (l:List α) (k:κ) (ns:List α):List α:=(l.takeWhile fun x=>lt (key x) k)++ns++(l.dropWhile fun x=>lt (key x) k).filter fun x=> !decide (key x=k)
def UT (key:α→κ) (l:List α) (k:κ):List α:=l.filter fun x=> !decide (key x=k)
theorem X0g (ho:KOrd lt) {l:List α}{k:κ} (hs:YX lt key l):XO key l k=decide (∃x,l[Xu lt key l k]? =some x∧key x=k):=by
 rw[Bool.eq_iff_iff]
 unfold XO
 simp only[List.any_eq_true,decide_eq_true_eq]
 constructor
 ·rintro⟨x,hx,e⟩
  rw[←List.take_append_drop (Xu lt key l k) l] at hx
  rcases List.mem_append.1 hx with hx|hx
  ·have:=Xb4 x hx
   rw[e,ho.irr] at this;cases this
  ·obtain⟨j,hj⟩:=List.getElem?_of_mem hx
   rw[List.getElem?_drop] at hj
   cases j with
   |zero=>exact⟨x,by simpa using hj,e⟩
   |succ j=>
    exfalso
    have hlt:Xu lt key l k+(j+1)<l.length:=(List.getElem?_eq_some_iff.1 hj).1
    have h0:l[Xu lt key l k]? =some l[Xu lt key l k]:=List.getElem?_eq_getElem (by omega)
    have h1:=X8Q h0
    have h2:=(List.pairwise_iff_getElem.1 hs) (Xu lt key l k) (Xu lt key l k+(j+1)) (by omega) hlt (by omega)
    rw[List.getElem?_eq_getElem hlt] at hj
    simp only[Option.some.injEq] at hj
    rw[hj,e] at h2
    rw[h2] at h1;cases h1
 ·rintro⟨x,hx,e⟩
  exact⟨x,List.mem_of_getElem? hx,e⟩
theorem X55 {l:List α}{k:κ}{ns:List α} (hn:XO key l k=false):Uv lt key l k ns=l.take (Xu lt key l k)++ns++l.drop (Xu lt key l k):=by
 unfold Uv
 rw[Xal,X7f,Xbg]
 intro x hx
 have:=(List.any_eq_false.1 hn) x (List.mem_of_mem_drop hx)
 simpa using this
theorem XcZ (ho:KOrd lt) {l:List α}{k:κ}{x:α} (hs:YX lt key l) (hx:l[Xu lt key l k]? =some x) (e:key x=k):(l.drop (Xu lt key l k)).filter (fun x=> !decide (key x=k))=l.drop (Xu lt key l k+1):=by
 have hlt:Xu lt key l k<l.length:=(List.getElem?_eq_some_iff.1 hx).1
 rw[List.drop_eq_getElem_cons hlt]
 have hx':l[Xu lt key l k]=x:=by rw[List.getElem?_eq_getElem hlt] at hx;simpa using hx
 rw[hx',List.filter_cons_of_neg (by simp[e]),Xbg]
 intro y hy
 obtain⟨j,hj⟩:=List.getElem?_of_mem hy
 rw[List.getElem?_drop] at hj
 have hlt2:Xu lt key l k+1+j<l.length:=(List.getElem?_eq_some_iff.1 hj).1
 have h2:=(List.pairwise_iff_getElem.1 hs) (Xu lt key l k) (Xu lt key l k+1+j) hlt hlt2 (by omega)
 rw[List.getElem?_eq_getElem hlt2] at hj
 simp only[Option.some.injEq] at hj
 rw[hj,hx',e] at h2
 simp only[Bool.not_eq_true',decide_eq_false_iff_not]
 intro q
 rw[q,ho.irr] at h2;cases h2
theorem X67 (ho:KOrd lt) {l:List α}{k:κ}{ns:List α}{x:α} (hs:YX lt key l) (hx:l[Xu lt key l k]? =some x) (e:key x=k):Uv lt key l k ns=l.take (Xu lt key l k)++ns++l.drop (Xu lt key l k+1):=by
 unfold Uv
 rw[Xal,X7f,XcZ ho hs hx e]
theorem XbJ (ho:KOrd lt) {l:List α}{k:κ}{x:α} (hs:YX lt key l) (hx:l[Xu lt key l k]? =some x) (e:key x=k):UT key l k=l.take (Xu lt key l k)++l.drop (Xu lt key l k+1):=by
 unfold UT
 conv=>lhs;rw[←List.take_append_drop (Xu lt key l k) l]
 rw[List.filter_append,XcZ ho hs hx e,Xbg]
 intro y hy
 have:=Xb4 y hy
 simp only[Bool.not_eq_true',decide_eq_false_iff_not]
 intro q
 rw[q,ho.irr] at this;cases this
theorem X8z {l:List α}{k:κ}{ns:List α}{x:α} (h:x∈Uv lt key l k ns):x∈ns∨x∈l:=by
 unfold Uv at h
 rcases List.mem_append.1 h with h|h
 ·rcases List.mem_append.1 h with h|h
  ·exact .inr ((List.takeWhile_sublist _).subset h)
  ·exact .inl h
 ·exact .inr ((List.dropWhile_sublist _).subset ((List.mem_filter.1 h).1))
theorem X7s (ho:KOrd lt) {l:List α}{k:κ}{ns:List α} (hs:YX lt key l) (hn:ns=[]∨∃n,ns=[n]∧key n=k):YX lt key (Uv lt key l k ns):=by
 unfold Uv YX
 have h1:YX lt key (l.takeWhile fun x=>lt (key x) k):=hs.sublist (List.takeWhile_sublist _)
 have h2:YX lt key ((l.dropWhile fun x=>lt (key x) k).filter fun x=> !decide (key x=k)):=(hs.sublist (List.dropWhile_sublist _)).sublist List.filter_sublist
 have hA:∀a∈(l.takeWhile fun x=>lt (key x) k),lt (key a) k=true:=fun a ha=>Xcn (p:=fun x=>lt (key x) k) ha
 have hB:∀b∈((l.dropWhile fun x=>lt (key x) k).filter fun x=> !decide (key x=k)),lt k (key b)=true:=by
  intro b hb
  rw[X7f] at hb
  have q1:=XoD ho hs b ((List.mem_filter.1 hb).1)
  have q2:key b≠k:=by simpa using (List.mem_filter.1 hb).2
  by_cases q:lt k (key b)=true
  ·exact q
  ·exact absurd (ho.tri _ _ q1 (by simpa using q)) q2
 have hAB:∀a∈(l.takeWhile fun x=>lt (key x) k),∀b∈((l.dropWhile fun x=>lt (key x) k).filter fun x=> !decide (key x=k)),lt (key a) (key b)=true:=fun a ha b hb=>ho.tr _ _ _ (hA a ha) (hB b hb)
 rcases hn with rfl|⟨n,rfl,e⟩
 ·rw[List.append_nil]
  exact List.pairwise_append.2 ⟨h1,h2,hAB⟩
 ·refine List.pairwise_append.2 ⟨List.pairwise_append.2 ⟨h1,List.pairwise_singleton _ _,fun a ha b hb=> ?_⟩,h2,fun a ha b hb=> ?_⟩
  ·obtain rfl:=List.mem_singleton.1 hb
   rw[e];exact hA a ha
  ·rcases List.mem_append.1 ha with ha|ha
   ·exact hAB a ha b hb
   ·obtain rfl:=List.mem_singleton.1 ha
    rw[e];exact hB b hb
theorem XbT {l:List α}{k:κ} (hs:YX lt key l):YX lt key (UT key l k):=hs.sublist List.filter_sublist
theorem Xcq {l:List α}{k:κ}{x:α} (h:x∈UT key l k):x∈l∧key x≠k:=by
 obtain⟨h1,h2⟩:=List.mem_filter.1 h
 exact⟨h1,by simpa using h2⟩
end
def ltI (a b:Int):Bool:=decide (a<b)
theorem V4:KOrd ltI:=⟨fun a=>by simp[ltI],fun a b c h1 h2=>by simp only[ltI,decide_eq_true_eq] at*;omega,fun a b h1 h2=>by simp only[ltI,decide_eq_false_iff_not] at*;omega⟩
abbrev ltS:List UInt8→List UInt8→Bool:=Op.bytesLess
theorem Xbh:∀s t u:List UInt8,Op.bytesLess s t=true→Op.bytesLess t u=true→Op.bytesLess s u=true
 |_,[],_,h,_=>by simp[Op.bytesLess] at h
 |_,_::_,[],_,h=>by simp[Op.bytesLess] at h
 |[],_::_,_::_,_,_=>by simp[Op.bytesLess]
 |a::s,b::t,c::u,h1,h2=>by
  have ih:=Xbh s t u
  simp only[Op.bytesLess,Bool.or_eq_true,decide_eq_true_eq,Bool.and_eq_true,beq_iff_eq] at h1 h2 ⊢
  rcases h1 with h1|⟨rfl,h1⟩<;>rcases h2 with h2|⟨rfl,h2⟩
  ·exact .inl (UInt8.lt_trans h1 h2)
  ·exact .inl h1
  ·exact .inl h2
  ·exact .inr ⟨rfl,ih h1 h2⟩
theorem X0Y:KOrd ltS:=⟨X8N,Xbh,Xa4⟩
abbrev Y7 (s:List UInt8):List UInt8:=s
theorem XbO:∀l:List (List UInt8),UF l=true↔YX ltS Y7 l
 |[]=>by simp[UF,YX]
 |[a]=>by simp[UF,YX]
 |a::b::r=>by
  have ih:=XbO (b::r)
  rw[UF,Bool.and_eq_true,ih]
  unfold YX
  rw[List.pairwise_cons (a:=a)]
  constructor
  ·rintro⟨h1,h2⟩
   refine⟨fun c hc=> ?_,h2⟩
   have hab:ltS a b=true:=by
    simp only[Bool.not_eq_true',Bool.or_eq_false_iff,decide_eq_false_iff_not] at h1
    by_cases q:ltS a b=true
    ·exact q
    ·exact absurd (Xa4 b a h1.1 (by simpa using q)) h1.2
   rcases List.mem_cons.1 hc with rfl|hc
   ·exact hab
   ·exact Xbh _ _ _ hab ((List.pairwise_cons.1 h2).1 c hc)
  ·rintro⟨h1,h2⟩
   refine⟨?_,h2⟩
   have hab:=h1 b (by simp)
   simp only[Bool.not_eq_true',Bool.or_eq_false_iff,decide_eq_false_iff_not]
   refine⟨Xil _ _ hab,fun e=> ?_⟩
   rw[e] at hab
   rw[show ltS a a=false from X8N a] at hab;cases hab
structure PV (ls:List (List UInt8)) (ps:List Prp):Prop where
 ll:ls.length≤8
 pl:ps.length≤16
 ln:∀s∈ls,XZ s=true
 pn:∀p∈ps,XZ p.key=true
 lr:YX ltS Y7 ls
 pr:YX ltS Prp.key ps
 pv:∀p∈ps,U5 p.v=true
theorem XpM {ps:List Prp}:YX ltS Y7 (ps.map Prp.key)↔YX ltS Prp.key ps:=by
 unfold YX
 rw[List.pairwise_map]
theorem XeX {ls:List (List UInt8)}{ps:List Prp}:V2 ls ps=0↔PV ls ps:=by
 unfold V2
 have e1:UF ls=true↔YX ltS Y7 ls:=XbO ls
 have e2:UF (ps.map Prp.key)=true↔YX ltS Prp.key ps:=(XbO _).trans XpM
 constructor
 ·intro h
  by_cases c1:8<ls.length∨16<ps.length
  ·rw[if_pos c1] at h;simp at h
  rw[if_neg c1] at h
  by_cases c2:ls.all XZ=false∨(ps.map Prp.key).all XZ=false
  ·rw[if_pos c2] at h;simp at h
  rw[if_neg c2] at h
  by_cases c3:UF ls=false∨UF (ps.map Prp.key)=false
  ·rw[if_pos c3] at h;simp at h
  rw[if_neg c3] at h
  by_cases c4:(ps.map Prp.v).all U5=false
  ·rw[if_pos c4] at h;simp at h
  simp only[not_or,Bool.not_eq_false] at c2 c3 c4
  refine⟨by omega,by omega,List.all_eq_true.1 c2.1,fun p hp=>List.all_eq_true.1 c2.2 _ (List.mem_map_of_mem hp),e1.1 c3.1,e2.1 c3.2,fun p hp=>List.all_eq_true.1 c4 _ (List.mem_map_of_mem hp)⟩
 ·intro h
  have a1:ls.all XZ=true:=List.all_eq_true.2 h.ln
  have a2:(ps.map Prp.key).all XZ=true:=List.all_eq_true.2 fun s hs=>by
   obtain⟨p,hp,rfl⟩:=List.mem_map.1 hs
   exact h.pn p hp
  have a3:(ps.map Prp.v).all U5=true:=List.all_eq_true.2 fun s hs=>by
   obtain⟨p,hp,rfl⟩:=List.mem_map.1 hs
   exact h.pv p hp
  have h1:=h.ll
  have h2:=h.pl
  rw[if_neg (by omega),if_neg (by simp[a1,a2]),if_neg (by simp[e1.2 h.lr,e2.2 h.pr]),if_neg (by simp[a3])]
structure GV (g:Gra):Prop where
 nl:g.nodes.length≤2000
 el:g.edges.length≤4000
 nn:1≤g.nn∧g.nn≤1000001
 ne:1≤g.ne∧g.ne≤1000001
 nodes:∀n∈g.nodes,1≤n.id∧n.id<g.nn∧PV n.labels n.props
 ns:YX ltI Nod.id g.nodes
 edges:∀e∈g.edges,1≤e.id∧e.id<g.ne∧U4 g.nodes e.src=true∧U4 g.nodes e.dst=true∧XZ e.typ=true∧PV [] e.props
 es:YX ltI Edg.id g.edges
theorem Xam {nn:Int}:∀(l:List Nod) (p:Option Nod),V9 nn p l=0↔(∀n∈l,1≤n.id∧n.id<nn∧PV n.labels n.props)∧YX ltI Nod.id l∧∀q,p=some q→∀n∈l,q.id<n.id
 |[],p=>by simp[V9,YX]
 |x::r,p=>by
  have ih:=Xam (nn:=nn) r (some x)
  have h0:VL nn p x=0↔(∀q,p=some q→q.id<x.id)∧1≤x.id∧x.id<nn∧PV x.labels x.props:=by
   unfold VL
   rw[←XeX]
   by_cases c1:∃q,p=some q∧x.id≤q.id
   ·rw[if_pos c1]
    obtain⟨q,hq,hle⟩:=c1
    constructor
    ·intro h;omega
    ·rintro⟨h,_⟩;have:=h q hq;omega
   ·rw[if_neg c1]
    have c1':∀q,p=some q→q.id<x.id:=fun q hq=>Int.lt_of_not_ge fun hc=>c1 ⟨q,hq,hc⟩
    by_cases c2:x.id<1∨nn≤x.id
    ·rw[if_pos c2]
     constructor
     ·intro h;omega
     ·rintro⟨_,h1,h2,_⟩;omega
    ·rw[if_neg c2]
     exact⟨fun h=>⟨c1',by omega,by omega,h⟩,fun h=>h.2.2.2⟩
  rw[V9]
  by_cases h1:VL nn p x=0
  ·rw[if_neg (by rw[h1];simp),ih]
   obtain⟨k1,k2⟩:=h0.1 h1
   constructor
   ·rintro⟨q1,q2,q3⟩
    refine⟨fun n hn=> ?_,List.pairwise_cons.2 ⟨fun n hn=>by simpa [ltI] using q3 x rfl n hn,q2⟩,fun q hq n hn=> ?_⟩
    ·rcases List.mem_cons.1 hn with rfl|hn
     ·exact k2
     ·exact q1 n hn
    ·rcases List.mem_cons.1 hn with rfl|hn
     ·exact k1 q hq
     ·exact Int.lt_trans (k1 q hq) (q3 x rfl n hn)
   ·rintro⟨q1,q2,q3⟩
    obtain⟨q4,q5⟩:=List.pairwise_cons.1 q2
    refine⟨fun n hn=>q1 n (List.mem_cons_of_mem _ hn),q5,fun q hq n hn=> ?_⟩
    cases hq
    simpa [ltI] using q4 n hn
  ·rw[if_pos h1]
   constructor
   ·intro h;exact absurd h h1
   ·rintro⟨q1,q2,q3⟩
    exact absurd (h0.2 ⟨fun q hq=>q3 q hq x (by simp),q1 x (by simp)⟩) h1
theorem XaL {ns:List Nod}{ne:Int}:∀(l:List Edg) (p:Option Edg),X0c ns ne p l=0↔(∀e∈l,1≤e.id∧e.id<ne∧U4 ns e.src=true∧U4 ns e.dst=true∧XZ e.typ=true∧PV [] e.props)∧YX ltI Edg.id l∧∀q,p=some q→∀n∈l,q.id<n.id
 |[],p=>by simp[X0c,YX]
 |x::r,p=>by
  have ih:=XaL (ns:=ns) (ne:=ne) r (some x)
  have h0:X0m ns ne p x=0↔(∀q,p=some q→q.id<x.id)∧1≤x.id∧x.id<ne∧U4 ns x.src=true∧U4 ns x.dst=true∧XZ x.typ=true∧PV [] x.props:=by
   unfold X0m
   rw[←XeX]
   by_cases c1:∃q,p=some q∧x.id≤q.id
   ·rw[if_pos c1]
    obtain⟨q,hq,hle⟩:=c1
    constructor
    ·intro h;omega
    ·rintro⟨h,_⟩;have:=h q hq;omega
   ·rw[if_neg c1]
    have c1':∀q,p=some q→q.id<x.id:=fun q hq=>Int.lt_of_not_ge fun hc=>c1 ⟨q,hq,hc⟩
    by_cases c2:x.id<1∨ne≤x.id
    ·rw[if_pos c2]
     constructor
     ·intro h;omega
     ·rintro⟨_,h1,h2,_⟩;omega
    ·rw[if_neg c2]
     by_cases c3:U4 ns x.src=false∨U4 ns x.dst=false
     ·rw[if_pos c3]
      constructor
      ·intro h;omega
      ·rintro⟨_,_,_,h1,h2,_⟩;rw[h1,h2] at c3;simp at c3
     ·rw[if_neg c3]
      simp only[not_or,Bool.not_eq_false] at c3
      by_cases c4:XZ x.typ=false
      ·rw[if_pos c4]
       constructor
       ·intro h;omega
       ·rintro⟨_,_,_,_,_,h1,_⟩;rw[h1] at c4;simp at c4
      ·rw[if_neg c4]
       exact⟨fun h=>⟨c1',by omega,by omega,c3.1,c3.2,by simpa using c4,h⟩,fun h=>h.2.2.2.2.2.2⟩
  rw[X0c]
  by_cases h1:X0m ns ne p x=0
  ·rw[if_neg (by rw[h1];simp),ih]
   obtain⟨k1,k2⟩:=h0.1 h1
   constructor
   ·rintro⟨q1,q2,q3⟩
    refine⟨fun n hn=> ?_,List.pairwise_cons.2 ⟨fun n hn=>by simpa [ltI] using q3 x rfl n hn,q2⟩,fun q hq n hn=> ?_⟩
    ·rcases List.mem_cons.1 hn with rfl|hn
     ·exact k2
     ·exact q1 n hn
    ·rcases List.mem_cons.1 hn with rfl|hn
     ·exact k1 q hq
     ·exact Int.lt_trans (k1 q hq) (q3 x rfl n hn)
   ·rintro⟨q1,q2,q3⟩
    obtain⟨q4,q5⟩:=List.pairwise_cons.1 q2
    refine⟨fun n hn=>q1 n (List.mem_cons_of_mem _ hn),q5,fun q hq n hn=> ?_⟩
    cases hq
    simpa [ltI] using q4 n hn
  ·rw[if_pos h1]
   constructor
   ·intro h;exact absurd h h1
   ·rintro⟨q1,q2,q3⟩
    exact absurd (h0.2 ⟨fun q hq=>q3 q hq x (by simp),q1 x (by simp)⟩) h1
theorem X6t {g:Gra}:YH g=0↔GV g:=by
 unfold YH
 constructor
 ·intro h
  by_cases c1:2000<g.nodes.length∨4000<g.edges.length
  ·rw[if_pos c1] at h;simp at h
  rw[if_neg c1] at h
  by_cases c2:g.nn<1∨1000001<g.nn∨g.ne<1∨1000001<g.ne
  ·rw[if_pos c2] at h;simp at h
  rw[if_neg c2] at h
  by_cases c3:V9 g.nn none g.nodes≠0
  ·rw[if_pos c3] at h;exact absurd h c3
  rw[if_neg c3] at h
  obtain⟨n1,n2,_⟩:=(Xam g.nodes none).1 (by simpa using c3)
  obtain⟨e1,e2,_⟩:=(XaL g.edges none).1 h
  exact⟨by omega,by omega,by omega,by omega,n1,n2,e1,e2⟩
 ·intro h
  have h1:=h.nl;have h2:=h.el;have h3:=h.nn;have h4:=h.ne
  have hn:V9 g.nn none g.nodes=0:=(Xam _ _).2 ⟨h.nodes,h.ns,by simp⟩
  have he:X0c g.nodes g.ne none g.edges=0:=(XaL _ _).2 ⟨h.edges,h.es,by simp⟩
  rw[if_neg (by omega),if_neg (by omega),if_neg (by rw[hn];simp),he]
def YI (l:List Prp) (k:List UInt8) (v:Val):List Prp:=Uv ltS Prp.key l k (if Um v=true then [] else [⟨k,v⟩])
def X0p (es:List Edg) (n:Int):Bool:=es.any fun e=>decide (e.src=n∨e.dst=n)
def V8 (l:List Nod) (n:Int):Option Nod:=l.find? fun x=>decide (x.id=n)
def VJ (l:List Edg) (n:Int):Option Edg:=l.find? fun x=>decide (x.id=n)
def VC (g:Gra) (n:Nod):Gra:={g with nodes:=Uv ltI Nod.id g.nodes n.id [n],nn:=max g.nn (n.id+1)}
def X0T (g:Gra) (e:Edg):Gra:={g with edges:=Uv ltI Edg.id g.edges e.id [e],ne:=max g.ne (e.id+1)}
def X2Y (g:Gra) (c:Chg) (n:Nod):Gra×Int:=
 if c.op=2 then (if X0p g.edges c.id=true then (YL,12) else ({g with nodes:=UT Nod.id g.nodes c.id},0))
 else if c.op=3 then (if XO Y7 n.labels c.name=true then (YL,7) else if 8≤n.labels.length then (YL,20) else (VC g ⟨n.id,Uv ltS Y7 n.labels c.name [c.name],n.props⟩,0))
 else if c.op=4 then (if XO Y7 n.labels c.name=false then (YL,23) else (VC g ⟨n.id,UT Y7 n.labels c.name,n.props⟩,0))
 else if 16<(YI n.props c.name c.v).length then (YL,20) else (VC g ⟨n.id,n.labels,YI n.props c.name c.v⟩,0)
def X2X (g:Gra) (c:Chg) (e:Edg):Gra×Int:=
 if c.op=8 then (if 16<(YI e.props c.name c.v).length then (YL,20) else (X0T g ⟨e.id,e.src,e.dst,e.typ,YI e.props c.name c.v⟩,0))
 else ({g with edges:=UT Edg.id g.edges c.id},0)
def VA (g:Gra) (c:Chg):Gra×Int:=
 if c.op=1 then (if XO Nod.id g.nodes c.id=true then (YL,7) else if 2000≤g.nodes.length then (YL,20) else (VC g ⟨c.id,[],[]⟩,0))
 else if c.op=6 then (if XO Edg.id g.edges c.id=true then (YL,7) else if XO Nod.id g.nodes c.src=false∨XO Nod.id g.nodes c.dst=false then (YL,10) else if 4000≤g.edges.length then (YL,20) else (X0T g ⟨c.id,c.src,c.dst,c.name,[]⟩,0))
 else if c.op=7∨c.op=8 then (match VJ g.edges c.id with|none=>(YL,11)|some e=>X2X g c e)
 else (match V8 g.nodes c.id with|none=>(YL,10)|some n=>X2Y g c n)
def YD (g:Gra) (c:Chg):Gra×Int:=if YJ c≠0 then (YL,YJ c) else VA g c
def Ur:Gra→Nat→List Chg→Gra×Nat×Int
 |g,k,[]=>(g,k,0)
 |g,k,c::r=>if (YD g c).2≠0 then (YL,k,(YD g c).2) else Ur (YD g c).1 (k+1) r
def Yd (g:Gra) (l:List Chg):Gra×Nat×Int:=if YH g≠0 then (YL,0,YH g) else Ur g 0 l
theorem Xf9 {α κ:Type} [DecidableEq κ] {lt:κ→κ→Bool}{key:α→κ} (ho:KOrd lt) {l:List α}{k:κ} (hs:YX lt key l):l.find? (fun x=>decide (key x=k))=(l[Xu lt key l k]?).bind fun x=>if key x=k then some x else none:=by
 have hh:=X0g (k:=k) ho hs
 cases hf:l.find? (fun x=>decide (key x=k)) with
 |none=>
  have h0:XO key l k=false:=by
   unfold XO
   rw[List.any_eq_false]
   exact List.find?_eq_none.1 hf
  rw[h0] at hh
  have hh:=(decide_eq_false_iff_not.1 hh.symm)
  cases hx:l[Xu lt key l k]? with
  |none=>rfl
  |some x=>
   simp only[Option.bind_some]
   rw[if_neg (fun e=>hh ⟨x,hx,e⟩)]
 |some x=>
  have hx:=List.mem_of_find?_eq_some hf
  have he:key x=k:=by have:=List.find?_some hf;simpa using this
  have h0:XO key l k=true:=by
   unfold XO
   rw[List.any_eq_true]
   exact⟨x,hx,by simpa using he⟩
  rw[h0] at hh
  obtain⟨y,hy,e⟩:=decide_eq_true_iff.1 hh.symm
  rw[hy,Option.bind_some,if_pos e]
  obtain⟨i,hi⟩:=List.getElem?_of_mem hx
  have hli:i<l.length:=(List.getElem?_eq_some_iff.1 hi).1
  have hlj:Xu lt key l k<l.length:=(List.getElem?_eq_some_iff.1 hy).1
  have hxi:l[i]=x:=by rw[List.getElem?_eq_getElem hli] at hi;simpa using hi
  have hyj:l[Xu lt key l k]=y:=by rw[List.getElem?_eq_getElem hlj] at hy;simpa using hy
  rcases Nat.lt_trichotomy i (Xu lt key l k) with q|q|q
  ·have:=(List.pairwise_iff_getElem.1 hs) i (Xu lt key l k) hli hlj q
   rw[hxi,hyj,he,e,ho.irr] at this;cases this
  ·subst q;rw[←hxi,hyj]
  ·have:=(List.pairwise_iff_getElem.1 hs) (Xu lt key l k) i hlj hli q
   rw[hxi,hyj,he,e,ho.irr] at this;cases this
theorem X4E {g:Gra} (h:GV g) (n:Int):V8 g.nodes n=(g.nodes[Xu ltI Nod.id g.nodes n]?).bind fun x=>if x.id=n then some x else none:=Xf9 V4 h.ns
theorem Xgk {g:Gra} (h:GV g) (n:Int):VJ g.edges n=(g.edges[Xu ltI Edg.id g.edges n]?).bind fun x=>if x.id=n then some x else none:=Xf9 V4 h.es
theorem X3p {l:List Nod}{n:Int}{x:Nod} (h:V8 l n=some x):x∈l∧x.id=n:=⟨List.mem_of_find?_eq_some h,by have:=List.find?_some h;simpa using this⟩
theorem X7U {l:List Edg}{n:Int}{x:Edg} (h:VJ l n=some x):x∈l∧x.id=n:=⟨List.mem_of_find?_eq_some h,by have:=List.find?_some h;simpa using this⟩
theorem X3t {α κ:Type} [DecidableEq κ] {lt:κ→κ→Bool}{key:α→κ}{l:List α}{k:κ}{ns:List α}:(Uv lt key l k ns).length≤l.length+ns.length:=by
 unfold Uv
 rw[List.length_append,List.length_append]
 have h1:=List.length_filter_le (fun x=> !decide (key x=k)) (l.dropWhile fun x=>lt (key x) k)
 have h2:(l.takeWhile fun x=>lt (key x) k).length+(l.dropWhile fun x=>lt (key x) k).length=l.length:=by rw[←List.length_append,List.takeWhile_append_dropWhile]
 omega
theorem XaB {α κ:Type} [DecidableEq κ] {lt:κ→κ→Bool}{key:α→κ}{l:List α}{k:κ}{n:α} (ho:KOrd lt) (hs:YX lt key l) (hh:XO key l k=true):(Uv lt key l k [n]).length=l.length:=by
 rw[X0g ho hs] at hh
 obtain⟨x,hx,e⟩:=decide_eq_true_iff.1 hh
 have hlt:Xu lt key l k<l.length:=(List.getElem?_eq_some_iff.1 hx).1
 rw[X67 ho hs hx e,List.length_append,List.length_append,List.length_take,List.length_drop,List.length_singleton]
 omega
theorem Xid {l:List Nod}{n:Nod}{k:Int} (h:XO Nod.id l k=true):XO Nod.id (Uv ltI Nod.id l n.id [n]) k=true:=by
 unfold XO at h ⊢
 rw[List.any_eq_true] at h ⊢
 obtain⟨x,hx,e⟩:=h
 have e:x.id=k:=by simpa using e
 by_cases q:n.id=k
 ·exact⟨n,by unfold Uv;simp,by simpa using q⟩
 ·refine⟨x,?_,by simpa using e⟩
  unfold Uv
  rw[←List.takeWhile_append_dropWhile (p:=fun x=>ltI (Nod.id x) n.id) (l:=l)] at hx
  rcases List.mem_append.1 hx with hx|hx
  ·exact List.mem_append_left _ (List.mem_append_left _ hx)
  ·refine List.mem_append_right _ (List.mem_filter.2 ⟨hx,?_⟩)
   simp only[Bool.not_eq_true',decide_eq_false_iff_not]
   omega
theorem X7a {g:Gra}{n:Nod} (h:GV g) (h1:1≤n.id∧n.id≤1000000) (hp:PV n.labels n.props) (hl:(Uv ltI Nod.id g.nodes n.id [n]).length≤2000):GV (VC g n):=by
 have h3:=h.nn
 refine⟨hl,h.el,⟨?_,?_⟩,h.ne,fun x hx=> ?_,X7s V4 h.ns (.inr ⟨n,rfl,rfl⟩),fun e he=> ?_,h.es⟩
 ·show 1≤max g.nn (n.id+1);omega
 ·show max g.nn (n.id+1)≤1000001;omega
 ·show 1≤x.id∧x.id<max g.nn (n.id+1)∧_
  rcases X8z hx with hx|hx
  ·obtain rfl:=List.mem_singleton.1 hx
   exact⟨h1.1,by omega,hp⟩
  ·obtain⟨q1,q2,q3⟩:=h.nodes x hx
   exact⟨q1,by omega,q3⟩
 ·obtain⟨q1,q2,q3,q4,q5⟩:=h.edges e he
  exact⟨q1,q2,Xid q3,Xid q4,q5⟩
theorem Xdv {g:Gra}{e:Edg} (h:GV g) (h1:1≤e.id∧e.id≤1000000) (hs:XO Nod.id g.nodes e.src=true) (hd:XO Nod.id g.nodes e.dst=true) (ht:XZ e.typ=true) (hp:PV [] e.props) (hl:(Uv ltI Edg.id g.edges e.id [e]).length≤4000):GV (X0T g e):=by
 have h3:=h.ne
 refine⟨h.nl,hl,h.nn,⟨?_,?_⟩,h.nodes,h.ns,fun x hx=> ?_,X7s V4 h.es (.inr ⟨e,rfl,rfl⟩)⟩
 ·show 1≤max g.ne (e.id+1);omega
 ·show max g.ne (e.id+1)≤1000001;omega
 ·show 1≤x.id∧x.id<max g.ne (e.id+1)∧_
  rcases X8z hx with hx|hx
  ·obtain rfl:=List.mem_singleton.1 hx
   exact⟨h1.1,by omega,hs,hd,ht,hp⟩
  ·obtain⟨q1,q2,q3⟩:=h.edges x hx
   exact⟨q1,by omega,q3⟩
theorem Xgx {ls:List (List UInt8)}{ps:List Prp}{k:List UInt8}{v:Val} (h:PV ls ps) (hk:XZ k=true) (hv:Um v=true∨U5 v=true) (hl:(YI ps k v).length≤16):PV ls (YI ps k v):=by
 have hm:∀p∈YI ps k v,p∈ps∨(p=⟨k,v⟩∧Um v=false):=by
  intro p hp
  rcases X8z hp with hp|hp
  ·by_cases q:Um v=true
   ·rw[if_pos q] at hp;simp at hp
   ·rw[if_neg q] at hp
    exact .inr ⟨List.mem_singleton.1 hp,by simpa using q⟩
  ·exact .inl hp
 refine⟨h.ll,hl,h.ln,fun p hp=> ?_,h.lr,X7s X0Y h.pr ?_,fun p hp=> ?_⟩
 ·rcases hm p hp with hp|⟨rfl,_⟩
  ·exact h.pn p hp
  ·exact hk
 ·by_cases q:Um v=true
  ·rw[if_pos q];exact .inl rfl
  ·rw[if_neg q];exact .inr ⟨_,rfl,rfl⟩
 ·rcases hm p hp with hp|⟨rfl,q⟩
  ·exact h.pv p hp
  ·rcases hv with hv|hv
   ·rw[hv] at q;cases q
   ·exact hv
theorem X7g {c:Chg} (h:YJ c=0):(1≤c.op∧c.op≤8)∧(1≤c.id∧c.id≤1000000)∧(Yo c.op=true→XZ c.name=true)∧(Yi c.op=true→Um c.v=true∨U5 c.v=true):=by
 unfold YJ at h
 by_cases c1:decide (1≤c.op∧c.op≤8)=false∨idV c.id=false
 ·rw[if_pos c1] at h;simp at h
 rw[if_neg c1] at h
 by_cases c2:(c.op=6∧(idV c.src=false∨idV c.dst=false))∨(c.op≠6∧(c.src≠0∨c.dst≠0))
 ·rw[if_pos c2] at h;simp at h
 rw[if_neg c2] at h
 by_cases c3:(Yo c.op=false∧c.name≠[])∨(Yi c.op=false∧Um c.v=false)
 ·rw[if_pos c3] at h;simp at h
 rw[if_neg c3] at h
 by_cases c4:Yo c.op=true∧XZ c.name=false
 ·rw[if_pos c4] at h;simp at h
 rw[if_neg c4] at h
 by_cases c5:Yi c.op=true∧Um c.v=false∧U5 c.v=false
 ·rw[if_pos c5] at h;simp at h
 simp only[not_or,Bool.not_eq_false,decide_eq_true_eq,idV] at c1
 refine⟨c1.1,c1.2,fun q=> ?_,fun q=> ?_⟩
 ·by_cases r:XZ c.name=true
  ·exact r
  ·exact absurd ⟨q,by simpa using r⟩ c4
 ·by_cases r:Um c.v=true
  ·exact .inl r
  ·by_cases r2:U5 c.v=true
   ·exact .inr r2
   ·exact absurd ⟨q,by simpa using r,by simpa using r2⟩ c5
theorem XbI {g:Gra}{c:Chg} (h:GV g) (hs:(YD g c).2=0):GV (YD g c).1:=by
 unfold YD at hs ⊢
 by_cases hc:YJ c≠0
 ·rw[if_pos hc] at hs;exact absurd hs hc
 rw[if_neg hc] at hs ⊢
 obtain⟨o1,o2,o3,o4⟩:=X7g (by simpa using hc)
 unfold VA at hs ⊢
 by_cases p1:c.op=1
 ·rw[if_pos p1] at hs ⊢
  by_cases q1:XO Nod.id g.nodes c.id=true
  ·rw[if_pos q1] at hs;simp at hs
  rw[if_neg q1] at hs ⊢
  by_cases q2:2000≤g.nodes.length
  ·rw[if_pos q2] at hs;simp at hs
  rw[if_neg q2]
  refine X7a h o2 ⟨by simp,by simp,by simp,by simp,List.Pairwise.nil,List.Pairwise.nil,by simp⟩ ?_
  have:=X3t (lt:=ltI) (key:=Nod.id) (l:=g.nodes) (k:=c.id) (ns:=[⟨c.id,[],[]⟩])
  simp only[List.length_singleton] at this
  exact Nat.le_trans this (by omega)
 rw[if_neg p1] at hs ⊢
 by_cases p6:c.op=6
 ·rw[if_pos p6] at hs ⊢
  by_cases q1:XO Edg.id g.edges c.id=true
  ·rw[if_pos q1] at hs;simp at hs
  rw[if_neg q1] at hs ⊢
  by_cases q2:XO Nod.id g.nodes c.src=false∨XO Nod.id g.nodes c.dst=false
  ·rw[if_pos q2] at hs;simp at hs
  rw[if_neg q2] at hs ⊢
  by_cases q3:4000≤g.edges.length
  ·rw[if_pos q3] at hs;simp at hs
  rw[if_neg q3]
  simp only[not_or,Bool.not_eq_false] at q2
  refine Xdv h o2 q2.1 q2.2 (o3 (by rw[p6];rfl)) ⟨by simp,by simp,by simp,by simp,List.Pairwise.nil,List.Pairwise.nil,by simp⟩ ?_
  have:=X3t (lt:=ltI) (key:=Edg.id) (l:=g.edges) (k:=c.id) (ns:=[⟨c.id,c.src,c.dst,c.name,[]⟩])
  simp only[List.length_singleton] at this
  exact Nat.le_trans this (by omega)
 rw[if_neg p6] at hs ⊢
 by_cases p7:c.op=7∨c.op=8
 ·rw[if_pos p7] at hs ⊢
  cases he:VJ g.edges c.id with
  |none=>rw[he] at hs;simp at hs
  |some e=>
   rw[he] at hs
   simp only at hs ⊢
   obtain⟨em,ei⟩:=X7U he
   obtain⟨e1,e2,e3,e4,e5,e6⟩:=h.edges e em
   unfold X2X at hs ⊢
   by_cases p8:c.op=8
   ·rw[if_pos p8] at hs ⊢
    by_cases q1:16<(YI e.props c.name c.v).length
    ·rw[if_pos q1] at hs;simp at hs
    rw[if_neg q1]
    have hne:=h.ne
    refine Xdv h ⟨e1,by show e.id≤_;omega⟩ e3 e4 e5 (Xgx e6 (o3 (by rw[p8];rfl)) (o4 (by rw[p8];rfl)) (by omega)) ?_
    have hh:XO Edg.id g.edges e.id=true:=by unfold XO;rw[List.any_eq_true];exact⟨e,em,by simp⟩
    show(Uv ltI Edg.id g.edges e.id _).length≤4000
    rw[XaB V4 h.es hh];exact h.el
   ·rw[if_neg p8]
    refine⟨h.nl,Nat.le_trans (List.length_filter_le _ _) h.el,h.nn,h.ne,h.nodes,h.ns,fun x hx=>h.edges x (Xcq hx).1,XbT h.es⟩
 rw[if_neg p7] at hs ⊢
 cases hn:V8 g.nodes c.id with
 |none=>rw[hn] at hs;simp at hs
 |some n=>
  rw[hn] at hs
  simp only at hs ⊢
  obtain⟨nm,ni⟩:=X3p hn
  obtain⟨n1,n2,n3⟩:=h.nodes n nm
  have hnn:=h.nn
  have hh:XO Nod.id g.nodes n.id=true:=by unfold XO;rw[List.any_eq_true];exact⟨n,nm,by simp⟩
  have hlen:∀m:Nod,(Uv ltI Nod.id g.nodes n.id [m]).length≤2000:=fun m=>by rw[XaB V4 h.ns hh];exact h.nl
  unfold X2Y at hs ⊢
  by_cases p2:c.op=2
  ·rw[if_pos p2] at hs ⊢
   by_cases q1:X0p g.edges c.id=true
   ·rw[if_pos q1] at hs;simp at hs
   rw[if_neg q1]
   refine⟨Nat.le_trans (List.length_filter_le _ _) h.nl,h.el,h.nn,h.ne,fun x hx=>h.nodes x (Xcq hx).1,XbT h.ns,fun e he=> ?_,h.es⟩
   obtain⟨e1,e2,e3,e4,e5,e6⟩:=h.edges e he
   have q1':X0p g.edges c.id=false:=by simpa using q1
   unfold X0p at q1'
   have hu:=(List.any_eq_false.1 q1') e he
   have hu:¬(e.src=c.id∨e.dst=c.id):=by simpa using hu
   have keep:∀k,k≠c.id→U4 g.nodes k=true→U4 (UT Nod.id g.nodes c.id) k=true:=by
    intro k hk hh
    unfold U4 at hh ⊢
    rw[List.any_eq_true] at hh ⊢
    obtain⟨x,hx,e⟩:=hh
    have e:x.id=k:=by simpa using e
    exact⟨x,List.mem_filter.2 ⟨hx,by simp only[Bool.not_eq_true',decide_eq_false_iff_not];omega⟩,by simpa using e⟩
   exact⟨e1,e2,keep _ (fun q=>hu (.inl q)) e3,keep _ (fun q=>hu (.inr q)) e4,e5,e6⟩
  rw[if_neg p2] at hs ⊢
  by_cases p3:c.op=3
  ·rw[if_pos p3] at hs ⊢
   by_cases q1:XO Y7 n.labels c.name=true
   ·rw[if_pos q1] at hs;simp at hs
   rw[if_neg q1] at hs ⊢
   by_cases q2:8≤n.labels.length
   ·rw[if_pos q2] at hs;simp at hs
   rw[if_neg q2]
   refine X7a h ⟨n1,by show n.id≤_;omega⟩ ⟨?_,n3.pl,fun s hs=> ?_,n3.pn,X7s X0Y n3.lr (.inr ⟨_,rfl,rfl⟩),n3.pr,n3.pv⟩ (hlen _)
   ·have:=X3t (lt:=ltS) (key:=Y7) (l:=n.labels) (k:=c.name) (ns:=[c.name])
    simp only[List.length_singleton] at this
    exact Nat.le_trans this (by omega)
   ·rcases X8z hs with hs|hs
    ·rw[List.mem_singleton.1 hs];exact o3 (by rw[p3];rfl)
    ·exact n3.ln s hs
  rw[if_neg p3] at hs ⊢
  by_cases p4:c.op=4
  ·rw[if_pos p4] at hs ⊢
   by_cases q1:XO Y7 n.labels c.name=false
   ·rw[if_pos q1] at hs;simp at hs
   rw[if_neg q1]
   exact X7a h ⟨n1,by show n.id≤_;omega⟩ ⟨Nat.le_trans (List.length_filter_le _ _) n3.ll,n3.pl,fun s hs=>n3.ln s (Xcq hs).1,n3.pn,XbT n3.lr,n3.pr,n3.pv⟩ (hlen _)
  rw[if_neg p4] at hs ⊢
  by_cases q1:16<(YI n.props c.name c.v).length
  ·rw[if_pos q1] at hs;simp at hs
  rw[if_neg q1]
  have p5:c.op=5:=by omega
  exact X7a h ⟨n1,by show n.id≤_;omega⟩ (Xgx n3 (o3 (by rw[p5];rfl)) (o4 (by rw[p5];rfl)) (by omega)) (hlen _)
theorem XcX:∀(l:List Chg) (g:Gra) (k:Nat),GV g→(Ur g k l).2.2=0→GV (Ur g k l).1
 |[],g,k,h,_=>h
 |c::r,g,k,h,hs=>by
  rw[Ur] at hs ⊢
  by_cases q:(YD g c).2≠0
  ·rw[if_pos q] at hs;exact absurd hs q
  ·rw[if_neg q] at hs ⊢
   exact XcX r _ _ (XbI h (by simpa using q)) hs
theorem X8O {g:Gra}{l:List Chg} (h:(Yd g l).2.2=0):GV (Yd g l).1:=by
 unfold Yd at h ⊢
 by_cases q:YH g≠0
 ·rw[if_pos q] at h;exact absurd h q
 ·rw[if_neg q] at h ⊢
  exact XcX l g 0 (X6t.1 (by simpa using q)) h
structure At (b:List UInt8) (q:Nat) (w:List UInt8):Prop where
 le:q≤b.length
 eq:b.drop q=w
theorem At.step {b:List UInt8}{q:Nat}{u w:List UInt8} (h:At b q (u++w)):At b (q+u.length) w:=by
 have h1:=congrArg List.length h.eq
 simp only[List.length_drop,List.length_append] at h1
 refine⟨by have:=h.le;omega,?_⟩
 rw[←List.drop_drop,h.eq,List.drop_left]
theorem At.split {b:List UInt8}{q:Nat}{u w:List UInt8} (h:At b q (u++w)):b=b.take q++u++w∧(b.take q).length=q:=by
 refine⟨?_,by have:=h.le;simp;omega⟩
 rw[List.append_assoc,←h.eq,List.take_append_drop]
theorem At.cons {b:List UInt8}{q:Nat}{c:UInt8}{w:List UInt8} (h:At b q (c::w)):b[q]? =some c∧At b (q+1) w:=by
 refine⟨?_,At.step (u:=[c]) h⟩
 have:=congrArg (·[0]?) h.eq
 simpa using this
theorem At.eqv {b:List UInt8}{q q':Nat}{w w':List UInt8} (h:At b q w) (hq:q=q') (hw:w=w'):At b q' w':=hq ▸ hw ▸ h
end Go.Fw

/- What the reference does with a node or an edge that is there. -/
import Derived.Test.YtlkcofbjniphbaaGreatDoorB42
set_option maxHeartbeats 16000000
namespace Go.Fw
open Go Go.Proofs
set_option maxRecDepth 100000
set_option linter.unusedVariables false
set_option linter.unusedSimpArgs false
theorem XpD (g:Gra) (id:Int) (hl:g.edges.length≤100000):Con Tryz.prog 184 [] [XG g,ai id] [] (ab (X0p g.edges id)):=by
 refine Xg (xs:=[ab (X0p g.edges id)]) Tryz.func184 rfl Tryz.ntmps184 rfl rfl rfl (fun E=> ?_)
 have h:=XkE g id hl
 have hu:=Xl7 g.edges id
 have hm:((X0f id [] g.edges).map cAD).length=(X0f id [] g.edges).length:=by simp
 generalize X0f id [] g.edges=A at*
 generalize X0p g.edges id=u at*
 obtain⟨ns,es,nn,ne⟩:=g
 unfold XG at*
 simp only at h ⊢
 refine W9_ ?_;refine Z3 (hcon:=h) ?_;refine W4_ ?_
 have e:decide ((0:Int)<((A.map cAD).length:Nat))=u:=by rw[←hu];exact decide_eq_decide.2 (by omega)
 (show AWP Tryz.prog E _ _ _;refine X1 ?_;exact(show Xy _ _ _ _ _ from⟨_,St.le_refl _,⟨congrArg ab e,trivial⟩,X2 _⟩))
theorem Xq0 (g:Gra) (c:Chg) (n:Nod) (hg:GV g) (hn:V8 g.nodes c.id=some n) (hv:Yp c.v) (hid:1≤c.id∧c.id≤1000000):Con Tryz.prog 134 [] [XG g,Xx c,UA n] [] (.tup [XG (X2Y g c n).1,ai (X2Y g c n).2]):=by
 refine Xg (xs:=[XG (X2Y g c n).1,ai (X2Y g c n).2]) Tryz.func134 rfl Tryz.ntmps134 rfl rfl rfl (fun E=> ?_)
 have hl1:=hg.nl
 have hl2:=hg.el
 obtain⟨hnm,hni⟩:=X3p hn
 have hpv:=(hg.nodes n hnm).2.2
 have hll:=hpv.ll
 have hpl:=hpv.pl
 have hlb:=XoS n c.name (by omega)
 rw[Xnf] at hlb
 have hus:=XpD g c.id (by omega)
 have hps:=XrC n.labels c.name (by omega) hpv.lr
 have hwo:=Xrv n.labels c.name (by omega)
 have hsp:=Xfq n.props c.name c.v (by omega) hv
 have hpn:∀ls ps,Con Tryz.prog 131 [] [XG g,.agg [ai n.id,.d (.sl 1 (ls.map Xl)),.d (.sl 6 (ps.map Xh))]] [] (XG (VC g ⟨n.id,ls,ps⟩)):=fun ls ps=>XdW g ⟨n.id,ls,ps⟩ (by omega) (by show 0≤n.id;omega) (by show n.id≤1000000;omega)
 have hlm1:(n.labels.map Xl).length=n.labels.length:=by simp
 clear hg hn hnm hv hpv
 unfold X2Y
 obtain⟨op,id,src,dst,name,⟨vk,vn,vd,vs,vl⟩⟩:=c
 obtain⟨nid,nl,np⟩:=n
 simp only[Xx,YW,UA,Xv] at*
 subst hni
 generalize XO Y7 nl name=hs at*
 generalize YI np name (.mk vk vn vd vs vl)=sp at*
 generalize Uv ltS Y7 nl name [name]=ls3 at*
 generalize UT Y7 nl name=ls4 at*
 have hp3:=hpn ls3 np
 have hp4:=hpn ls4 np
 have hp5:=hpn nl sp
 clear hpn
 by_cases h2:op=2
 ·subst h2
  rw[if_pos rfl]
  cases hu:X0p g.edges nid with
  |true=>
   rw[if_pos rfl]
   rw[hu] at hus
   obtain⟨ns,es,nn,ne⟩:=g
   simp only[XG,List.map_nil] at*
   refine QMh ?_;refine Qb ?_;refine Z3 (hcon:=hus) ?_;refine W1_ ?_;refine Qb ?_
   (show AWP Tryz.prog E _ _ _;refine X1 ?_;exact(show Xy _ _ _ _ _ from⟨_,XF 103 (cs':=[.d (.sl 3 []),.d (.sl 5 []),ai 0,ai 0]) rfl JM rfl,⟨⟨103,0,_,rfl,rfl,.inr ⟨4,_,rfl,rfl,rfl,rfl⟩⟩,rfl,trivial⟩,X2 _⟩))
  |false=>
   rw[if_neg (by simp)]
   rw[hu] at hus
   obtain⟨ns,es,nn,ne⟩:=g
   simp only[XG] at*
   have hRl:=X9o (key:=Nod.id) ns nid
   generalize hR:UT Nod.id ns nid=R at*
   have hlm:(ns.map Xp).length=ns.length:=by simp
   refine QMh ?_;refine Qb ?_;refine Z3 (hcon:=hus) ?_;refine W1_ ?_;refine QZb ?_;refine Xq (V3 9 130 3 rfl rfl rfl) ?_
   refine XK (ι:=Nat×List Nod) (fun q=>q.1≤ns.length∧q.2++UT Nod.id (ns.drop q.1) nid=R) (fun q=>⟨103,[(3,.ptr 100 0),(4,.ptr 101 0),(5,.ptr 102 0),(6,.ptr 103 0),(9,.own 130 (q.2.map Xp).length),(10,ai q.1)],[(100,.box [.d (.sl 3 (ns.map Xp)),.d (.sl 5 (es.map Xs)),ai nn,ai ne]),(101,.box [ai 2,ai nid,ai src,ai dst,.d (.v (.string (Xb name))),ai vk,ai vn,ai vd,.d (.v (.string (Xb vs))),.d (.sl 5 (XU vl))]),(102,.box [ai nid,.d (.sl 1 (nl.map Xl)),.d (.sl 6 (np.map Xh))]),(103,.box [ani,ani,ai 0,ai 0]),(130,.row 3 (q.2.map Xp))]⟩) (fun q=>ns.length-q.1) (0,[]) ⟨Nat.zero_le _,by simpa using hR⟩
    (Xd rfl JM ⟨rfl,rfl,rfl,rfl,rfl,trivial⟩) ?_
   rintro⟨i,out⟩ ⟨hi,hg⟩
   simp only at hi hg
   by_cases hil:i<ns.length
   case neg=>
    have hn:¬(i:Int)<(ns.map Xp).length:=by omega
    rw[List.drop_of_length_le (by omega),show UT Nod.id ([]:List Nod) nid=[] from rfl,List.append_nil] at hg
    subst hg
    refine Qag ?_;refine W2_ ?_;refine Qof ?_;refine Xq (Yx 9 130 rfl rfl (by simp)) ?_;refine Xi ?_
    (show AWP Tryz.prog E _ _ _;refine X1 ?_;exact(show Xy _ _ _ _ _ from⟨_,St.le_refl _,⟨⟨103,0,_,rfl,rfl,.inr ⟨4,_,rfl,rfl,rfl,rfl⟩⟩,rfl,trivial⟩,X2 _⟩))
   have hn:(i:Int)<(ns.map Xp).length:=by omega
   obtain⟨x,hx⟩:=XI (l:=ns) hil
   have hxc:(ns.map Xp)[i]? =some (Xp x):=Y5 hx
   rw[Xcb hx] at hg
   have hrm:=X3M hg
   have hroom:(out.map Xp).length≤100000:=by rw[List.length_map];omega
   obtain⟨xid,xl,xp⟩:=x
   simp only[Xp] at hxc
   clear hx
   by_cases hq:xid=nid
   ·subst hq
    rw[if_pos rfl,List.nil_append] at hg
    refine QRf ?_;refine XA ?_;refine Qia ?_;exact QNh
   ·rw[if_neg (show ¬Nod.id _=nid from hq),←List.append_assoc] at hg
    have hap:(out++[(⟨xid,xl,xp⟩:Nod)]).map Xp=out.map Xp++[[.v (.int .i64 xid),.sl 1 (xl.map Xl),.sl 6 (xp.map Xh)]]:=by simp[Xp]
    refine QRf ?_;refine XA ?_;refine QNc ?_
    refine⟨(i+1,out++[_]),⟨by simp only;omega,hg⟩,by simp only;omega,?_⟩
    dsimp only
    rw[hap]
    exact QOh
 rw[if_neg h2]
 by_cases h3:op=3
 ·subst h3
  rw[if_pos rfl]
  cases hs with
  |true=>
   rw[if_pos rfl]
   obtain⟨ns,es,nn,ne⟩:=g
   simp only[XG,List.map_nil] at*
   refine QMh ?_;refine Qpd ?_;refine Qb ?_
   (show AWP Tryz.prog E _ _ _;refine X1 ?_;exact(show Xy _ _ _ _ _ from⟨_,XF 103 (cs':=[.d (.sl 3 []),.d (.sl 5 []),ai 0,ai 0]) rfl JM rfl,⟨⟨103,0,_,rfl,rfl,.inr ⟨4,_,rfl,rfl,rfl,rfl⟩⟩,rfl,trivial⟩,X2 _⟩))
  |false=>
   rw[if_neg (by simp)]
   replace hps:=hps rfl
   by_cases h8:8≤nl.length
   ·rw[if_pos h8]
    have h8':(8:Int)≤(nl.map Xl).length:=by omega
    obtain⟨ns,es,nn,ne⟩:=g
    simp only[XG,List.map_nil] at*
    refine QMh ?_;refine Qpd ?_;refine Qed ?_;refine Qb ?_
    (show AWP Tryz.prog E _ _ _;refine X1 ?_;exact(show Xy _ _ _ _ _ from⟨_,XF 103 (cs':=[.d (.sl 3 []),.d (.sl 5 []),ai 0,ai 0]) rfl JM rfl,⟨⟨103,0,_,rfl,rfl,.inr ⟨4,_,rfl,rfl,rfl,rfl⟩⟩,rfl,trivial⟩,X2 _⟩))
   ·rw[if_neg h8]
    have h8':¬(8:Int)≤(nl.map Xl).length:=by omega
    generalize VC g ⟨nid,ls3,np⟩=g' at*
    obtain⟨ns,es,nn,ne⟩:=g
    obtain⟨ns',es',nn',ne'⟩:=g'
    simp only[XG] at*
    refine QMh ?_;refine Qpd ?_;refine Qed ?_;refine Qma ?_;refine Z3 (hcon:=hps) ?_;refine W7_ ?_;refine Z3 (hcon:=hp3) ?_;refine W3_ ?_
    (show AWP Tryz.prog E _ _ _;refine X1 ?_;exact(show Xy _ _ _ _ _ from⟨_,St.le_refl _,⟨⟨103,0,_,rfl,rfl,.inr ⟨4,_,rfl,rfl,rfl,rfl⟩⟩,rfl,trivial⟩,X2 _⟩))
 rw[if_neg h3]
 by_cases h4:op=4
 ·subst h4
  rw[if_pos rfl]
  cases hs with
  |false=>
   rw[if_pos rfl]
   obtain⟨ns,es,nn,ne⟩:=g
   simp only[XG,List.map_nil] at*
   refine QMh ?_;refine Qna ?_;refine Qb ?_;refine Qb ?_
   (show AWP Tryz.prog E _ _ _;refine X1 ?_;exact(show Xy _ _ _ _ _ from⟨_,XF 103 (cs':=[.d (.sl 3 []),.d (.sl 5 []),ai 0,ai 0]) rfl JM rfl,⟨⟨103,0,_,rfl,rfl,.inr ⟨4,_,rfl,rfl,rfl,rfl⟩⟩,rfl,trivial⟩,X2 _⟩))
  |true=>
   rw[if_neg (by simp)]
   generalize VC g ⟨nid,ls4,np⟩=g' at*
   obtain⟨ns,es,nn,ne⟩:=g
   obtain⟨ns',es',nn',ne'⟩:=g'
   simp only[XG] at*
   refine QMh ?_;refine Qna ?_;refine Qb ?_;refine Qma ?_;refine Z3 (hcon:=hwo) ?_;refine W7_ ?_;refine Z3 (hcon:=hp4) ?_;refine W3_ ?_
   (show AWP Tryz.prog E _ _ _;refine X1 ?_;exact(show Xy _ _ _ _ _ from⟨_,St.le_refl _,⟨⟨103,0,_,rfl,rfl,.inr ⟨4,_,rfl,rfl,rfl,rfl⟩⟩,rfl,trivial⟩,X2 _⟩))
 rw[if_neg h4]
 by_cases h5:16<sp.length
 ·rw[if_pos h5]
  rw[decide_eq_false (show ¬sp.length≤16 by omega)] at hsp
  obtain⟨ns,es,nn,ne⟩:=g
  simp only[XG,List.map_nil] at*
  refine QMh ?_;refine Qna ?_;refine Qed ?_;refine Z3 (hcon:=hsp) ?_;refine Xt ?_;refine Qb ?_
  (show AWP Tryz.prog E _ _ _;refine X1 ?_;exact(show Xy _ _ _ _ _ from⟨_,XF 103 (cs':=[.d (.sl 3 []),.d (.sl 5 []),ai 0,ai 0]) rfl JM rfl,⟨⟨103,0,_,rfl,rfl,.inr ⟨4,_,rfl,rfl,rfl,rfl⟩⟩,rfl,trivial⟩,X2 _⟩))
 rw[if_neg h5]
 rw[decide_eq_true (show sp.length≤16 by omega)] at hsp
 generalize VC g ⟨nid,nl,sp⟩=g' at*
 obtain⟨ns,es,nn,ne⟩:=g
 obtain⟨ns',es',nn',ne'⟩:=g'
 simp only[XG] at*
 refine QMh ?_;refine Qna ?_;refine Qed ?_;refine Z3 (hcon:=hsp) ?_;refine Xt ?_;refine QZb ?_;refine Z3 (hcon:=hp5) ?_;refine W3_ ?_
 (show AWP Tryz.prog E _ _ _;refine X1 ?_;exact(show Xy _ _ _ _ _ from⟨_,St.le_refl _,⟨⟨103,0,_,rfl,rfl,.inr ⟨4,_,rfl,rfl,rfl,rfl⟩⟩,rfl,trivial⟩,X2 _⟩))
theorem Xoo (g:Gra) (c:Chg) (n:Edg) (hg:GV g) (hn:VJ g.edges c.id=some n) (hv:Yp c.v) (hid:1≤c.id∧c.id≤1000000):Con Tryz.prog 133 [] [XG g,Xx c,VI n] [] (.tup [XG (X2X g c n).1,ai (X2X g c n).2]):=by
 refine Xg (xs:=[XG (X2X g c n).1,ai (X2X g c n).2]) Tryz.func133 rfl Tryz.ntmps133 rfl rfl rfl (fun E=> ?_)
 have hl2:=hg.el
 obtain⟨hnm,hni⟩:=X7U hn
 have hpl:=(hg.edges n hnm).2.2.2.2.2.pl
 have hsp:=Xfq n.props c.name c.v (by omega) hv
 have hp5:=XgR g ⟨n.id,n.src,n.dst,n.typ,YI n.props c.name c.v⟩ (by omega) (by show 0≤n.id;omega) (by show n.id≤1000000;omega)
 clear hg hn hnm hv
 unfold X2X
 obtain⟨op,id,src,dst,name,⟨vk,vn,vd,vs,vl⟩⟩:=c
 obtain⟨nid,nsr,nds,nt,np⟩:=n
 simp only[Xx,YW,VI,Xv] at*
 subst hni
 generalize YI np name (.mk vk vn vd vs vl)=sp at*
 by_cases h8:op=8
 ·subst h8
  rw[if_pos rfl]
  by_cases h5:16<sp.length
  ·rw[if_pos h5]
   rw[decide_eq_false (show ¬sp.length≤16 by omega)] at hsp
   obtain⟨ns,es,nn,ne⟩:=g
   simp only[XG,List.map_nil] at*
   refine XA ?_;refine QCd ?_;refine Z3 (hcon:=hsp) ?_;refine Xt ?_;refine Qb ?_
   (show AWP Tryz.prog E _ _ _;refine X1 ?_;exact(show Xy _ _ _ _ _ from⟨_,XF 103 (cs':=[.d (.sl 3 []),.d (.sl 5 []),ai 0,ai 0]) rfl JM rfl,⟨⟨103,0,_,rfl,rfl,.inr ⟨4,_,rfl,rfl,rfl,rfl⟩⟩,rfl,trivial⟩,X2 _⟩))
  rw[if_neg h5]
  rw[decide_eq_true (show sp.length≤16 by omega)] at hsp
  generalize X0T g ⟨nid,nsr,nds,nt,sp⟩=g' at*
  obtain⟨ns,es,nn,ne⟩:=g
  obtain⟨ns',es',nn',ne'⟩:=g'
  simp only[XG] at*
  refine XA ?_;refine QCd ?_;refine Z3 (hcon:=hsp) ?_;refine Xt ?_;refine QZb ?_;refine Z3 (hcon:=hp5) ?_;refine W3_ ?_
  (show AWP Tryz.prog E _ _ _;refine X1 ?_;exact(show Xy _ _ _ _ _ from⟨_,St.le_refl _,⟨⟨103,0,_,rfl,rfl,.inr ⟨4,_,rfl,rfl,rfl,rfl⟩⟩,rfl,trivial⟩,X2 _⟩))
 rw[if_neg h8]
 obtain⟨ns,es,nn,ne⟩:=g
 simp only[XG] at*
 have hRl:=X9o (key:=Edg.id) es nid
 generalize hR:UT Edg.id es nid=R at*
 have hlm:(es.map Xs).length=es.length:=by simp
 refine Qpe ?_;refine Xi ?_;refine Xq (V3 10 130 5 rfl rfl rfl) ?_
 refine XK (ι:=Nat×List Edg) (fun q=>q.1≤es.length∧q.2++UT Edg.id (es.drop q.1) nid=R) (fun q=>⟨60,[(3,.ptr 100 0),(4,.ptr 101 0),(5,.ptr 102 0),(6,.ptr 103 0),(10,.own 130 (q.2.map Xs).length),(11,ai q.1)],[(100,.box [.d (.sl 3 (ns.map Xp)),.d (.sl 5 (es.map Xs)),ai nn,ai ne]),(101,.box [ai op,ai nid,ai src,ai dst,.d (.v (.string (Xb name))),ai vk,ai vn,ai vd,.d (.v (.string (Xb vs))),.d (.sl 5 (XU vl))]),(102,.box [ai nid,ai nsr,ai nds,.d (.v (.string (Xb nt))),.d (.sl 6 (np.map Xh))]),(103,.box [ani,ani,ai 0,ai 0]),(130,.row 5 (q.2.map Xs))]⟩) (fun q=>es.length-q.1) (0,[]) ⟨Nat.zero_le _,by simpa using hR⟩
  (Xd rfl JM ⟨rfl,rfl,rfl,rfl,rfl,trivial⟩) ?_
 rintro⟨i,out⟩ ⟨hi,hg⟩
 simp only at hi hg
 by_cases hil:i<es.length
 case neg=>
  have hn:¬(i:Int)<(es.map Xs).length:=by omega
  rw[List.drop_of_length_le (by omega),show UT Edg.id ([]:List Edg) nid=[] from rfl,List.append_nil] at hg
  subst hg
  refine Qag ?_;refine W2_ ?_;refine Qof ?_;refine Xq (Yx 10 130 rfl rfl (by simp)) ?_;refine Xi ?_
  (show AWP Tryz.prog E _ _ _;refine X1 ?_;exact(show Xy _ _ _ _ _ from⟨_,St.le_refl _,⟨⟨103,0,_,rfl,rfl,.inr ⟨4,_,rfl,rfl,rfl,rfl⟩⟩,rfl,trivial⟩,X2 _⟩))
 have hn:(i:Int)<(es.map Xs).length:=by omega
 obtain⟨x,hx⟩:=XI (l:=es) hil
 have hxc:(es.map Xs)[i]? =some (Xs x):=Y5 hx
 rw[Xcb hx] at hg
 have hrm:=X3M hg
 have hroom:(out.map Xs).length≤100000:=by rw[List.length_map];omega
 obtain⟨xid,xs,xd,xt,xp⟩:=x
 simp only[Xs] at hxc
 clear hx
 by_cases hq:xid=nid
 ·subst hq
  rw[if_pos rfl,List.nil_append] at hg
  refine QRf ?_;refine XA ?_;refine Qia ?_;exact QNh
 ·rw[if_neg (show ¬Edg.id _=nid from hq),←List.append_assoc] at hg
  have hap:(out++[(⟨xid,xs,xd,xt,xp⟩:Edg)]).map Xs=out.map Xs++[[.v (.int .i64 xid),.v (.int .i64 xs),.v (.int .i64 xd),.v (.string (Xb xt)),.sl 6 (xp.map Xh)]]:=by simp[Xs]
  refine QRf ?_;refine XA ?_;refine QNc ?_
  refine⟨(i+1,out++[_]),⟨by simp only;omega,hg⟩,by simp only;omega,?_⟩
  dsimp only
  rw[hap]
  exact QOh
theorem XoW (g:Gra) (c:Chg) (hg:GV g) (hv:Yp c.v):Con Tryz.prog 79 [] [XG g,Xx c] [] (.tup [XG (YD g c).1,ai (YD g c).2]):=by
 refine Xg (xs:=[XG (YD g c).1,ai (YD g c).2]) Tryz.func79 rfl Tryz.ntmps79 rfl rfl rfl (fun E=> ?_)
 have hk:=Xbt c hv
 unfold YD
 by_cases hc:YJ c≠0
 ·rw[if_pos hc]
  generalize YJ c=e at*
  obtain⟨op,id,src,dst,name,⟨vk,vn,vd,vs,vl⟩⟩:=c
  obtain⟨ns,es,nn,ne⟩:=g
  simp only[XG,Xx,YW,List.map_nil] at*
  refine Qch ?_;refine QWc ?_
  (show AWP Tryz.prog E _ _ _;refine X1 ?_;exact(show Xy _ _ _ _ _ from⟨_,XF 102 (cs':=[.d (.sl 3 []),.d (.sl 5 []),ai 0,ai 0]) rfl JM rfl,⟨⟨102,0,_,rfl,rfl,.inr ⟨4,_,rfl,rfl,rfl,rfl⟩⟩,rfl,trivial⟩,X2 _⟩))
 rw[if_neg hc]
 have hc:YJ c=0:=by simpa using hc
 rw[hc] at hk
 obtain⟨⟨o1,o8⟩,hid,-,-⟩:=X7g hc
 have hfit:∀n∈g.nodes,Xj1 n:=fun n hn=>by
  have hp:=(hg.nodes n hn).2.2
  have h1:=hp.ll
  have h2:=hp.pl
  exact⟨by omega,by omega,hp.pv⟩
 have hl1:=hg.nl
 have hl2:=hg.el
 have hN:=fun k=>XjV g k (by omega) hfit
 have hE:=Xk0 g c.id (by omega)
 have hgN:∀k,X2w g.nodes k=V8 g.nodes k:=fun _=>rfl
 have hgE:X2A g.edges c.id=VJ g.edges c.id:=rfl
 simp only[hgN] at hN
 rw[hgE] at hE
 have hN1:=hN c.id
 have hN2:=hN c.src
 have hN3:=hN c.dst
 have hpn:=XdW g ⟨c.id,[],[]⟩ (by omega) (by show 0≤c.id;omega) (by show c.id≤1000000;omega)
 have hpe:=XgR g ⟨c.id,c.src,c.dst,c.name,[]⟩ (by omega) (by show 0≤c.id;omega) (by show c.id≤1000000;omega)
 have hon:=fun n hn=>Xq0 g c n hg hn hv hid
 have hoe:=fun n hn=>Xoo g c n hg hn hv hid
 have hlm1:(g.nodes.map Xp).length=g.nodes.length:=by simp
 have hlm2:(g.edges.map Xs).length=g.edges.length:=by simp
 clear hN hfit hgN hgE hc hv
 unfold VA
 rw[X73,Xas,X73,X73]
 clear hg
 by_cases h1:c.op=1
 ·rw[if_pos h1]
  clear hon hoe hpe hN2 hN3
  cases hn1:V8 g.nodes c.id with
  |some n=>
   rw[hn1] at hN1
   simp only[Option.isSome_some,Option.getD_some,if_true] at hN1 ⊢
   clear hpn
   obtain⟨nid,nl,np⟩:=n
   generalize (VJ g.edges c.id).isSome=eb at*
   generalize (VJ g.edges c.id).getD X3C=ed at*
   obtain⟨op,id,src,dst,name,⟨vk,vn,vd,vs,vl⟩⟩:=c
   obtain⟨ns,es,nn,ne⟩:=g
   obtain⟨did,dsrc,ddst,dtyp,dps⟩:=ed
   simp only[XG,Xx,YW,UA,VI,List.map_nil] at*
   refine QPh ?_;refine QCa ?_;refine Qb ?_
   (show AWP Tryz.prog E _ _ _;refine X1 ?_;exact(show Xy _ _ _ _ _ from⟨_,XF 102 (cs':=[.d (.sl 3 []),.d (.sl 5 []),ai 0,ai 0]) rfl JM rfl,⟨⟨102,0,_,rfl,rfl,.inr ⟨4,_,rfl,rfl,rfl,rfl⟩⟩,rfl,trivial⟩,X2 _⟩))
  |none=>
   rw[hn1] at hN1
   simp only[Option.isSome_none,Option.getD_none,Bool.false_eq_true,if_false] at hN1 ⊢
   generalize (VJ g.edges c.id).isSome=eb at*
   generalize (VJ g.edges c.id).getD X3C=ed at*
   obtain⟨did,dsrc,ddst,dtyp,dps⟩:=ed
   by_cases h2:2000≤g.nodes.length
   ·rw[if_pos h2]
    have h2':(2000:Int)≤(g.nodes.map Xp).length:=by omega
    clear hpn
    obtain⟨op,id,src,dst,name,⟨vk,vn,vd,vs,vl⟩⟩:=c
    obtain⟨ns,es,nn,ne⟩:=g
    simp only[XG,Xx,YW,UA,X2D,VI,List.map_nil] at*
    refine QPh ?_;refine QCa ?_;refine Qed ?_;refine Qb ?_
    (show AWP Tryz.prog E _ _ _;refine X1 ?_;exact(show Xy _ _ _ _ _ from⟨_,XF 102 (cs':=[.d (.sl 3 []),.d (.sl 5 []),ai 0,ai 0]) rfl JM rfl,⟨⟨102,0,_,rfl,rfl,.inr ⟨4,_,rfl,rfl,rfl,rfl⟩⟩,rfl,trivial⟩,X2 _⟩))
   ·rw[if_neg h2]
    have h2':¬(2000:Int)≤(g.nodes.map Xp).length:=by omega
    generalize VC g ⟨c.id,[],[]⟩=g' at*
    obtain⟨op,id,src,dst,name,⟨vk,vn,vd,vs,vl⟩⟩:=c
    obtain⟨ns,es,nn,ne⟩:=g
    obtain⟨ns',es',nn',ne'⟩:=g'
    simp only[XG,Xx,YW,UA,X2D,VI,List.map_nil] at*
    refine QPh ?_;refine QCa ?_;refine Qed ?_;refine Qma ?_;refine Z3 (hcon:=hpn) ?_;refine W3_ ?_
    (show AWP Tryz.prog E _ _ _;refine X1 ?_;exact(show Xy _ _ _ _ _ from⟨_,St.le_refl _,⟨⟨102,0,_,rfl,rfl,.inr ⟨4,_,rfl,rfl,rfl,rfl⟩⟩,rfl,trivial⟩,X2 _⟩))
 rw[if_neg h1]
 by_cases h6:c.op=6
 ·rw[if_pos h6]
  clear hon hoe hpn
  generalize (V8 g.nodes c.id).isSome=nb at*
  generalize (V8 g.nodes c.id).getD X2D=nd at*
  generalize (V8 g.nodes c.src).getD X2D=sd at*
  generalize (V8 g.nodes c.dst).getD X2D=dd at*
  generalize (V8 g.nodes c.src).isSome=sb at*
  generalize (V8 g.nodes c.dst).isSome=db at*
  generalize (VJ g.edges c.id).isSome=eb at*
  generalize (VJ g.edges c.id).getD X3C=ed at*
  obtain⟨did,dsrc,ddst,dtyp,dps⟩:=ed
  obtain⟨nid,nl,np⟩:=nd
  obtain⟨sid,sl,sp⟩:=sd
  obtain⟨tid,tl,tp⟩:=dd
  cases eb with
  |true=>
   simp only[if_true]
   clear hpe
   obtain⟨op,id,src,dst,name,⟨vk,vn,vd,vs,vl⟩⟩:=c
   obtain⟨ns,es,nn,ne⟩:=g
   simp only[XG,Xx,YW,UA,VI,List.map_nil] at*
   refine QPh ?_;refine Qpd ?_;refine Z3 (hcon:=hN2) ?_;refine Xt ?_;refine Z3 (hcon:=hN3) ?_;refine Xt ?_;refine Qb ?_
   (show AWP Tryz.prog E _ _ _;refine X1 ?_;exact(show Xy _ _ _ _ _ from⟨_,XF 102 (cs':=[.d (.sl 3 []),.d (.sl 5 []),ai 0,ai 0]) rfl JM rfl,⟨⟨102,0,_,rfl,rfl,.inr ⟨4,_,rfl,rfl,rfl,rfl⟩⟩,rfl,trivial⟩,X2 _⟩))
  |false=>
   simp only[Bool.false_eq_true,if_false]
   by_cases hsd:sb=false∨db=false
   ·rw[if_pos hsd]
    clear hpe
    obtain⟨op,id,src,dst,name,⟨vk,vn,vd,vs,vl⟩⟩:=c
    obtain⟨ns,es,nn,ne⟩:=g
    simp only[XG,Xx,YW,UA,VI,List.map_nil] at*
    cases sb with
    |false=>
     refine QPh ?_;refine Qpd ?_;refine Z3 (hcon:=hN2) ?_;refine Xt ?_;refine Z3 (hcon:=hN3) ?_;refine Xt ?_;refine Qma ?_;refine Qv ?_;refine Qs ?_;refine Qb ?_
     (show AWP Tryz.prog E _ _ _;refine X1 ?_;exact(show Xy _ _ _ _ _ from⟨_,XF 102 (cs':=[.d (.sl 3 []),.d (.sl 5 []),ai 0,ai 0]) rfl JM rfl,⟨⟨102,0,_,rfl,rfl,.inr ⟨4,_,rfl,rfl,rfl,rfl⟩⟩,rfl,trivial⟩,X2 _⟩))
    |true=>
     obtain rfl:db=false:=by simpa using hsd
     refine QQh ?_;refine QP ?_;refine Qb ?_
     (show AWP Tryz.prog E _ _ _;refine X1 ?_;exact(show Xy _ _ _ _ _ from⟨_,XF 102 (cs':=[.d (.sl 3 []),.d (.sl 5 []),ai 0,ai 0]) rfl JM rfl,⟨⟨102,0,_,rfl,rfl,.inr ⟨4,_,rfl,rfl,rfl,rfl⟩⟩,rfl,trivial⟩,X2 _⟩))
   rw[if_neg hsd]
   obtain⟨rfl,rfl⟩:sb=true∧db=true:=by simpa [not_or] using hsd
   by_cases h4:4000≤g.edges.length
   ·rw[if_pos h4]
    have h4':(4000:Int)≤(g.edges.map Xs).length:=by omega
    clear hpe
    obtain⟨op,id,src,dst,name,⟨vk,vn,vd,vs,vl⟩⟩:=c
    obtain⟨ns,es,nn,ne⟩:=g
    simp only[XG,Xx,YW,UA,VI,List.map_nil] at*
    refine QQh ?_;refine QU ?_;refine W9_ ?_;refine Qb ?_
    (show AWP Tryz.prog E _ _ _;refine X1 ?_;exact(show Xy _ _ _ _ _ from⟨_,XF 102 (cs':=[.d (.sl 3 []),.d (.sl 5 []),ai 0,ai 0]) rfl JM rfl,⟨⟨102,0,_,rfl,rfl,.inr ⟨4,_,rfl,rfl,rfl,rfl⟩⟩,rfl,trivial⟩,X2 _⟩))
   rw[if_neg h4]
   have h4':¬(4000:Int)≤(g.edges.map Xs).length:=by omega
   generalize X0T g ⟨c.id,c.src,c.dst,c.name,[]⟩=g' at*
   obtain⟨op,id,src,dst,name,⟨vk,vn,vd,vs,vl⟩⟩:=c
   obtain⟨ns,es,nn,ne⟩:=g
   obtain⟨ns',es',nn',ne'⟩:=g'
   simp only[XG,Xx,YW,UA,VI,List.map_nil] at*
   refine QQh ?_;refine QU ?_;refine Qag ?_;refine Xr ?_;refine Z3 (hcon:=hpe) ?_;refine W3_ ?_
   (show AWP Tryz.prog E _ _ _;refine X1 ?_;exact(show Xy _ _ _ _ _ from⟨_,St.le_refl _,⟨⟨102,0,_,rfl,rfl,.inr ⟨4,_,rfl,rfl,rfl,rfl⟩⟩,rfl,trivial⟩,X2 _⟩))
 rw[if_neg h6]
 clear hpn hpe hN2 hN3
 by_cases h7:c.op=7∨c.op=8
 ·rw[if_pos h7]
  clear hon
  generalize (V8 g.nodes c.id).isSome=nb at*
  generalize (V8 g.nodes c.id).getD X2D=nd at*
  obtain⟨nid,nl,np⟩:=nd
  cases he:VJ g.edges c.id with
  |none=>
   rw[he] at hE
   simp only[Option.isSome_none,Option.getD_none] at hE ⊢
   clear hoe
   obtain⟨op,id,src,dst,name,⟨vk,vn,vd,vs,vl⟩⟩:=c
   obtain⟨ns,es,nn,ne⟩:=g
   simp only[XG,Xx,YW,UA,VI,X3C,List.map_nil] at*
   rcases h7 with rfl|rfl
   ·refine QPh ?_;refine Qc ?_;refine Qja ?_;refine Qb ?_;refine Qb ?_
    (show AWP Tryz.prog E _ _ _;refine X1 ?_;exact(show Xy _ _ _ _ _ from⟨_,XF 102 (cs':=[.d (.sl 3 []),.d (.sl 5 []),ai 0,ai 0]) rfl JM rfl,⟨⟨102,0,_,rfl,rfl,.inr ⟨4,_,rfl,rfl,rfl,rfl⟩⟩,rfl,trivial⟩,X2 _⟩))
   ·refine QPh ?_;refine Qc ?_;refine Qka ?_;refine Qb ?_;refine Qb ?_
    (show AWP Tryz.prog E _ _ _;refine X1 ?_;exact(show Xy _ _ _ _ _ from⟨_,XF 102 (cs':=[.d (.sl 3 []),.d (.sl 5 []),ai 0,ai 0]) rfl JM rfl,⟨⟨102,0,_,rfl,rfl,.inr ⟨4,_,rfl,rfl,rfl,rfl⟩⟩,rfl,trivial⟩,X2 _⟩))
  |some e=>
   rw[he] at hE
   simp only[Option.isSome_some,Option.getD_some] at hE ⊢
   replace hoe:=hoe e he
   generalize X2X g c e=g' at*
   obtain⟨op,id,src,dst,name,⟨vk,vn,vd,vs,vl⟩⟩:=c
   obtain⟨ns,es,nn,ne⟩:=g
   obtain⟨⟨ns',es',nn',ne'⟩,ee⟩:=g'
   obtain⟨did,dsrc,ddst,dtyp,dps⟩:=e
   simp only[XG,Xx,YW,UA,VI,List.map_nil] at*
   rcases h7 with rfl|rfl
   ·refine QPh ?_;refine Qc ?_;refine Qja ?_;refine Qb ?_;refine Qia ?_;refine Z3 (hcon:=hoe) ?_;refine W5_ ?_
    (show AWP Tryz.prog E _ _ _;refine X1 ?_;exact(show Xy _ _ _ _ _ from⟨_,St.le_refl _,⟨⟨102,0,_,rfl,rfl,.inr ⟨4,_,rfl,rfl,rfl,rfl⟩⟩,rfl,trivial⟩,X2 _⟩))
   ·refine QPh ?_;refine Qc ?_;refine Qka ?_;refine Qb ?_;refine Qia ?_;refine Z3 (hcon:=hoe) ?_;refine W5_ ?_
    (show AWP Tryz.prog E _ _ _;refine X1 ?_;exact(show Xy _ _ _ _ _ from⟨_,St.le_refl _,⟨⟨102,0,_,rfl,rfl,.inr ⟨4,_,rfl,rfl,rfl,rfl⟩⟩,rfl,trivial⟩,X2 _⟩))
 rw[if_neg h7]
 have h70:¬c.op=7:=fun h=>h7 (.inl h)
 have h80:¬c.op=8:=fun h=>h7 (.inr h)
 clear hoe
 generalize (VJ g.edges c.id).isSome=eb at*
 generalize (VJ g.edges c.id).getD X3C=ed at*
 obtain⟨did,dsrc,ddst,dtyp,dps⟩:=ed
 cases hn1:V8 g.nodes c.id with
 |none=>
  rw[hn1] at hN1
  simp only[Option.isSome_none,Option.getD_none] at hN1 ⊢
  clear hon
  obtain⟨op,id,src,dst,name,⟨vk,vn,vd,vs,vl⟩⟩:=c
  obtain⟨ns,es,nn,ne⟩:=g
  simp only[XG,Xx,YW,UA,VI,X2D,List.map_nil] at*
  refine QPh ?_;refine Qc ?_;refine Qka ?_;refine Qma ?_;refine Qb ?_
  (show AWP Tryz.prog E _ _ _;refine X1 ?_;exact(show Xy _ _ _ _ _ from⟨_,XF 102 (cs':=[.d (.sl 3 []),.d (.sl 5 []),ai 0,ai 0]) rfl JM rfl,⟨⟨102,0,_,rfl,rfl,.inr ⟨4,_,rfl,rfl,rfl,rfl⟩⟩,rfl,trivial⟩,X2 _⟩))
 |some n=>
  rw[hn1] at hN1
  simp only[Option.isSome_some,Option.getD_some] at hN1 ⊢
  replace hon:=hon n hn1
  generalize X2Y g c n=g' at*
  obtain⟨op,id,src,dst,name,⟨vk,vn,vd,vs,vl⟩⟩:=c
  obtain⟨ns,es,nn,ne⟩:=g
  obtain⟨⟨ns',es',nn',ne'⟩,ee⟩:=g'
  obtain⟨nid,nl,np⟩:=n
  simp only[XG,Xx,YW,UA,VI,List.map_nil] at*
  refine QPh ?_;refine Qc ?_;refine Qka ?_;refine Qma ?_;refine Qia ?_;refine Z3 (hcon:=hon) ?_;refine W5_ ?_
  (show AWP Tryz.prog E _ _ _;refine X1 ?_;exact(show Xy _ _ _ _ _ from⟨_,St.le_refl _,⟨⟨102,0,_,rfl,rfl,.inr ⟨4,_,rfl,rfl,rfl,rfl⟩⟩,rfl,trivial⟩,X2 _⟩))
theorem Xet (g:Gra) (l:List Chg) (hg:GraHold g) (hl:l.length≤9223372036854775807) (hok:∀c∈l,X3c c):Con Tryz.prog 36 [] [XG g,.d (.sl 10 (l.map Y1))] [] (.tup [XG (Yd g l).1,ai (Yd g l).2.1,ai (Yd g l).2.2]):=by
 refine Xg (xs:=[XG (Yd g l).1,ai (Yd g l).2.1,ai (Yd g l).2.2]) Tryz.func36 rfl Tryz.ntmps36 rfl rfl rfl (fun E=> ?_)
 have hk:=Xen g hg
 have hlm:(l.map Y1).length=l.length:=by simp
 unfold Yd
 by_cases hc:YH g≠0
 ·rw[if_pos hc]
  clear hg
  generalize YH g=e at*
  obtain⟨ns,es,nn,ne⟩:=g
  simp only[XG,List.map_nil] at*
  refine Qch ?_;refine QCd ?_
  (show AWP Tryz.prog E _ _ _;refine X1 ?_;exact(show Xy _ _ _ _ _ from⟨_,XF 101 (cs':=[.d (.sl 3 []),.d (.sl 5 []),ai 0,ai 0]) rfl JM rfl,⟨⟨101,0,_,rfl,rfl,.inr ⟨4,_,rfl,rfl,rfl,rfl⟩⟩,rfl,rfl,trivial⟩,X2 _⟩))
 rw[if_neg hc]
 have hc:YH g=0:=by simpa using hc
 rw[hc] at hk
 have hv:=X6t.1 hc
 clear hc hg
 generalize hR:Ur g 0 l=R
 obtain⟨ns,es,nn,ne⟩:=g
 simp only[XG] at hk ⊢
 refine Qch ?_;refine Qma ?_
 clear hk
 refine XK (ι:=Nat×Gra) (fun q=>q.1≤l.length∧GV q.2∧Ur q.2 q.1 (l.drop q.1)=R) (fun q=>⟨41,[(1,.d (.sl 10 (l.map Y1))),(2,.ptr 100 0),(4,.ptr 101 0),(8,ai q.1)],[(100,.box [.d (.sl 3 (q.2.nodes.map Xp)),.d (.sl 5 (q.2.edges.map Xs)),ai q.2.nn,ai q.2.ne]),(101,.box [ani,ani,ai 0,ai 0])]⟩) (fun q=>l.length-q.1) (0,⟨ns,es,nn,ne⟩) ⟨Nat.zero_le _,hv,by simpa using hR⟩
  (Xd rfl JM ⟨rfl,rfl,trivial⟩) ?_
 rintro⟨i,g⟩ ⟨hi,hg,hr⟩
 simp only at hi hg hr
 clear hv hR
 by_cases hil:i<l.length
 case neg=>
  have hn:¬(i:Int)<(l.map Y1).length:=by omega
  rw[Xj0 (by omega)] at hr
  obtain rfl:i=l.length:=by omega
  subst hr
  obtain⟨ns,es,nn,ne⟩:=g
  simp only
  rw[←hlm]
  refine W8_ ?_;refine QUc ?_
  (show AWP Tryz.prog E _ _ _;refine X1 ?_;exact(show Xy _ _ _ _ _ from⟨_,St.le_refl _,⟨⟨101,0,_,rfl,rfl,.inr ⟨4,_,rfl,rfl,rfl,rfl⟩⟩,rfl,rfl,trivial⟩,X2 _⟩))
 have hn:(i:Int)<(l.map Y1).length:=by omega
 obtain⟨x,hx⟩:=XI (l:=l) hil
 have hxc:(l.map Y1)[i]? =some (Y1 x):=Y5 hx
 have hs:=XoW g x hg (hok x (List.mem_of_getElem? hx)).2
 rw[Xe3 hx] at hr
 by_cases hq:(YD g x).2≠0
 ·rw[if_pos hq] at hr
  subst hr
  clear hx hg
  generalize (YD g x).2=e at*
  generalize (YD g x).1=g' at*
  obtain⟨op,id,src,dst,name,⟨vk,vn,vd,vs,vl⟩⟩:=x
  obtain⟨ns,es,nn,ne⟩:=g
  obtain⟨ns',es',nn',ne'⟩:=g'
  simp only[XG,Xx,YW,Y1,List.map_nil] at*
  refine QUb ?_;refine QMd ?_;refine Xr ?_;refine JT ?_;refine W9_ ?_
  (show AWP Tryz.prog E _ _ _;refine X1 ?_;exact(show Xy _ _ _ _ _ from⟨_,XF 101 (cs':=[.d (.sl 3 []),.d (.sl 5 []),ai 0,ai 0]) rfl JM rfl,⟨⟨101,0,_,rfl,rfl,.inr ⟨4,_,rfl,rfl,rfl,rfl⟩⟩,rfl,rfl,trivial⟩,X2 _⟩))
 rw[if_neg hq] at hr
 have hq:(YD g x).2=0:=by simpa using hq
 have hg':=XbI hg hq
 rw[hq] at hs
 clear hx hg
 generalize (YD g x).1=g' at*
 obtain⟨op,id,src,dst,name,⟨vk,vn,vd,vs,vl⟩⟩:=x
 obtain⟨ns,es,nn,ne⟩:=g
 obtain⟨ns',es',nn',ne'⟩:=g'
 simp only[XG,Xx,YW,Y1,List.map_nil] at*
 refine QUb ?_;refine QMd ?_;refine Qoe ?_;refine Xj ?_;exact QRh
end Go.Fw

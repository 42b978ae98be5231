/- Nodes and edges put by the reference. -/
import Derived.Test.YtlkcofbjniphbaaGreatDoorB40
set_option maxHeartbeats 16000000
namespace Go.Fw
open Go Go.Proofs
set_option maxRecDepth 100000
set_option linter.unusedVariables false
set_option linter.unusedSimpArgs false
theorem XdW (g:Gra) (n:Nod) (hl:g.nodes.length≤100000) (hn1:0≤n.id) (hn2:n.id≤1000000):Con Tryz.prog 131 [] [XG g,.agg [ai n.id,.d (.sl 1 (n.labels.map Xl)),.d (.sl 6 (n.props.map Xh))]] [] (XG (VC g n)):=by
 refine Xg (xs:=[XG (VC g n)]) Tryz.func131 rfl Tryz.ntmps131 rfl rfl rfl (fun E=> ?_)
 obtain⟨ns,es,nn,ne⟩:=g
 obtain⟨nid,nl,np⟩:=n
 unfold VC XG
 simp only at hl hn1 hn2 ⊢
 have hRl:(Uv ltI Nod.id ns nid [(⟨nid,nl,np⟩:Nod)]).length≤ns.length+1:=by
  have:=X3t (lt:=ltI) (key:=Nod.id) (l:=ns) (k:=nid) (ns:=[(⟨nid,nl,np⟩:Nod)])
  simpa using this
 generalize hR:Uv ltI Nod.id ns nid [(⟨nid,nl,np⟩:Nod)]=R at*
 have hlm:(ns.map Xp).length=ns.length:=by simp
 refine X5m ?_;refine Xq (V3 5 130 3 rfl rfl rfl) ?_
 refine XK (ι:=Nat×Bool×List Nod) (fun q=>q.1≤ns.length∧q.2.2++X1w ltI Nod.id (ns.drop q.1) nid [(⟨nid,nl,np⟩:Nod)] q.2.1=R) (fun q=>⟨65,[(2,.ptr 100 0),(3,.ptr 101 0),(4,.ptr 102 0),(5,.own 130 (q.2.2.map Xp).length),(6,ab q.2.1),(7,ai q.1)],[(100,.box [.d (.sl 3 (ns.map Xp)),.d (.sl 5 (es.map Xs)),ai nn,ai ne]),(101,.box [ai nid,.d (.sl 1 (nl.map Xl)),.d (.sl 6 (np.map Xh))]),(102,.box [ani,ani,ai 0,ai 0]),(130,.row 3 (q.2.2.map Xp))]⟩) (fun q=>ns.length-q.1) (0,false,[]) ⟨Nat.zero_le _,by simpa [X1w] using hR⟩
  (Xd rfl JM ⟨rfl,rfl,rfl,rfl,trivial⟩) ?_
 rintro⟨i,b,out⟩ ⟨hi,hg⟩
 simp only at hi hg
 have hrm:=X3M hg
 have hroom:(out.map Xp).length≤100001:=by rw[List.length_map];omega
 by_cases hil:i<ns.length
 case neg=>
  have hn:¬(i:Int)<(ns.map Xp).length:=by omega
  rw[List.drop_of_length_le (by omega),Xbw] at hg
  have hR2:R.length≤ns.length+1:=hRl
  cases b with
  |true=>
   rw[if_pos rfl,List.append_nil] at hg
   subst hg
   refine Qie ?_;refine Qo ?_;refine QGh ?_
   (show AWP Tryz.prog E _ _ _;refine X1 ?_;exact(show Xy _ _ _ _ _ from⟨_,St.le_refl _,⟨⟨102,0,_,rfl,rfl,.inr ⟨4,_,rfl,rfl,rfl,rfl⟩⟩,trivial⟩,X2 _⟩))
  |false=>
   rw[if_neg (by simp)] at hg
   subst hg
   have hap:(out++[(⟨nid,nl,np⟩:Nod)]).map Xp=out.map Xp++[[.v (.int .i64 nid),.sl 1 (nl.map Xl),.sl 6 (np.map Xh)]]:=by simp[Xp]
   rw[hap]
   refine Qie ?_;refine QCd ?_;refine QGh ?_
   (show AWP Tryz.prog E _ _ _;refine X1 ?_;exact(show Xy _ _ _ _ _ from⟨_,St.le_refl _,⟨⟨102,0,_,rfl,rfl,.inr ⟨4,_,rfl,rfl,rfl,rfl⟩⟩,trivial⟩,X2 _⟩))
 have hn:(i:Int)<(ns.map Xp).length:=by omega
 obtain⟨x,hx⟩:=XI (l:=ns) hil
 have hxc:(ns.map Xp)[i]? =some (Xp x):=Y5 hx
 have hirr:ltI x.id nid=true→x.id≠nid:=fun h e=>by rw[e,V4.irr] at h;cases h
 rw[Xc1 hx hirr] at hg
 obtain⟨xid,xl,xp⟩:=x
 simp only[Xp] at hxc hg hirr
 clear hx
 cases b with
 |true=>
  rw[if_neg (by simp),List.nil_append,Bool.true_or] at hg
  by_cases hq:xid=nid
  ·subst hq
   rw[if_pos rfl,List.nil_append] at hg
   refine QHh ?_;refine Qia ?_
   refine⟨(i+1,true,out),⟨by simp only;omega,hg⟩,by simp only;omega,?_⟩
   dsimp only
   skip
   exact Xd rfl ⟨JL,JL,JL,JL,JL,JL,trivial⟩ ⟨rfl,rfl,rfl,rfl,trivial⟩
  ·rw[if_neg hq,←List.append_assoc] at hg
   have hap:(out++[(⟨xid,xl,xp⟩:Nod)]).map Xp=out.map Xp++[[.v (.int .i64 xid),.sl 1 (xl.map Xl),.sl 6 (xp.map Xh)]]:=by simp[Xp]
   refine QHh ?_;refine QNc ?_
   refine⟨(i+1,true,out++[(⟨xid,xl,xp⟩:Nod)]),⟨by simp only;omega,hg⟩,by simp only;omega,?_⟩
   dsimp only
   rw[hap]
   exact QIh
 |false=>
  by_cases hp:xid<nid
  ·have hpb:ltI xid nid=true:=decide_eq_true hp
   have hq:=hirr hpb
   have hp':¬nid≤xid:=by omega
   rw[hpb,if_neg (by simp),if_neg hq,List.nil_append,←List.append_assoc] at hg
   have hap:(out++[(⟨xid,xl,xp⟩:Nod)]).map Xp=out.map Xp++[[.v (.int .i64 xid),.sl 1 (xl.map Xl),.sl 6 (xp.map Xh)]]:=by simp[Xp]
   refine QRf ?_;refine Us ?_;refine QDe ?_;refine Xr ?_;refine QNc ?_
   refine⟨(i+1,false,out++[(⟨xid,xl,xp⟩:Nod)]),⟨by simp only;omega,hg⟩,by simp only;omega,?_⟩
   dsimp only
   rw[hap]
   exact QIh
  ·have hpb:ltI xid nid=false:=decide_eq_false hp
   have hp':nid≤xid:=by omega
   rw[hpb,if_pos ⟨rfl,rfl⟩] at hg
   by_cases hq:xid=nid
   ·subst hq
    rw[if_pos rfl,List.append_nil,←List.append_assoc] at hg
    have hap:(out++[(⟨xid,nl,np⟩:Nod)]).map Xp=out.map Xp++[[.v (.int .i64 xid),.sl 1 (nl.map Xl),.sl 6 (np.map Xh)]]:=by simp[Xp]
    refine QJh ?_;refine Qia ?_
    refine⟨(i+1,true,out++[(⟨xid,nl,np⟩:Nod)]),⟨by simp only;omega,hg⟩,by simp only;omega,?_⟩
    dsimp only
    rw[hap]
    exact QIh
   ·rw[if_neg hq,List.append_assoc,←List.append_assoc,←List.append_assoc] at hg
    have hap:(out++[(⟨nid,nl,np⟩:Nod)]++[(⟨xid,xl,xp⟩:Nod)]).map Xp=(out.map Xp++[[.v (.int .i64 nid),.sl 1 (nl.map Xl),.sl 6 (np.map Xh)]])++[[.v (.int .i64 xid),.sl 1 (xl.map Xl),.sl 6 (xp.map Xh)]]:=by simp[Xp]
    refine QJh ?_;refine QNc ?_
    refine⟨(i+1,true,out++[(⟨nid,nl,np⟩:Nod)]++[(⟨xid,xl,xp⟩:Nod)]),⟨by simp only;omega,hg⟩,by simp only;omega,?_⟩
    dsimp only
    rw[hap]
    exact QIh
theorem XgR (g:Gra) (n:Edg) (hl:g.edges.length≤100000) (hn1:0≤n.id) (hn2:n.id≤1000000):Con Tryz.prog 132 [] [XG g,.agg [ai n.id,ai n.src,ai n.dst,XH n.typ,.d (.sl 6 (n.props.map Xh))]] [] (XG (X0T g n)):=by
 refine Xg (xs:=[XG (X0T g n)]) Tryz.func132 rfl Tryz.ntmps132 rfl rfl rfl (fun E=> ?_)
 obtain⟨ns,es,nn,ne⟩:=g
 obtain⟨nid,nsr,nds,nt,np⟩:=n
 unfold X0T XG
 simp only at hl hn1 hn2 ⊢
 have hRl:(Uv ltI Edg.id es nid [(⟨nid,nsr,nds,nt,np⟩:Edg)]).length≤es.length+1:=by
  have:=X3t (lt:=ltI) (key:=Edg.id) (l:=es) (k:=nid) (ns:=[(⟨nid,nsr,nds,nt,np⟩:Edg)])
  simpa using this
 generalize hR:Uv ltI Edg.id es nid [(⟨nid,nsr,nds,nt,np⟩:Edg)]=R at*
 have hlm:(es.map Xs).length=es.length:=by simp
 refine X5m ?_;refine Xq (V3 5 130 5 rfl rfl rfl) ?_
 refine XK (ι:=Nat×Bool×List Edg) (fun q=>q.1≤es.length∧q.2.2++X1w ltI Edg.id (es.drop q.1) nid [(⟨nid,nsr,nds,nt,np⟩:Edg)] q.2.1=R) (fun q=>⟨65,[(2,.ptr 100 0),(3,.ptr 101 0),(4,.ptr 102 0),(5,.own 130 (q.2.2.map Xs).length),(6,ab q.2.1),(7,ai q.1)],[(100,.box [.d (.sl 3 (ns.map Xp)),.d (.sl 5 (es.map Xs)),ai nn,ai ne]),(101,.box [ai nid,ai nsr,ai nds,.d (.v (.string (Xb nt))),.d (.sl 6 (np.map Xh))]),(102,.box [ani,ani,ai 0,ai 0]),(130,.row 5 (q.2.2.map Xs))]⟩) (fun q=>es.length-q.1) (0,false,[]) ⟨Nat.zero_le _,by simpa [X1w] using hR⟩
  (Xd rfl JM ⟨rfl,rfl,rfl,rfl,trivial⟩) ?_
 rintro⟨i,b,out⟩ ⟨hi,hg⟩
 simp only at hi hg
 have hrm:=X3M hg
 have hroom:(out.map Xs).length≤100001:=by rw[List.length_map];omega
 by_cases hil:i<es.length
 case neg=>
  have hn:¬(i:Int)<(es.map Xs).length:=by omega
  rw[List.drop_of_length_le (by omega),Xbw] at hg
  have hR2:R.length≤es.length+1:=hRl
  cases b with
  |true=>
   rw[if_pos rfl,List.append_nil] at hg
   subst hg
   refine Qie ?_;refine Qo ?_;refine QGh ?_
   (show AWP Tryz.prog E _ _ _;refine X1 ?_;exact(show Xy _ _ _ _ _ from⟨_,St.le_refl _,⟨⟨102,0,_,rfl,rfl,.inr ⟨4,_,rfl,rfl,rfl,rfl⟩⟩,trivial⟩,X2 _⟩))
  |false=>
   rw[if_neg (by simp)] at hg
   subst hg
   have hap:(out++[(⟨nid,nsr,nds,nt,np⟩:Edg)]).map Xs=out.map Xs++[[.v (.int .i64 nid),.v (.int .i64 nsr),.v (.int .i64 nds),.v (.string (Xb nt)),.sl 6 (np.map Xh)]]:=by simp[Xs]
   rw[hap]
   refine Qie ?_;refine QCd ?_;refine QGh ?_
   (show AWP Tryz.prog E _ _ _;refine X1 ?_;exact(show Xy _ _ _ _ _ from⟨_,St.le_refl _,⟨⟨102,0,_,rfl,rfl,.inr ⟨4,_,rfl,rfl,rfl,rfl⟩⟩,trivial⟩,X2 _⟩))
 have hn:(i:Int)<(es.map Xs).length:=by omega
 obtain⟨x,hx⟩:=XI (l:=es) hil
 have hxc:(es.map Xs)[i]? =some (Xs x):=Y5 hx
 have hirr:ltI x.id nid=true→x.id≠nid:=fun h e=>by rw[e,V4.irr] at h;cases h
 rw[Xc1 hx hirr] at hg
 obtain⟨xid,xs,xd,xt,xp⟩:=x
 simp only[Xs] at hxc hg hirr
 clear hx
 cases b with
 |true=>
  rw[if_neg (by simp),List.nil_append,Bool.true_or] at hg
  by_cases hq:xid=nid
  ·subst hq
   rw[if_pos rfl,List.nil_append] at hg
   refine QHh ?_;refine Qia ?_
   refine⟨(i+1,true,out),⟨by simp only;omega,hg⟩,by simp only;omega,?_⟩
   dsimp only
   skip
   exact Xd rfl ⟨JL,JL,JL,JL,JL,JL,trivial⟩ ⟨rfl,rfl,rfl,rfl,trivial⟩
  ·rw[if_neg hq,←List.append_assoc] at hg
   have hap:(out++[(⟨xid,xs,xd,xt,xp⟩:Edg)]).map Xs=out.map Xs++[[.v (.int .i64 xid),.v (.int .i64 xs),.v (.int .i64 xd),.v (.string (Xb xt)),.sl 6 (xp.map Xh)]]:=by simp[Xs]
   refine QHh ?_;refine QNc ?_
   refine⟨(i+1,true,out++[(⟨xid,xs,xd,xt,xp⟩:Edg)]),⟨by simp only;omega,hg⟩,by simp only;omega,?_⟩
   dsimp only
   rw[hap]
   exact QIh
 |false=>
  by_cases hp:xid<nid
  ·have hpb:ltI xid nid=true:=decide_eq_true hp
   have hq:=hirr hpb
   have hp':¬nid≤xid:=by omega
   rw[hpb,if_neg (by simp),if_neg hq,List.nil_append,←List.append_assoc] at hg
   have hap:(out++[(⟨xid,xs,xd,xt,xp⟩:Edg)]).map Xs=out.map Xs++[[.v (.int .i64 xid),.v (.int .i64 xs),.v (.int .i64 xd),.v (.string (Xb xt)),.sl 6 (xp.map Xh)]]:=by simp[Xs]
   refine QRf ?_;refine Us ?_;refine QDe ?_;refine Xr ?_;refine QNc ?_
   refine⟨(i+1,false,out++[(⟨xid,xs,xd,xt,xp⟩:Edg)]),⟨by simp only;omega,hg⟩,by simp only;omega,?_⟩
   dsimp only
   rw[hap]
   exact QIh
  ·have hpb:ltI xid nid=false:=decide_eq_false hp
   have hp':nid≤xid:=by omega
   rw[hpb,if_pos ⟨rfl,rfl⟩] at hg
   by_cases hq:xid=nid
   ·subst hq
    rw[if_pos rfl,List.append_nil,←List.append_assoc] at hg
    have hap:(out++[(⟨xid,nsr,nds,nt,np⟩:Edg)]).map Xs=out.map Xs++[[.v (.int .i64 xid),.v (.int .i64 nsr),.v (.int .i64 nds),.v (.string (Xb nt)),.sl 6 (np.map Xh)]]:=by simp[Xs]
    refine QJh ?_;refine Qia ?_
    refine⟨(i+1,true,out++[(⟨xid,nsr,nds,nt,np⟩:Edg)]),⟨by simp only;omega,hg⟩,by simp only;omega,?_⟩
    dsimp only
    rw[hap]
    exact QIh
   ·rw[if_neg hq,List.append_assoc,←List.append_assoc,←List.append_assoc] at hg
    have hap:(out++[(⟨nid,nsr,nds,nt,np⟩:Edg)]++[(⟨xid,xs,xd,xt,xp⟩:Edg)]).map Xs=(out.map Xs++[[.v (.int .i64 nid),.v (.int .i64 nsr),.v (.int .i64 nds),.v (.string (Xb nt)),.sl 6 (np.map Xh)]])++[[.v (.int .i64 xid),.v (.int .i64 xs),.v (.int .i64 xd),.v (.string (Xb xt)),.sl 6 (xp.map Xh)]]:=by simp[Xs]
    refine QJh ?_;refine QNc ?_
    refine⟨(i+1,true,out++[(⟨nid,nsr,nds,nt,np⟩:Edg)]++[(⟨xid,xs,xd,xt,xp⟩:Edg)]),⟨by simp only;omega,hg⟩,by simp only;omega,?_⟩
    dsimp only
    rw[hap]
    exact QIh
open Go
abbrev AD:=Int×Int×Int
def cAD (a:AD):List D:=[.v (.int .i64 a.1),.v (.int .i64 a.2.1),.v (.int .i64 a.2.2)]
def ltA (a b:AD):Bool:=decide (a.2.1<b.2.1)||(decide (a.2.1=b.2.1)&&decide (a.2.2<b.2.2))
def X2d (out:List AD) (a:AD):Nat→Nat
 |0=>0
 |k+1=>match out[k]? with
  |some b=>if ltA a b then X2d out a k else k+1
  |none=>k+1
def X1D (out:List AD) (a:AD):List AD:=out.take (X2d out a out.length)++a::out.drop (X2d out a out.length)
theorem Xff (out:List AD) (a:AD):∀k,X2d out a k≤k
 |0=>Nat.le_refl _
 |k+1=>by
  rw[X2d]
  cases h:out[k]? with
  |none=>exact Nat.le_refl _
  |some b=>
   simp only
   split
   ·exact Nat.le_succ_of_le (Xff out a k)
   ·exact Nat.le_refl _
theorem XjO {out:List AD}{a b:AD}{k:Nat} (h:out[k]? =some b):X2d out a (k+1)=if ltA a b then X2d out a k else k+1:=by rw[X2d,h]
theorem XgL (out:List AD) (a:AD):(X1D out a).length=out.length+1:=by
 have:=Xff out a out.length
 unfold X1D
 rw[List.length_append,List.length_cons,List.length_take,List.length_drop];omega
def Uz (out:List AD) (a:AD) (k:Nat):List AD:=if k=out.length then out++[a] else out.take (k+1)++out.drop k
theorem XaS {out:List AD}{a:AD}{k:Nat} (h:k≤out.length):(Uz out a k).length=out.length+1:=by
 unfold Uz
 split
 ·simp
 ·rw[List.length_append,List.length_take,List.length_drop];omega
theorem XjM {out:List AD}{a b:AD}{k:Nat} (h:out[k]? =some b):(Uz out a (k+1))[k]? =some b:=by
 have hl:=(List.getElem?_eq_some_iff.1 h).1
 unfold Uz
 split
 ·rw[List.getElem?_append_left hl];exact h
 ·rw[List.getElem?_append_left (by rw[List.length_take];omega),List.getElem?_take,if_pos (by omega)];exact h
theorem Xn1 {out:List AD}{a b:AD}{k:Nat} (h:out[k]? =some b):(Uz out a (k+1)).set (k+1) b=Uz out a k:=by
 obtain⟨hl,hb⟩:=List.getElem?_eq_some_iff.1 h
 have e:Uz out a k=out.take (k+1)++out.drop k:=by unfold Uz;rw[if_neg (by omega)]
 have ed:out.drop k=b::out.drop (k+1):=by rw[List.drop_eq_getElem_cons hl,hb]
 rw[e]
 unfold Uz
 split
 ·rename_i q
  rw[List.set_append_right _ _ (by omega),q,Nat.sub_self,List.set_cons_zero,List.take_length,ed,show k+1=out.length from q,List.drop_length]
 ·rename_i q
  have hk:k+1<out.length:=by omega
  rw[show k+1+1=(k+1)+1 from rfl,List.take_succ_eq_append_getElem hk,List.append_assoc,List.set_append_right _ _ (by rw[List.length_take];omega),List.length_take,Nat.min_eq_left (by omega),Nat.sub_self,ed]
  rfl
theorem XlT {out:List AD}{a:AD}{k:Nat} (h:k≤out.length):(Uz out a k).set k a=out.take k++a::out.drop k:=by
 unfold Uz
 split
 ·rename_i q
  subst q
  rw[List.set_append_right _ _ (Nat.le_refl _),Nat.sub_self,List.set_cons_zero,List.take_length,List.drop_length]
 ·rename_i q
  have hk:k<out.length:=by omega
  rw[List.take_succ_eq_append_getElem hk,List.append_assoc,List.set_append_right _ _ (by rw[List.length_take];omega),List.length_take,Nat.min_eq_left (by omega),Nat.sub_self]
  rfl
def X1m (e:Edg) (id:Int):AD:=if e.src=id then (id,e.dst,e.id) else if e.dst=id then (id,e.src,e.id) else (0,0,0)
def isA (e:Edg) (id:Int):Bool:=decide (e.src=id)||decide (e.dst=id)
def X0f (id:Int):List AD→List Edg→List AD
 |out,[]=>out
 |out,e::r=>if isA e id then X0f id (X1D out (X1m e id)) r else X0f id out r
theorem XoB {id:Int}{out:List AD}{l:List Edg}{i:Nat}{e:Edg} (h:l[i]? =some e):X0f id out (l.drop i)=if isA e id then X0f id (X1D out (X1m e id)) (l.drop (i+1)) else X0f id out (l.drop (i+1)):=by
 obtain⟨hl,h⟩:=List.getElem?_eq_some_iff.1 h
 rw[List.drop_eq_getElem_cons hl,h,X0f]
theorem X79 (id:Int):∀(l:List Edg) (out:List AD),(X0f id out l).length=out.length+l.countP fun e=>isA e id
 |[],out=>by simp[X0f]
 |e::r,out=>by
  rw[X0f,List.countP_cons]
  split
  ·rw[X79 id r,XgL];omega
  ·rw[X79 id r];omega
theorem Xl7 (l:List Edg) (id:Int):decide (0<(X0f id [] l).length)=X0p l id:=by
 rw[X79,List.length_nil,Nat.zero_add]
 unfold X0p
 rw[Bool.eq_iff_iff]
 simp only[decide_eq_true_eq,List.any_eq_true]
 rw[List.countP_pos_iff]
 simp only[isA,Bool.or_eq_true,decide_eq_true_eq]
def X2A (l:List Edg) (id:Int):Option Edg:=l.find? fun e=>decide (e.id=id)
abbrev X3C:Edg:=⟨0,0,0,[],[]⟩
def VI (e:Edg):AVal:= .agg [ai e.id,ai e.src,ai e.dst,XH e.typ,.d (.sl 6 (e.props.map Xh))]
theorem Xri {l:List Edg}{i:Nat}{n:Edg}{id:Int} (h:l[i]? =some n):X2A (l.drop i) id=if n.id=id then some n else X2A (l.drop (i+1)) id:=by
 obtain⟨hi,h⟩:=List.getElem?_eq_some_iff.1 h
 unfold X2A
 rw[List.drop_eq_getElem_cons hi,h,List.find?_cons]
 by_cases q:n.id=id<;>simp[q]
theorem Xk0 (g:Gra) (id:Int) (hl:g.edges.length≤9223372036854775807):Con Tryz.prog 130 [] [XG g,ai id] [] (.tup [VI ((X2A g.edges id).getD X3C),ab (X2A g.edges id).isSome]):=by
 refine Xg (xs:=[VI ((X2A g.edges id).getD X3C),ab (X2A g.edges id).isSome]) Tryz.func130 rfl Tryz.ntmps130 rfl rfl rfl (fun E=> ?_)
 obtain⟨ns,es,nn,ne⟩:=g
 unfold XG
 simp only at hl ⊢
 generalize hG:X2A es id=G
 refine Xt ?_
 refine XK (fun i:Nat=>i≤es.length∧X2A (es.drop i) id=G) (fun i=>⟨28,[(1,ai id),(2,.ptr 100 0),(4,.ptr 101 0),(6,ai i)],[(100,.box [.d (.sl 3 (ns.map Xp)),.d (.sl 5 (es.map Xs)),ai nn,ai ne]),(101,.box [ai 0,ai 0,ai 0,XH [],ani])]⟩) (fun i=>es.length-i) 0 ⟨Nat.zero_le _,by simpa using hG⟩
  (Xd rfl JM ⟨rfl,rfl,trivial⟩) ?_
 rintro i ⟨hi,hg⟩
 by_cases hil:i<es.length
 case neg=>
  have hn:¬(i:Int)<(es.map Xs).length:=by rw[List.length_map];omega
  rw[List.drop_of_length_le (by omega)] at hg
  have hg:none=G:=hg
  subst hg
  simp only[Option.getD_none,Option.isSome_none,X3C,VI,List.map_nil]
  refine Qie ?_
  (show AWP Tryz.prog E _ _ _;refine X1 ?_;exact(show Xy _ _ _ _ _ from⟨_,XF 101 (cs':=[ai 0,ai 0,ai 0,XH [],.d (.sl 6 [])]) rfl JM rfl,⟨⟨101,0,_,rfl,rfl,.inr ⟨5,_,rfl,rfl,rfl,rfl⟩⟩,rfl,trivial⟩,X2 _⟩))
 have hn:(i:Int)<(es.map Xs).length:=by rw[List.length_map];omega
 obtain⟨x,hx⟩:=XI (l:=es) hil
 have hxc:(es.map Xs)[i]? =some (Xs x):=Y5 hx
 rw[Xri hx] at hg
 obtain⟨xid,src,dst,typ,props⟩:=x
 simp only[Xs] at hxc hg
 clear hx
 by_cases hq:xid=id
 ·rw[if_pos hq] at hg
  subst hg
  subst hq
  simp only[Option.getD_some,Option.isSome_some,VI]
  refine QRf ?_;refine XC ?_;refine JT ?_;refine Xj ?_
  (show AWP Tryz.prog E _ _ _;refine X1 ?_;exact(show Xy _ _ _ _ _ from⟨_,St.le_refl _,⟨⟨101,0,_,rfl,rfl,.inr ⟨5,_,rfl,rfl,rfl,rfl⟩⟩,rfl,trivial⟩,X2 _⟩))
 rw[if_neg hq] at hg
 exact Qvh
end Go.Fw

/- The reference's steps of a node, and whether it is used. -/
import Derived.Test.YtlkcofbjniphbaaGreatDoorB41
set_option maxHeartbeats 16000000
namespace Go.Fw
open Go Go.Proofs
set_option maxRecDepth 100000
set_option linter.unusedVariables false
set_option linter.unusedSimpArgs false
theorem Xi0 {sz q o:Nat}{R:List (List D)}{r:List D}{d:D}{T:List (Option D)} (hz:∀x∈R,x.length=sz) (hq:R[q]? =some r) (ho:r[o]? =some d):(Y6 (R.flatten.map some++T) none)[0+q*sz+o]? =some (.d d):=by
 rw[Nat.zero_add]
 simp only[Y6,List.getElem?_map,X2K T hz hq ho];rfl
theorem Xdq {sz i:Nat}{xs:List (List D)}{T:List (Option D)}{b b':List D} (h:∀x∈xs,x.length=sz) (hx:xs[i]? =some b) (hb:b'.length=sz):
  Y6 ((xs.set i b').flatten.map some++T) none=(Y6 (xs.flatten.map some++T) none).take (0+i*sz)++b'.map .d++(Y6 (xs.flatten.map some++T) none).drop (0+i*sz+(b'.map AVal.d).length):=by
 have e:=XdL (a:=[]) (b:=b) (c:=[]) (b':=b') (o:=0) (T:=T) h (by simpa using hx) rfl (by rw[hb,h b (List.mem_of_getElem? hx)])
 simp only[List.nil_append,List.append_nil,Nat.add_zero,Nat.zero_add] at e ⊢
 exact e
theorem XgZ (l:List AD):∀x∈l.map cAD,x.length=3:=fun x hx=>by obtain⟨p,_,rfl⟩:=List.mem_map.1 hx;rfl
theorem XnP (e:Edg) (id:Int):Con Tryz.prog 254 [] [VI e,ai id,ai 3] [] (.tup [.agg [ai (X1m e id).1,ai (X1m e id).2.1,ai (X1m e id).2.2],ab (isA e id)]):=by
 refine Xg (xs:=[.agg [ai (X1m e id).1,ai (X1m e id).2.1,ai (X1m e id).2.2],ab (isA e id)]) Tryz.func254 rfl Tryz.ntmps254 rfl rfl rfl (fun E=> ?_)
 obtain⟨eid,src,dst,typ,ps⟩:=e
 simp only[VI]
 by_cases h1:src=id
 ·have hs:X1m ⟨eid,src,dst,typ,ps⟩ id=(id,dst,eid):=if_pos h1
  have hi:isA ⟨eid,src,dst,typ,ps⟩ id=true:=by simp[isA,h1]
  rw[hs,hi]
  clear hs hi
  subst h1
  refine XC ?_;refine QSf ?_;refine Qs ?_;refine Qje ?_
  (show AWP Tryz.prog E _ _ _;refine X1 ?_;exact(show Xy _ _ _ _ _ from⟨_,St.le_refl _,⟨⟨101,0,_,rfl,rfl,.inr ⟨3,_,rfl,rfl,rfl,rfl⟩⟩,rfl,trivial⟩,X2 _⟩))
 by_cases h2:dst=id
 ·have hs:X1m ⟨eid,src,dst,typ,ps⟩ id=(id,src,eid):=by unfold X1m;rw[if_neg h1,if_pos h2]
  have hi:isA ⟨eid,src,dst,typ,ps⟩ id=true:=by simp[isA,h2]
  rw[hs,hi]
  clear hs hi
  subst h2
  refine XC ?_;refine QSf ?_;refine QDe ?_;refine W9_ ?_;refine QSf ?_;refine Qs ?_;refine Qje ?_
  (show AWP Tryz.prog E _ _ _;refine X1 ?_;exact(show Xy _ _ _ _ _ from⟨_,St.le_refl _,⟨⟨101,0,_,rfl,rfl,.inr ⟨3,_,rfl,rfl,rfl,rfl⟩⟩,rfl,trivial⟩,X2 _⟩))
 have hs:X1m ⟨eid,src,dst,typ,ps⟩ id=(0,0,0):=by unfold X1m;rw[if_neg h1,if_neg h2]
 have hi:isA ⟨eid,src,dst,typ,ps⟩ id=false:=by simp[isA,h1,h2]
 rw[hs,hi]
 clear hs hi
 refine XC ?_;refine QSf ?_;refine QDe ?_;refine W9_ ?_;refine QSf ?_;refine Qs ?_;refine Qma ?_
 (show AWP Tryz.prog E _ _ _;refine X1 ?_;exact(show Xy _ _ _ _ _ from⟨_,St.le_refl _,⟨⟨101,0,_,rfl,rfl,.inr ⟨3,_,rfl,rfl,rfl,rfl⟩⟩,rfl,trivial⟩,X2 _⟩))
theorem Xqf (e:Edg):Con Tryz.prog 255 [] [VI e,.d (.sl 1 [])] [] (ab true):=by
 refine Xg (xs:=[ab true]) Tryz.func255 rfl Tryz.ntmps255 rfl rfl rfl (fun E=> ?_)
 obtain⟨eid,src,dst,typ,ps⟩:=e
 simp only[VI]
 refine Xi ?_;refine QL ?_;refine Qz ?_
 (show AWP Tryz.prog E _ _ _;refine X1 ?_;exact(show Xy _ _ _ _ _ from⟨_,St.le_refl _,⟨rfl,trivial⟩,X2 _⟩))
theorem XkE (g:Gra) (id:Int) (hl:g.edges.length≤100000):Con Tryz.prog 226 [] [XG g,ai id,.d (.sl 1 []),ai 3] [] (.d (.sl 3 ((X0f id [] g.edges).map cAD))):=by
 refine Xg (xs:=[.d (.sl 3 ((X0f id [] g.edges).map cAD))]) Tryz.func226 rfl Tryz.ntmps226 rfl rfl rfl (fun E=> ?_)
 obtain⟨ns,es,nn,ne⟩:=g
 unfold XG
 simp only at hl ⊢
 have hlm:(es.map Xs).length=es.length:=by simp
 have hRl:(X0f id [] es).length≤es.length:=by
  rw[X79];simp only[List.length_nil,Nat.zero_add];exact List.countP_le_length
 generalize hR:X0f id [] es=R at*
 refine XA ?_;refine Xq (V3 9 130 3 rfl rfl rfl) ?_
 refine XK (ι:=Nat×List AD) (fun q=>q.1≤es.length∧X0f id q.2 (es.drop q.1)=R∧q.2.length≤q.1) (fun q=>⟨100,[(1,ai id),(2,.d (.sl 1 [])),(3,ai 3),(4,.ptr 100 0),(9,.own 130 (q.2.map cAD).length),(10,ai q.1)],[(100,.box [.d (.sl 3 (ns.map Xp)),.d (.sl 5 (es.map Xs)),ai nn,ai ne]),(130,.row 3 (q.2.map cAD))]⟩) (fun q=>es.length-q.1) (0,[]) ⟨Nat.zero_le _,by simpa using hR,Nat.le_refl _⟩
  (Xd rfl JM ⟨rfl,rfl,trivial⟩) ?_
 rintro⟨i,out⟩ ⟨hi,hg,hol⟩
 simp only at hi hg hol
 have hom:(out.map cAD).length=out.length:=by simp
 by_cases hil:i<es.length
 case neg=>
  have hn:¬(i:Int)<(es.map Xs).length:=by omega
  rw[List.drop_of_length_le (by omega)] at hg
  have hg:out=R:=hg
  subst hg
  refine W9_ ?_;refine Qia ?_;refine Qof ?_;refine Xq (Yx 8 130 rfl rfl rfl) ?_
  (show AWP Tryz.prog E _ _ _;refine X1 ?_;exact(show Xy _ _ _ _ _ from⟨_,St.le_refl _,⟨rfl,trivial⟩,X2 _⟩))
 have hn:(i:Int)<(es.map Xs).length:=by omega
 obtain⟨x,hx⟩:=XI (l:=es) hil
 have hxc:(es.map Xs)[i]? =some (Xs x):=Y5 hx
 rw[XoB hx] at hg
 have h7:=XnP x id
 have h8:=Xqf x
 clear hx hR hRl
 generalize X1m x id=a at*
 generalize isA x id=ia at*
 obtain⟨eid,src,dst,typ,ps⟩:=x
 simp only[VI,Xs] at h7 h8 hxc
 cases ia with
 |false=>
  rw[if_neg (by simp)] at hg
  refine QRf ?_;refine Xt ?_;refine Z3 (hcon:=h7) ?_;refine Xr ?_;refine QL ?_;refine QL ?_;refine Qs ?_;refine Qb ?_;exact⟨(i+1,out),⟨by simp only;omega,hg,by simp only;omega⟩,by simp only;omega,Xd rfl JM ⟨rfl,rfl,trivial⟩⟩
 |true=>
  rw[if_pos rfl] at hg
  have hroom:(out.map cAD).length≤100000:=by omega
  refine QRf ?_;refine Xt ?_;refine Z3 (hcon:=h7) ?_;refine Yw ?_;refine Z3 (hcon:=h8) ?_;refine W1_ ?_;refine QU ?_;refine XD ?_
  clear h7 h8 hxc
  obtain⟨a1,a2,a3⟩:=a
  have hfl:(out.map cAD++[[.v (.int .i64 a1),.v (.int .i64 a2),.v (.int .i64 a3)]])=(Uz out (a1,a2,a3) out.length).map cAD:=by unfold Uz;rw[if_pos rfl];simp[cAD]
  refine X2z 9 130 120 (n:=out.length+1) (xs:=out.map cAD++[[.v (.int .i64 a1),.v (.int .i64 a2),.v (.int .i64 a3)]]) (by conv=>lhs;whnf) (by simp) (Eq.trans (b:= .own 130 ((out.map cAD).length+1)) rfl (by rw[hom])) (by simp) rfl rfl (fun c k hc1 hc2 hc3 hz=> ?_)
  rw[hfl] at hc1 hc3 ⊢
  have hsl:∀j,j≤out.length→((Uz out (a1,a2,a3) j).map cAD).length=out.length+1:=fun j hj=>by rw[List.length_map,XaS hj]
  rw[hsl _ (Nat.le_refl _)] at hc1 hc3
  refine XK (fun j:Nat=>j≤out.length∧X2d out (a1,a2,a3) j=X2d out (a1,a2,a3) out.length) (fun j=>⟨100,[(1,ai id),(2,.d (.sl 1 [])),(3,ai 3),(4,.ptr 100 0),(9,.rs 120 0 (out.length+1) c),(10,ai i),(11,.ptr 101 0),(13,ai j)],[(100,.box [.d (.sl 3 (ns.map Xp)),.d (.sl 5 (es.map Xs)),ai nn,ai ne]),(101,.box [ai a1,ai a2,ai a3]),(120,.raw (((Uz out (a1,a2,a3) j).map cAD).flatten.map some++List.replicate k none) none)]⟩) (fun j=>j) out.length ⟨Nat.le_refl _,rfl⟩
   (Xd rfl JM ⟨rfl,rfl,rfl,trivial⟩) ?_
  rintro j ⟨hj,hp⟩
  have hz3:=XgZ (Uz out (a1,a2,a3) j)
  have hlen:=X0Z (k:=k) hz3
  rw[hsl j hj] at hlen
  have hjn:j<out.length+1:=by omega
  obtain⟨y,hy⟩:=XI (l:=Uz out (a1,a2,a3) j) (k:=j) (by rw[XaS hj];omega)
  have hyc:((Uz out (a1,a2,a3) j).map cAD)[j]? =some (cAD y):=Y5 hy
  have hput:X2d out (a1,a2,a3) j=j→Y6 (((X1D out (a1,a2,a3)).map cAD).flatten.map some++List.replicate k none) none=(Y6 (((Uz out (a1,a2,a3) j).map cAD).flatten.map some++List.replicate k none) none).take (0+j*3)++[ai a1,ai a2,ai a3]++(Y6 (((Uz out (a1,a2,a3) j).map cAD).flatten.map some++List.replicate k none) none).drop (0+j*3+[ai a1,ai a2,ai a3].length):=fun hpj=>by
   have e:=Xdq (b':=cAD (a1,a2,a3)) (T:=List.replicate k none) hz3 hyc rfl
   rw[show cAD (a1,a2,a3)=cAD (a1,a2,a3) from rfl,←List.map_set,XlT hj,show out.take j++(a1,a2,a3)::out.drop j=X1D out (a1,a2,a3) by unfold X1D;rw[←hp,hpj]] at e
   exact e
  have hbd:0+j*3+3≤(((Uz out (a1,a2,a3) j).map cAD).flatten.map some++List.replicate k (none:Option D)).length:=by rw[hlen];omega
  have hnl:(X1D out (a1,a2,a3)).length=out.length+1:=XgL _ _
  have hnm:((X1D out (a1,a2,a3)).map cAD).length=out.length+1:=by rw[List.length_map];exact hnl
  have hnz:=XgZ (X1D out (a1,a2,a3))
  have hnlen:=X0Z (k:=k) hnz
  rw[hnm] at hnlen
  clear hy hyc y hfl hz
  cases j with
  |zero=>
   have hpj:=hput rfl
   clear hput hp
   generalize X1D out (a1,a2,a3)=O at*
   generalize hC:((Uz out (a1,a2,a3) 0).map cAD).flatten.map some++List.replicate k (none:Option D)=C at*
   refine W6_ ?_;refine QL ?_;refine Qta ?_;refine QX ?_;refine QX ?_;refine QX ?_;refine QX ?_;refine QY ?_;refine QZ ?_;refine Zh (sz:=3) ?_;(refine Zi (cs':=((O.map cAD).flatten.map some++List.replicate k none)) (ho':=none) ?_ (hcs:= ?hcs65);(case hcs65=>exact hpj));refine W6_ ?_
   refine⟨(i+1,O),⟨by simp only;omega,hg,by simp only;omega⟩,by simp only;omega,?_⟩
   refine St.le_trans (X0J 9 120 130 (n:=out.length+1) (c:=c) (O.map cAD) (by conv=>lhs;whnf) (by conv=>lhs;whnf) ?_ hnm hnz hc1 hc2 (by rw[hnlen];exact hc3) rfl rfl) ?_
   ·rw[←hnm];exact X5N hnz
   ·dsimp only
    rw[hnm]
    exact QKh
  |succ j=>
   obtain⟨⟨b1,b2,b3⟩,hb⟩:=XI (l:=out) (k:=j) (by omega)
   have hsa:=XjM (a:=(a1,a2,a3)) hb
   have hsc:((Uz out (a1,a2,a3) (j+1)).map cAD)[j]? =some (cAD (b1,b2,b3)):=Y5 hsa
   have hss:=Xn1 (a:=(a1,a2,a3)) hb
   rw[XjO hb] at hp hput
   have hsub:(((j+1:Nat):Int)-1)=((j:Nat):Int):=by omega
   have hr1:(Y6 (((Uz out (a1,a2,a3) (j+1)).map cAD).flatten.map some++List.replicate k none) none)[0+j*3+1]? =some (ai b2):=Xi0 (T:=List.replicate k none) hz3 hsc rfl
   have hr2:(Y6 (((Uz out (a1,a2,a3) (j+1)).map cAD).flatten.map some++List.replicate k none) none)[0+j*3+2]? =some (ai b3):=Xi0 (T:=List.replicate k none) hz3 hsc rfl
   have hrow:((Y6 (((Uz out (a1,a2,a3) (j+1)).map cAD).flatten.map some++List.replicate k none) none).drop (0+j*3)).take 3=[ai b1,ai b2,ai b3]:=X9u (List.replicate k none) hz3 hsc
   obtain⟨y',hy'⟩:=XI (l:=Uz out (a1,a2,a3) (j+1)) (k:=j+1) (by rw[XaS hj];omega)
   have hmv:Y6 (((Uz out (a1,a2,a3) j).map cAD).flatten.map some++List.replicate k none) none=(Y6 (((Uz out (a1,a2,a3) (j+1)).map cAD).flatten.map some++List.replicate k none) none).take (0+(j+1)*3)++[ai b1,ai b2,ai b3]++(Y6 (((Uz out (a1,a2,a3) (j+1)).map cAD).flatten.map some++List.replicate k none) none).drop (0+(j+1)*3+[ai b1,ai b2,ai b3].length):=by
    have e:=Xdq (b':=cAD (b1,b2,b3)) (T:=List.replicate k none) hz3 (Y5 hy') rfl
    rw[←List.map_set,hss] at e
    exact e
   clear hsa hsc hss hb hy' y'
   have hlt:ltA (a1,a2,a3) (b1,b2,b3)=(decide (a2<b2)||(decide (a2=b2)&&decide (a3<b3))):=rfl
   rw[hlt] at hp hput
   generalize hC:((Uz out (a1,a2,a3) (j+1)).map cAD).flatten.map some++List.replicate k (none:Option D)=C at*
   by_cases c1:a2<b2
   ·rw[decide_eq_true c1,Bool.true_or,if_pos rfl] at hp
    clear hput
    generalize hC':((Uz out (a1,a2,a3) j).map cAD).flatten.map some++List.replicate k (none:Option D)=C' at*
    refine Xj ?_
    (refine Z1 (op:= .sub) (r':= .int .i64 (j:Nat)) (u:= .int .i64 ((j+1:Nat):Int)) (v:= .int .i64 1) ?_ (hr':=by exact congrArg (Value.int .i64) hsub) (hr:=by exact Yl (by unfold XT;omega)))
    refine QLh ?_;refine W2_ ?_;refine QL ?_;refine Qta ?_;refine QX ?_;refine Qx ?_;refine QVa ?_;refine Qr ?_;refine Qs ?_;refine QCd ?_
    (refine Z1 (op:= .sub) (r':= .int .i64 (j:Nat)) (u:= .int .i64 ((j+1:Nat):Int)) (v:= .int .i64 1) ?_ (hr':=by exact congrArg (Value.int .i64) hsub) (hr:=by exact Yl (by unfold XT;omega)))
    refine Zh (sz:=3) ?_;(refine Zm (ys:=[ai b1,ai b2,ai b3]) (sz:=3) ?_ (hy:= ?hy66);(case hy66=>exact hrow));refine Zh (sz:=3) ?_;(refine Zi (cs':=C') (ho':=none) ?_ (hcs:= ?hcs67);(case hcs67=>exact hmv));refine W3_ ?_
    (refine Z1 (op:= .sub) (r':= .int .i64 (j:Nat)) (u:= .int .i64 ((j+1:Nat):Int)) (v:= .int .i64 1) ?_ (hr':=by exact congrArg (Value.int .i64) hsub) (hr:=by exact Yl (by unfold XT;omega)))
    refine W2_ ?_;exact⟨j,⟨by omega,hp⟩,by omega,Xd rfl JM ⟨rfl,rfl,by rw[hC'];rfl,trivial⟩⟩
   ·by_cases c2:a2=b2
    ·by_cases c3:a3<b3
     ·rw[decide_eq_true c2,decide_eq_true c3,Bool.and_true,Bool.or_true,if_pos rfl] at hp
      clear hput
      generalize hC':((Uz out (a1,a2,a3) j).map cAD).flatten.map some++List.replicate k (none:Option D)=C' at*
      refine Xj ?_
      (refine Z1 (op:= .sub) (r':= .int .i64 (j:Nat)) (u:= .int .i64 ((j+1:Nat):Int)) (v:= .int .i64 1) ?_ (hr':=by exact congrArg (Value.int .i64) hsub) (hr:=by exact Yl (by unfold XT;omega)))
      refine QLh ?_;refine W6_ ?_
      (refine Z1 (op:= .sub) (r':= .int .i64 (j:Nat)) (u:= .int .i64 ((j+1:Nat):Int)) (v:= .int .i64 1) ?_ (hr':=by exact congrArg (Value.int .i64) hsub) (hr:=by exact Yl (by unfold XT;omega)))
      refine QLh ?_;refine W6_ ?_
      (refine Z1 (op:= .sub) (r':= .int .i64 (j:Nat)) (u:= .int .i64 ((j+1:Nat):Int)) (v:= .int .i64 1) ?_ (hr':=by exact congrArg (Value.int .i64) hsub) (hr:=by exact Yl (by unfold XT;omega)))
      refine Zh (sz:=3) ?_;refine W1_ ?_;refine VF (hg:=JSa) (hx:=JSb) (hL:=JSb) (ht:=JSb) (hd:=JSb) ?_ (hy:=by exact hr2);refine W1_ ?_;refine Qcb ?_;refine Qs ?_;refine QCd ?_
      (refine Z1 (op:= .sub) (r':= .int .i64 (j:Nat)) (u:= .int .i64 ((j+1:Nat):Int)) (v:= .int .i64 1) ?_ (hr':=by exact congrArg (Value.int .i64) hsub) (hr:=by exact Yl (by unfold XT;omega)))
      refine Zh (sz:=3) ?_;(refine Zm (ys:=[ai b1,ai b2,ai b3]) (sz:=3) ?_ (hy:= ?hy68);(case hy68=>exact hrow));refine Zh (sz:=3) ?_;(refine Zi (cs':=C') (ho':=none) ?_ (hcs:= ?hcs69);(case hcs69=>exact hmv));refine W3_ ?_
      (refine Z1 (op:= .sub) (r':= .int .i64 (j:Nat)) (u:= .int .i64 ((j+1:Nat):Int)) (v:= .int .i64 1) ?_ (hr':=by exact congrArg (Value.int .i64) hsub) (hr:=by exact Yl (by unfold XT;omega)))
      refine W2_ ?_;exact⟨j,⟨by omega,hp⟩,by omega,Xd rfl JM ⟨rfl,rfl,by rw[hC'];rfl,trivial⟩⟩
     ·rw[decide_eq_false c1,decide_eq_false c3,Bool.and_false,Bool.or_false,if_neg (by simp)] at hput
      have hpj:=hput rfl
      clear hput hp hmv
      generalize X1D out (a1,a2,a3)=O at*
      refine Xj ?_
      (refine Z1 (op:= .sub) (r':= .int .i64 (j:Nat)) (u:= .int .i64 ((j+1:Nat):Int)) (v:= .int .i64 1) ?_ (hr':=by exact congrArg (Value.int .i64) hsub) (hr:=by exact Yl (by unfold XT;omega)))
      refine QLh ?_;refine W6_ ?_
      (refine Z1 (op:= .sub) (r':= .int .i64 (j:Nat)) (u:= .int .i64 ((j+1:Nat):Int)) (v:= .int .i64 1) ?_ (hr':=by exact congrArg (Value.int .i64) hsub) (hr:=by exact Yl (by unfold XT;omega)))
      refine QLh ?_;refine W6_ ?_
      (refine Z1 (op:= .sub) (r':= .int .i64 (j:Nat)) (u:= .int .i64 ((j+1:Nat):Int)) (v:= .int .i64 1) ?_ (hr':=by exact congrArg (Value.int .i64) hsub) (hr:=by exact Yl (by unfold XT;omega)))
      refine Zh (sz:=3) ?_;refine W1_ ?_;refine VF (hg:=JSa) (hx:=JSb) (hL:=JSb) (ht:=JSb) (hd:=JSb) ?_ (hy:=by exact hr2);refine W1_ ?_;refine Qcb ?_;refine Qs ?_;refine Qc ?_;refine Zh (sz:=3) ?_;(refine Zi (cs':=((O.map cAD).flatten.map some++List.replicate k none)) (ho':=none) ?_ (hcs:= ?hcs70);(case hcs70=>exact hpj));refine W6_ ?_
      refine⟨(i+1,O),⟨by simp only;omega,hg,by simp only;omega⟩,by simp only;omega,?_⟩
      refine St.le_trans (X0J 9 120 130 (n:=out.length+1) (c:=c) (O.map cAD) (by conv=>lhs;whnf) (by conv=>lhs;whnf) ?_ hnm hnz hc1 hc2 (by rw[hnlen];exact hc3) rfl rfl) ?_
      ·rw[←hnm];exact X5N hnz
      ·dsimp only
       rw[hnm]
       exact QKh
    ·rw[decide_eq_false c1,decide_eq_false c2,Bool.false_and,Bool.or_false,if_neg (by simp)] at hput
     have hpj:=hput rfl
     clear hput hp hmv
     generalize X1D out (a1,a2,a3)=O at*
     refine Xj ?_
     (refine Z1 (op:= .sub) (r':= .int .i64 (j:Nat)) (u:= .int .i64 ((j+1:Nat):Int)) (v:= .int .i64 1) ?_ (hr':=by exact congrArg (Value.int .i64) hsub) (hr:=by exact Yl (by unfold XT;omega)))
     refine QLh ?_;refine W6_ ?_
     (refine Z1 (op:= .sub) (r':= .int .i64 (j:Nat)) (u:= .int .i64 ((j+1:Nat):Int)) (v:= .int .i64 1) ?_ (hr':=by exact congrArg (Value.int .i64) hsub) (hr:=by exact Yl (by unfold XT;omega)))
     refine QLh ?_;refine W2_ ?_;refine QL ?_;refine QW ?_;refine QE ?_;refine Qba ?_;refine Qc ?_;refine Zh (sz:=3) ?_;(refine Zi (cs':=((O.map cAD).flatten.map some++List.replicate k none)) (ho':=none) ?_ (hcs:= ?hcs71);(case hcs71=>exact hpj));refine W6_ ?_
     refine⟨(i+1,O),⟨by simp only;omega,hg,by simp only;omega⟩,by simp only;omega,?_⟩
     refine St.le_trans (X0J 9 120 130 (n:=out.length+1) (c:=c) (O.map cAD) (by conv=>lhs;whnf) (by conv=>lhs;whnf) ?_ hnm hnz hc1 hc2 (by rw[hnlen];exact hc3) rfl rfl) ?_
     ·rw[←hnm];exact X5N hnz
     ·dsimp only
      rw[hnm]
      exact QKh
end Go.Fw

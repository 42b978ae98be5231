/- Nodes looked up; their copies. -/
import Derived.Test.YtfmfekakaeafhaaGreatDoorP36
import Derived.Test.YtfmfekakaeafhaaGreatDoorP37
set_option linter.all false
set_option maxHeartbeats 16000000
namespace Go.Fw
open Go Go.Proofs Tryz List
open List renaming length->J
set_option maxRecDepth 100000
def Xxu (g:Gra) (id:Int) (hl:J g.nodes<=9223372036854775807) (hh:∀n∈g.nodes,XiQ n):Con prog 185 [] [XZ g,ai id] [] (.tup [X0s ((X6d g.nodes id).getD X5o),ab (X6d g.nodes id).isSome]):=by
 refine ZCt func185 ntmps185 fun E=> ?_;obtain⟨ns,es,nn,ne⟩:=g;unfold XZ;simp only at hl hh |-;generalize hG:X6d ns id=G;refine XG ?_
 refine Xl (fun i:Nat=>i<=J ns/\X6d (ns.drop i) id=G) (fun i=>⟨28,[(1,ai id),(2,.ptr 100 0),(4,.ptr 101 0),(6,ai i)],[(100,.box [.d (.sl 3 (ns.map Xi)),.d (.sl 5 (es.map Xk)),ai nn,ai ne]),(101,.box [ai 0,aq,aq])]⟩) (fun i=>J ns-i) 0 ⟨Nat.zero_le _,OX⟩
  (ZL0) ?_
 rintro i ⟨hi,hg⟩;by_cases hil:i<J ns
 case neg=>
  have hn:¬(i:Int)<J (ns.map Xi):=Oj
  rw[drop_of_length_le Oa] at hg;have hg:none=G:=hg;subst hg;simp only[Option.getD_none,Option.isSome_none,X5o,X0s,map_nil];refine Yb ?_
  (exact Zz1 rfl ⟨_,Xg 101 (cs':=[ai 0,.d (.sl 1 []),.d (.sl 6 [])]) rfl JM rfl,⟨⟨101,0,_,rfl,rfl,.inr ⟨3,_,rfl,rfl,rfl,rfl⟩⟩,rfl,TV⟩,X5 _⟩)
 have hn:(i:Int)<J (ns.map Xi):=Oj
 obtain⟨x,hx⟩:=Xn (l:=ns) hil;have au:(ns.map Xi)[i]? =some (Xi x):=XC hx;rw[XyS hx] at hg;obtain⟨f1,f2,f3⟩:=hh x (mem_of_getElem? hx);obtain⟨aK,labels,props⟩:=x;simp only[Xi] at au hg f1 f2 f3;clear hx;by_cases hq:aK=id
 ·rw[PI hq] at hg;subst hg;subst hq;simp only[Option.getD_some,Option.isSome_some,X0s];clear hh f1 f2 f3;refine UR ?_
  (exact Zz1 rfl ⟨_,ZzS,⟨⟨101,0,_,rfl,rfl,.inr ⟨3,_,rfl,rfl,rfl,rfl⟩⟩,rfl,TV⟩,X5 _⟩)
 rw[NI hq] at hg;exact QEc
def X65 (l:List Edg) (id:Int):Option Edg:=l.find? fun e=>decide (e.id=id)
abbrev X7I:Edg:=⟨0,0,0,[],[]⟩
def X1e (e:Edg):AVal:= .agg [ai e.id,ai e.src,ai e.dst,Xa e.typ,.d (.sl 6 (e.props.map Xb))]
variable{i sz:Nat}{T:List (Option D)}
def XwG {l:List Edg}{n:Edg}{id:Int} (h:l[i]? =some n):X65 (l.drop i) id=if n.id=id then some n else X65 (l.drop (i+1)) id:=by
 obtain⟨hi,h⟩:=GS.1 h;unfold X65;rw[drop_eq_getElem_cons hi,h,find?_cons];by_cases q:n.id=id<;>simp[q]
def XrN (g:Gra) (id:Int) (hl:J g.aj<=9223372036854775807):Con prog 218 [] [XZ g,ai id] [] (.tup [X1e ((X65 g.aj id).getD X7I),ab (X65 g.aj id).isSome]):=by
 refine ZCt func218 ntmps218 fun E=> ?_;obtain⟨ns,es,nn,ne⟩:=g;unfold XZ;simp only at hl |-;generalize hG:X65 es id=G;refine XG ?_
 refine Xl (fun i:Nat=>i<=J es/\X65 (es.drop i) id=G) (fun i=>⟨28,[(1,ai id),(2,.ptr 100 0),(4,.ptr 101 0),(6,ai i)],[(100,.box [.d (.sl 3 (ns.map Xi)),.d (.sl 5 (es.map Xk)),ai nn,ai ne]),(101,.box [ai 0,ai 0,ai 0,Xa [],aq])]⟩) (fun i=>J es-i) 0 ⟨Nat.zero_le _,OX⟩
  (ZL0) ?_
 rintro i ⟨hi,hg⟩;by_cases hil:i<J es
 case neg=>
  have hn:¬(i:Int)<J (es.map Xk):=Oj
  rw[drop_of_length_le Oa] at hg;have hg:none=G:=hg;subst hg;simp only[Option.getD_none,Option.isSome_none,X7I,X1e,map_nil];refine Yb ?_
  (exact Zz1 rfl ⟨_,Xg 101 (cs':=[ai 0,ai 0,ai 0,Xa [],.d (.sl 6 [])]) rfl JM rfl,⟨⟨101,0,_,rfl,rfl,.inr ⟨5,_,rfl,rfl,rfl,rfl⟩⟩,rfl,TV⟩,X5 _⟩)
 have hn:(i:Int)<J (es.map Xk):=Oj
 obtain⟨x,hx⟩:=Xn (l:=es) hil;have au:(es.map Xk)[i]? =some (Xk x):=XC hx;rw[XwG hx] at hg;obtain⟨aK,src,dst,typ,props⟩:=x;simp only[Xk] at au hg;clear hx;by_cases hq:aK=id
 ·rw[PI hq] at hg;subst hg;subst hq;simp only[Option.getD_some,Option.isSome_some,X1e];refine UR ?_
  (exact Zz1 rfl ⟨_,ZzS,⟨⟨101,0,_,rfl,rfl,.inr ⟨5,_,rfl,rfl,rfl,rfl⟩⟩,rfl,TV⟩,X5 _⟩)
 rw[NI hq] at hg;exact QEc
def XlX {q o:Nat}{R:List (List D)}{r:List D}{d:D} (hz:∀x∈R,J x=sz) (hq:R[q]? =some r) (ho:r[o]? =some d):(Yj (R.flatten.map some++T) none)[0+q*sz+o]? =some (.d d):=by
 rw[Nat.zero_add];simp only[Yj,getElem?_map,X4t T hz hq ho];rfl
def XnJ {xs:List (List D)}{b b':List D} (h:∀x∈xs,J x=sz) (hx:xs[i]? =some b) (hb:J b'=sz):
  Yj ((xs.set i b').flatten.map some++T) none=(Yj (xs.flatten.map some++T) none).take (0+i*sz)++b'.map .d++(Yj (xs.flatten.map some++T) none).drop (0+i*sz+J (b'.map AVal.d)):=by
 have e:=XnG (a:=[]) (b:=b) (c:=[]) (b':=b') (o:=0) (T:=T) h (by simpa using hx) rfl (by rw[hb,h b (mem_of_getElem? hx)]);simp only[nil_append,append_nil,Nat.add_zero,Nat.zero_add] at e |-;exact e
def Xo1 (l:List AD):∀x∈l.map cAD,J x=3:=fun x hx=>by obtain⟨p,_,rfl⟩:=mem_map.1 hx;rfl
def XxB (e:Edg) (id:Int):Con prog 365 [] [X1e e,ai id,ai 3] [] (.tup [.agg [ai (X4a e id).1,ai (X4a e id).2.1,ai (X4a e id).2.2],ab (isA e id)]):=by
 refine ZCt func365 ntmps365 fun E=> ?_;obtain⟨iK,src,dst,typ,ps⟩:=e;simp only[X1e];by_cases h1:src=id
 ·have hs:X4a ⟨iK,src,dst,typ,ps⟩ id=(id,dst,iK):=PI h1;have hi:isA ⟨iK,src,dst,typ,ps⟩ id=true:=by simp[isA,h1]
  rw[hs,hi];clear hs hi;subst h1;refine VM ?_
  (exact Zz1 rfl ⟨_,ZzS,⟨⟨101,0,_,rfl,rfl,.inr ⟨3,_,rfl,rfl,rfl,rfl⟩⟩,rfl,TV⟩,X5 _⟩)
 by_cases h2:dst=id
 ·have hs:X4a ⟨iK,src,dst,typ,ps⟩ id=(id,src,iK):=by unfold X4a;rw[NI h1,PI h2]
  have hi:isA ⟨iK,src,dst,typ,ps⟩ id=true:=by simp[isA,h2]
  rw[hs,hi];clear hs hi;subst h2;refine QU ?_
  (exact Zz1 rfl ⟨_,ZzS,⟨⟨101,0,_,rfl,rfl,.inr ⟨3,_,rfl,rfl,rfl,rfl⟩⟩,rfl,TV⟩,X5 _⟩)
 have hs:X4a ⟨iK,src,dst,typ,ps⟩ id=(0,0,0):=by unfold X4a;rw[NI h1,NI h2]
 have hi:isA ⟨iK,src,dst,typ,ps⟩ id=false:=by simp[isA,h1,h2]
 rw[hs,hi];clear hs hi;refine X4 ?_;refine W8_ ?_
 (exact Zz1 rfl ⟨_,ZzS,⟨⟨101,0,_,rfl,rfl,.inr ⟨3,_,rfl,rfl,rfl,rfl⟩⟩,rfl,TV⟩,X5 _⟩)
def XuI (e:Edg):Con prog 366 [] [X1e e,.d (.sl 1 [])] [] (ab true):=by
 refine ZC1 func366 ntmps366 fun E=> ?_;obtain⟨iK,src,dst,typ,ps⟩:=e;simp only[X1e];refine Yh ?_
 (exact Zz2)
def Xqf (g:Gra) (id:Int) (hl:J g.aj<=100000):Con prog 343 [] [XZ g,ai id,.d (.sl 1 []),ai 3] [] (.d (.sl 3 ((X2d id [] g.aj).map cAD))):=by
 refine ZC1 func343 ntmps343 fun E=> ?_;obtain⟨ns,es,nn,ne⟩:=g;unfold XZ;simp only at hl |-;have hlm:J (es.map Xk)=J es:=Oc
 have bP:J (X2d id [] es)<=J es:=by
  rw[XcA];simp only[length_nil,Nat.zero_add];exact countP_le_length
 generalize hR:X2d id [] es=R at*;refine Ya ?_;refine X8 (Uo 9 130 3 rfl rfl rfl) ?_
 refine Xl (ι:=Nat×List AD) (fun q=>q.1<=J es/\X2d id q.2 (es.drop q.1)=R/\J q.2<=q.1) (fun q=>⟨100,[(1,ai id),(2,.d (.sl 1 [])),(3,ai 3),(4,.ptr 100 0),(9,.own 130 (J (q.2.map cAD))),(10,ai q.1)],[(100,.box [.d (.sl 3 (ns.map Xi)),.d (.sl 5 (es.map Xk)),ai nn,ai ne]),(130,.row 3 (q.2.map cAD))]⟩) (fun q=>J es-q.1) (0,[]) ⟨Nat.zero_le _,Is,Nat.le_refl _⟩
  (ZL0) ?_
 rintro⟨i,out⟩ ⟨hi,hg,qP⟩;simp only at hi hg qP;have uo:J (out.map cAD)=J out:=Oc
 by_cases hil:i<J es
 case neg=>
  have hn:¬(i:Int)<J (es.map Xk):=Oa
  rw[drop_of_length_le Oa] at hg;have hg:out=R:=hg;subst hg;refine Yr ?_;refine Qae ?_
  (exact Zz2)
 have hn:(i:Int)<J (es.map Xk):=Oa
 obtain⟨x,hx⟩:=Xn (l:=es) hil;have au:(es.map Xk)[i]? =some (Xk x):=XC hx;rw[Xyk hx] at hg;have h7:=XxB x id;have h8:=XuI x;clear hx hR bP;generalize X4a x id=a at*;generalize isA x id=ia at*;obtain⟨iK,src,dst,typ,ps⟩:=x;simp only[X1e,Xk] at h7 h8 au;cases ia with
 |false=>
  rw[NI Oc] at hg;refine QY ?_;exact⟨(i+1,out),⟨Od,hg,Od⟩,Od,ZL0⟩
 |true=>
  rw[PI rfl] at hg;have hroom:J (out.map cAD)<=100000:=Oa
  refine X4 ?_;refine YA ?_;clear h7 h8 au;obtain⟨a1,a2,a3⟩:=a;have hfl:(out.map cAD++[[.v (.int .i64 a1),.v (.int .i64 a2),.v (.int .i64 a3)]])=(Vv out (a1,a2,a3) (J out)).map cAD:=by unfold Vv;rw[PI rfl];simp[cAD]
  refine X3J 9 130 120 (n:=J out+1) (xs:=out.map cAD++[[.v (.int .i64 a1),.v (.int .i64 a2),.v (.int .i64 a3)]]) Og Oc (Eq.trans (b:= .own 130 (J (out.map cAD)+1)) rfl (by rw[uo])) Oc rfl rfl (fun c k aO bC bZ hz=> ?_);rw[hfl] at aO bZ |-;have aL:∀j,j<=J out->J ((Vv out (a1,a2,a3) j).map cAD)=J out+1:=fun j hj=>by rw[LM,XdP hj]
  rw[aL _ (Nat.le_refl _)] at aO bZ
  refine Xl (fun j:Nat=>j<=J out/\X48 out (a1,a2,a3) j=X48 out (a1,a2,a3) (J out)) (fun j=>⟨100,[(1,ai id),(2,.d (.sl 1 [])),(3,ai 3),(4,.ptr 100 0),(9,.rs 120 0 (J out+1) c),(10,ai i),(11,.ptr 101 0),(13,ai j)],[(100,.box [.d (.sl 3 (ns.map Xi)),.d (.sl 5 (es.map Xk)),ai nn,ai ne]),(101,.box [ai a1,ai a2,ai a3]),(120,.raw (((Vv out (a1,a2,a3) j).map cAD).flatten.map some++replicate k none) none)]⟩) (fun j=>j) (J out) ⟨Nat.le_refl _,rfl⟩
   (ZL0) ?_
  rintro j ⟨hj,hp⟩;have aW:=Xo1 (Vv out (a1,a2,a3) j);have hlen:=X2P (k:=k) aW;rw[aL j hj] at hlen;have hjn:j<J out+1:=Oa
  obtain⟨y,hy⟩:=Xn (l:=Vv out (a1,a2,a3) j) (k:=j) (by rw[XdP hj];omega);have cz:((Vv out (a1,a2,a3) j).map cAD)[j]? =some (cAD y):=XC hy;have hput:X48 out (a1,a2,a3) j=j->Yj (((X3g out (a1,a2,a3)).map cAD).flatten.map some++replicate k none) none=(Yj (((Vv out (a1,a2,a3) j).map cAD).flatten.map some++replicate k none) none).take (0+j*3)++[ai a1,ai a2,ai a3]++(Yj (((Vv out (a1,a2,a3) j).map cAD).flatten.map some++replicate k none) none).drop (0+j*3+J [ai a1,ai a2,ai a3]):=fun kO=>by
   have e:=XnJ (b':=cAD (a1,a2,a3)) (T:=replicate k none) aW cz rfl;rw[show cAD (a1,a2,a3)=cAD (a1,a2,a3) from rfl,<-map_set,XxQ hj,show out.take j++(a1,a2,a3)::out.drop j=X3g out (a1,a2,a3) by unfold X3g;rw[<-hp,kO]] at e;exact e
  have hbd:0+j*3+3<=J (((Vv out (a1,a2,a3) j).map cAD).flatten.map some++replicate k (none:Option D)):=by rw[hlen];omega
  have ax:J (X3g out (a1,a2,a3))=J out+1:=XlT _ _;have hnm:J ((X3g out (a1,a2,a3)).map cAD)=J out+1:=by rw[LM];exact ax
  have hnz:=Xo1 (X3g out (a1,a2,a3));have jl:=X2P (k:=k) hnz;rw[hnm] at jl;clear hy cz y hfl hz;cases j with
  |zero=>
   have kO:=hput rfl;clear hput hp;generalize X3g out (a1,a2,a3)=O at*;generalize hC:((Vv out (a1,a2,a3) 0).map cAD).flatten.map some++replicate k (none:Option D)=C at*;refine Yr ?_;refine Qva ?_;refine Qva ?_;refine Qu ?_;refine W9_ ?_;refine Zi (sz:=3) ?_;(refine Zj (cs':=((O.map cAD).flatten.map some++replicate k none)) (ho':=none) ?_ (hcs:= ?aM);(case aM=>exact kO));refine W6_ ?_;refine⟨(i+1,O),⟨Od,hg,Od⟩,Od,?_⟩;refine St.le_trans (X1x 9 120 130 (n:=J out+1) (c:=c) (O.map cAD) Og Og ?_ hnm hnz aO bC (by rw[jl];exact bZ) rfl rfl) ?_
   ·rw[<-hnm];exact Xaq hnz
   ·dsimp only;rw[hnm];exact ZL0
  |succ j=>
   obtain⟨⟨b1,b2,b3⟩,hb⟩:=Xn (l:=out) (k:=j) Oa;have gq:=Xvo (a:=(a1,a2,a3)) hb;have hsc:((Vv out (a1,a2,a3) (j+1)).map cAD)[j]? =some (cAD (b1,b2,b3)):=XC gq;have rQ:=Xrl (a:=(a1,a2,a3)) hb;rw[Xps hb] at hp hput;have hsub:(((j+1:Nat):Int)-1)=((j:Nat):Int):=Oa
   have fE:(Yj (((Vv out (a1,a2,a3) (j+1)).map cAD).flatten.map some++replicate k none) none)[0+j*3+1]? =some (ai b2):=XlX (T:=replicate k none) aW hsc rfl;have gh:(Yj (((Vv out (a1,a2,a3) (j+1)).map cAD).flatten.map some++replicate k none) none)[0+j*3+2]? =some (ai b3):=XlX (T:=replicate k none) aW hsc rfl;have hrow:((Yj (((Vv out (a1,a2,a3) (j+1)).map cAD).flatten.map some++replicate k none) none).drop (0+j*3)).take 3=[ai b1,ai b2,ai b3]:=Xfw (replicate k none) aW hsc;obtain⟨y',hy'⟩:=Xn (l:=Vv out (a1,a2,a3) (j+1)) (k:=j+1) (by rw[XdP hj];omega);have nU:Yj (((Vv out (a1,a2,a3) j).map cAD).flatten.map some++replicate k none) none=(Yj (((Vv out (a1,a2,a3) (j+1)).map cAD).flatten.map some++replicate k none) none).take (0+(j+1)*3)++[ai b1,ai b2,ai b3]++(Yj (((Vv out (a1,a2,a3) (j+1)).map cAD).flatten.map some++replicate k none) none).drop (0+(j+1)*3+J [ai b1,ai b2,ai b3]):=by
    have e:=XnJ (b':=cAD (b1,b2,b3)) (T:=replicate k none) aW (XC hy') rfl;rw[<-map_set,rQ] at e;exact e
   clear gq hsc rQ hb hy' y';have hlt:ltA (a1,a2,a3) (b1,b2,b3)=(decide (a2<b2)||(decide (a2=b2)&&decide (a3<b3))):=rfl;rw[hlt] at hp hput;generalize hC:((Vv out (a1,a2,a3) (j+1)).map cAD).flatten.map some++replicate k (none:Option D)=C at*;by_cases c1:a2<b2
   ·rw[DT c1,Bool.true_or,PI rfl] at hp;clear hput;generalize qo:((Vv out (a1,a2,a3) j).map cAD).flatten.map some++replicate k (none:Option D)=C' at*;refine XA ?_;refine Qre ?_;refine XG ?_;refine Qva ?_;refine Qs ?_;refine XK ?_;refine Qqe ?_;(refine Zn (ys:=[ai b1,ai b2,ai b3]) (sz:=3) ?_ (hy:= ?hy1);(case hy1=>exact hrow));refine Zi (sz:=3) ?_;(refine Zj (cs':=C') (ho':=none) ?_ (hcs:= ?aM);(case aM=>exact nU));refine W3_ ?_;refine ZBs (((j+1:Nat):Int)) (1) ((j:Nat)) ?_ (e:=hsub);refine W2_ ?_;exact⟨j,⟨Oa,hp⟩,Oa,X9 rfl JM ⟨rfl,rfl,by rw[qo];rfl,TV⟩⟩
   ·by_cases c2:a2=b2
    ·by_cases c3:a3<b3
     ·rw[DT c2,DT c3,Bool.and_true,Bool.or_true,PI rfl] at hp;clear hput;generalize qo:((Vv out (a1,a2,a3) j).map cAD).flatten.map some++replicate k (none:Option D)=C' at*;refine XA ?_;refine Qre ?_;refine W6_ ?_;refine Qre ?_;refine W6_ ?_;refine Qqe ?_;refine W1_ ?_;refine X12 (hg:=JSa) (hx:=JSb) (hL:=JSb) (ht:=JSb) (hd:=JSb) ?_ (hy:=by exact gh);refine XD ?_;refine Qqe ?_;(refine Zn (ys:=[ai b1,ai b2,ai b3]) (sz:=3) ?_ (hy:= ?hy1);(case hy1=>exact hrow));refine Zi (sz:=3) ?_;(refine Zj (cs':=C') (ho':=none) ?_ (hcs:= ?aM);(case aM=>exact nU));refine W3_ ?_;refine ZBs (((j+1:Nat):Int)) (1) ((j:Nat)) ?_ (e:=hsub);refine W2_ ?_;exact⟨j,⟨Oa,hp⟩,Oa,X9 rfl JM ⟨rfl,rfl,by rw[qo];rfl,TV⟩⟩
     ·rw[DF c1,DF c3,Bool.and_false,Bool.or_false,NI Oc] at hput;have kO:=hput rfl;clear hput hp nU;generalize X3g out (a1,a2,a3)=O at*;refine XA ?_;refine Qre ?_;refine W6_ ?_;refine Qre ?_;refine W6_ ?_;refine Qqe ?_;refine W1_ ?_;refine X12 (hg:=JSa) (hx:=JSb) (hL:=JSb) (ht:=JSb) (hd:=JSb) ?_ (hy:=by exact gh);refine XB ?_;refine Zi (sz:=3) ?_;(refine Zj (cs':=((O.map cAD).flatten.map some++replicate k none)) (ho':=none) ?_ (hcs:= ?aM);(case aM=>exact kO));refine W6_ ?_;refine⟨(i+1,O),⟨Od,hg,Od⟩,Od,?_⟩;refine St.le_trans (X1x 9 120 130 (n:=J out+1) (c:=c) (O.map cAD) Og Og ?_ hnm hnz aO bC (by rw[jl];exact bZ) rfl rfl) ?_
      ·rw[<-hnm];exact Xaq hnz
      ·dsimp only;rw[hnm];exact ZL0
    ·rw[DF c1,DF c2,Bool.false_and,Bool.or_false,NI Oc] at hput;have kO:=hput rfl;clear hput hp nU;generalize X3g out (a1,a2,a3)=O at*;refine XA ?_;refine Qre ?_;refine W6_ ?_;refine Qre ?_;refine Y5 ?_;refine Zi (sz:=3) ?_;(refine Zj (cs':=((O.map cAD).flatten.map some++replicate k none)) (ho':=none) ?_ (hcs:= ?aM);(case aM=>exact kO));refine W6_ ?_;refine⟨(i+1,O),⟨Od,hg,Od⟩,Od,?_⟩;refine St.le_trans (X1x 9 120 130 (n:=J out+1) (c:=c) (O.map cAD) Og Og ?_ hnm hnz aO bC (by rw[jl];exact bZ) rfl rfl) ?_
     ·rw[<-hnm];exact Xaq hnz
     ·dsimp only;rw[hnm];exact ZL0
def XwS (g:Gra) (id:Int) (hl:J g.aj<=100000):Con prog 295 [] [XZ g,ai id] [] (ab (X2b g.aj id)):=by
 refine ZC1 func295 ntmps295 fun E=> ?_;have h:=Xqf g id hl;have hu:=Xtr g.aj id;have hm:J ((X2d id [] g.aj).map cAD)=J (X2d id [] g.aj):=Oc
 generalize X2d id [] g.aj=A at*;generalize X2b g.aj id=u at*;obtain⟨ns,es,nn,ne⟩:=g;unfold XZ at*;simp only at h |-;refine XD ?_;have e:decide ((0:Int)<(J (A.map cAD):Nat))=u:=by rw[<-hu];exact decide_eq_decide.2 Oa
 (exact Zz1 rfl ⟨_,ZzS,⟨CG ab e,TV⟩,X5 _⟩)
def Xya (g:Gra) (c:Chg) (n:Nod) (hg:GV g) (hn:VT g.nodes c.id=some n) (hv:U1 c.v) (hid:1<=c.id/\c.id<=1000000):Con prog 249 [] [XZ g,Xu c,X0s n] [] (.tup [XZ (X4N g c n).1,ai (X4N g c n).2]):=by
 refine ZCt func249 ntmps249 fun E=> ?_;have bh:=hg.nl;have bM:=hg.el;obtain⟨hnm,hni⟩:=X5B hn;have aE:=(hg.nodes n hnm).2.2;have bz:=aE.ll;have aT:=aE.pl;have hlb:=Xzl n c.name Oa;rw[XtR] at hlb;have nE:=XwS g c.id Oa;have hps:=XuV n.labels c.name Oa aE.lr;have vG:=XzF n.labels c.name Oa;have hsp:=XlG n.props c.name c.v Oa hv;have cJ:∀ls ps,Con prog 246 [] [XZ g,.agg [ai n.id,.d (.sl 1 (ls.map Xf)),.d (.sl 6 (ps.map Xb))]] [] (XZ (VB g ⟨n.id,ls,ps⟩)):=fun ls ps=>Xlw g ⟨n.id,ls,ps⟩ Oa (by show 0<=n.id;omega) (by show n.id<=1000000;omega);have mz:J (n.labels.map Xf)=J n.labels:=Oc
 clear hg hn hnm hv aE;unfold X4N;obtain⟨op,id,src,dst,name,⟨vk,vn,vd,vs,vl⟩⟩:=c;obtain⟨aJ,nl,np⟩:=n;simp only[Xu,Uv,X0s,Xt] at*;subst hni;generalize XF Yp nl name=hs at*;generalize Uh np name (.mk vk vn vd vs vl)=sp at*;generalize UY aC Yp nl name [name]=ls3 at*;generalize UX Yp nl name=ls4 at*;have uq:=cJ ls3 np;have ur:=cJ ls4 np;have rR:=cJ nl sp;clear cJ;by_cases h2:op=2
 ·subst h2;rw[PI rfl];cases hu:X2b g.aj aJ with
  |true=>
   rw[PI rfl];rw[hu] at nE;obtain⟨ns,es,nn,ne⟩:=g;simp only[XZ,map_nil] at*;refine Qka ?_
   (exact Zz1 rfl ⟨_,Xg 103 (cs':=[.d (.sl 3 []),.d (.sl 5 []),ai 0,ai 0]) rfl JM rfl,⟨⟨103,0,_,rfl,rfl,.inr ⟨4,_,rfl,rfl,rfl,rfl⟩⟩,rfl,TV⟩,X5 _⟩)
  |false=>
   rw[NI Oc];rw[hu] at nE;obtain⟨ns,es,nn,ne⟩:=g;simp only[XZ] at*;have bP:=XdZ (key:=Nod.id) ns aJ;generalize hR:UX Nod.id ns aJ=R at*;have hlm:J (ns.map Xi)=J ns:=Oc
   refine QHa ?_;refine X8 (Uo 9 130 3 rfl rfl rfl) ?_
   refine Xl (ι:=Nat×List Nod) (fun q=>q.1<=J ns/\q.2++UX Nod.id (ns.drop q.1) aJ=R) (fun q=>⟨103,[(3,.ptr 100 0),(4,.ptr 101 0),(5,.ptr 102 0),(6,.ptr 103 0),(9,.own 130 (J (q.2.map Xi))),(10,ai q.1)],[(100,.box [.d (.sl 3 (ns.map Xi)),.d (.sl 5 (es.map Xk)),ai nn,ai ne]),(101,.box [ai 2,ai aJ,ai src,ai dst,.d (.v (.string (X7 name))),ai vk,ai vn,ai vd,.d (.v (.string (X7 vs))),.d (.sl 5 (XR vl))]),(102,.box [ai aJ,.d (.sl 1 (nl.map Xf)),.d (.sl 6 (np.map Xb))]),(103,.box [aq,aq,ai 0,ai 0]),(130,.row 3 (q.2.map Xi))]⟩) (fun q=>J ns-q.1) (0,[]) ⟨Nat.zero_le _,Is⟩
    (ZL0) ?_
   rintro⟨i,out⟩ ⟨hi,hg⟩;simp only at hi hg;by_cases hil:i<J ns
   case neg=>
    have hn:¬(i:Int)<J (ns.map Xi):=Oa
    rw[drop_of_length_le Oa,show UX Nod.id ([]:List Nod) aJ=[] from rfl,append_nil] at hg;subst hg;refine QYc ?_;refine X8 (XX 9 130 rfl rfl Oc) ?_;refine XB ?_
    (exact Zz1 rfl ⟨_,ZzS,⟨⟨103,0,_,rfl,rfl,.inr ⟨4,_,rfl,rfl,rfl,rfl⟩⟩,rfl,TV⟩,X5 _⟩)
   have hn:(i:Int)<J (ns.map Xi):=Oa
   obtain⟨x,hx⟩:=Xn (l:=ns) hil;have au:(ns.map Xi)[i]? =some (Xi x):=XC hx;rw[Xfa hx] at hg;have dW:=X8V hg;have hroom:J (out.map Xi)<=100000:=Oj
   obtain⟨aK,xl,xp⟩:=x;simp only[Xi] at au;clear hx;by_cases hq:aK=aJ
   ·subst hq;rw[PI rfl,nil_append] at hg;refine Uf ?_;exact QOd
   ·rw[NI (show ¬Nod.id _=aJ from hq),<-AS] at hg;have hap:(out++[(⟨aK,xl,xp⟩:Nod)]).map Xi=out.map Xi++[[.v (.int .i64 aK),.sl 1 (xl.map Xf),.sl 6 (xp.map Xb)]]:=by simp[Xi]
    exact Yt65
 rw[NI h2];by_cases h3:op=3
 ·subst h3;rw[PI rfl];cases hs with
  |true=>
   rw[PI rfl];obtain⟨ns,es,nn,ne⟩:=g;simp only[XZ,map_nil] at*;refine Qla ?_
   (exact Zz1 rfl ⟨_,Xg 103 (cs':=[.d (.sl 3 []),.d (.sl 5 []),ai 0,ai 0]) rfl JM rfl,⟨⟨103,0,_,rfl,rfl,.inr ⟨4,_,rfl,rfl,rfl,rfl⟩⟩,rfl,TV⟩,X5 _⟩)
  |false=>
   rw[NI Oc];replace hps:=hps rfl;by_cases h8:8<=J nl
   ·rw[PI h8];have uu:(8:Int)<=J (nl.map Xf):=by omega
    obtain⟨ns,es,nn,ne⟩:=g;simp only[XZ,map_nil] at*;refine Qab ?_
    (exact Zz1 rfl ⟨_,Xg 103 (cs':=[.d (.sl 3 []),.d (.sl 5 []),ai 0,ai 0]) rfl JM rfl,⟨⟨103,0,_,rfl,rfl,.inr ⟨4,_,rfl,rfl,rfl,rfl⟩⟩,rfl,TV⟩,X5 _⟩)
   ·rw[NI h8];have uu:¬(8:Int)<=J (nl.map Xf):=by omega
    generalize VB g ⟨aJ,ls3,np⟩=g' at*;obtain⟨ns,es,nn,ne⟩:=g;obtain⟨ns',es',nn',ne'⟩:=g';simp only[XZ] at*;refine Qoa ?_;refine Z5 (ag:=uq) ?_;refine W3_ ?_
    (exact Zz1 rfl ⟨_,ZzS,⟨⟨103,0,_,rfl,rfl,.inr ⟨4,_,rfl,rfl,rfl,rfl⟩⟩,rfl,TV⟩,X5 _⟩)
 rw[NI h3];by_cases h4:op=4
 ·subst h4;rw[PI rfl];cases hs with
  |false=>
   rw[PI rfl];obtain⟨ns,es,nn,ne⟩:=g;simp only[XZ,map_nil] at*;refine QZ ?_
   (exact Zz1 rfl ⟨_,Xg 103 (cs':=[.d (.sl 3 []),.d (.sl 5 []),ai 0,ai 0]) rfl JM rfl,⟨⟨103,0,_,rfl,rfl,.inr ⟨4,_,rfl,rfl,rfl,rfl⟩⟩,rfl,TV⟩,X5 _⟩)
  |true=>
   rw[NI Oc];generalize VB g ⟨aJ,ls4,np⟩=g' at*;obtain⟨ns,es,nn,ne⟩:=g;obtain⟨ns',es',nn',ne'⟩:=g';simp only[XZ] at*;refine X4 ?_;refine Us ?_;refine Z5 (ag:=ur) ?_;refine W3_ ?_
   (exact Zz1 rfl ⟨_,ZzS,⟨⟨103,0,_,rfl,rfl,.inr ⟨4,_,rfl,rfl,rfl,rfl⟩⟩,rfl,TV⟩,X5 _⟩)
 rw[NI h4];by_cases h5:16<J sp
 ·rw[PI h5];rw[DF (show ¬J sp<=16 by omega)] at hsp;obtain⟨ns,es,nn,ne⟩:=g;simp only[XZ,map_nil] at*;refine X4 ?_;refine UI ?_
  (exact Zz1 rfl ⟨_,Xg 103 (cs':=[.d (.sl 3 []),.d (.sl 5 []),ai 0,ai 0]) rfl JM rfl,⟨⟨103,0,_,rfl,rfl,.inr ⟨4,_,rfl,rfl,rfl,rfl⟩⟩,rfl,TV⟩,X5 _⟩)
 rw[NI h5];rw[DT (show J sp<=16 by omega)] at hsp;generalize VB g ⟨aJ,nl,sp⟩=g' at*;obtain⟨ns,es,nn,ne⟩:=g;obtain⟨ns',es',nn',ne'⟩:=g';simp only[XZ] at*;refine X4 ?_;refine UR ?_;refine Z5 (ag:=rR) ?_;refine W3_ ?_
 (exact Zz1 rfl ⟨_,ZzS,⟨⟨103,0,_,rfl,rfl,.inr ⟨4,_,rfl,rfl,rfl,rfl⟩⟩,rfl,TV⟩,X5 _⟩)
def XrS (g:Gra) (c:Chg) (n:Edg) (hg:GV g) (hn:X0I g.aj c.id=some n) (hv:U1 c.v) (hid:1<=c.id/\c.id<=1000000):Con prog 248 [] [XZ g,Xu c,X1e n] [] (.tup [XZ (X5P g c n).1,ai (X5P g c n).2]):=by
 refine ZCt func248 ntmps248 fun E=> ?_;have bM:=hg.el;obtain⟨hnm,hni⟩:=Xd6 hn;have aT:=(hg.aj n hnm).2.2.2.2.2.pl;have hsp:=XlG n.props c.name c.v Oa hv;have rR:=Xo0 g ⟨n.id,n.src,n.dst,n.typ,Uh n.props c.name c.v⟩ Oa (by show 0<=n.id;omega) (by show n.id<=1000000;omega);clear hg hn hnm hv;unfold X5P;obtain⟨op,id,src,dst,name,⟨vk,vn,vd,vs,vl⟩⟩:=c;obtain⟨aJ,nsr,nds,nt,np⟩:=n;simp only[Xu,Uv,X1e,Xt] at*;subst hni;generalize Uh np name (.mk vk vn vd vs vl)=sp at*;by_cases h8:op=8
 ·subst h8;rw[PI rfl];by_cases h5:16<J sp
  ·rw[PI h5];rw[DF (show ¬J sp<=16 by omega)] at hsp;obtain⟨ns,es,nn,ne⟩:=g;simp only[XZ,map_nil] at*;refine Qka ?_
   (exact Zz1 rfl ⟨_,Xg 103 (cs':=[.d (.sl 3 []),.d (.sl 5 []),ai 0,ai 0]) rfl JM rfl,⟨⟨103,0,_,rfl,rfl,.inr ⟨4,_,rfl,rfl,rfl,rfl⟩⟩,rfl,TV⟩,X5 _⟩)
  rw[NI h5];rw[DT (show J sp<=16 by omega)] at hsp;generalize X1v g ⟨aJ,nsr,nds,nt,sp⟩=g' at*;obtain⟨ns,es,nn,ne⟩:=g;obtain⟨ns',es',nn',ne'⟩:=g';simp only[XZ] at*;refine QY ?_
  (exact Zz1 rfl ⟨_,ZzS,⟨⟨103,0,_,rfl,rfl,.inr ⟨4,_,rfl,rfl,rfl,rfl⟩⟩,rfl,TV⟩,X5 _⟩)
 rw[NI h8];obtain⟨ns,es,nn,ne⟩:=g;simp only[XZ] at*;have bP:=XdZ (key:=Edg.id) es aJ;generalize hR:UX Edg.id es aJ=R at*;have hlm:J (es.map Xk)=J es:=Oc
 refine YT ?_;refine X8 (Uo 10 130 5 rfl rfl rfl) ?_
 refine Xl (ι:=Nat×List Edg) (fun q=>q.1<=J es/\q.2++UX Edg.id (es.drop q.1) aJ=R) (fun q=>⟨60,[(3,.ptr 100 0),(4,.ptr 101 0),(5,.ptr 102 0),(6,.ptr 103 0),(10,.own 130 (J (q.2.map Xk))),(11,ai q.1)],[(100,.box [.d (.sl 3 (ns.map Xi)),.d (.sl 5 (es.map Xk)),ai nn,ai ne]),(101,.box [ai op,ai aJ,ai src,ai dst,.d (.v (.string (X7 name))),ai vk,ai vn,ai vd,.d (.v (.string (X7 vs))),.d (.sl 5 (XR vl))]),(102,.box [ai aJ,ai nsr,ai nds,.d (.v (.string (X7 nt))),.d (.sl 6 (np.map Xb))]),(103,.box [aq,aq,ai 0,ai 0]),(130,.row 5 (q.2.map Xk))]⟩) (fun q=>J es-q.1) (0,[]) ⟨Nat.zero_le _,Is⟩
  (ZL0) ?_
 rintro⟨i,out⟩ ⟨hi,hg⟩;simp only at hi hg;by_cases hil:i<J es
 case neg=>
  have hn:¬(i:Int)<J (es.map Xk):=Oa
  rw[drop_of_length_le Oa,show UX Edg.id ([]:List Edg) aJ=[] from rfl,append_nil] at hg;subst hg;refine QYc ?_;refine X8 (XX 10 130 rfl rfl Oc) ?_;refine XB ?_
  (exact Zz1 rfl ⟨_,ZzS,⟨⟨103,0,_,rfl,rfl,.inr ⟨4,_,rfl,rfl,rfl,rfl⟩⟩,rfl,TV⟩,X5 _⟩)
 have hn:(i:Int)<J (es.map Xk):=Oa
 obtain⟨x,hx⟩:=Xn (l:=es) hil;have au:(es.map Xk)[i]? =some (Xk x):=XC hx;rw[Xfa hx] at hg;have dW:=X8V hg;have hroom:J (out.map Xk)<=100000:=Oj
 obtain⟨aK,xs,xd,xt,xp⟩:=x;simp only[Xk] at au;clear hx;by_cases hq:aK=aJ
 ·subst hq;rw[PI rfl,nil_append] at hg;refine Uf ?_;exact QOd
 ·rw[NI (show ¬Edg.id _=aJ from hq),<-AS] at hg;have hap:(out++[(⟨aK,xs,xd,xt,xp⟩:Edg)]).map Xk=out.map Xk++[[.v (.int .i64 aK),.v (.int .i64 xs),.v (.int .i64 xd),.v (.string (X7 xt)),.sl 6 (xp.map Xb)]]:=by simp[Xk]
  exact Yt65
def Xxk (g:Gra) (c:Chg) (hg:GV g) (hv:U1 c.v):Con prog 191 [] [XZ g,Xu c] [] (.tup [XZ (YR g c).1,ai (YR g c).2]):=by
 refine ZCt func191 ntmps191 fun E=> ?_;have hk:=XbD c hv;unfold YR;by_cases hc:YE c≠0
 ·rw[PI hc];generalize YE c=e at*;obtain⟨op,id,src,dst,name,⟨vk,vn,vd,vs,vl⟩⟩:=c;obtain⟨ns,es,nn,ne⟩:=g;simp only[XZ,Xu,Uv,map_nil] at*;refine YT ?_
  (exact Zz1 rfl ⟨_,Xg 102 (cs':=[.d (.sl 3 []),.d (.sl 5 []),ai 0,ai 0]) rfl JM rfl,⟨⟨102,0,_,rfl,rfl,.inr ⟨4,_,rfl,rfl,rfl,rfl⟩⟩,rfl,TV⟩,X5 _⟩)
 rw[NI hc];have hc:YE c=0:=I5
 rw[hc] at hk;obtain⟨⟨o1,o8⟩,hid,-,-⟩:=XdG hc;have hfit:∀n∈g.nodes,XiQ n:=fun n hn=>by
  have hp:=(hg.nodes n hn).2.2;have h1:=hp.ll;have h2:=hp.pl;exact⟨Oa,Oa,hp.pv⟩
 have bh:=hg.nl;have bM:=hg.el;have hN:=fun k=>Xxu g k Oa hfit;have hE:=XrN g c.id Oa;have rS:∀k,X6d g.nodes k=VT g.nodes k:=fun _=>rfl;have rT:X65 g.aj c.id=X0I g.aj c.id:=rfl;simp only[rS] at hN;rw[rT] at hE;have fU:=hN c.id;have lE:=hN c.src;have iV:=hN c.dst;have cJ:=Xlw g ⟨c.id,[],[]⟩ Oa (by show 0<=c.id;omega) (by show c.id<=1000000;omega);have aR:=Xo0 g ⟨c.id,c.src,c.dst,c.name,[]⟩ Oa (by show 0<=c.id;omega) (by show c.id<=1000000;omega);have kP:=fun n hn=>Xya g c n hg hn hv hid;have jO:=fun n hn=>XrS g c n hg hn hv hid;have mz:J (g.nodes.map Xi)=J g.nodes:=Oc
 have l6:J (g.aj.map Xk)=J g.aj:=Oc
 clear hN hfit rS rT hc hv;unfold X0j;rw[X9m,XeT,X9m,X9m];clear hg;by_cases h1:c.op=1
 ·rw[PI h1];clear kP jO aR lE iV;cases fq:VT g.nodes c.id with
  |some n=>
   rw[fq] at fU;simp only[Option.isSome_some,Option.getD_some,if_true] at fU |-;clear cJ;obtain⟨aJ,nl,np⟩:=n;generalize (X0I g.aj c.id).isSome=eb at*;generalize (X0I g.aj c.id).getD X7I=ed at*;obtain⟨op,id,src,dst,name,⟨vk,vn,vd,vs,vl⟩⟩:=c;obtain⟨ns,es,nn,ne⟩:=g;obtain⟨nV,l9,ld,lf,nW⟩:=ed;simp only[XZ,Xu,Uv,X0s,X1e,map_nil] at*;refine Qte ?_;refine Qia ?_
   (exact Zz1 rfl ⟨_,Xg 102 (cs':=[.d (.sl 3 []),.d (.sl 5 []),ai 0,ai 0]) rfl JM rfl,⟨⟨102,0,_,rfl,rfl,.inr ⟨4,_,rfl,rfl,rfl,rfl⟩⟩,rfl,TV⟩,X5 _⟩)
  |none=>
   rw[fq] at fU;simp only[Option.isSome_none,Option.getD_none,Bool.false_eq_true,if_false] at fU |-;generalize (X0I g.aj c.id).isSome=eb at*;generalize (X0I g.aj c.id).getD X7I=ed at*;obtain⟨nV,l9,ld,lf,nW⟩:=ed;by_cases h2:2000<=J g.nodes
   ·rw[PI h2];have dr:(2000:Int)<=J (g.nodes.map Xi):=by omega
    clear cJ;obtain⟨op,id,src,dst,name,⟨vk,vn,vd,vs,vl⟩⟩:=c;obtain⟨ns,es,nn,ne⟩:=g;simp only[XZ,Xu,Uv,X0s,X5o,X1e,map_nil] at*;refine Qte ?_;refine QWa ?_
    (exact Zz1 rfl ⟨_,Xg 102 (cs':=[.d (.sl 3 []),.d (.sl 5 []),ai 0,ai 0]) rfl JM rfl,⟨⟨102,0,_,rfl,rfl,.inr ⟨4,_,rfl,rfl,rfl,rfl⟩⟩,rfl,TV⟩,X5 _⟩)
   ·rw[NI h2];have dr:¬(2000:Int)<=J (g.nodes.map Xi):=by omega
    generalize VB g ⟨c.id,[],[]⟩=g' at*;obtain⟨op,id,src,dst,name,⟨vk,vn,vd,vs,vl⟩⟩:=c;obtain⟨ns,es,nn,ne⟩:=g;obtain⟨ns',es',nn',ne'⟩:=g';simp only[XZ,Xu,Uv,X0s,X5o,X1e,map_nil] at*;refine Qte ?_;refine X4 ?_;refine YV ?_
    (exact Zz1 rfl ⟨_,ZzS,⟨⟨102,0,_,rfl,rfl,.inr ⟨4,_,rfl,rfl,rfl,rfl⟩⟩,rfl,TV⟩,X5 _⟩)
 rw[NI h1];by_cases h6:c.op=6
 ·rw[PI h6];clear kP jO cJ;generalize (VT g.nodes c.id).isSome=nb at*;generalize (VT g.nodes c.id).getD X5o=nd at*;generalize (VT g.nodes c.src).getD X5o=sd at*;generalize (VT g.nodes c.dst).getD X5o=dd at*;generalize (VT g.nodes c.src).isSome=sb at*;generalize (VT g.nodes c.dst).isSome=db at*;generalize (X0I g.aj c.id).isSome=eb at*;generalize (X0I g.aj c.id).getD X7I=ed at*;obtain⟨nV,l9,ld,lf,nW⟩:=ed;obtain⟨aJ,nl,np⟩:=nd;obtain⟨sid,sl,sp⟩:=sd;obtain⟨tid,tl,tp⟩:=dd;cases eb with
  |true=>
   simp only[if_true];clear aR;obtain⟨op,id,src,dst,name,⟨vk,vn,vd,vs,vl⟩⟩:=c;obtain⟨ns,es,nn,ne⟩:=g;simp only[XZ,Xu,Uv,X0s,X1e,map_nil] at*;refine Que ?_;refine YS ?_
   (exact Zz1 rfl ⟨_,Xg 102 (cs':=[.d (.sl 3 []),.d (.sl 5 []),ai 0,ai 0]) rfl JM rfl,⟨⟨102,0,_,rfl,rfl,.inr ⟨4,_,rfl,rfl,rfl,rfl⟩⟩,rfl,TV⟩,X5 _⟩)
  |false=>
   simp only[Bool.false_eq_true,if_false];by_cases dS:sb=false\/db=false
   ·rw[PI dS];clear aR;obtain⟨op,id,src,dst,name,⟨vk,vn,vd,vs,vl⟩⟩:=c;obtain⟨ns,es,nn,ne⟩:=g;simp only[XZ,Xu,Uv,X0s,X1e,map_nil] at*;cases sb with
    |false=>
     exact Yt38
    |true=>
     obtain rfl:db=false:=by simpa using dS
     exact Yt38
   rw[NI dS];obtain⟨rfl,rfl⟩:sb=true/\db=true:=by simpa [not_or] using dS
   by_cases h4:4000<=J g.aj
   ·rw[PI h4];have uv:(4000:Int)<=J (g.aj.map Xk):=by omega
    clear aR;obtain⟨op,id,src,dst,name,⟨vk,vn,vd,vs,vl⟩⟩:=c;obtain⟨ns,es,nn,ne⟩:=g;simp only[XZ,Xu,Uv,X0s,X1e,map_nil] at*;refine Que ?_;refine QO ?_
    (exact Zz1 rfl ⟨_,Xg 102 (cs':=[.d (.sl 3 []),.d (.sl 5 []),ai 0,ai 0]) rfl JM rfl,⟨⟨102,0,_,rfl,rfl,.inr ⟨4,_,rfl,rfl,rfl,rfl⟩⟩,rfl,TV⟩,X5 _⟩)
   rw[NI h4];have uv:¬(4000:Int)<=J (g.aj.map Xk):=Oa
   generalize X1v g ⟨c.id,c.src,c.dst,c.name,[]⟩=g' at*;obtain⟨op,id,src,dst,name,⟨vk,vn,vd,vs,vl⟩⟩:=c;obtain⟨ns,es,nn,ne⟩:=g;obtain⟨ns',es',nn',ne'⟩:=g';simp only[XZ,Xu,Uv,X0s,X1e,map_nil] at*;refine Que ?_;refine QU ?_
   (exact Zz1 rfl ⟨_,ZzS,⟨⟨102,0,_,rfl,rfl,.inr ⟨4,_,rfl,rfl,rfl,rfl⟩⟩,rfl,TV⟩,X5 _⟩)
 rw[NI h6];clear cJ aR lE iV;by_cases h7:c.op=7\/c.op=8
 ·rw[PI h7];clear kP;generalize (VT g.nodes c.id).isSome=nb at*;generalize (VT g.nodes c.id).getD X5o=nd at*;obtain⟨aJ,nl,np⟩:=nd;cases he:X0I g.aj c.id with
  |none=>
   rw[he] at hE;simp only[Option.isSome_none,Option.getD_none] at hE |-;clear jO;obtain⟨op,id,src,dst,name,⟨vk,vn,vd,vs,vl⟩⟩:=c;obtain⟨ns,es,nn,ne⟩:=g;simp only[XZ,Xu,Uv,X0s,X1e,X7I,map_nil] at*;rcases h7 with rfl|rfl
   ·refine Qte ?_;refine QUa ?_
    (exact Zz1 rfl ⟨_,Xg 102 (cs':=[.d (.sl 3 []),.d (.sl 5 []),ai 0,ai 0]) rfl JM rfl,⟨⟨102,0,_,rfl,rfl,.inr ⟨4,_,rfl,rfl,rfl,rfl⟩⟩,rfl,TV⟩,X5 _⟩)
   ·refine Qte ?_;refine X4 ?_;refine YA ?_
    (exact Zz1 rfl ⟨_,Xg 102 (cs':=[.d (.sl 3 []),.d (.sl 5 []),ai 0,ai 0]) rfl JM rfl,⟨⟨102,0,_,rfl,rfl,.inr ⟨4,_,rfl,rfl,rfl,rfl⟩⟩,rfl,TV⟩,X5 _⟩)
  |some e=>
   rw[he] at hE;simp only[Option.isSome_some,Option.getD_some] at hE |-;replace jO:=jO e he;generalize X5P g c e=g' at*;obtain⟨op,id,src,dst,name,⟨vk,vn,vd,vs,vl⟩⟩:=c;obtain⟨ns,es,nn,ne⟩:=g;obtain⟨⟨ns',es',nn',ne'⟩,ee⟩:=g';obtain⟨nV,l9,ld,lf,nW⟩:=e;simp only[XZ,Xu,Uv,X0s,X1e,map_nil] at*;rcases h7 with rfl|rfl
   ·refine Qte ?_;refine QUa ?_;refine Z5 (ag:=jO) ?_;refine W5_ ?_
    (exact Zz1 rfl ⟨_,ZzS,⟨⟨102,0,_,rfl,rfl,.inr ⟨4,_,rfl,rfl,rfl,rfl⟩⟩,rfl,TV⟩,X5 _⟩)
   ·refine Qte ?_;refine X4 ?_;refine YA ?_;refine Z5 (ag:=jO) ?_;refine W5_ ?_
    (exact Zz1 rfl ⟨_,ZzS,⟨⟨102,0,_,rfl,rfl,.inr ⟨4,_,rfl,rfl,rfl,rfl⟩⟩,rfl,TV⟩,X5 _⟩)
 rw[NI h7];have vH:¬c.op=7:=fun h=>h7 (.inl h);have vI:¬c.op=8:=fun h=>h7 (.inr h);clear jO;generalize (X0I g.aj c.id).isSome=eb at*;generalize (X0I g.aj c.id).getD X7I=ed at*;obtain⟨nV,l9,ld,lf,nW⟩:=ed;cases fq:VT g.nodes c.id with
 |none=>
  rw[fq] at fU;simp only[Option.isSome_none,Option.getD_none] at fU |-;clear kP;obtain⟨op,id,src,dst,name,⟨vk,vn,vd,vs,vl⟩⟩:=c;obtain⟨ns,es,nn,ne⟩:=g;simp only[XZ,Xu,Uv,X0s,X1e,X5o,map_nil] at*;refine Qte ?_;refine Qna ?_
  (exact Zz1 rfl ⟨_,Xg 102 (cs':=[.d (.sl 3 []),.d (.sl 5 []),ai 0,ai 0]) rfl JM rfl,⟨⟨102,0,_,rfl,rfl,.inr ⟨4,_,rfl,rfl,rfl,rfl⟩⟩,rfl,TV⟩,X5 _⟩)
 |some n=>
  rw[fq] at fU;simp only[Option.isSome_some,Option.getD_some] at fU |-;replace kP:=kP n fq;generalize X4N g c n=g' at*;obtain⟨op,id,src,dst,name,⟨vk,vn,vd,vs,vl⟩⟩:=c;obtain⟨ns,es,nn,ne⟩:=g;obtain⟨⟨ns',es',nn',ne'⟩,ee⟩:=g';obtain⟨aJ,nl,np⟩:=n;simp only[XZ,Xu,Uv,X0s,X1e,map_nil] at*;refine Qte ?_;refine Qna ?_;refine Z5 (ag:=kP) ?_;refine W5_ ?_
  (exact Zz1 rfl ⟨_,ZzS,⟨⟨102,0,_,rfl,rfl,.inr ⟨4,_,rfl,rfl,rfl,rfl⟩⟩,rfl,TV⟩,X5 _⟩)
def XmR (g:Gra) (l:List Chg) (hg:GraHold g) (hl:J l<=9223372036854775807) (hok:∀c∈l,X4G c):Con prog 119 [] [XZ g,.d (.sl 10 (l.map Xp))] [] (.tup [XZ (UW g l).1,ai (UW g l).2.1,ai (UW g l).2.2]):=by
 refine ZCt func119 ntmps119 fun E=> ?_;have hk:=Xbh g hg;have hlm:J (l.map Xp)=J l:=Oc
 unfold UW;by_cases hc:X0w g≠0
 ·rw[PI hc];clear hg;generalize X0w g=e at*;obtain⟨ns,es,nn,ne⟩:=g;simp only[XZ,map_nil] at*;refine U7 ?_
  (exact Zz1 rfl ⟨_,Xg 101 (cs':=[.d (.sl 3 []),.d (.sl 5 []),ai 0,ai 0]) rfl JM rfl,⟨⟨101,0,_,rfl,rfl,.inr ⟨4,_,rfl,rfl,rfl,rfl⟩⟩,rfl,rfl,TV⟩,X5 _⟩)
 rw[NI hc];have hc:X0w g=0:=I5
 rw[hc] at hk;have hv:=X6Q.1 hc;clear hc hg;generalize hR:VY g 0 l=R;obtain⟨ns,es,nn,ne⟩:=g;simp only[XZ] at hk |-;refine YT ?_;clear hk
 refine Xl (ι:=Nat×Gra) (fun q=>q.1<=J l/\GV q.2/\VY q.2 q.1 (l.drop q.1)=R) (fun q=>⟨41,[(1,.d (.sl 10 (l.map Xp))),(2,.ptr 100 0),(4,.ptr 101 0),(8,ai q.1)],[(100,.box [.d (.sl 3 (q.2.nodes.map Xi)),.d (.sl 5 (q.2.aj.map Xk)),ai q.2.nn,ai q.2.ne]),(101,.box [aq,aq,ai 0,ai 0])]⟩) (fun q=>J l-q.1) (0,⟨ns,es,nn,ne⟩) ⟨Nat.zero_le _,hv,Is⟩
  (ZL0) ?_
 rintro⟨i,g⟩ ⟨hi,hg,hr⟩;simp only at hi hg hr;clear hv hR;by_cases hil:i<J l
 case neg=>
  have hn:¬(i:Int)<J (l.map Xp):=Oa
  rw[XmD Oa] at hr;obtain rfl:i=J l:=Oa
  subst hr;obtain⟨ns,es,nn,ne⟩:=g;simp only;rw[<-hlm];refine YS ?_
  (exact Zz1 rfl ⟨_,ZzS,⟨⟨101,0,_,rfl,rfl,.inr ⟨4,_,rfl,rfl,rfl,rfl⟩⟩,rfl,rfl,TV⟩,X5 _⟩)
 have hn:(i:Int)<J (l.map Xp):=Oa
 obtain⟨x,hx⟩:=Xn (l:=l) hil;have au:(l.map Xp)[i]? =some (Xp x):=XC hx;have hs:=Xxk g x hg (hok x (mem_of_getElem? hx)).2;rw[Xjf hx] at hr;by_cases hq:(YR g x).2≠0
 ·rw[PI hq] at hr;subst hr;clear hx hg;generalize (YR g x).2=e at*;generalize (YR g x).1=g' at*;obtain⟨op,id,src,dst,name,⟨vk,vn,vd,vs,vl⟩⟩:=x;obtain⟨ns,es,nn,ne⟩:=g;obtain⟨ns',es',nn',ne'⟩:=g';simp only[XZ,Xu,Uv,Xp,map_nil] at*;refine Qua ?_
  (exact Zz1 rfl ⟨_,Xg 101 (cs':=[.d (.sl 3 []),.d (.sl 5 []),ai 0,ai 0]) rfl JM rfl,⟨⟨101,0,_,rfl,rfl,.inr ⟨4,_,rfl,rfl,rfl,rfl⟩⟩,rfl,rfl,TV⟩,X5 _⟩)
 rw[NI hq] at hr;have hq:(YR g x).2=0:=by simpa using hq
 have hg':=XdS hg hq;rw[hq] at hs;clear hx hg;generalize (YR g x).1=g' at*;obtain⟨op,id,src,dst,name,⟨vk,vn,vd,vs,vl⟩⟩:=x;obtain⟨ns,es,nn,ne⟩:=g;obtain⟨ns',es',nn',ne'⟩:=g';simp only[XZ,Xu,Uv,Xp,map_nil] at*;refine Qka ?_;exact⟨(i+1,⟨ns',es',nn',ne'⟩),⟨Od,hg',hr⟩,Od,ZL0⟩
end Go.Fw

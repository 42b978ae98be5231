/- A property of an edge. -/
import Derived.Tactics
import Derived.Tactics2
import Derived.Defers
import Derived.Recover
import Derived.Laws.Pointers
import Derived.Test.YtfmfekakaeafhaaGreatDoorP30
set_option linter.all false
set_option maxHeartbeats 32000000
namespace Go.Fw
open Go Go.Proofs Tryz List
open List renaming length->J
set_option maxRecDepth 100000
def Xwl (g:Gra) (c:Chg) (x:Edg) (hg:GV g) (ho:c.op=8) (hx:X0I g.aj c.id=some x) (q1:J (Uh x.props c.name c.v)<=16):
  Con prog 238 (edS g) [.ptr 0 0,Xu c] (edE (X1v g ⟨x.id,x.src,x.dst,x.typ,Uh x.props c.name c.v⟩)) (.tup []):=by
 have bu:=Xd6 hx;rw[Xig hg] at hx;obtain⟨ns,es,nn,ne⟩:=g;have aP:=hg.es;have hel:=hg.el;have aE:=(hg.aj x bu.1).2.2.2.2.2;simp only at hx aP hel;obtain⟨x',hx',bE⟩:=Option.bind_eq_some_iff.1 hx;obtain⟨hk,rfl⟩:x'.id=c.id/\x'=x:=by by_cases e:x'.id=c.id<;>simp[e] at bE |-;exact bE
 have q0:XF Edg.id es c.id=true:=by rw[X1f Vp aP];exact DT ⟨x',hx',hk⟩
 rw[XuF hg hx' hk Jr];have hle:Xr ltI Edg.id es c.id<J es:=(GS.1 hx').1;refine VQ (xs:=[]) func238 rfl ntmps238 rfl rfl rfl (fun E=> ?_);refine Xdv ?_;refine X0T rfl rfl rfl rfl (fun xs ys h1 h2=> ?_);subst h1 h2;have hE:=X4R (xs.map rXN) (ys.map rXE) nn ne c.id OW ((X53 ys).2 aP);rw[X4u,X58,q0] at hE;simp only[edL,LM] at hE hel hle;generalize Xr ltI Edg.id (ys.map (·.1)) c.id=i at*;obtain⟨⟨x1,u⟩,hy0,rfl⟩:∃y:XE,ys[i]? =some y/\y.1=x':=by
  exact Yt10
 simp only at*;have oM:=X08 11;have hS:=YU 110 122 (YU 1 121 (Xlc x1.props c.name c.v aE.pr aE.pl q1));have hS:Con prog 288 [(121,.row 6 (x1.props.map Xb))] [.own 121 (J x1.props),.d (.v (.string (X7 c.name))),Xt c.v] [(121,.dead),(122,.row 6 ((Uh x1.props c.name c.v).map Xb))] (.own 122 (J (Uh x1.props c.name c.v))):=by
  clear q1;rcases c with ⟨_,_,_,_,_,⟨_,_,_,_,_⟩⟩;exact hS
 clear q1;generalize Uh x1.props c.name c.v=ps' at*;have eR:∀u',((ys.map rXE).map cRE).set i ([.v (.int .i64 x1.id),.v (.int .i64 x1.src),.v (.int .i64 x1.dst),.v (.string (X7 x1.typ)),.v u'])=((ys.set i ((⟨x1.id,x1.src,x1.dst,x1.typ,ps'⟩:Edg),u')).map rXE).map cRE:=fun u'=>Xrh hy0 (y:=((⟨x1.id,x1.src,x1.dst,x1.typ,ps'⟩:Edg),u'));have eB:∀u',(U2 (ys.take i))++(u',6,ps'.map Xb)::U2 (ys.drop (i+1))=U2 (ys.set i ((⟨x1.id,x1.src,x1.dst,x1.typ,ps'⟩:Edg),u')):=fun u'=>Xpv hy0 (y:=((⟨x1.id,x1.src,x1.dst,x1.typ,ps'⟩:Edg),u'));have bO:=Xcv hy0;simp only at bO;have eX:∀u',(ys.map (·.1)).set i ⟨x1.id,x1.src,x1.dst,x1.typ,ps'⟩=(ys.set i ((⟨x1.id,x1.src,x1.dst,x1.typ,ps'⟩:Edg),u')).map (·.1):=fun u'=>by rw[map_set]
 have ay:J ys=J ((ys.map rXE).map cRE):=Oc
 have fo:((ys.map rXE).map cRE)[i]? =some [.v (.int .i64 x1.id),.v (.int .i64 x1.src),.v (.int .i64 x1.dst),.v (.string (X7 x1.typ)),.v u]:=by
  rw[getElem?_map,getElem?_map,hy0];rfl
 have lD:=X6Y (ys.map rXE);simp only[edE,edS,LM];clear hg aP hx hx' bE bu aE q0 hel;generalize hR:(ys.map rXE).map cRE=R at*;have hlm:J (x1.props.map Xb)=J x1.props:=Oc
 generalize ax:J x1.props=nl at*;obtain⟨op,id,src,dst,name,⟨k0,k1,k2,k3,k4⟩⟩:=c;simp only at ho;subst ho;simp only[Xu,Uv,Xt,X1q] at*;refine Qmd ?_;refine YG ?_;show AWP prog E _ _ _;refine X3T 0 1 4 120 rfl Oa rfl rfl ay rfl rfl (fun cp k aO bC bZ _=> ?_);refine QEd ?_;rw[hlm];have je:=X2P (k:=k) lD;have bK:=fun u':Value=>XbL (n:=J ys) (replicate k none) lD fo (o:=4) (d:= .v u') Oc ay;simp only[set_cons_succ,set_cons_zero] at bK;generalize map some R.flatten++replicate k none=C at*;have hj:i*5+4<J C:=Oa
 have hrd:=X5k (y:= .own 121 nl) hj;have cO:=Xai (y:= .own 121 nl) (z:= .own 122 (J ps')) hj;have cY:0+i*5+4=i*5+4:=Oa
 have fT:=Eq.trans (CG (fun z=>(Yj C (some (_,.own 121 nl)))[z]?) cY) hrd;have hbd:0+i*5+4+1<=J C:=Oa
 have bP:J R=J ys:=ay.symm;clear ay ax;have dI:=hlm.symm;refine XK ?_;refine Zi (sz:=5) ?_;refine W1_ ?_;refine Qjd ?_;refine Z5 (ag:=hS) ?_;refine Zi (sz:=5) ?_;refine W1_ ?_;(refine Zj (cs':=C) (ho':=some (i*5+4,.own 122 (J ps'))) ?_ (hcs:= ?aM);(case aM=>exact IQ));refine W1_ ?_;show clo _ _ _ _;refine Xcn 120 211 (i*5+4) 122 (U2 (ys.take i)) (U2 (ys.drop (i+1))) Og hj Og Og (by rw[LM]) (fun u'=> ?_);have hcap:cp*5<=J (C.set (i*5+4) (some (.v u'))):=Jb
 refine X3D (X8O 0 1 120 110 (R.set i ([.v (.int .i64 x1.id),.v (.int .i64 x1.src),.v (.int .i64 x1.dst),.v (.string (X7 x1.typ)),.v u'])) Og Og rfl (bK u') IR (fun y hy=>by
  rcases mem_or_eq_of_mem_set hy with hy|rfl
  ·exact lD y hy
  ·rfl) Oa bC hcap rfl rfl) ?_
 refine X3D (X4o 110 211 (ys.set i ((⟨x1.id,x1.src,x1.dst,x1.typ,ps'⟩:Edg),u')) (by refine Eq.trans (b:= .row 5 (R.set i ([.v (.int .i64 x1.id),.v (.int .i64 x1.src),.v (.int .i64 x1.dst),.v (.string (X7 x1.typ)),.v u']))) Og JB) (by refine Eq.trans (b:= .bag (U2 (ys.take i)++(u',6,ps'.map Xb)::U2 (ys.drop (i+1)))) Og JC)) ?_;refine X3D (X4L 3 210 xs Og Og) ?_;refine XcL (show Vw _ _ _ _ _ from⟨_,ZzS,TV,?_⟩);rw[eX u',LM,length_set];exact Xm ⟨rfl,rfl,rfl,rfl,TV⟩
def Xzd (g:Gra) (c:Chg) (hg:GV g) (ho:c.op=1) (q1:XF Nod.id g.nodes c.id=true):
  X0d prog 237 (edS g) [.ptr 0 0,Xu c] (X0R 7):=by
 obtain⟨ns,es,nn,ne⟩:=g;have aB:=hg.ns;have ax:=hg.nl;have aP:=hg.es;have hel:=hg.el;simp only at q1 aB aP ax hel;refine X21 func237 rfl ntmps237 rfl (fun E=> ?_);refine X0T rfl rfl rfl rfl (fun xs ys h1 h2=> ?_);subst h1 h2;have hN:=X1b (xs.map rXN) (ys.map rXE) nn ne c.id Ow ((X19 xs).2 aB);rw[X1l,X1i,q1] at hN;simp only[edL,LM] at hN ax;generalize Xr ltI Nod.id (xs.map (·.1)) c.id=i at*;simp only[edS,LM];clear hg aB aP;obtain⟨op,id,src,dst,name,⟨k0,k1,k2,k3,k4⟩⟩:=c;simp only at ho;subst ho;simp only[Xu,Uv] at*;refine Qad ?_;refine Ya ?_;refine X2D 2 rfl (fun _=>rfl) ?_;refine W2_ ?_
 (refine .done (fun h=>Bool.noConfusion h) ?_;apply X2K (ag:=X2G 7);(case hxs=>exact rfl);(case hys=>conv=>lhs;whnf);(case hle=>((repeat (first|exact trivial|refine⟨Ob,?_⟩|fail))<;>fail));(case hf=>exact rfl);(case bB=>exact JAd))
def XyI (g:Gra) (c:Chg) (hg:GV g) (ho:c.op=1) (q1:XF Nod.id g.nodes c.id=false) (q2:¬J g.nodes<2000):
  X0d prog 237 (edS g) [.ptr 0 0,Xu c] (X0R 20):=by
 obtain⟨ns,es,nn,ne⟩:=g;have aB:=hg.ns;have ax:=hg.nl;have aP:=hg.es;have hel:=hg.el;simp only at q1 q2 aB aP ax hel;refine X21 func237 rfl ntmps237 rfl (fun E=> ?_);refine X0T rfl rfl rfl rfl (fun xs ys h1 h2=> ?_);subst h1 h2;have hN:=X1b (xs.map rXN) (ys.map rXE) nn ne c.id Ow ((X19 xs).2 aB);rw[X1l,X1i,q1] at hN;simp only[edL,LM] at hN ax q2;generalize Xr ltI Nod.id (xs.map (·.1)) c.id=i at*;have gQ:=X08 7;have ay:J xs=J ((xs.map rXN).map cRN):=Oc
 have gz:¬(J ((xs.map rXN).map cRN):Int)<2000:=by rw[<-ay];omega
 generalize (xs.map rXN).map cRN=R at*;simp only[edS,LM];clear hg aB aP;obtain⟨op,id,src,dst,name,⟨k0,k1,k2,k3,k4⟩⟩:=c;simp only at ho;subst ho;simp only[Xu,Uv] at*;refine Qad ?_;refine Y5 ?_;refine X2D 7 rfl (fun _=>rfl) ?_;refine W6_ ?_;refine Zk (op:= .lss) (r':= .bool false) (u:= .int .i64 (J R:Nat)) (v:= .int .i64 2000) ?_ (hr':=by exact CG Value.bool (DF gz))
 (refine .done (fun h=>Bool.noConfusion h) ?_;apply X2K (ag:=X2G 20);(case hxs=>exact rfl);(case hys=>conv=>lhs;whnf);(case hle=>((repeat (first|exact trivial|refine⟨Ob,?_⟩|fail))<;>fail));(case hf=>exact rfl);(case bB=>exact JAd))
def Xyd (g:Gra) (c:Chg) (hg:GV g) (ho:¬c.op=1) (q1:XF Nod.id g.nodes c.id=false):
  X0d prog 237 (edS g) [.ptr 0 0,Xu c] (X0R 10):=by
 obtain⟨ns,es,nn,ne⟩:=g;have aB:=hg.ns;have ax:=hg.nl;have aP:=hg.es;have hel:=hg.el;simp only at q1 aB aP ax hel;refine X21 func237 rfl ntmps237 rfl (fun E=> ?_);refine X0T rfl rfl rfl rfl (fun xs ys h1 h2=> ?_);subst h1 h2;have hN:=X1b (xs.map rXN) (ys.map rXE) nn ne c.id Ow ((X19 xs).2 aB);rw[X1l,X1i,q1] at hN;simp only[edL,LM] at hN ax;generalize Xr ltI Nod.id (xs.map (·.1)) c.id=i at*;simp only[edS,LM];clear hg aB aP;obtain⟨op,id,src,dst,name,⟨k0,k1,k2,k3,k4⟩⟩:=c;simp only at ho;simp only[Xu,Uv] at*;refine Qad ?_;refine XB ?_;refine Zm (op:= .eql) (r':= .bool false) (u:= .int .i64 op) (v:= .int .i64 1) ?_ (hr':=by exact CG Value.bool (DF ho));refine W4_ ?_;refine QFd ?_
 (refine .done (fun h=>Bool.noConfusion h) ?_;apply X2K (ag:=X2G 10);(case hxs=>exact rfl);(case hys=>conv=>lhs;whnf);(case hle=>((repeat (first|exact trivial|refine⟨Ob,?_⟩|fail))<;>fail));(case hf=>exact rfl);(case bB=>exact JAd))
def XqD (ys:List XE) (n:Int) (h:X2b (ys.map (·.1)) n=true):∃k,∃hk:k<J ys,(ys[k].1.src=n\/ys[k].1.dst=n)/\∀j (hj:j<J ys),j<k->ys[j].1.src≠n/\ys[j].1.dst≠n:=by
 induction ys with
 |nil=>simp[X2b] at h
 |cons y ys ih=>
  by_cases hy:y.1.src=n\/y.1.dst=n
  ·exact⟨0,Oc,hy,fun j _ h=>Oa⟩
  ·have h':X2b (ys.map (·.1)) n=true:=by
    unfold X2b at h |-;rw[map_cons,any_cons] at h;simpa [hy] using h
   obtain⟨k,hk,e1,e2⟩:=ih h';refine⟨k+1,by simpa using hk,e1,fun j hj lq=> ?_⟩;cases j with
   |zero=>exact⟨fun e=>hy (.inl e),fun e=>hy (.inr e)⟩
   |succ j=>exact e2 j (by simpa using hj) Oa
def Xzi (g:Gra) (c:Chg) (hg:GV g) (ho:c.op=2) (q1:XF Nod.id g.nodes c.id=true) (q2:X2b g.aj c.id=true):
  X0d prog 237 (edS g) [.ptr 0 0,Xu c] (X0R 12):=by
 obtain⟨ns,es,nn,ne⟩:=g;have aB:=hg.ns;have ax:=hg.nl;have aP:=hg.es;have hel:=hg.el;simp only at q1 q2 aB aP ax hel;refine X21 func237 rfl ntmps237 rfl (fun E=> ?_);refine X0T rfl rfl rfl rfl (fun xs ys h1 h2=> ?_);subst h1 h2;have hle:=(GS.1 (XeG aB q1).choose_spec.1).1;have hN:=X1b (xs.map rXN) (ys.map rXE) nn ne c.id Ow ((X19 xs).2 aB);rw[X1l,X1i,q1] at hN;simp only[edL,LM] at hN ax hel hle;generalize Xr ltI Nod.id (xs.map (·.1)) c.id=i at*;have ay:J xs=J ((xs.map rXN).map cRN):=Oc
 have cX:=X08 10;have mo:=X08 12;obtain⟨q9,uZ,bT,hkb⟩:=XqD ys c.id q2;have kG:J ys=J ((ys.map rXE).map cRE):=Oc
 have lK:=X6Y (ys.map rXE);have jJ:∀k (h:k<J ys),((ys.map rXE).map cRE)[k]? =some (cRE (rXE ys[k])):=fun k h=>by simp[getElem?_map,getElem?_eq_getElem h]
 generalize mq:(ys.map rXE).map cRE=RE' at*;generalize hR:(xs.map rXN).map cRN=R at*;clear q1 q2;simp only[edS,LM];clear hg aB aP;obtain⟨op,id,src,dst,name,⟨k0,k1,k2,k3,k4⟩⟩:=c;simp only at ho;subst ho;simp only[Xu,Uv] at*;refine Qad ?_;refine Yh ?_;refine Z5 (ag:=cX) ?_;refine W9_ ?_;refine Qbd ?_;refine XM ?_;refine Xl (fun k:Nat=>k<=q9) (fun k=>⟨183,[(0,.ptr 0 0),(3,.ptr 100 0),(4,ai (i:Nat)),(91,.own 4 (J ys)),(92,ai (J RE')),(93,ai k)],[(0,.box [.own 3 (J xs),.own 4 (J ys),ai nn,ai ne]),(3,.row 3 R),(210,.bag (Y7 xs)),(4,.row 5 RE'),(211,.bag (U2 ys)),(100,.box [ai 2,ai id,ai src,ai dst,.d (.v (.string (X7 name))),ai k0,ai k1,ai k2,.d (.v (.string (X7 k3))),.d (.sl 5 (XR k4))])]⟩) (fun k=>J RE'-k) 0 (Nat.zero_le _) (ZL0) ?_;intro k hk;have aG:k<J ys:=Oa
 have gE:(k:Int)<J RE':=Oa
 have hy:=jJ k aG;generalize nK:ys[k]=y at hy;have hpart:(RE'.flatten.drop (k*5)).take 5=[.v (.int .i64 y.1.id),.v (.int .i64 y.1.src),.v (.int .i64 y.1.dst),.v (.string (X7 y.1.typ)),.v y.2]:=by
  have:=X9U lK hy (o:=0) (q:=5) Oa;simpa [cRE,rXE] using this
 have hroom:k*5+5<=J RE'*5:=Oa
 by_cases hkk:k<q9
 case pos=>
  obtain⟨n1,n2⟩:=hkb k aG hkk;rw[nK] at n1 n2;clear bT hkb jJ nK hy hR mq;refine Qcd ?_;refine W8_ ?_;refine Qdd ?_;refine Zl (op:= .neq) (r':= .bool true) (u:= .int .i64 y.1.dst) (v:= .int .i64 id) ?_ (hr':=by exact CG Value.bool (DT n2));refine W1_ ?_;refine Z5 (ag:=mo) ?_;refine W5_ ?_;clear lK hpart hroom kG;exact⟨k+1,Oa,Oa,ZL0⟩
 obtain rfl:k=q9:=Oa
 rw[nK] at bT;clear hkb jJ nK hy hR mq;by_cases n1:y.1.src=id
 case pos=>
  have pq:¬(y.1.src≠id):=fun h=>h n1;refine Qcd ?_;refine W3_ ?_;refine X2D 12 rfl (fun _=>rfl) ?_;refine W4_ ?_;refine Zl (op:= .neq) (r':= .bool false) (u:= .int .i64 y.1.src) (v:= .int .i64 id) ?_ (hr':=by exact CG Value.bool (DF pq));refine W7_ ?_
  (refine .done (fun h=>Bool.noConfusion h) ?_;apply X2K (ag:=X2G 12);(case hxs=>exact rfl);(case hys=>conv=>lhs;whnf);(case hle=>((repeat (first|exact trivial|refine⟨Ob,?_⟩|fail))<;>fail));(case hf=>exact rfl);(case bB=>exact JAd))
 have n2:y.1.dst=id:=by rcases bT with h|h;exact(n1 h).elim;exact h
 have qU:¬(y.1.dst≠id):=fun h=>h n2;refine Qcd ?_;refine W3_ ?_;refine X2D 12 rfl (fun _=>rfl) ?_;refine W4_ ?_;refine Qdd ?_;refine Zl (op:= .neq) (r':= .bool false) (u:= .int .i64 y.1.dst) (v:= .int .i64 id) ?_ (hr':=by exact CG Value.bool (DF qU));refine W1_ ?_
 (refine .done (fun h=>Bool.noConfusion h) ?_;apply X2K (ag:=X2G 12);(case hxs=>exact rfl);(case hys=>conv=>lhs;whnf);(case hle=>((repeat (first|exact trivial|refine⟨Ob,?_⟩|fail))<;>fail));(case hf=>exact rfl);(case bB=>exact JAd))
def Xzv (g:Gra) (c:Chg) (x:Nod) (hg:GV g) (ho:c.op=3) (hx:VT g.nodes c.id=some x) (q1:XF Yp x.labels c.name=true):
  X0d prog 237 (edS g) [.ptr 0 0,Xu c] (X0R 7):=by
 have bu:=X5B hx;rw[X7d hg] at hx;obtain⟨ns,es,nn,ne⟩:=g;have aB:=hg.ns;have ax:=hg.nl;have aE:=(hg.nodes x bu.1).2.2;simp only at hx aB ax;obtain⟨x',hx',bE⟩:=Option.bind_eq_some_iff.1 hx;obtain⟨hk,rfl⟩:x'.id=c.id/\x'=x:=by by_cases e:x'.id=c.id<;>simp[e] at bE |-;exact bE
 have q0:XF Nod.id ns c.id=true:=OG
 have hle:Xr ltI Nod.id ns c.id<J ns:=(GS.1 hx').1;refine X21 func237 rfl ntmps237 rfl (fun E=> ?_);refine X0T rfl rfl rfl rfl (fun xs ys h1 h2=> ?_);subst h1 h2;have hN:=X1b (xs.map rXN) (ys.map rXE) nn ne c.id Ow ((X19 xs).2 aB);rw[X1l,X1i,q0] at hN;simp only[edL,LM] at hN ax hle;generalize Xr ltI Nod.id (xs.map (·.1)) c.id=i at*;obtain⟨⟨x1,u,v⟩,hy0,rfl⟩:∃y:XN,xs[i]? =some y/\y.1=x':=by
  exact Yt10
 simp only at*;have cX:=X08 10;have hlr:=aE.lr;have pX:=aE.ll;have hS:=X5F 121 (X9H x1.labels c.name Oa hlr);have bz:J (x1.labels.map Xf)=J x1.labels:=Oc
 rw[q1,bz] at hS;clear hlr q1 bz;generalize Xr aC Yp x1.labels c.name=p at*;have bO:=X6q hy0;simp only at bO;have ay:J xs=J ((xs.map rXN).map cRN):=Oc
 have fo:((xs.map rXN).map cRN)[i]? =some [.v (.int .i64 x1.id),.v u,.v v]:=by
  rw[getElem?_map,getElem?_map,hy0];rfl
 have aW:=X4v (xs.map rXN);simp only[edS,LM];clear hg aB hx hx' bE bu aE q0 ax;generalize hR:(xs.map rXN).map cRN=R at*;have hlm:J (x1.labels.map Xf)=J x1.labels:=Oc
 generalize ax:J x1.labels=nl at*;obtain⟨op,id,src,dst,name,⟨k0,k1,k2,k3,k4⟩⟩:=c;simp only at ho;subst ho;simp only[Xu,Uv,Xt,X1q] at*;refine Qad ?_;refine Y5 ?_;show AWP prog E _ _ _;refine X3T 0 0 3 120 rfl Oa rfl rfl ay rfl rfl (fun cp k aO bC bZ _=> ?_);refine Qkd ?_;rw[hlm];have je:=X2P (k:=k) aW;generalize map some R.flatten++replicate k none=C at*;have hj:i*3+1<J C:=Oa
 have hrd:=X5k (y:= .own 121 nl) hj;have cY:0+i*3+1=i*3+1:=Oa
 have fT:=Eq.trans (CG (fun z=>(Yj C (some (_,.own 121 nl)))[z]?) cY) hrd;have hbd:0+i*3+1+1<=J C:=Oa
 have bP:J R=J xs:=ay.symm;clear ay ax;have dI:=hlm.symm;refine Qid ?_;refine XA ?_;refine X2D 2 rfl (fun _=>rfl) ?_;refine W2_ ?_
 (refine .done (fun h=>Bool.noConfusion h) ?_;apply X2K (ag:=X2G 7);(case hxs=>exact rfl);(case hys=>conv=>lhs;whnf);(case hle=>((repeat (first|exact trivial|refine⟨Ob,?_⟩|fail))<;>fail));(case hf=>exact rfl);(case bB=>exact JAd))
def Xu0 (g:Gra) (c:Chg) (x:Nod) (hg:GV g) (ho:c.op=3) (hx:VT g.nodes c.id=some x) (q1:XF Yp x.labels c.name=false) (q2:¬J x.labels<8):
  X0d prog 237 (edS g) [.ptr 0 0,Xu c] (X0R 20):=by
 have bu:=X5B hx;rw[X7d hg] at hx;obtain⟨ns,es,nn,ne⟩:=g;have aB:=hg.ns;have ax:=hg.nl;have aE:=(hg.nodes x bu.1).2.2;simp only at hx aB ax;obtain⟨x',hx',bE⟩:=Option.bind_eq_some_iff.1 hx;obtain⟨hk,rfl⟩:x'.id=c.id/\x'=x:=by by_cases e:x'.id=c.id<;>simp[e] at bE |-;exact bE
 have q0:XF Nod.id ns c.id=true:=OG
 have hle:Xr ltI Nod.id ns c.id<J ns:=(GS.1 hx').1;refine X21 func237 rfl ntmps237 rfl (fun E=> ?_);refine X0T rfl rfl rfl rfl (fun xs ys h1 h2=> ?_);subst h1 h2;have hN:=X1b (xs.map rXN) (ys.map rXE) nn ne c.id Ow ((X19 xs).2 aB);rw[X1l,X1i,q0] at hN;simp only[edL,LM] at hN ax hle;generalize Xr ltI Nod.id (xs.map (·.1)) c.id=i at*;obtain⟨⟨x1,u,v⟩,hy0,rfl⟩:∃y:XN,xs[i]? =some y/\y.1=x':=by
  exact Yt10
 simp only at*;have cX:=X08 10;have hlr:=aE.lr;have pX:=aE.ll;have hS:=X5F 121 (X9H x1.labels c.name Oa hlr);have bz:J (x1.labels.map Xf)=J x1.labels:=Oc
 rw[q1,bz] at hS;clear hlr q1 bz;generalize Xr aC Yp x1.labels c.name=p at*;have gQ:=X08 7;have pW:¬(J (x1.labels.map Xf):Int)<8:=Oj
 clear q2;have bO:=X6q hy0;simp only at bO;have ay:J xs=J ((xs.map rXN).map cRN):=Oc
 have fo:((xs.map rXN).map cRN)[i]? =some [.v (.int .i64 x1.id),.v u,.v v]:=by
  rw[getElem?_map,getElem?_map,hy0];rfl
 have aW:=X4v (xs.map rXN);simp only[edS,LM];clear hg aB hx hx' bE bu aE q0 ax;generalize hR:(xs.map rXN).map cRN=R at*;have hlm:J (x1.labels.map Xf)=J x1.labels:=Oc
 generalize ax:J x1.labels=nl at*;obtain⟨op,id,src,dst,name,⟨k0,k1,k2,k3,k4⟩⟩:=c;simp only at ho;subst ho;simp only[Xu,Uv,Xt,X1q] at*;refine Qfd ?_;show AWP prog E _ _ _;refine X3T 0 0 3 120 rfl Oa rfl rfl ay rfl rfl (fun cp k aO bC bZ _=> ?_);refine Qkd ?_;rw[hlm];have je:=X2P (k:=k) aW;generalize map some R.flatten++replicate k none=C at*;have hj:i*3+1<J C:=Oa
 have hrd:=X5k (y:= .own 121 nl) hj;have cY:0+i*3+1=i*3+1:=Oa
 have fT:=Eq.trans (CG (fun z=>(Yj C (some (_,.own 121 nl)))[z]?) cY) hrd;have hbd:0+i*3+1+1<=J C:=Oa
 have bP:J R=J xs:=ay.symm;clear ay ax;have dI:=hlm.symm;refine Qid ?_;refine XK ?_;refine Z5 (ag:=gQ) ?_;refine W2_ ?_;refine X2D 6 rfl (fun _=>rfl) ?_;refine W3_ ?_;refine Qhd ?_;refine W1_ ?_;refine Zk (op:= .lss) (r':= .bool false) (u:= .int .i64 (J (x1.labels.map Xf):Nat)) (v:= .int .i64 8) ?_ (hr':=by exact CG Value.bool (DF pW))
 (refine .done (fun h=>Bool.noConfusion h) ?_;apply X2K (ag:=X2G 20);(case hxs=>exact rfl);(case hys=>conv=>lhs;whnf);(case hle=>((repeat (first|exact trivial|refine⟨Ob,?_⟩|fail))<;>fail));(case hf=>exact rfl);(case bB=>exact JAd))
def Xt1 (g:Gra) (c:Chg) (x:Nod) (hg:GV g) (ho:c.op=4) (hx:VT g.nodes c.id=some x) (q1:XF Yp x.labels c.name=false):
  X0d prog 237 (edS g) [.ptr 0 0,Xu c] (X0R 23):=by
 have bu:=X5B hx;rw[X7d hg] at hx;obtain⟨ns,es,nn,ne⟩:=g;have aB:=hg.ns;have ax:=hg.nl;have aE:=(hg.nodes x bu.1).2.2;simp only at hx aB ax;obtain⟨x',hx',bE⟩:=Option.bind_eq_some_iff.1 hx;obtain⟨hk,rfl⟩:x'.id=c.id/\x'=x:=by by_cases e:x'.id=c.id<;>simp[e] at bE |-;exact bE
 have q0:XF Nod.id ns c.id=true:=OG
 have hle:Xr ltI Nod.id ns c.id<J ns:=(GS.1 hx').1;refine X21 func237 rfl ntmps237 rfl (fun E=> ?_);refine X0T rfl rfl rfl rfl (fun xs ys h1 h2=> ?_);subst h1 h2;have hN:=X1b (xs.map rXN) (ys.map rXE) nn ne c.id Ow ((X19 xs).2 aB);rw[X1l,X1i,q0] at hN;simp only[edL,LM] at hN ax hle;generalize Xr ltI Nod.id (xs.map (·.1)) c.id=i at*;obtain⟨⟨x1,u,v⟩,hy0,rfl⟩:∃y:XN,xs[i]? =some y/\y.1=x':=by
  exact Yt10
 simp only at*;have cX:=X08 10;have hlr:=aE.lr;have pX:=aE.ll;have hS:=X5F 121 (X9H x1.labels c.name Oa hlr);have bz:J (x1.labels.map Xf)=J x1.labels:=Oc
 rw[q1,bz] at hS;clear hlr q1 bz;generalize Xr aC Yp x1.labels c.name=p at*;have bO:=X6q hy0;simp only at bO;have ay:J xs=J ((xs.map rXN).map cRN):=Oc
 have fo:((xs.map rXN).map cRN)[i]? =some [.v (.int .i64 x1.id),.v u,.v v]:=by
  rw[getElem?_map,getElem?_map,hy0];rfl
 have aW:=X4v (xs.map rXN);simp only[edS,LM];clear hg aB hx hx' bE bu aE q0 ax;generalize hR:(xs.map rXN).map cRN=R at*;have hlm:J (x1.labels.map Xf)=J x1.labels:=Oc
 generalize ax:J x1.labels=nl at*;obtain⟨op,id,src,dst,name,⟨k0,k1,k2,k3,k4⟩⟩:=c;simp only at ho;subst ho;simp only[Xu,Uv,Xt,X1q] at*;refine Qad ?_;refine Y5 ?_;show AWP prog E _ _ _;refine X3T 0 0 3 120 rfl Oa rfl rfl ay rfl rfl (fun cp k aO bC bZ _=> ?_);refine Qkd ?_;rw[hlm];have je:=X2P (k:=k) aW;generalize map some R.flatten++replicate k none=C at*;have hj:i*3+1<J C:=Oa
 have hrd:=X5k (y:= .own 121 nl) hj;have cY:0+i*3+1=i*3+1:=Oa
 have fT:=Eq.trans (CG (fun z=>(Yj C (some (_,.own 121 nl)))[z]?) cY) hrd;have hbd:0+i*3+1+1<=J C:=Oa
 have bP:J R=J xs:=ay.symm;clear ay ax;have dI:=hlm.symm;refine Qgd ?_;refine UK ?_;refine Qhd ?_;refine XA ?_;refine QFd ?_
 (refine .done (fun h=>Bool.noConfusion h) ?_;apply X2K (ag:=X2G 23);(case hxs=>exact rfl);(case hys=>conv=>lhs;whnf);(case hle=>((repeat (first|exact trivial|refine⟨Ob,?_⟩|fail))<;>fail));(case hf=>exact rfl);(case bB=>exact JAd))
def Xk5 {C:List (Option D)}{j:Nat}{y:AVal}{d:D} (h:j<J C):Yj (C.set j (some d)) none=(Yj C (some (j,y))).take j++[.d d]++(Yj C (some (j,y))).drop (j+1):=by
 have e:Yj (C.set j (some d)) none=Yj C (some (j,.d d)):=by simp only[Yj,map_set];rfl
 rw[e];exact Xai h
def Xvs (g:Gra) (c:Chg) (x:Nod) (hg:GV g) (ho:c.op=5) (hx:VT g.nodes c.id=some x) (q1:¬J (Uh x.props c.name c.v)<=16):
  X0d prog 237 (edS g) [.ptr 0 0,Xu c] (X0R 20):=by
 have bu:=X5B hx;rw[X7d hg] at hx;obtain⟨ns,es,nn,ne⟩:=g;have aB:=hg.ns;have ax:=hg.nl;have aE:=(hg.nodes x bu.1).2.2;simp only at hx aB ax;obtain⟨x',hx',bE⟩:=Option.bind_eq_some_iff.1 hx;obtain⟨hk,rfl⟩:x'.id=c.id/\x'=x:=by by_cases e:x'.id=c.id<;>simp[e] at bE |-;exact bE
 have q0:XF Nod.id ns c.id=true:=OG
 have hle:Xr ltI Nod.id ns c.id<J ns:=(GS.1 hx').1;refine X21 func237 rfl ntmps237 rfl (fun E=> ?_);refine X0T rfl rfl rfl rfl (fun xs ys h1 h2=> ?_);subst h1 h2;have hN:=X1b (xs.map rXN) (ys.map rXE) nn ne c.id Ow ((X19 xs).2 aB);rw[X1l,X1i,q0] at hN;simp only[edL,LM] at hN ax hle;generalize Xr ltI Nod.id (xs.map (·.1)) c.id=i at*;obtain⟨⟨x1,u,v⟩,hy0,rfl⟩:∃y:XN,xs[i]? =some y/\y.1=x':=by
  exact Yt10
 simp only at*;have cX:=X08 10;have hS:=Xl5 x1.props c.name c.v aE.pr aE.pl q1;clear q1;have bO:=X6q hy0;simp only at bO;have ay:J xs=J ((xs.map rXN).map cRN):=Oc
 have fo:((xs.map rXN).map cRN)[i]? =some [.v (.int .i64 x1.id),.v u,.v v]:=by
  rw[getElem?_map,getElem?_map,hy0];rfl
 have aW:=X4v (xs.map rXN);simp only[edS,LM];clear hg aB hx hx' bE bu aE q0 ax;generalize hR:(xs.map rXN).map cRN=R at*;have hlm:J (x1.props.map Xb)=J x1.props:=Oc
 generalize ax:J x1.props=nl at*;obtain⟨op,id,src,dst,name,⟨k0,k1,k2,k3,k4⟩⟩:=c;simp only at ho;subst ho;simp only[Xu,Uv,Xt,X1q] at*;refine Qad ?_;refine Y5 ?_;show AWP prog E _ _ _;refine X3T 0 0 3 120 rfl Oa rfl rfl ay rfl rfl (fun cp k aO bC bZ _=> ?_);refine Qld ?_;rw[hlm];have je:=X2P (k:=k) aW;generalize map some R.flatten++replicate k none=C at*;have hj:i*3+2<J C:=Oa
 have hrd:=X5k (y:= .own 121 nl) hj;have cY:0+i*3+2=i*3+2:=Oa
 have fT:=Eq.trans (CG (fun z=>(Yj C (some (_,.own 121 nl)))[z]?) cY) hrd;have hbd:0+i*3+2+1<=J C:=Oa
 have bP:J R=J xs:=ay.symm;clear ay ax;have dI:=hlm.symm;refine Qgd ?_;refine XM ?_;refine XmG 9 Oh rfl (fun _=>rfl) ?_;refine W4_ ?_;refine Qjd ?_;refine .done (fun h=>Bool.noConfusion h) ⟨XgO (zip [.tmp 77,.tmp 79,.tmp 81] [.own 121 nl,.d (.v (.string (X7 name))),.agg [ai k0,ai k1,ai k2,.d (.v (.string (X7 k3))),.d (.sl 5 (XR k4))]]) (some (82,.d (.v undef))) [(121,.row 6 (x1.props.map Xb))],Xjz hS rfl rfl JM rfl,⟨⟨rfl,rfl,rfl,TV⟩,⟨rfl,TV⟩,TV,rfl⟩,?_⟩;have cO:=Xk5 (y:= .own 121 nl) (d:= .v undef) hj;refine W2_ ?_;(refine Zj (cs':=C.set (i*3+2) (some (.v undef))) (ho':=none) ?_ (hcs:= ?aM);(case aM=>exact IQ));refine JD ?_;exact rfl
def Xtj (g:Gra) (c:Chg) (hg:GV g) (ho:c.op=6) (q1:XF Edg.id g.aj c.id=true):
  X0d prog 238 (edS g) [.ptr 0 0,Xu c] (X0R 7):=by
 obtain⟨ns,es,nn,ne⟩:=g;have aB:=hg.ns;have ax:=hg.nl;have aP:=hg.es;have hel:=hg.el;simp only at q1 aB aP ax hel;refine X21 func238 rfl ntmps238 rfl (fun E=> ?_);refine X0T rfl rfl rfl rfl (fun xs ys h1 h2=> ?_);subst h1 h2;have hE:=X4R (xs.map rXN) (ys.map rXE) nn ne c.id OW ((X53 ys).2 aP);rw[X4u,X58,q1] at hE;simp only[edL,LM] at hE hel ax;generalize Xr ltI Edg.id (ys.map (·.1)) c.id=i at*;simp only[edS,LM];clear hg aB aP;obtain⟨op,id,src,dst,name,⟨k0,k1,k2,k3,k4⟩⟩:=c;simp only at ho;subst ho;simp only[Xu,Uv] at*;refine Qmd ?_;refine YS ?_;refine X2D 2 rfl (fun _=>rfl) ?_;refine W2_ ?_
 (refine .done (fun h=>Bool.noConfusion h) ?_;apply X2K (ag:=X2G 7);(case hxs=>exact rfl);(case hys=>conv=>lhs;whnf);(case hle=>((repeat (first|exact trivial|refine⟨Ob,?_⟩|fail))<;>fail));(case hf=>exact rfl);(case bB=>exact JAd))
def Xqg (g:Gra) (c:Chg) (hg:GV g) (ho:c.op=6) (q1:XF Edg.id g.aj c.id=false) (qs:XF Nod.id g.nodes c.src=false):
  X0d prog 238 (edS g) [.ptr 0 0,Xu c] (X0R 10):=by
 obtain⟨ns,es,nn,ne⟩:=g;have aB:=hg.ns;have ax:=hg.nl;have aP:=hg.es;have hel:=hg.el;simp only at q1 qs aB aP ax hel;refine X21 func238 rfl ntmps238 rfl (fun E=> ?_);refine X0T rfl rfl rfl rfl (fun xs ys h1 h2=> ?_);subst h1 h2;have gK:=X1b (xs.map rXN) (ys.map rXE) nn ne c.src Ow ((X19 xs).2 aB);have gL:=X1b (xs.map rXN) (ys.map rXE) nn ne c.dst Ow ((X19 xs).2 aB);rw[X1l,X1i,qs] at gK;rw[X1l,X1i] at gL;simp only[edL,LM] at gK gL;have gQ:=X08 7;generalize XF Nod.id (xs.map (·.1)) c.dst=bd at*;have hE:=X4R (xs.map rXN) (ys.map rXE) nn ne c.id OW ((X53 ys).2 aP);rw[X4u,X58,q1] at hE;simp only[edL,LM] at hE hel ax;generalize Xr ltI Edg.id (ys.map (·.1)) c.id=i at*;simp only[edS,LM];clear hg aB aP;obtain⟨op,id,src,dst,name,⟨k0,k1,k2,k3,k4⟩⟩:=c;simp only at ho;subst ho;simp only[Xu,Uv] at*;refine Qmd ?_;refine YG ?_;refine Qnd ?_;refine W7_ ?_;refine X2D 4 rfl (fun _=>rfl) ?_;refine W4_ ?_
 (refine .done (fun h=>Bool.noConfusion h) ?_;apply X2K (ag:=X2G 10);(case hxs=>exact rfl);(case hys=>conv=>lhs;whnf);(case hle=>((repeat (first|exact trivial|refine⟨Ob,?_⟩|fail))<;>fail));(case hf=>exact rfl);(case bB=>exact JAd))
def Xs1 (g:Gra) (c:Chg) (hg:GV g) (ho:c.op=6) (q1:XF Edg.id g.aj c.id=false) (qs:XF Nod.id g.nodes c.src=true) (qd:XF Nod.id g.nodes c.dst=false):
  X0d prog 238 (edS g) [.ptr 0 0,Xu c] (X0R 10):=by
 obtain⟨ns,es,nn,ne⟩:=g;have aB:=hg.ns;have ax:=hg.nl;have aP:=hg.es;have hel:=hg.el;simp only at q1 qs qd aB aP ax hel;refine X21 func238 rfl ntmps238 rfl (fun E=> ?_);refine X0T rfl rfl rfl rfl (fun xs ys h1 h2=> ?_);subst h1 h2;have gK:=X1b (xs.map rXN) (ys.map rXE) nn ne c.src Ow ((X19 xs).2 aB);have gL:=X1b (xs.map rXN) (ys.map rXE) nn ne c.dst Ow ((X19 xs).2 aB);rw[X1l,X1i,qs] at gK;rw[X1l,X1i,qd] at gL;simp only[edL,LM] at gK gL;have gQ:=X08 7;have hE:=X4R (xs.map rXN) (ys.map rXE) nn ne c.id OW ((X53 ys).2 aP);rw[X4u,X58,q1] at hE;simp only[edL,LM] at hE hel ax;generalize Xr ltI Edg.id (ys.map (·.1)) c.id=i at*;simp only[edS,LM];clear hg aB aP;obtain⟨op,id,src,dst,name,⟨k0,k1,k2,k3,k4⟩⟩:=c;simp only at ho;subst ho;simp only[Xu,Uv] at*;refine Qmd ?_;refine YG ?_;refine Qnd ?_;refine W7_ ?_;refine X2D 4 rfl (fun _=>rfl) ?_;refine W4_ ?_
 (refine .done (fun h=>Bool.noConfusion h) ?_;apply X2K (ag:=X2G 10);(case hxs=>exact rfl);(case hys=>conv=>lhs;whnf);(case hle=>((repeat (first|exact trivial|refine⟨Ob,?_⟩|fail))<;>fail));(case hf=>exact rfl);(case bB=>exact JAd))
def XsU (g:Gra) (c:Chg) (hg:GV g) (ho:c.op=6) (q1:XF Edg.id g.aj c.id=false) (qs:XF Nod.id g.nodes c.src=true) (qd:XF Nod.id g.nodes c.dst=true) (q2:¬J g.aj<4000):
  X0d prog 238 (edS g) [.ptr 0 0,Xu c] (X0R 20):=by
 obtain⟨ns,es,nn,ne⟩:=g;have aB:=hg.ns;have ax:=hg.nl;have aP:=hg.es;have hel:=hg.el;simp only at q1 qs qd q2 aB aP ax hel;refine X21 func238 rfl ntmps238 rfl (fun E=> ?_);refine X0T rfl rfl rfl rfl (fun xs ys h1 h2=> ?_);subst h1 h2;have gK:=X1b (xs.map rXN) (ys.map rXE) nn ne c.src Ow ((X19 xs).2 aB);have gL:=X1b (xs.map rXN) (ys.map rXE) nn ne c.dst Ow ((X19 xs).2 aB);rw[X1l,X1i,qs] at gK;rw[X1l,X1i,qd] at gL;simp only[edL,LM] at gK gL;have gQ:=X08 7;have hE:=X4R (xs.map rXN) (ys.map rXE) nn ne c.id OW ((X53 ys).2 aP);rw[X4u,X58,q1] at hE;simp only[edL,LM] at hE hel ax q2;generalize Xr ltI Edg.id (ys.map (·.1)) c.id=i at*;have cX:=X08 10;have ay:J ys=J ((ys.map rXE).map cRE):=Oc
 have gz:¬(J ((ys.map rXE).map cRE):Int)<4000:=by rw[<-ay];omega
 generalize (ys.map rXE).map cRE=R at*;simp only[edS,LM];clear hg aB aP;obtain⟨op,id,src,dst,name,⟨k0,k1,k2,k3,k4⟩⟩:=c;simp only at ho;subst ho;simp only[Xu,Uv] at*;refine Qmd ?_;refine YJ ?_;refine Z5 (ag:=gQ) ?_;refine W6_ ?_;refine Qnd ?_;refine XG ?_;refine Z5 (ag:=cX) ?_;refine W2_ ?_;refine X2D 7 rfl (fun _=>rfl) ?_;refine W6_ ?_;refine Zk (op:= .lss) (r':= .bool false) (u:= .int .i64 (J R:Nat)) (v:= .int .i64 4000) ?_ (hr':=by exact CG Value.bool (DF gz))
 (refine .done (fun h=>Bool.noConfusion h) ?_;apply X2K (ag:=X2G 20);(case hxs=>exact rfl);(case hys=>conv=>lhs;whnf);(case hle=>((repeat (first|exact trivial|refine⟨Ob,?_⟩|fail))<;>fail));(case hf=>exact rfl);(case bB=>exact JAd))
def XyY (g:Gra) (c:Chg) (hg:GV g) (ho:c.op=7) (q1:XF Edg.id g.aj c.id=false):
  X0d prog 238 (edS g) [.ptr 0 0,Xu c] (X0R 11):=by
 obtain⟨ns,es,nn,ne⟩:=g;have aB:=hg.ns;have ax:=hg.nl;have aP:=hg.es;have hel:=hg.el;simp only at q1 aB aP ax hel;refine X21 func238 rfl ntmps238 rfl (fun E=> ?_);refine X0T rfl rfl rfl rfl (fun xs ys h1 h2=> ?_);subst h1 h2;have hE:=X4R (xs.map rXN) (ys.map rXE) nn ne c.id OW ((X53 ys).2 aP);rw[X4u,X58,q1] at hE;simp only[edL,LM] at hE hel ax;generalize Xr ltI Edg.id (ys.map (·.1)) c.id=i at*;simp only[edS,LM];clear hg aB aP;obtain⟨op,id,src,dst,name,⟨k0,k1,k2,k3,k4⟩⟩:=c;simp only at ho;subst ho;simp only[Xu,Uv] at*;refine Qmd ?_;refine V4 ?_;refine QFd ?_
 (refine .done (fun h=>Bool.noConfusion h) ?_;apply X2K (ag:=X2G 11);(case hxs=>exact rfl);(case hys=>conv=>lhs;whnf);(case hle=>((repeat (first|exact trivial|refine⟨Ob,?_⟩|fail))<;>fail));(case hf=>exact rfl);(case bB=>exact JAd))
def XpQ (g:Gra) (c:Chg) (hg:GV g) (ho:c.op=8) (q1:XF Edg.id g.aj c.id=false):
  X0d prog 238 (edS g) [.ptr 0 0,Xu c] (X0R 11):=by
 obtain⟨ns,es,nn,ne⟩:=g;have aB:=hg.ns;have ax:=hg.nl;have aP:=hg.es;have hel:=hg.el;simp only at q1 aB aP ax hel;refine X21 func238 rfl ntmps238 rfl (fun E=> ?_);refine X0T rfl rfl rfl rfl (fun xs ys h1 h2=> ?_);subst h1 h2;have hE:=X4R (xs.map rXN) (ys.map rXE) nn ne c.id OW ((X53 ys).2 aP);rw[X4u,X58,q1] at hE;simp only[edL,LM] at hE hel ax;generalize Xr ltI Edg.id (ys.map (·.1)) c.id=i at*;simp only[edS,LM];clear hg aB aP;obtain⟨op,id,src,dst,name,⟨k0,k1,k2,k3,k4⟩⟩:=c;simp only at ho;subst ho;simp only[Xu,Uv] at*;refine Qmd ?_;refine V4 ?_;refine QFd ?_
 (refine .done (fun h=>Bool.noConfusion h) ?_;apply X2K (ag:=X2G 11);(case hxs=>exact rfl);(case hys=>conv=>lhs;whnf);(case hle=>((repeat (first|exact trivial|refine⟨Ob,?_⟩|fail))<;>fail));(case hf=>exact rfl);(case bB=>exact JAd))
def Xwj (g:Gra) (c:Chg) (x:Edg) (hg:GV g) (ho:c.op=8) (hx:X0I g.aj c.id=some x) (q1:¬J (Uh x.props c.name c.v)<=16):
  X0d prog 238 (edS g) [.ptr 0 0,Xu c] (X0R 20):=by
 have bu:=Xd6 hx;rw[Xig hg] at hx;obtain⟨ns,es,nn,ne⟩:=g;have aP:=hg.es;have hel:=hg.el;have aE:=(hg.aj x bu.1).2.2.2.2.2;simp only at hx aP hel;obtain⟨x',hx',bE⟩:=Option.bind_eq_some_iff.1 hx;obtain⟨hk,rfl⟩:x'.id=c.id/\x'=x:=by by_cases e:x'.id=c.id<;>simp[e] at bE |-;exact bE
 have q0:XF Edg.id es c.id=true:=by rw[X1f Vp aP];exact DT ⟨x',hx',hk⟩
 have hle:Xr ltI Edg.id es c.id<J es:=(GS.1 hx').1;refine X21 func238 rfl ntmps238 rfl (fun E=> ?_);refine X0T rfl rfl rfl rfl (fun xs ys h1 h2=> ?_);subst h1 h2;have hE:=X4R (xs.map rXN) (ys.map rXE) nn ne c.id OW ((X53 ys).2 aP);rw[X4u,X58,q0] at hE;simp only[edL,LM] at hE hel hle;generalize Xr ltI Edg.id (ys.map (·.1)) c.id=i at*;obtain⟨⟨x1,u⟩,hy0,rfl⟩:∃y:XE,ys[i]? =some y/\y.1=x':=by
  exact Yt10
 simp only at*;have oM:=X08 11;have hS:=Xl5 x1.props c.name c.v aE.pr aE.pl q1;clear q1;have bO:=Xcv hy0;simp only at bO;have ay:J ys=J ((ys.map rXE).map cRE):=Oc
 have fo:((ys.map rXE).map cRE)[i]? =some [.v (.int .i64 x1.id),.v (.int .i64 x1.src),.v (.int .i64 x1.dst),.v (.string (X7 x1.typ)),.v u]:=by
  rw[getElem?_map,getElem?_map,hy0];rfl
 have lD:=X6Y (ys.map rXE);simp only[edS,LM];clear hg aP hx hx' bE bu aE q0 hel;generalize hR:(ys.map rXE).map cRE=R at*;have hlm:J (x1.props.map Xb)=J x1.props:=Oc
 generalize ax:J x1.props=nl at*;obtain⟨op,id,src,dst,name,⟨k0,k1,k2,k3,k4⟩⟩:=c;simp only at ho;subst ho;simp only[Xu,Uv,Xt,X1q] at*;refine Qmd ?_;refine YG ?_;show AWP prog E _ _ _;refine X3T 0 1 4 120 rfl Oa rfl rfl ay rfl rfl (fun cp k aO bC bZ _=> ?_);refine QEd ?_;rw[hlm];have je:=X2P (k:=k) lD;generalize map some R.flatten++replicate k none=C at*;have hj:i*5+4<J C:=Oa
 have hrd:=X5k (y:= .own 121 nl) hj;have cY:0+i*5+4=i*5+4:=Oa
 have fT:=Eq.trans (CG (fun z=>(Yj C (some (_,.own 121 nl)))[z]?) cY) hrd;have hbd:0+i*5+4+1<=J C:=Oa
 have bP:J R=J ys:=ay.symm;clear ay ax;have dI:=hlm.symm
 skip
 refine XmG 19 Oh rfl (fun _=>rfl) ?_;refine XG ?_;refine Zi (sz:=5) ?_;refine W1_ ?_;refine Qjd ?_;refine .done (fun h=>Bool.noConfusion h) ⟨XgO (zip [.tmp 35,.tmp 37,.tmp 39] [.own 121 nl,.d (.v (.string (X7 name))),.agg [ai k0,ai k1,ai k2,.d (.v (.string (X7 k3))),.d (.sl 5 (XR k4))]]) (some (40,.d (.v undef))) [(121,.row 6 (x1.props.map Xb))],Xjz hS rfl rfl JM rfl,⟨⟨rfl,rfl,rfl,TV⟩,⟨rfl,TV⟩,TV,rfl⟩,?_⟩;have cO:=Xk5 (y:= .own 121 nl) (d:= .v undef) hj;refine Zi (sz:=5) ?_;refine W1_ ?_;(refine Zj (cs':=C.set (i*5+4) (some (.v undef))) (ho':=none) ?_ (hcs:= ?aM);(case aM=>exact IQ));refine JD ?_;exact rfl
def Xp0 (p:Addr) (w:World):
  CallsD prog 236 #[.pointer (some p)] .returning w fun e u' w'=>e= .returned (.tuple #[])/\u'= .returning/\w'=w:=by
 have eE:∀w:World,(binOp BinOp.neq 20 .nilIface .nilIface).run prog w= .ok (.bool false) w:=fun _=>Oh
 refine callsD_of_wpS func236 rfl fun c₀ cs hu=> ?_;apply wpS_seq;apply wpS_region;simp[wpOpsS,go_sem,recoverD,hu,ntmps236,Exit.thenS];apply wpS_seq;apply wpS_region;simp[wpOpsS,go_sem,eE,Exit.thenS];refine wpS_cond (t:=false) IZ ?_;simp only[Bool.false_eq_true,if_false];refine wpS_of_wp (wp_skip ?_);cases c₀;simp_all [bodyPostS,results,results236]
def XlN (p:Addr) (e e0:Int) (w:World) (hc:w.cell? p=some (.int .i64 e0)) (hz:w.frozen? p=false):
  CallsD prog 236 #[.pointer (some p)] (.panicking [{v:= .iface 262 (.int .i64 e),recovered:=false}]) w fun x u' w'=>
   x= .returned (.tuple #[])/\u'= .panicking [{v:= .iface 262 (.int .i64 e),recovered:=true}]/\w'=w.setCell p (.int .i64 e):=by
 have hne:∀w:World,(binOp BinOp.neq 20 (.iface 262 (.int .i64 e)) .nilIface).run prog w= .ok (.bool true) w:=fun _=>Oh
 have qJ:∀w:World,(Instr.typeAssert (.iface 262 (.int .i64 e)) 20 262 true).run prog w= .ok (.tuple #[.int .i64 e,.bool true]) w:=fun _=>Oh
 refine callsD_of_wpS func236 rfl fun c₀ cs hu=> ?_;apply wpS_seq;apply wpS_region;simp[wpOpsS,go_sem,recoverD,hu,ntmps236,Exit.thenS];apply wpS_seq;apply wpS_region;simp[wpOpsS,go_sem,hne,Exit.thenS];refine wpS_cond (t:=true) IZ ?_;simp only[if_true];apply wpS_seq;apply wpS_seq;apply wpS_region;simp[wpOpsS,go_sem,qJ,Exit.thenS];apply wpS_seq;apply wpS_region;simp[wpOpsS,go_sem,Exit.thenS];refine wpS_cond (t:=true) IZ ?_;simp only[if_true];apply wpS_seq;apply wpS_region;simp[wpOpsS,go_sem,hc,hz,Exit.thenS];refine wpS_of_wp (wp_ret ?_);simp[bodyPostS,results,results236,Exit.thenS]
abbrev edD:List (Nat×AObj):=[(0,.dead),(3,.dead),(4,.dead)]
def XfM (γ:Nat):Xs .dead edD γ= .dead:=by
 by_cases h0:(0:Nat)=γ
 ·subst h0;rfl
 ·rw[YC _ _ _ h0];by_cases h3:(3:Nat)=γ
  ·subst h3;rfl
  ·rw[YC _ _ _ h3];by_cases h4:(4:Nat)=γ
   ·subst h4;rfl
   ·rw[YC _ _ _ h4];rfl
section
variable (g g':Gra) (c:Chg)
def XwP (hc:YE c≠0):Con prog 179 (edS g) [.ptr 0 0,Xu c] edD (ai (YE c)):=by
 refine Xb3 (xs:=[ai (YE c)]) func179 rfl ntmps179 rfl (fun E hds=> ?_);have hk:=X63 c;generalize YE c=e at*;obtain⟨op,id,src,dst,name,⟨k0,k1,k2,k3,k4⟩⟩:=c;simp only[Xu,Uv] at*;refine X50 ?_;refine W4_ ?_;show AW prog E _ _ _;refine X50 ?_;refine Yb ?_;show AWP prog E _ _ _;refine X3 ?_;exact fun a w hs=>show Leaves _ _ _ _ _ _ _ from XqS (rs:=[.cell 4 38]) (xs:=[ai e]) hds rfl rfl ⟨_,ZzS,⟨⟨_,_,_,rfl,rfl,.inl ⟨rfl,rfl⟩⟩,TV⟩,fun γ=> .inr (XfM γ)⟩ hs
def Xxc (hc:YE c=0) (ho:c.op<=5) (ag:Con prog 237 (edS g) [.ptr 0 0,Xu c] (edN g') (.tup [])):Con prog 179 (edS g) [.ptr 0 0,Xu c] (edN g') (ai 0):=by
 refine Xb3 (xs:=[ai 0]) func179 rfl ntmps179 rfl (fun E hds=> ?_);have hk:=X63 c;rw[hc] at hk;obtain⟨op,id,src,dst,name,⟨k0,k1,k2,k3,k4⟩⟩:=c;simp only[Xu,Uv] at*;refine X50 ?_;refine W4_ ?_;show AW prog E _ _ _;refine X50 ?_;refine XK ?_;show AW prog E _ _ _;refine Xbw (f:=236) 1 101 50 rfl rfl hds Oi (Li:=edS g) (Lo:=(edN g')) (xs:=[ai 0]) (fun γ b6=>by
  simp only[Yg,Bool.or_eq_true,Bool.or_false] at b6;rcases b6 with h|h|h<;>(have:=Nat.eq_of_beq_eq_true h;omega)) ?_
 refine W1_ ?_;refine .done (fun h=>Bool.noConfusion h) ⟨rfl,fun E' b jz hb hJ=> ?_⟩;refine QGd ?_;refine Yb ?_;show AWP prog E' _ _ _;refine X3 ?_;exact fun a w hs=>show Leaves _ _ _ _ _ _ _ from Xkq (rs:=[.cell 4 38]) (xs:=[ai 0]) rfl jz rfl rfl hJ Xp0 ⟨_,ZzS,⟨⟨_,_,_,rfl,rfl,.inl ⟨rfl,rfl⟩⟩,TV⟩,Xm ⟨rfl,rfl,rfl,rfl,TV⟩⟩ hs
def Xv3 (hc:YE c=0) (ho:¬c.op<=5) (ag:Con prog 238 (edS g) [.ptr 0 0,Xu c] (edE g') (.tup [])):Con prog 179 (edS g) [.ptr 0 0,Xu c] (edE g') (ai 0):=by
 refine Xb3 (xs:=[ai 0]) func179 rfl ntmps179 rfl (fun E hds=> ?_);have hk:=X63 c;rw[hc] at hk;obtain⟨op,id,src,dst,name,⟨k0,k1,k2,k3,k4⟩⟩:=c;simp only[Xu,Uv] at*;refine X50 ?_;refine W4_ ?_;show AW prog E _ _ _;refine X50 ?_;refine XK ?_;show AW prog E _ _ _;refine Xbw (f:=236) 1 101 50 rfl rfl hds Oi (Li:=edS g) (Lo:=(edE g')) (xs:=[ai 0]) (fun γ b6=>by
  simp only[Yg,Bool.or_eq_true,Bool.or_false] at b6;rcases b6 with h|h|h<;>(have:=Nat.eq_of_beq_eq_true h;omega)) ?_
 refine W1_ ?_;refine .done (fun h=>Bool.noConfusion h) ⟨rfl,fun E' b jz hb hJ=> ?_⟩;refine QGd ?_;refine Yb ?_;show AWP prog E' _ _ _;refine X3 ?_;exact fun a w hs=>show Leaves _ _ _ _ _ _ _ from Xkq (rs:=[.cell 4 38]) (xs:=[ai 0]) rfl jz rfl rfl hJ Xp0 ⟨_,ZzS,⟨⟨_,_,_,rfl,rfl,.inl ⟨rfl,rfl⟩⟩,TV⟩,Xm ⟨rfl,rfl,rfl,rfl,TV⟩⟩ hs
def XvA (hc:YE c=0) (ho:c.op<=5) (e:Int) (ag:X0d prog 237 (edS g) [.ptr 0 0,Xu c] (X0R e)):Con prog 179 (edS g) [.ptr 0 0,Xu c] edD (ai e):=by
 exact Yt7
def XtJ (hc:YE c=0) (ho:¬c.op<=5) (e:Int) (ag:X0d prog 238 (edS g) [.ptr 0 0,Xu c] (X0R e)):Con prog 179 (edS g) [.ptr 0 0,Xu c] edD (ai e):=by
 exact Yt7
end
theorem X9m (l:List Nod) (n:Int):XF Nod.id l n=(VT l n).isSome:=by
 unfold XF VT;rw[Bool.eq_iff_iff,any_eq_true,find?_isSome]
theorem XeT (l:List Edg) (n:Int):XF Edg.id l n=(X0I l n).isSome:=by
 unfold XF X0I;rw[Bool.eq_iff_iff,any_eq_true,find?_isSome]
section
variable (g:Gra) (c:Chg)
def Xl2 (hg:GV g) (hc:YE c=0) (ho:c.op<=5):
  ((X0j g c).2=0/\Con prog 237 (edS g) [.ptr 0 0,Xu c] (edN (X0j g c).1) (.tup []))\/((X0j g c).2≠0/\X0d prog 237 (edS g) [.ptr 0 0,Xu c] (X0R (X0j g c).2)):=by
 obtain⟨⟨o1,o8⟩,hid,-,-⟩:=XdG hc;by_cases h1:c.op=1
 ·have e:X0j g c=if XF Nod.id g.nodes c.id=true then (VS,7) else if 2000<=J g.nodes then (VS,20) else (VB g ⟨c.id,[],[]⟩,0):=by unfold X0j;rw[PI h1]
  rw[e];by_cases q1:XF Nod.id g.nodes c.id=true
  ·rw[PI q1];exact .inr ⟨Oc,Xzd g c hg h1 q1⟩
  ·rw[NI q1];have q1:XF Nod.id g.nodes c.id=false:=by simpa using q1
   by_cases q2:2000<=J g.nodes
   ·rw[PI q2];exact .inr ⟨Oc,XyI g c hg h1 q1 Oa⟩
   ·rw[NI q2];exact .inl ⟨rfl,Xxy g c hg hid h1 q1 Oa⟩
 have e:X0j g c=match VT g.nodes c.id with|none=>(VS,10)|some n=>X4N g c n:=by unfold X0j;rw[NI h1,NI Oa,NI Oa];rfl
 rw[e];cases hn:VT g.nodes c.id with
 |none=>exact .inr ⟨Oc,Xyd g c hg h1 (by rw[X9m,hn];rfl)⟩
 |some x=>
  simp only;have q0:XF Nod.id g.nodes c.id=true:=by rw[X9m,hn];rfl
  unfold X4N;by_cases h2:c.op=2
  ·rw[PI h2];by_cases q2:X2b g.aj c.id=true
   ·rw[PI q2];exact .inr ⟨Oc,Xzi g c hg h2 q0 q2⟩
   ·rw[NI q2];exact .inl ⟨rfl,XrP g c hg h2 q0 (by simpa using q2)⟩
  rw[NI h2];by_cases h3:c.op=3
  ·rw[PI h3];by_cases q1:XF Yp x.labels c.name=true
   ·rw[PI q1];exact .inr ⟨Oc,Xzv g c x hg h3 hn q1⟩
   ·rw[NI q1];have q1:XF Yp x.labels c.name=false:=by simpa using q1
    by_cases q2:8<=J x.labels
    ·rw[PI q2];exact .inr ⟨Oc,Xu0 g c x hg h3 hn q1 Oa⟩
    ·rw[NI q2];exact .inl ⟨rfl,Xt2 g c x hg h3 hn q1 Oa⟩
  rw[NI h3];by_cases h4:c.op=4
  ·rw[PI h4];by_cases q1:XF Yp x.labels c.name=false
   ·rw[PI q1];exact .inr ⟨Oc,Xt1 g c x hg h4 hn q1⟩
   ·rw[NI q1];exact .inl ⟨rfl,Xwr g c x hg h4 hn ID⟩
  rw[NI h4];have h5:c.op=5:=Oa
  by_cases q1:16<J (Uh x.props c.name c.v)
  ·rw[PI q1];exact .inr ⟨Oc,Xvs g c x hg h5 hn Oa⟩
  ·rw[NI q1];exact .inl ⟨rfl,Xwe g c x hg h5 hn Oa⟩
def Xis (hg:GV g) (hc:YE c=0) (ho:¬c.op<=5):
  ((X0j g c).2=0/\Con prog 238 (edS g) [.ptr 0 0,Xu c] (edE (X0j g c).1) (.tup []))\/((X0j g c).2≠0/\X0d prog 238 (edS g) [.ptr 0 0,Xu c] (X0R (X0j g c).2)):=by
 obtain⟨⟨o1,o8⟩,hid,-,-⟩:=XdG hc;by_cases h6:c.op=6
 ·have e:X0j g c=if XF Edg.id g.aj c.id=true then (VS,7) else if XF Nod.id g.nodes c.src=false\/XF Nod.id g.nodes c.dst=false then (VS,10) else if 4000<=J g.aj then (VS,20) else (X1v g ⟨c.id,c.src,c.dst,c.name,[]⟩,0):=by unfold X0j;rw[NI Oa,PI h6]
  rw[e];by_cases q1:XF Edg.id g.aj c.id=true
  ·rw[PI q1];exact .inr ⟨Oc,Xtj g c hg h6 q1⟩
  rw[NI q1];have q1:XF Edg.id g.aj c.id=false:=ID
  cases qs:XF Nod.id g.nodes c.src with
  |false=>rw[PI (.inl rfl)];exact .inr ⟨Oc,Xqg g c hg h6 q1 qs⟩
  |true=>
   cases qd:XF Nod.id g.nodes c.dst with
   |false=>rw[PI (.inr rfl)];exact .inr ⟨Oc,Xs1 g c hg h6 q1 qs qd⟩
   |true=>
    rw[NI Oc];by_cases q2:4000<=J g.aj
    ·rw[PI q2];exact .inr ⟨Oc,XsU g c hg h6 q1 qs qd Oa⟩
    ·rw[NI q2];exact .inl ⟨rfl,Xyu g c hg hid h6 q1 qs qd Oa⟩
 have rI:c.op=7\/c.op=8:=Oa
 have e:X0j g c=match X0I g.aj c.id with|none=>(VS,11)|some n=>X5P g c n:=by unfold X0j;rw[NI Oa,NI h6,PI rI];rfl
 rw[e];cases hn:X0I g.aj c.id with
 |none=>
  have q1:XF Edg.id g.aj c.id=false:=by rw[XeT,hn];rfl
  rcases rI with h|h
  ·exact .inr ⟨Oc,XyY g c hg h q1⟩
  ·exact .inr ⟨Oc,XpQ g c hg h q1⟩
 |some x=>
  simp only;have q0:XF Edg.id g.aj c.id=true:=by rw[XeT,hn];rfl
  unfold X5P;by_cases h8:c.op=8
  ·rw[PI h8];by_cases q1:16<J (Uh x.props c.name c.v)
   ·rw[PI q1];exact .inr ⟨Oc,Xwj g c x hg h8 hn Oa⟩
   ·rw[NI q1];exact .inl ⟨rfl,Xwl g c x hg h8 hn Oa⟩
  ·rw[NI h8];exact .inl ⟨rfl,Xwx g c hg Oa q0⟩
def Xqe (hg:GV g) (ho:c.op<=5) (h:(YR g c).2=0):Con prog 179 (edS g) [.ptr 0 0,Xu c] (edN (YR g c).1) (ai 0):=by
 by_cases hc:YE c=0
 ·have e:YR g c=X0j g c:=by unfold YR;rw[NI (by simp[hc])]
  rw[e] at h |-;rcases Xl2 g c hg hc ho with ⟨-,k⟩|⟨k,-⟩
  ·exact Xxc g _ c hc ho k
  ·exact absurd h k
 ·unfold YR at h;rw[PI hc] at h;exact absurd h hc
def Xws (hg:GV g) (ho:¬c.op<=5) (h:(YR g c).2=0):Con prog 179 (edS g) [.ptr 0 0,Xu c] (edE (YR g c).1) (ai 0):=by
 by_cases hc:YE c=0
 ·have e:YR g c=X0j g c:=by unfold YR;rw[NI (by simp[hc])]
  rw[e] at h |-;rcases Xis g c hg hc ho with ⟨-,k⟩|⟨k,-⟩
  ·exact Xv3 g _ c hc ho k
  ·exact absurd h k
 ·unfold YR at h;rw[PI hc] at h;exact absurd h hc
def XpO (hg:GV g) (h:(YR g c).2≠0):Con prog 179 (edS g) [.ptr 0 0,Xu c] edD (ai (YR g c).2):=by
 by_cases hc:YE c=0
 ·have e:YR g c=X0j g c:=by unfold YR;rw[NI (by simp[hc])]
  rw[e] at h |-;by_cases ho:c.op<=5
  ·rcases Xl2 g c hg hc ho with ⟨k,-⟩|⟨-,k⟩
   ·exact absurd k h
   ·exact XvA g c hc ho _ k
  ·rcases Xis g c hg hc ho with ⟨k,-⟩|⟨-,k⟩
   ·exact absurd k h
   ·exact XtJ g c hc ho _ k
 ·have e:YR g c=(VS,YE c):=by unfold YR;rw[PI hc]
  rw[e];exact XwP g c hc
end
def XvL (γ:Nat) (xs:List (List D)) (hl:J xs<=100000):Con prog 232 [] [.d (.sl 3 xs)] [(swp 100 γ 100,.row 3 xs)] (.own (swp 100 γ 100) (J xs)):=by
 have h:Con prog 232 [] [.d (.sl 3 xs)] [(100,.row 3 xs)] (.own 100 (J xs)):=by
  refine ZC1 func232 ntmps232 fun E=> ?_;refine XA ?_;refine X6i rfl (fun h=> ?_) (fun _=> ?_)
  ·subst h;refine W4_ ?_;refine X3 ?_;exact⟨_,Uo 2 100 3 rfl rfl rfl,⟨rfl,TV⟩,Xm ⟨rfl,TV⟩⟩
  ·refine W8_ ?_;refine X3 ?_;refine⟨_,ZzS,⟨?_,TV⟩,Xm ⟨rfl,TV⟩⟩;simp only[X5s];simp[St.get,St.set,St.own,Xs]
 exact YU 100 γ h
def Xv5 (γ:Nat) (xs:List (List D)) (hl:J xs<=100000):Con prog 235 [] [.d (.sl 5 xs)] [(swp 100 γ 100,.row 5 xs)] (.own (swp 100 γ 100) (J xs)):=by
 have h:Con prog 235 [] [.d (.sl 5 xs)] [(100,.row 5 xs)] (.own 100 (J xs)):=by
  refine ZC1 func235 ntmps235 fun E=> ?_;refine XA ?_;refine X6i rfl (fun h=> ?_) (fun _=> ?_)
  ·subst h;refine W4_ ?_;refine X3 ?_;exact⟨_,Uo 2 100 5 rfl rfl rfl,⟨rfl,TV⟩,Xm ⟨rfl,TV⟩⟩
  ·refine W8_ ?_;refine X3 ?_;refine⟨_,ZzS,⟨?_,TV⟩,Xm ⟨rfl,TV⟩⟩;simp only[X5s];simp[St.get,St.set,St.own,Xs]
 exact YU 100 γ h
def Xwf (γ:Nat) (xs:List (List D)) (hl:J xs<=100000):Con prog 233 [] [.d (.sl 1 xs)] [(swp 100 γ 100,.row 1 xs)] (.own (swp 100 γ 100) (J xs)):=by
 have h:Con prog 233 [] [.d (.sl 1 xs)] [(100,.row 1 xs)] (.own 100 (J xs)):=by
  refine ZC1 func233 ntmps233 fun E=> ?_;refine XA ?_;refine X6i rfl (fun h=> ?_) (fun _=> ?_)
  ·subst h;refine W4_ ?_;refine X3 ?_;exact⟨_,Uo 2 100 1 rfl rfl rfl,⟨rfl,TV⟩,Xm ⟨rfl,TV⟩⟩
  ·refine W8_ ?_;refine X3 ?_;refine⟨_,ZzS,⟨?_,TV⟩,Xm ⟨rfl,TV⟩⟩;simp only[X5s];simp[St.get,St.set,St.own,Xs]
 exact YU 100 γ h
def Xmi (γ:Nat) (xs:List (List D)) (hl:J xs<=100000):Con prog 234 [] [.d (.sl 6 xs)] [(swp 100 γ 100,.row 6 xs)] (.own (swp 100 γ 100) (J xs)):=by
 have h:Con prog 234 [] [.d (.sl 6 xs)] [(100,.row 6 xs)] (.own 100 (J xs)):=by
  refine ZC1 func234 ntmps234 fun E=> ?_;refine XA ?_;refine X6i rfl (fun h=> ?_) (fun _=> ?_)
  ·subst h;refine W4_ ?_;refine X3 ?_;exact⟨_,Uo 2 100 6 rfl rfl rfl,⟨rfl,TV⟩,Xm ⟨rfl,TV⟩⟩
  ·refine W8_ ?_;refine X3 ?_;refine⟨_,ZzS,⟨?_,TV⟩,Xm ⟨rfl,TV⟩⟩;simp only[X5s];simp[St.get,St.set,St.own,Xs]
 exact YU 100 γ h
end Go.Fw

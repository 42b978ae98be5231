/- What the reference does with a node or an edge that is there. -/
import Derived.Test.YtpbgjcbkhgfmkaaGreatDoorM64
set_option maxHeartbeats 16000000
namespace Go.Fw
open Go Go.Proofs Tryz List
set_option maxRecDepth 100000
set_option linter.unusedVariables false
set_option linter.unusedSimpArgs false
theorem XqG (g:Gra) (id:Int) (hl:g.aj.length<=100000):Con prog 261 [] [Y6 g,ai id] [] (ab (X1O g.aj id)):=by
 refine ZC1 func261 ntmps261 fun E=> ?_;have h:=Xro g id hl;have hu:=XwR g.aj id;have hm:((X1S id [] g.aj).map cAD).length=(X1S id [] g.aj).length:=by simp
 generalize X1S id [] g.aj=A at*;generalize X1O g.aj id=u at*;obtain⟨ns,es,nn,ne⟩:=g;unfold Y6 at*;simp only at h |-;refine XG ?_;have e:decide ((0:Int)<((A.map cAD).length:Nat))=u:=by rw[<-hu];exact decide_eq_decide.2 (by omega)
 (show AWP prog E _ _ _;refine X2 ?_;exact(show Xa _ _ _ _ _ from⟨_,St.le_refl _,⟨CG ab e,TV⟩,X4 _⟩))
theorem Xta (g:Gra) (c:Chg) (n:Nod) (hg:GV g) (hn:VH g.nodes c.id=some n) (hv:UJ c.v) (hid:1<=c.id/\c.id<=1000000):Con prog 201 [] [Y6 g,Xz c,X0g n] [] (.tup [Y6 (X4n g c n).1,ai (X4n g c n).2]):=by
 refine ZCt func201 ntmps201 fun E=> ?_;have b7:=hg.nl;have bM:=hg.el;obtain⟨hnm,hni⟩:=X5c hn;have aD:=(hg.nodes n hnm).2.2;have bF:=aD.ll;have bf:=aD.pl;have hlb:=Xws n c.name (by omega);rw[XpT] at hlb;have nC:=XqG g c.id (by omega);have hps:=Xwv n.labels c.name (by omega) aD.lr;have v9:=Xv6 n.labels c.name (by omega);have hsp:=XlM n.props c.name c.v (by omega) hv;have cE:∀ls ps,Con prog 198 [] [Y6 g,.agg [ai n.id,.d (.sl 1 (ls.map Xf)),.d (.sl 6 (ps.map Xd))]] [] (Y6 (VJ g ⟨n.id,ls,ps⟩)):=fun ls ps=>Xh6 g ⟨n.id,ls,ps⟩ (by omega) (by show 0<=n.id;omega) (by show n.id<=1000000;omega);have lP:(n.labels.map Xf).length=n.labels.length:=by simp
 clear hg hn hnm hv aD;unfold X4n;obtain⟨op,id,src,dst,name,⟨vk,vn,vd,vs,vl⟩⟩:=c;obtain⟨aH,nl,np⟩:=n;simp only[Xz,Us,X0g,XC] at*;subst hni;generalize XD Yl nl name=hs at*;generalize Ud np name (.mk vk vn vd vs vl)=sp at*;generalize UC aA Yl nl name [name]=ls3 at*;generalize UL Yl nl name=ls4 at*;have tM:=cE ls3 np;have tN:=cE ls4 np;have rH:=cE nl sp;clear cE;by_cases h2:op=2
 ·subst h2;rw[PI rfl];cases hu:X1O g.aj aH with
  |true=>
   rw[PI rfl];rw[hu] at nC;obtain⟨ns,es,nn,ne⟩:=g;simp only[Y6,map_nil] at*;refine Qr ?_
   (show AWP prog E _ _ _;refine X2 ?_;exact(show Xa _ _ _ _ _ from⟨_,Xq 103 (cs':=[.d (.sl 3 []),.d (.sl 5 []),ai 0,ai 0]) rfl JM rfl,⟨⟨103,0,_,rfl,rfl,.inr ⟨4,_,rfl,rfl,rfl,rfl⟩⟩,rfl,TV⟩,X4 _⟩))
  |false=>
   rw[NI (by simp)];rw[hu] at nC;obtain⟨ns,es,nn,ne⟩:=g;simp only[Y6] at*;have bg:=Xep (key:=Nod.id) ns aH;generalize hR:UL Nod.id ns aH=R at*;have hlm:(ns.map Xm).length=ns.length:=by simp
   refine QY ?_;refine X8 (Uu 9 130 3 rfl rfl rfl) ?_
   refine Xn (ι:=Nat×List Nod) (fun q=>q.1<=ns.length/\q.2++UL Nod.id (ns.drop q.1) aH=R) (fun q=>⟨103,[(3,.ptr 100 0),(4,.ptr 101 0),(5,.ptr 102 0),(6,.ptr 103 0),(9,.own 130 (q.2.map Xm).length),(10,ai q.1)],[(100,.box [.d (.sl 3 (ns.map Xm)),.d (.sl 5 (es.map Xr)),ai nn,ai ne]),(101,.box [ai 2,ai aH,ai src,ai dst,.d (.v (.string (X6 name))),ai vk,ai vn,ai vd,.d (.v (.string (X6 vs))),.d (.sl 5 (XX vl))]),(102,.box [ai aH,.d (.sl 1 (nl.map Xf)),.d (.sl 6 (np.map Xd))]),(103,.box [aq,aq,ai 0,ai 0]),(130,.row 3 (q.2.map Xm))]⟩) (fun q=>ns.length-q.1) (0,[]) ⟨Nat.zero_le _,by simpa using hR⟩
    (ZL0) ?_
   rintro⟨i,out⟩ ⟨hi,hg⟩;simp only at hi hg;by_cases hil:i<ns.length
   case neg=>
    have hn:¬(i:Int)<(ns.map Xm).length:=by omega
    rw[drop_of_length_le (by omega),show UL Nod.id ([]:List Nod) aH=[] from rfl,append_nil] at hg;subst hg;refine QDb ?_;refine X8 (Y7 9 130 rfl rfl (by simp)) ?_;refine XK ?_
    (show AWP prog E _ _ _;refine X2 ?_;exact(show Xa _ _ _ _ _ from⟨_,St.le_refl _,⟨⟨103,0,_,rfl,rfl,.inr ⟨4,_,rfl,rfl,rfl,rfl⟩⟩,rfl,TV⟩,X4 _⟩))
   have hn:(i:Int)<(ns.map Xm).length:=by omega
   obtain⟨x,hx⟩:=Xu (l:=ns) hil;have au:(ns.map Xm)[i]? =some (Xm x):=XM hx;rw[XeM hx] at hg;have eW:=X7Y hg;have hroom:(out.map Xm).length<=100000:=by rw[LM];omega
   obtain⟨aJ,xl,xp⟩:=x;simp only[Xm] at au;clear hx;by_cases hq:aJ=aH
   ·subst hq;rw[PI rfl,nil_append] at hg;refine UV ?_;exact Qpe
   ·rw[NI (show ¬Nod.id _=aH from hq),<-AS] at hg;have hap:(out++[(⟨aJ,xl,xp⟩:Nod)]).map Xm=out.map Xm++[[.v (.int .i64 aJ),.sl 1 (xl.map Xf),.sl 6 (xp.map Xd)]]:=by simp[Xm]
    refine Qma ?_;refine⟨(i+1,out++[_]),⟨by simp only;omega,hg⟩,by simp only;omega,?_⟩;dsimp only;rw[hap];exact Qwe
 rw[NI h2];by_cases h3:op=3
 ·subst h3;rw[PI rfl];cases hs with
  |true=>
   rw[PI rfl];obtain⟨ns,es,nn,ne⟩:=g;simp only[Y6,map_nil] at*;refine X7 ?_;refine W7_ ?_
   (show AWP prog E _ _ _;refine X2 ?_;exact(show Xa _ _ _ _ _ from⟨_,Xq 103 (cs':=[.d (.sl 3 []),.d (.sl 5 []),ai 0,ai 0]) rfl JM rfl,⟨⟨103,0,_,rfl,rfl,.inr ⟨4,_,rfl,rfl,rfl,rfl⟩⟩,rfl,TV⟩,X4 _⟩))
  |false=>
   rw[NI (by simp)];replace hps:=hps rfl;by_cases h8:8<=nl.length
   ·rw[PI h8];have tO:(8:Int)<=(nl.map Xf).length:=by omega
    obtain⟨ns,es,nn,ne⟩:=g;simp only[Y6,map_nil] at*;refine Qya ?_
    (show AWP prog E _ _ _;refine X2 ?_;exact(show Xa _ _ _ _ _ from⟨_,Xq 103 (cs':=[.d (.sl 3 []),.d (.sl 5 []),ai 0,ai 0]) rfl JM rfl,⟨⟨103,0,_,rfl,rfl,.inr ⟨4,_,rfl,rfl,rfl,rfl⟩⟩,rfl,TV⟩,X4 _⟩))
   ·rw[NI h8];have tO:¬(8:Int)<=(nl.map Xf).length:=by omega
    generalize VJ g ⟨aH,ls3,np⟩=g' at*;obtain⟨ns,es,nn,ne⟩:=g;obtain⟨ns',es',nn',ne'⟩:=g';simp only[Y6] at*;refine X7 ?_;refine XY ?_;refine Z3 (af:=tM) ?_;refine W3_ ?_
    (show AWP prog E _ _ _;refine X2 ?_;exact(show Xa _ _ _ _ _ from⟨_,St.le_refl _,⟨⟨103,0,_,rfl,rfl,.inr ⟨4,_,rfl,rfl,rfl,rfl⟩⟩,rfl,TV⟩,X4 _⟩))
 rw[NI h3];by_cases h4:op=4
 ·subst h4;rw[PI rfl];cases hs with
  |false=>
   rw[PI rfl];obtain⟨ns,es,nn,ne⟩:=g;simp only[Y6,map_nil] at*;refine X7 ?_;refine XG ?_
   (show AWP prog E _ _ _;refine X2 ?_;exact(show Xa _ _ _ _ _ from⟨_,Xq 103 (cs':=[.d (.sl 3 []),.d (.sl 5 []),ai 0,ai 0]) rfl JM rfl,⟨⟨103,0,_,rfl,rfl,.inr ⟨4,_,rfl,rfl,rfl,rfl⟩⟩,rfl,TV⟩,X4 _⟩))
  |true=>
   rw[NI (by simp)];generalize VJ g ⟨aH,ls4,np⟩=g' at*;obtain⟨ns,es,nn,ne⟩:=g;obtain⟨ns',es',nn',ne'⟩:=g';simp only[Y6] at*;refine X7 ?_;refine UU ?_;refine Z3 (af:=tN) ?_;refine W3_ ?_
   (show AWP prog E _ _ _;refine X2 ?_;exact(show Xa _ _ _ _ _ from⟨_,St.le_refl _,⟨⟨103,0,_,rfl,rfl,.inr ⟨4,_,rfl,rfl,rfl,rfl⟩⟩,rfl,TV⟩,X4 _⟩))
 rw[NI h4];by_cases h5:16<sp.length
 ·rw[PI h5];rw[DF (show ¬sp.length<=16 by omega)] at hsp;obtain⟨ns,es,nn,ne⟩:=g;simp only[Y6,map_nil] at*;refine X7 ?_;refine Vb ?_
  (show AWP prog E _ _ _;refine X2 ?_;exact(show Xa _ _ _ _ _ from⟨_,Xq 103 (cs':=[.d (.sl 3 []),.d (.sl 5 []),ai 0,ai 0]) rfl JM rfl,⟨⟨103,0,_,rfl,rfl,.inr ⟨4,_,rfl,rfl,rfl,rfl⟩⟩,rfl,TV⟩,X4 _⟩))
 rw[NI h5];rw[DT (show sp.length<=16 by omega)] at hsp;generalize VJ g ⟨aH,nl,sp⟩=g' at*;obtain⟨ns,es,nn,ne⟩:=g;obtain⟨ns',es',nn',ne'⟩:=g';simp only[Y6] at*;refine X7 ?_;refine UX ?_;refine Z3 (af:=rH) ?_;refine W3_ ?_
 (show AWP prog E _ _ _;refine X2 ?_;exact(show Xa _ _ _ _ _ from⟨_,St.le_refl _,⟨⟨103,0,_,rfl,rfl,.inr ⟨4,_,rfl,rfl,rfl,rfl⟩⟩,rfl,TV⟩,X4 _⟩))
theorem Xtf (g:Gra) (c:Chg) (n:Edg) (hg:GV g) (hn:X0r g.aj c.id=some n) (hv:UJ c.v) (hid:1<=c.id/\c.id<=1000000):Con prog 200 [] [Y6 g,Xz c,X0Q n] [] (.tup [Y6 (X58 g c n).1,ai (X58 g c n).2]):=by
 refine ZCt func200 ntmps200 fun E=> ?_;have bM:=hg.el;obtain⟨hnm,hni⟩:=Xc9 hn;have bf:=(hg.aj n hnm).2.2.2.2.2.pl;have hsp:=XlM n.props c.name c.v (by omega) hv;have rH:=XmG g ⟨n.id,n.src,n.dst,n.typ,Ud n.props c.name c.v⟩ (by omega) (by show 0<=n.id;omega) (by show n.id<=1000000;omega);clear hg hn hnm hv;unfold X58;obtain⟨op,id,src,dst,name,⟨vk,vn,vd,vs,vl⟩⟩:=c;obtain⟨aH,nsr,nds,nt,np⟩:=n;simp only[Xz,Us,X0Q,XC] at*;subst hni;generalize Ud np name (.mk vk vn vd vs vl)=sp at*;by_cases h8:op=8
 ·subst h8;rw[PI rfl];by_cases h5:16<sp.length
  ·rw[PI h5];rw[DF (show ¬sp.length<=16 by omega)] at hsp;obtain⟨ns,es,nn,ne⟩:=g;simp only[Y6,map_nil] at*;refine Qr ?_
   (show AWP prog E _ _ _;refine X2 ?_;exact(show Xa _ _ _ _ _ from⟨_,Xq 103 (cs':=[.d (.sl 3 []),.d (.sl 5 []),ai 0,ai 0]) rfl JM rfl,⟨⟨103,0,_,rfl,rfl,.inr ⟨4,_,rfl,rfl,rfl,rfl⟩⟩,rfl,TV⟩,X4 _⟩))
  rw[NI h5];rw[DT (show sp.length<=16 by omega)] at hsp;generalize X1d g ⟨aH,nsr,nds,nt,sp⟩=g' at*;obtain⟨ns,es,nn,ne⟩:=g;obtain⟨ns',es',nn',ne'⟩:=g';simp only[Y6] at*;refine X7 ?_;refine XQ ?_
  (show AWP prog E _ _ _;refine X2 ?_;exact(show Xa _ _ _ _ _ from⟨_,St.le_refl _,⟨⟨103,0,_,rfl,rfl,.inr ⟨4,_,rfl,rfl,rfl,rfl⟩⟩,rfl,TV⟩,X4 _⟩))
 rw[NI h8];obtain⟨ns,es,nn,ne⟩:=g;simp only[Y6] at*;have bg:=Xep (key:=Edg.id) es aH;generalize hR:UL Edg.id es aH=R at*;have hlm:(es.map Xr).length=es.length:=by simp
 refine U1 ?_;refine X8 (Uu 10 130 5 rfl rfl rfl) ?_
 refine Xn (ι:=Nat×List Edg) (fun q=>q.1<=es.length/\q.2++UL Edg.id (es.drop q.1) aH=R) (fun q=>⟨60,[(3,.ptr 100 0),(4,.ptr 101 0),(5,.ptr 102 0),(6,.ptr 103 0),(10,.own 130 (q.2.map Xr).length),(11,ai q.1)],[(100,.box [.d (.sl 3 (ns.map Xm)),.d (.sl 5 (es.map Xr)),ai nn,ai ne]),(101,.box [ai op,ai aH,ai src,ai dst,.d (.v (.string (X6 name))),ai vk,ai vn,ai vd,.d (.v (.string (X6 vs))),.d (.sl 5 (XX vl))]),(102,.box [ai aH,ai nsr,ai nds,.d (.v (.string (X6 nt))),.d (.sl 6 (np.map Xd))]),(103,.box [aq,aq,ai 0,ai 0]),(130,.row 5 (q.2.map Xr))]⟩) (fun q=>es.length-q.1) (0,[]) ⟨Nat.zero_le _,by simpa using hR⟩
  (ZL0) ?_
 rintro⟨i,out⟩ ⟨hi,hg⟩;simp only at hi hg;by_cases hil:i<es.length
 case neg=>
  have hn:¬(i:Int)<(es.map Xr).length:=by omega
  rw[drop_of_length_le (by omega),show UL Edg.id ([]:List Edg) aH=[] from rfl,append_nil] at hg;subst hg;refine QDb ?_;refine X8 (Y7 10 130 rfl rfl (by simp)) ?_;refine XK ?_
  (show AWP prog E _ _ _;refine X2 ?_;exact(show Xa _ _ _ _ _ from⟨_,St.le_refl _,⟨⟨103,0,_,rfl,rfl,.inr ⟨4,_,rfl,rfl,rfl,rfl⟩⟩,rfl,TV⟩,X4 _⟩))
 have hn:(i:Int)<(es.map Xr).length:=by omega
 obtain⟨x,hx⟩:=Xu (l:=es) hil;have au:(es.map Xr)[i]? =some (Xr x):=XM hx;rw[XeM hx] at hg;have eW:=X7Y hg;have hroom:(out.map Xr).length<=100000:=by rw[LM];omega
 obtain⟨aJ,xs,xd,xt,xp⟩:=x;simp only[Xr] at au;clear hx;by_cases hq:aJ=aH
 ·subst hq;rw[PI rfl,nil_append] at hg;refine UV ?_;exact Qpe
 ·rw[NI (show ¬Edg.id _=aH from hq),<-AS] at hg;have hap:(out++[(⟨aJ,xs,xd,xt,xp⟩:Edg)]).map Xr=out.map Xr++[[.v (.int .i64 aJ),.v (.int .i64 xs),.v (.int .i64 xd),.v (.string (X6 xt)),.sl 6 (xp.map Xd)]]:=by simp[Xr]
  refine Qma ?_;refine⟨(i+1,out++[_]),⟨by simp only;omega,hg⟩,by simp only;omega,?_⟩;dsimp only;rw[hap];exact Qwe
theorem Xx4 (g:Gra) (c:Chg) (hg:GV g) (hv:UJ c.v):Con prog 122 [] [Y6 g,Xz c] [] (.tup [Y6 (YM g c).1,ai (YM g c).2]):=by
 refine ZCt func122 ntmps122 fun E=> ?_;have hk:=Xdp c hv;unfold YM;by_cases hc:YD c≠0
 ·rw[PI hc];generalize YD c=e at*;obtain⟨op,id,src,dst,name,⟨vk,vn,vd,vs,vl⟩⟩:=c;obtain⟨ns,es,nn,ne⟩:=g;simp only[Y6,Xz,Us,map_nil] at*;refine U1 ?_
  (show AWP prog E _ _ _;refine X2 ?_;exact(show Xa _ _ _ _ _ from⟨_,Xq 102 (cs':=[.d (.sl 3 []),.d (.sl 5 []),ai 0,ai 0]) rfl JM rfl,⟨⟨102,0,_,rfl,rfl,.inr ⟨4,_,rfl,rfl,rfl,rfl⟩⟩,rfl,TV⟩,X4 _⟩))
 rw[NI hc];have hc:YD c=0:=by simpa using hc
 rw[hc] at hk;obtain⟨⟨o1,o8⟩,hid,-,-⟩:=Xb8 hc;have hfit:∀n∈g.nodes,XhL n:=fun n hn=>by
  have hp:=(hg.nodes n hn).2.2;have h1:=hp.ll;have h2:=hp.pl;exact⟨by omega,by omega,hp.pv⟩
 have b7:=hg.nl;have bM:=hg.el;have hN:=fun k=>XnU g k (by omega) hfit;have hE:=Xqs g c.id (by omega);have rI:∀k,X5V g.nodes k=VH g.nodes k:=fun _=>rfl;have rJ:X6j g.aj c.id=X0r g.aj c.id:=rfl;simp only[rI] at hN;rw[rJ] at hE;have fk:=hN c.id;have kZ:=hN c.src;have jl:=hN c.dst;have cE:=Xh6 g ⟨c.id,[],[]⟩ (by omega) (by show 0<=c.id;omega) (by show c.id<=1000000;omega);have bx:=XmG g ⟨c.id,c.src,c.dst,c.name,[]⟩ (by omega) (by show 0<=c.id;omega) (by show c.id<=1000000;omega);have kH:=fun n hn=>Xta g c n hg hn hv hid;have jD:=fun n hn=>Xtf g c n hg hn hv hid;have lP:(g.nodes.map Xm).length=g.nodes.length:=by simp
 have kM:(g.aj.map Xr).length=g.aj.length:=by simp
 clear hN hfit rI rJ hc hv;unfold X0b;rw[X8I,Xg0,X8I,X8I];clear hg;by_cases h1:c.op=1
 ·rw[PI h1];clear kH jD bx kZ jl;cases eC:VH g.nodes c.id with
  |some n=>
   rw[eC] at fk;simp only[Option.isSome_some,Option.getD_some,if_true] at fk |-;clear cE;obtain⟨aH,nl,np⟩:=n;generalize (X0r g.aj c.id).isSome=eb at*;generalize (X0r g.aj c.id).getD X7a=ed at*;obtain⟨op,id,src,dst,name,⟨vk,vn,vd,vs,vl⟩⟩:=c;obtain⟨ns,es,nn,ne⟩:=g;obtain⟨nD,kS,kT,kU,nE⟩:=ed;simp only[Y6,Xz,Us,X0g,X0Q,map_nil] at*;refine Qxe ?_;refine Qp ?_
   (show AWP prog E _ _ _;refine X2 ?_;exact(show Xa _ _ _ _ _ from⟨_,Xq 102 (cs':=[.d (.sl 3 []),.d (.sl 5 []),ai 0,ai 0]) rfl JM rfl,⟨⟨102,0,_,rfl,rfl,.inr ⟨4,_,rfl,rfl,rfl,rfl⟩⟩,rfl,TV⟩,X4 _⟩))
  |none=>
   rw[eC] at fk;simp only[Option.isSome_none,Option.getD_none,Bool.false_eq_true,if_false] at fk |-;generalize (X0r g.aj c.id).isSome=eb at*;generalize (X0r g.aj c.id).getD X7a=ed at*;obtain⟨nD,kS,kT,kU,nE⟩:=ed;by_cases h2:2000<=g.nodes.length
   ·rw[PI h2];have ek:(2000:Int)<=(g.nodes.map Xm).length:=by omega
    clear cE;obtain⟨op,id,src,dst,name,⟨vk,vn,vd,vs,vl⟩⟩:=c;obtain⟨ns,es,nn,ne⟩:=g;simp only[Y6,Xz,Us,X0g,X5r,X0Q,map_nil] at*;refine Qxe ?_;refine X7 ?_;refine Yx ?_
    (show AWP prog E _ _ _;refine X2 ?_;exact(show Xa _ _ _ _ _ from⟨_,Xq 102 (cs':=[.d (.sl 3 []),.d (.sl 5 []),ai 0,ai 0]) rfl JM rfl,⟨⟨102,0,_,rfl,rfl,.inr ⟨4,_,rfl,rfl,rfl,rfl⟩⟩,rfl,TV⟩,X4 _⟩))
   ·rw[NI h2];have ek:¬(2000:Int)<=(g.nodes.map Xm).length:=by omega
    generalize VJ g ⟨c.id,[],[]⟩=g' at*;obtain⟨op,id,src,dst,name,⟨vk,vn,vd,vs,vl⟩⟩:=c;obtain⟨ns,es,nn,ne⟩:=g;obtain⟨ns',es',nn',ne'⟩:=g';simp only[Y6,Xz,Us,X0g,X5r,X0Q,map_nil] at*;refine Qxe ?_;refine X7 ?_;refine U8 ?_
    (show AWP prog E _ _ _;refine X2 ?_;exact(show Xa _ _ _ _ _ from⟨_,St.le_refl _,⟨⟨102,0,_,rfl,rfl,.inr ⟨4,_,rfl,rfl,rfl,rfl⟩⟩,rfl,TV⟩,X4 _⟩))
 rw[NI h1];by_cases h6:c.op=6
 ·rw[PI h6];clear kH jD cE;generalize (VH g.nodes c.id).isSome=nb at*;generalize (VH g.nodes c.id).getD X5r=nd at*;generalize (VH g.nodes c.src).getD X5r=sd at*;generalize (VH g.nodes c.dst).getD X5r=dd at*;generalize (VH g.nodes c.src).isSome=sb at*;generalize (VH g.nodes c.dst).isSome=db at*;generalize (X0r g.aj c.id).isSome=eb at*;generalize (X0r g.aj c.id).getD X7a=ed at*;obtain⟨nD,kS,kT,kU,nE⟩:=ed;obtain⟨aH,nl,np⟩:=nd;obtain⟨sid,sl,sp⟩:=sd;obtain⟨tid,tl,tp⟩:=dd;cases eb with
  |true=>
   simp only[if_true];clear bx;obtain⟨op,id,src,dst,name,⟨vk,vn,vd,vs,vl⟩⟩:=c;obtain⟨ns,es,nn,ne⟩:=g;simp only[Y6,Xz,Us,X0g,X0Q,map_nil] at*;refine Qye ?_;refine YR ?_
   (show AWP prog E _ _ _;refine X2 ?_;exact(show Xa _ _ _ _ _ from⟨_,Xq 102 (cs':=[.d (.sl 3 []),.d (.sl 5 []),ai 0,ai 0]) rfl JM rfl,⟨⟨102,0,_,rfl,rfl,.inr ⟨4,_,rfl,rfl,rfl,rfl⟩⟩,rfl,TV⟩,X4 _⟩))
  |false=>
   simp only[Bool.false_eq_true,if_false];by_cases dw:sb=false\/db=false
   ·rw[PI dw];clear bx;obtain⟨op,id,src,dst,name,⟨vk,vn,vd,vs,vl⟩⟩:=c;obtain⟨ns,es,nn,ne⟩:=g;simp only[Y6,Xz,Us,X0g,X0Q,map_nil] at*;cases sb with
    |false=>
     refine Qye ?_;refine UP ?_
     (show AWP prog E _ _ _;refine X2 ?_;exact(show Xa _ _ _ _ _ from⟨_,Xq 102 (cs':=[.d (.sl 3 []),.d (.sl 5 []),ai 0,ai 0]) rfl JM rfl,⟨⟨102,0,_,rfl,rfl,.inr ⟨4,_,rfl,rfl,rfl,rfl⟩⟩,rfl,TV⟩,X4 _⟩))
    |true=>
     obtain rfl:db=false:=by simpa using dw
     refine Qye ?_;refine UP ?_
     (show AWP prog E _ _ _;refine X2 ?_;exact(show Xa _ _ _ _ _ from⟨_,Xq 102 (cs':=[.d (.sl 3 []),.d (.sl 5 []),ai 0,ai 0]) rfl JM rfl,⟨⟨102,0,_,rfl,rfl,.inr ⟨4,_,rfl,rfl,rfl,rfl⟩⟩,rfl,TV⟩,X4 _⟩))
   rw[NI dw];obtain⟨rfl,rfl⟩:sb=true/\db=true:=by simpa [not_or] using dw
   by_cases h4:4000<=g.aj.length
   ·rw[PI h4];have tP:(4000:Int)<=(g.aj.map Xr).length:=by omega
    clear bx;obtain⟨op,id,src,dst,name,⟨vk,vn,vd,vs,vl⟩⟩:=c;obtain⟨ns,es,nn,ne⟩:=g;simp only[Y6,Xz,Us,X0g,X0Q,map_nil] at*;refine Qye ?_;refine QV ?_
    (show AWP prog E _ _ _;refine X2 ?_;exact(show Xa _ _ _ _ _ from⟨_,Xq 102 (cs':=[.d (.sl 3 []),.d (.sl 5 []),ai 0,ai 0]) rfl JM rfl,⟨⟨102,0,_,rfl,rfl,.inr ⟨4,_,rfl,rfl,rfl,rfl⟩⟩,rfl,TV⟩,X4 _⟩))
   rw[NI h4];have tP:¬(4000:Int)<=(g.aj.map Xr).length:=by omega
   generalize X1d g ⟨c.id,c.src,c.dst,c.name,[]⟩=g' at*;obtain⟨op,id,src,dst,name,⟨vk,vn,vd,vs,vl⟩⟩:=c;obtain⟨ns,es,nn,ne⟩:=g;obtain⟨ns',es',nn',ne'⟩:=g';simp only[Y6,Xz,Us,X0g,X0Q,map_nil] at*;refine Qye ?_;refine Qla ?_
   (show AWP prog E _ _ _;refine X2 ?_;exact(show Xa _ _ _ _ _ from⟨_,St.le_refl _,⟨⟨102,0,_,rfl,rfl,.inr ⟨4,_,rfl,rfl,rfl,rfl⟩⟩,rfl,TV⟩,X4 _⟩))
 rw[NI h6];clear cE bx kZ jl;by_cases h7:c.op=7\/c.op=8
 ·rw[PI h7];clear kH;generalize (VH g.nodes c.id).isSome=nb at*;generalize (VH g.nodes c.id).getD X5r=nd at*;obtain⟨aH,nl,np⟩:=nd;cases he:X0r g.aj c.id with
  |none=>
   rw[he] at hE;simp only[Option.isSome_none,Option.getD_none] at hE |-;clear jD;obtain⟨op,id,src,dst,name,⟨vk,vn,vd,vs,vl⟩⟩:=c;obtain⟨ns,es,nn,ne⟩:=g;simp only[Y6,Xz,Us,X0g,X0Q,X7a,map_nil] at*;rcases h7 with rfl|rfl
   ·refine Qxe ?_;refine QUa ?_
    (show AWP prog E _ _ _;refine X2 ?_;exact(show Xa _ _ _ _ _ from⟨_,Xq 102 (cs':=[.d (.sl 3 []),.d (.sl 5 []),ai 0,ai 0]) rfl JM rfl,⟨⟨102,0,_,rfl,rfl,.inr ⟨4,_,rfl,rfl,rfl,rfl⟩⟩,rfl,TV⟩,X4 _⟩))
   ·refine Qxe ?_;refine X7 ?_;refine Yq ?_
    (show AWP prog E _ _ _;refine X2 ?_;exact(show Xa _ _ _ _ _ from⟨_,Xq 102 (cs':=[.d (.sl 3 []),.d (.sl 5 []),ai 0,ai 0]) rfl JM rfl,⟨⟨102,0,_,rfl,rfl,.inr ⟨4,_,rfl,rfl,rfl,rfl⟩⟩,rfl,TV⟩,X4 _⟩))
  |some e=>
   rw[he] at hE;simp only[Option.isSome_some,Option.getD_some] at hE |-;replace jD:=jD e he;generalize X58 g c e=g' at*;obtain⟨op,id,src,dst,name,⟨vk,vn,vd,vs,vl⟩⟩:=c;obtain⟨ns,es,nn,ne⟩:=g;obtain⟨⟨ns',es',nn',ne'⟩,ee⟩:=g';obtain⟨nD,kS,kT,kU,nE⟩:=e;simp only[Y6,Xz,Us,X0g,X0Q,map_nil] at*;rcases h7 with rfl|rfl
   ·refine Qxe ?_;refine QUa ?_;refine Z3 (af:=jD) ?_;refine W5_ ?_
    (show AWP prog E _ _ _;refine X2 ?_;exact(show Xa _ _ _ _ _ from⟨_,St.le_refl _,⟨⟨102,0,_,rfl,rfl,.inr ⟨4,_,rfl,rfl,rfl,rfl⟩⟩,rfl,TV⟩,X4 _⟩))
   ·refine Qxe ?_;refine X7 ?_;refine Yq ?_;refine Z3 (af:=jD) ?_;refine W5_ ?_
    (show AWP prog E _ _ _;refine X2 ?_;exact(show Xa _ _ _ _ _ from⟨_,St.le_refl _,⟨⟨102,0,_,rfl,rfl,.inr ⟨4,_,rfl,rfl,rfl,rfl⟩⟩,rfl,TV⟩,X4 _⟩))
 rw[NI h7];have vb:¬c.op=7:=fun h=>h7 (.inl h);have vc:¬c.op=8:=fun h=>h7 (.inr h);clear jD;generalize (X0r g.aj c.id).isSome=eb at*;generalize (X0r g.aj c.id).getD X7a=ed at*;obtain⟨nD,kS,kT,kU,nE⟩:=ed;cases eC:VH g.nodes c.id with
 |none=>
  rw[eC] at fk;simp only[Option.isSome_none,Option.getD_none] at fk |-;clear kH;obtain⟨op,id,src,dst,name,⟨vk,vn,vd,vs,vl⟩⟩:=c;obtain⟨ns,es,nn,ne⟩:=g;simp only[Y6,Xz,Us,X0g,X0Q,X5r,map_nil] at*;refine Qxe ?_;refine X7 ?_;refine Vl ?_
  (show AWP prog E _ _ _;refine X2 ?_;exact(show Xa _ _ _ _ _ from⟨_,Xq 102 (cs':=[.d (.sl 3 []),.d (.sl 5 []),ai 0,ai 0]) rfl JM rfl,⟨⟨102,0,_,rfl,rfl,.inr ⟨4,_,rfl,rfl,rfl,rfl⟩⟩,rfl,TV⟩,X4 _⟩))
 |some n=>
  rw[eC] at fk;simp only[Option.isSome_some,Option.getD_some] at fk |-;replace kH:=kH n eC;generalize X4n g c n=g' at*;obtain⟨op,id,src,dst,name,⟨vk,vn,vd,vs,vl⟩⟩:=c;obtain⟨ns,es,nn,ne⟩:=g;obtain⟨⟨ns',es',nn',ne'⟩,ee⟩:=g';obtain⟨aH,nl,np⟩:=n;simp only[Y6,Xz,Us,X0g,X0Q,map_nil] at*;refine Qxe ?_;refine X7 ?_;refine Vl ?_;refine Z3 (af:=kH) ?_;refine W5_ ?_
  (show AWP prog E _ _ _;refine X2 ?_;exact(show Xa _ _ _ _ _ from⟨_,St.le_refl _,⟨⟨102,0,_,rfl,rfl,.inr ⟨4,_,rfl,rfl,rfl,rfl⟩⟩,rfl,TV⟩,X4 _⟩))
theorem Xt1 (g:Gra) (l:List Chg) (hg:GraHold g) (hl:l.length<=9223372036854775807) (hok:∀c∈l,Xbf c):Con prog 73 [] [Y6 g,.d (.sl 10 (l.map Xs))] [] (.tup [Y6 (V9 g l).1,ai (V9 g l).2.1,ai (V9 g l).2.2]):=by
 refine ZCt func73 ntmps73 fun E=> ?_;have hk:=XbU g hg;have hlm:(l.map Xs).length=l.length:=by simp
 unfold V9;by_cases hc:X0n g≠0
 ·rw[PI hc];clear hg;generalize X0n g=e at*;obtain⟨ns,es,nn,ne⟩:=g;simp only[Y6,map_nil] at*;refine YY ?_
  (show AWP prog E _ _ _;refine X2 ?_;exact(show Xa _ _ _ _ _ from⟨_,Xq 101 (cs':=[.d (.sl 3 []),.d (.sl 5 []),ai 0,ai 0]) rfl JM rfl,⟨⟨101,0,_,rfl,rfl,.inr ⟨4,_,rfl,rfl,rfl,rfl⟩⟩,rfl,rfl,TV⟩,X4 _⟩))
 rw[NI hc];have hc:X0n g=0:=by simpa using hc
 rw[hc] at hk;have hv:=X5Q.1 hc;clear hc hg;generalize hR:VO g 0 l=R;obtain⟨ns,es,nn,ne⟩:=g;simp only[Y6] at hk |-;refine U1 ?_;clear hk
 refine Xn (ι:=Nat×Gra) (fun q=>q.1<=l.length/\GV q.2/\VO q.2 q.1 (l.drop q.1)=R) (fun q=>⟨41,[(1,.d (.sl 10 (l.map Xs))),(2,.ptr 100 0),(4,.ptr 101 0),(8,ai q.1)],[(100,.box [.d (.sl 3 (q.2.nodes.map Xm)),.d (.sl 5 (q.2.aj.map Xr)),ai q.2.nn,ai q.2.ne]),(101,.box [aq,aq,ai 0,ai 0])]⟩) (fun q=>l.length-q.1) (0,⟨ns,es,nn,ne⟩) ⟨Nat.zero_le _,hv,by simpa using hR⟩
  (ZL0) ?_
 rintro⟨i,g⟩ ⟨hi,hg,hr⟩;simp only at hi hg hr;clear hv hR;by_cases hil:i<l.length
 case neg=>
  have hn:¬(i:Int)<(l.map Xs).length:=by omega
  rw[XlV (by omega)] at hr;obtain rfl:i=l.length:=by omega
  subst hr;obtain⟨ns,es,nn,ne⟩:=g;simp only;rw[<-hlm];refine YR ?_
  (show AWP prog E _ _ _;refine X2 ?_;exact(show Xa _ _ _ _ _ from⟨_,St.le_refl _,⟨⟨101,0,_,rfl,rfl,.inr ⟨4,_,rfl,rfl,rfl,rfl⟩⟩,rfl,rfl,TV⟩,X4 _⟩))
 have hn:(i:Int)<(l.map Xs).length:=by omega
 obtain⟨x,hx⟩:=Xu (l:=l) hil;have au:(l.map Xs)[i]? =some (Xs x):=XM hx;have hs:=Xx4 g x hg (hok x (mem_of_getElem? hx)).2;rw[XgN hx] at hr;by_cases hq:(YM g x).2≠0
 ·rw[PI hq] at hr;subst hr;clear hx hg;generalize (YM g x).2=e at*;generalize (YM g x).1=g' at*;obtain⟨op,id,src,dst,name,⟨vk,vn,vd,vs,vl⟩⟩:=x;obtain⟨ns,es,nn,ne⟩:=g;obtain⟨ns',es',nn',ne'⟩:=g';simp only[Y6,Xz,Us,Xs,map_nil] at*;refine QMa ?_
  (show AWP prog E _ _ _;refine X2 ?_;exact(show Xa _ _ _ _ _ from⟨_,Xq 101 (cs':=[.d (.sl 3 []),.d (.sl 5 []),ai 0,ai 0]) rfl JM rfl,⟨⟨101,0,_,rfl,rfl,.inr ⟨4,_,rfl,rfl,rfl,rfl⟩⟩,rfl,rfl,TV⟩,X4 _⟩))
 rw[NI hq] at hr;have hq:(YM g x).2=0:=by simpa using hq
 have hg':=Xea hg hq;rw[hq] at hs;clear hx hg;generalize (YM g x).1=g' at*;obtain⟨op,id,src,dst,name,⟨vk,vn,vd,vs,vl⟩⟩:=x;obtain⟨ns,es,nn,ne⟩:=g;obtain⟨ns',es',nn',ne'⟩:=g';simp only[Y6,Xz,Us,Xs,map_nil] at*;refine Qr ?_;exact⟨(i+1,⟨ns',es',nn',ne'⟩),⟨by simp only;omega,hg',hr⟩,by simp only;omega,ZL0⟩
end Go.Fw

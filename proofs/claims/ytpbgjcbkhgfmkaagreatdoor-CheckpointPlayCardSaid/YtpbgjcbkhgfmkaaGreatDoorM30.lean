/- A label put on a node. -/
import Derived.Test.YtpbgjcbkhgfmkaaGreatDoorM29
set_option maxHeartbeats 32000000
namespace Go.Fw
open Go Go.Proofs Tryz List
set_option maxRecDepth 100000
set_option linter.unusedVariables false
set_option linter.unusedSimpArgs false
theorem Xbv {α:Type}{n:α}:∀{l:List α}{i:Nat},i<l.length->l.set i n=l.take i++[n]++l.drop (i+1)
 |[],i,h=>by simp at h
 |x::l,0,h=>rfl
 |x::l,i+1,h=>by
  rw[set_cons_succ,Xbv (by simpa using h),take_succ_cons,drop_succ_cons];rfl
variable{es:List Edg}{k ne nn:Int}{ns:List Nod}{i:Nat}{xs:List XN}{x y:XN}
theorem Xg8 {x n:Nod} (hg:GV ⟨ns,es,nn,ne⟩) (hx:ns[Xo ltI Nod.id ns k]? =some x) (hk:x.id=k) (hn:n.id=k):
  VJ ⟨ns,es,nn,ne⟩ n=⟨ns.set (Xo ltI Nod.id ns k) n,es,nn,ne⟩:=by
 have h1:=(hg.nodes x (mem_of_getElem? hx)).2.1;simp only at h1;have hlt:=(GS.1 hx).1;unfold VJ;simp only;have dL:max nn (n.id+1)=nn:=by omega
 subst hn;rw[X7P UY hg.ns hx hk,dL];simp only;rw[Xbv hlt]
theorem X5I (h:xs[i]? =some y):Y0 xs=Y0 (xs.take i)++(y.2.1,1,y.1.labels.map Xf)::(y.2.2,6,y.1.props.map Xd)::Y0 (xs.drop (i+1)):=by
 conv=>lhs;rw[XbL h,X7l,Xdc]
theorem Xd9 (h:xs[i]? =some x):Y0 (xs.take i)++(y.2.1,1,y.1.labels.map Xf)::(y.2.2,6,y.1.props.map Xd)::Y0 (xs.drop (i+1))=Y0 (xs.set i y):=by
 have hi:=(GS.1 h).1;have h2:(xs.set i y)[i]? =some y:=getElem?_set_self hi;rw[X5I h2,take_set_of_le (Nat.le_refl i),drop_set_of_lt (by omega)]
theorem XfK (h:xs[i]? =some x):((xs.map rXN).map cRN).set i (cRN (rXN y))=((xs.set i y).map rXN).map cRN:=by
 rw[map_set,map_set]
theorem Xuw (g:Gra) (c:Chg) (x:Nod) (hg:GV g) (ho:c.op=3) (hx:VH g.nodes c.id=some x) (q1:XD Yl x.labels c.name=false) (q2:x.labels.length<8):
  Con prog 180 (edS g) [.ptr 0 0,Xz c] (edN (VJ g ⟨x.id,UC aA Yl x.labels c.name [c.name],x.props⟩)) (.tup []):=by
 have bw:=X5c hx;rw[X6G hg] at hx;obtain⟨ns,es,nn,ne⟩:=g;have aB:=hg.ns;have ax:=hg.nl;have hlr:=(hg.nodes x bw.1).2.2.lr;simp only at hx aB ax;obtain⟨x',hx',bA⟩:=Option.bind_eq_some_iff.1 hx;obtain⟨hk,rfl⟩:x'.id=c.id/\x'=x:=by by_cases e:x'.id=c.id<;>simp[e] at bA |-;exact bA
 have q0:XD Nod.id ns c.id=true:=by rw[X10 UY aB];exact DT ⟨x',hx',hk⟩
 rw[Xg8 hg hx' hk (by exact hk)];rw[X4U q1];have hle:Xo ltI Nod.id ns c.id<ns.length:=(GS.1 hx').1;refine X0I (xs:=[]) func180 rfl ntmps180 rfl rfl rfl (fun E=> ?_);refine Xal ?_;refine X0y rfl rfl rfl rfl (fun xs ys h1 h2=> ?_);subst h1 h2;have hN:=X0X (xs.map rXN) (ys.map rXE) nn ne c.id (by simp at ax |-;omega) ((X0R xs).2 aB);rw[X0N,X13,q0] at hN;simp only[edL,LM] at hN ax hle;generalize Xo ltI Nod.id (xs.map (·.1)) c.id=i at*;obtain⟨⟨x1,u,v⟩,hy0,rfl⟩:∃y:XN,xs[i]? =some y/\y.1=x':=by
  rw[getElem?_map] at hx';obtain⟨y,e1,e2⟩:=Option.map_eq_some_iff.1 hx';exact⟨y,e1,e2⟩
 simp only at*;have cq:=VR 10;have fD:=VR 7;have gJ:=VR 20;have hS:=X5l 121 (X8X x1.labels c.name (by omega) hlr);have bF:(x1.labels.map Xf).length=x1.labels.length:=by simp
 have hal:=X5p (lt:=aA) (key:=Yl) x1.labels c.name;rw[q1,bF] at hS;have hI:=YK 110 122 (YK 1 121 (XtM (x1.labels.map Xf) (Xo aA Yl x1.labels c.name) [.v (.string (X6 c.name))] (fun x hx=>by obtain⟨p,_,rfl⟩:=mem_map.1 hx;rfl) rfl (by omega) (by omega)));rw[bF] at hI;have hI:Con prog 248 [(121,.row 1 (x1.labels.map Xf))] [.own 121 x1.labels.length,ai (Xo aA Yl x1.labels c.name:Nat),.d (.sl 1 [[.v (.string (X6 c.name))]])] [(121,.dead),(122,.row 1 ((x1.labels.map Xf).take (Xo aA Yl x1.labels c.name)++[.v (.string (X6 c.name))]::(x1.labels.map Xf).drop (Xo aA Yl x1.labels c.name)))] (.own 122 (x1.labels.length+1)):=hI;have eI:(x1.labels.map Xf).take (Xo aA Yl x1.labels c.name)++[.v (.string (X6 c.name))]::(x1.labels.map Xf).drop (Xo aA Yl x1.labels c.name)=(x1.labels.take (Xo aA Yl x1.labels c.name)++[c.name]++x1.labels.drop (Xo aA Yl x1.labels c.name)).map Xf:=by
  simp[map_take,map_drop,Xf]
 rw[eI] at hI;have pG:(x1.labels.take (Xo aA Yl x1.labels c.name)++[c.name]++x1.labels.drop (Xo aA Yl x1.labels c.name)).length=x1.labels.length+1:=by
  rw[AS];exact Xfk hal
 generalize x1.labels.take (Xo aA Yl x1.labels c.name)++[c.name]++x1.labels.drop (Xo aA Yl x1.labels c.name)=ls' at*;generalize Xo aA Yl x1.labels c.name=p at*;have pH:((x1.labels.map Xf).length:Int)<8:=by rw[LM];omega
 have eR:∀u',((xs.map rXN).map cRN).set i ([.v (.int .i64 x1.id),.v u',.v v])=((xs.set i ((⟨x1.id,ls',x1.props⟩:Nod),u',v)).map rXN).map cRN:=fun u'=>XfK hy0 (y:=((⟨x1.id,ls',x1.props⟩:Nod),u',v));have eB:∀u',Y0 (xs.take i)++(u',1,ls'.map Xf)::(v,6,x1.props.map Xd)::Y0 (xs.drop (i+1))=Y0 (xs.set i ((⟨x1.id,ls',x1.props⟩:Nod),u',v)):=fun u'=>Xd9 hy0 (y:=((⟨x1.id,ls',x1.props⟩:Nod),u',v));have bQ:=X5I hy0;simp only at bQ;have eX:∀u',(xs.map (·.1)).set i ⟨x1.id,ls',x1.props⟩=(xs.set i ((⟨x1.id,ls',x1.props⟩:Nod),u',v)).map (·.1):=fun u'=>by rw[map_set]
 have uS:∀u':Value,(xs.set i ((⟨x1.id,ls',x1.props⟩:Nod),u',v)).length=xs.length:=fun u'=>by simp
 have ay:xs.length=((xs.map rXN).map cRN).length:=by simp
 have eu:((xs.map rXN).map cRN)[i]? =some [.v (.int .i64 x1.id),.v u,.v v]:=by
  rw[getElem?_map,getElem?_map,hy0];rfl
 have aT:=X4Q (xs.map rXN);simp only[edN,edS,LM];clear hg aB hx hx' bA bw hlr q0 q1 ax;generalize hR:(xs.map rXN).map cRN=R at*;have hlm:(x1.labels.map Xf).length=x1.labels.length:=by simp
 generalize ax:x1.labels.length=nl at*;obtain⟨op,id,src,dst,name,⟨k0,k1,k2,k3,k4⟩⟩:=c;simp only at ho;subst ho;simp only[Xz,Us] at*;refine Qfd ?_;show AWP prog E _ _ _;refine X3R 0 0 3 120 rfl (by omega) rfl rfl ay rfl rfl (fun cp k aI aW bL _=> ?_);refine X8 (X5t 120 210 (i*3+1) 121 rfl (X4l _ aT eu rfl) (Eq.trans (b:= .bag (Y0 xs)) (by conv=>lhs;whnf) (by rw[bQ])) rfl rfl) ?_;rw[hlm];have jw:=X2f (k:=k) aT;have bI:=fun u':Value=>Xai (n:=xs.length) (replicate k none) aT eu (o:=1) (d:= .v u') (by simp) ay;simp only[set_cons_succ,set_cons_zero] at bI;generalize map some R.flatten++replicate k none=C at*;have hj:i*3+1<C.length:=by omega
 have hrd:=X57 (y:= .own 121 nl) hj;have cH:=X94 (y:= .own 121 nl) (z:= .own 122 (nl+1)) hj;have cP:0+i*3+1=i*3+1:=by omega
 have fj:=Eq.trans (CG (fun z=>(Yi C (some (_,.own 121 nl)))[z]?) cP) hrd;have hbd:0+i*3+1+1<=C.length:=by omega
 have bg:R.length=xs.length:=ay.symm;clear ay bF ax;have eH:=hlm.symm;refine Qid ?_;refine XQ ?_;refine Z3 (af:=fD) ?_;refine W6_ ?_;refine Qhd ?_;refine W1_ ?_;refine Zj (op:= .lss) (r':= .bool true) (u:= .int .i64 ((x1.labels.map Xf).length:Nat)) (v:= .int .i64 8) ?_ (hr':=by exact CG Value.bool (DT pH));refine Z3 (af:=gJ) ?_;refine W6_ ?_;refine Qjd ?_;refine Z3 (af:=hI) ?_;refine W2_ ?_;(refine Zi (cs':=C) (ho':=some (i*3+1,.own 122 (nl+1))) ?_ (hcs:= ?hcs54);(case hcs54=>exact(by rw[cP];exact cH)));refine W1_ ?_;show clo _ _ _ _;refine Xcw 120 210 (i*3+1) 122 (Y0 (xs.take i)) ((v,6,x1.props.map Xd)::Y0 (xs.drop (i+1))) (by conv=>lhs;whnf) hj (by conv=>lhs;whnf) (by conv=>lhs;whnf) (by rw[LM,pG]) (fun u'=> ?_);have hcap:cp*3<=(C.set (i*3+1) (some (.v u'))).length:=by rw[length_set];omega
 refine X3h (X8m 0 0 120 110 (R.set i [.v (.int .i64 x1.id),.v u',.v v]) (by conv=>lhs;whnf) (by conv=>lhs;whnf) rfl (bI u') (by rw[length_set];exact bg) (fun y hy=>by
  rcases mem_or_eq_of_mem_set hy with hy|rfl
  ·exact aT y hy
  ·rfl) (by omega) aW hcap rfl rfl) ?_
 refine X3h (X4w 110 210 (xs.set i ((⟨x1.id,ls',x1.props⟩:Nod),u',v)) (by refine Eq.trans (b:= .row 3 (R.set i [.v (.int .i64 x1.id),.v u',.v v])) (by conv=>lhs;whnf) (by rw[eR])) (by refine Eq.trans (b:= .bag (Y0 (xs.take i)++(u',1,ls'.map Xf)::(v,6,x1.props.map Xd)::Y0 (xs.drop (i+1)))) (by conv=>lhs;whnf) (by rw[eB]))) ?_;refine X3h (X4r 4 211 ys (by conv=>lhs;whnf) (by conv=>lhs;whnf)) ?_;refine Xcl (show Xa _ _ _ _ _ from⟨_,St.le_refl _,TV,?_⟩);rw[eX u',LM,length_set];exact Xj ⟨rfl,rfl,rfl,rfl,TV⟩
theorem Xv7 (g:Gra) (c:Chg) (x:Nod) (hg:GV g) (ho:c.op=4) (hx:VH g.nodes c.id=some x) (q1:XD Yl x.labels c.name=true):
  Con prog 180 (edS g) [.ptr 0 0,Xz c] (edN (VJ g ⟨x.id,UL Yl x.labels c.name,x.props⟩)) (.tup []):=by
 have bw:=X5c hx;rw[X6G hg] at hx;obtain⟨ns,es,nn,ne⟩:=g;have aB:=hg.ns;have ax:=hg.nl;have aD:=(hg.nodes x bw.1).2.2;simp only at hx aB ax;obtain⟨x',hx',bA⟩:=Option.bind_eq_some_iff.1 hx;obtain⟨hk,rfl⟩:x'.id=c.id/\x'=x:=by by_cases e:x'.id=c.id<;>simp[e] at bA |-;exact bA
 have q0:XD Nod.id ns c.id=true:=by rw[X10 UY aB];exact DT ⟨x',hx',hk⟩
 rw[Xg8 hg hx' hk (by exact hk)];have hle:Xo ltI Nod.id ns c.id<ns.length:=(GS.1 hx').1;refine X0I (xs:=[]) func180 rfl ntmps180 rfl rfl rfl (fun E=> ?_);refine Xal ?_;refine X0y rfl rfl rfl rfl (fun xs ys h1 h2=> ?_);subst h1 h2;have hN:=X0X (xs.map rXN) (ys.map rXE) nn ne c.id (by simp at ax |-;omega) ((X0R xs).2 aB);rw[X0N,X13,q0] at hN;simp only[edL,LM] at hN ax hle;generalize Xo ltI Nod.id (xs.map (·.1)) c.id=i at*;obtain⟨⟨x1,u,v⟩,hy0,rfl⟩:∃y:XN,xs[i]? =some y/\y.1=x':=by
  rw[getElem?_map] at hx';obtain⟨y,e1,e2⟩:=Option.map_eq_some_iff.1 hx';exact⟨y,e1,e2⟩
 simp only at*;have cq:=VR 10;have hlr:=aD.lr;have pI:=aD.ll;have qY:=VR 23;have hS:=X5l 121 (X8X x1.labels c.name (by omega) hlr);have bF:(x1.labels.map Xf).length=x1.labels.length:=by simp
 obtain⟨z0,bZ,qZ⟩:∃z,x1.labels[Xo aA Yl x1.labels c.name]? =some z/\Yl z=c.name:=by
  have h:=q1;rw[X10 X1t hlr] at h;exact decide_eq_true_iff.1 h
 have hal:Xo aA Yl x1.labels c.name<x1.labels.length:=(GS.1 bZ).1;rw[q1,bF] at hS;rw[Xcu X1t hlr bZ qZ];have hI:=YK 110 122 (YK 1 121 (XpU (x1.labels.map Xf) (Xo aA Yl x1.labels c.name) (fun x hx=>by obtain⟨p,_,rfl⟩:=mem_map.1 hx;rfl) (by omega) (by omega)));rw[bF] at hI;have hI:Con prog 249 [(121,.row 1 (x1.labels.map Xf))] [.own 121 x1.labels.length,ai (Xo aA Yl x1.labels c.name:Nat),ai ((Xo aA Yl x1.labels c.name+1:Nat):Int)] [(121,.dead),(122,.row 1 ((x1.labels.map Xf).take (Xo aA Yl x1.labels c.name)++(x1.labels.map Xf).drop (Xo aA Yl x1.labels c.name+1)))] (.own 122 (x1.labels.length-1)):=hI;have eI:(x1.labels.map Xf).take (Xo aA Yl x1.labels c.name)++(x1.labels.map Xf).drop (Xo aA Yl x1.labels c.name+1)=(x1.labels.take (Xo aA Yl x1.labels c.name)++x1.labels.drop (Xo aA Yl x1.labels c.name+1)).map Xf:=by
  simp[map_take,map_drop]
 rw[eI] at hI;have pG:(x1.labels.take (Xo aA Yl x1.labels c.name)++x1.labels.drop (Xo aA Yl x1.labels c.name+1)).length=x1.labels.length-1:=by
  rw[LA,LT,LD];omega
 clear bZ qZ q1 eI hlr;generalize x1.labels.take (Xo aA Yl x1.labels c.name)++x1.labels.drop (Xo aA Yl x1.labels c.name+1)=ls' at*;generalize Xo aA Yl x1.labels c.name=p at*;have eR:∀u',((xs.map rXN).map cRN).set i ([.v (.int .i64 x1.id),.v u',.v v])=((xs.set i ((⟨x1.id,ls',x1.props⟩:Nod),u',v)).map rXN).map cRN:=fun u'=>XfK hy0 (y:=((⟨x1.id,ls',x1.props⟩:Nod),u',v));have eB:∀u',Y0 (xs.take i)++(u',1,ls'.map Xf)::(v,6,x1.props.map Xd)::Y0 (xs.drop (i+1))=Y0 (xs.set i ((⟨x1.id,ls',x1.props⟩:Nod),u',v)):=fun u'=>Xd9 hy0 (y:=((⟨x1.id,ls',x1.props⟩:Nod),u',v));have bQ:=X5I hy0;simp only at bQ;have eX:∀u',(xs.map (·.1)).set i ⟨x1.id,ls',x1.props⟩=(xs.set i ((⟨x1.id,ls',x1.props⟩:Nod),u',v)).map (·.1):=fun u'=>by rw[map_set]
 have ay:xs.length=((xs.map rXN).map cRN).length:=by simp
 have eu:((xs.map rXN).map cRN)[i]? =some [.v (.int .i64 x1.id),.v u,.v v]:=by
  rw[getElem?_map,getElem?_map,hy0];rfl
 have aT:=X4Q (xs.map rXN);simp only[edN,edS,LM];clear hg aB hx hx' bA bw aD q0 ax;generalize hR:(xs.map rXN).map cRN=R at*;have hlm:(x1.labels.map Xf).length=x1.labels.length:=by simp
 generalize ax:x1.labels.length=nl at*;obtain⟨op,id,src,dst,name,⟨k0,k1,k2,k3,k4⟩⟩:=c;simp only at ho;subst ho;simp only[Xz,Us,XC,X15] at*;refine Qfd ?_;show AWP prog E _ _ _;refine X3R 0 0 3 120 rfl (by omega) rfl rfl ay rfl rfl (fun cp k aI aW bL _=> ?_);refine Qkd ?_;rw[hlm];have jw:=X2f (k:=k) aT;have bI:=fun u':Value=>Xai (n:=xs.length) (replicate k none) aT eu (o:=1) (d:= .v u') (by simp) ay;simp only[set_cons_succ,set_cons_zero] at bI;generalize map some R.flatten++replicate k none=C at*;have hj:i*3+1<C.length:=by omega
 have hrd:=X57 (y:= .own 121 nl) hj;have cH:=X94 (y:= .own 121 nl) (z:= .own 122 (nl-1)) hj;have cP:0+i*3+1=i*3+1:=by omega
 have fj:=Eq.trans (CG (fun z=>(Yi C (some (_,.own 121 nl)))[z]?) cP) hrd;have hbd:0+i*3+1+1<=C.length:=by omega
 have bg:R.length=xs.length:=ay.symm;clear ay ax bF;have eH:=hlm.symm;refine Qgd ?_;refine UP ?_;refine Qhd ?_;refine XR ?_;refine Z3 (af:=qY) ?_;refine W6_ ?_;refine Qhd ?_;refine W2_ ?_;refine ZBa ((p:Nat)) (1) (((p+1:Nat):Int)) ?_ (e:=rfl);refine Z3 (af:=hI) ?_;refine W2_ ?_;(refine Zi (cs':=C) (ho':=some (i*3+1,.own 122 (nl-1))) ?_ (hcs:= ?hcs55);(case hcs55=>exact(by rw[cP];exact cH)));refine W1_ ?_;show clo _ _ _ _;refine Xcw 120 210 (i*3+1) 122 (Y0 (xs.take i)) ((v,6,x1.props.map Xd)::Y0 (xs.drop (i+1))) (by conv=>lhs;whnf) hj (by conv=>lhs;whnf) (by conv=>lhs;whnf) (by rw[LM,pG]) (fun u'=> ?_);have hcap:cp*3<=(C.set (i*3+1) (some (.v u'))).length:=by rw[length_set];omega
 refine X3h (X8m 0 0 120 110 (R.set i ([.v (.int .i64 x1.id),.v u',.v v])) (by conv=>lhs;whnf) (by conv=>lhs;whnf) rfl (bI u') (by rw[length_set];exact bg) (fun y hy=>by
  rcases mem_or_eq_of_mem_set hy with hy|rfl
  ·exact aT y hy
  ·rfl) (by omega) aW hcap rfl rfl) ?_
 refine X3h (X4w 110 210 (xs.set i ((⟨x1.id,ls',x1.props⟩:Nod),u',v)) (by refine Eq.trans (b:= .row 3 (R.set i ([.v (.int .i64 x1.id),.v u',.v v]))) (by conv=>lhs;whnf) (by rw[eR])) (by refine Eq.trans (b:= .bag (Y0 (xs.take i)++(u',1,ls'.map Xf)::(v,6,x1.props.map Xd)::Y0 (xs.drop (i+1)))) (by conv=>lhs;whnf) (by rw[eB]))) ?_;refine X3h (X4r 4 211 ys (by conv=>lhs;whnf) (by conv=>lhs;whnf)) ?_;refine Xcl (show Xa _ _ _ _ _ from⟨_,St.le_refl _,TV,?_⟩);rw[eX u',LM,length_set];exact Xj ⟨rfl,rfl,rfl,rfl,TV⟩
theorem Xqf (g:Gra) (c:Chg) (x:Nod) (hg:GV g) (ho:c.op=5) (hx:VH g.nodes c.id=some x) (q1:(Ud x.props c.name c.v).length<=16):
  Con prog 180 (edS g) [.ptr 0 0,Xz c] (edN (VJ g ⟨x.id,x.labels,Ud x.props c.name c.v⟩)) (.tup []):=by
 have bw:=X5c hx;rw[X6G hg] at hx;obtain⟨ns,es,nn,ne⟩:=g;have aB:=hg.ns;have ax:=hg.nl;have aD:=(hg.nodes x bw.1).2.2;simp only at hx aB ax;obtain⟨x',hx',bA⟩:=Option.bind_eq_some_iff.1 hx;obtain⟨hk,rfl⟩:x'.id=c.id/\x'=x:=by by_cases e:x'.id=c.id<;>simp[e] at bA |-;exact bA
 have q0:XD Nod.id ns c.id=true:=by rw[X10 UY aB];exact DT ⟨x',hx',hk⟩
 rw[Xg8 hg hx' hk (by exact hk)];have hle:Xo ltI Nod.id ns c.id<ns.length:=(GS.1 hx').1;refine X0I (xs:=[]) func180 rfl ntmps180 rfl rfl rfl (fun E=> ?_);refine Xal ?_;refine X0y rfl rfl rfl rfl (fun xs ys h1 h2=> ?_);subst h1 h2;have hN:=X0X (xs.map rXN) (ys.map rXE) nn ne c.id (by simp at ax |-;omega) ((X0R xs).2 aB);rw[X0N,X13,q0] at hN;simp only[edL,LM] at hN ax hle;generalize Xo ltI Nod.id (xs.map (·.1)) c.id=i at*;obtain⟨⟨x1,u,v⟩,hy0,rfl⟩:∃y:XN,xs[i]? =some y/\y.1=x':=by
  rw[getElem?_map] at hx';obtain⟨y,e1,e2⟩:=Option.map_eq_some_iff.1 hx';exact⟨y,e1,e2⟩
 simp only at*;have cq:=VR 10;have hS:=YK 110 122 (YK 1 121 (XlA x1.props c.name c.v aD.pr aD.pl q1));have hS:Con prog 250 [(121,.row 6 (x1.props.map Xd))] [.own 121 x1.props.length,.d (.v (.string (X6 c.name))),XC c.v] [(121,.dead),(122,.row 6 ((Ud x1.props c.name c.v).map Xd))] (.own 122 (Ud x1.props c.name c.v).length):=by
  clear q1;rcases c with ⟨_,_,_,_,_,⟨_,_,_,_,_⟩⟩;exact hS
 clear q1;generalize Ud x1.props c.name c.v=ps' at*;have eR:∀u',((xs.map rXN).map cRN).set i ([.v (.int .i64 x1.id),.v u,.v u'])=((xs.set i ((⟨x1.id,x1.labels,ps'⟩:Nod),u,u')).map rXN).map cRN:=fun u'=>XfK hy0 (y:=((⟨x1.id,x1.labels,ps'⟩:Nod),u,u'));have eB:∀u',(Y0 (xs.take i)++[(u,1,x1.labels.map Xf)])++(u',6,ps'.map Xd)::Y0 (xs.drop (i+1))=Y0 (xs.set i ((⟨x1.id,x1.labels,ps'⟩:Nod),u,u')):=fun u'=>Eq.trans (by rw[AS];rfl)<|Xd9 hy0 (y:=((⟨x1.id,x1.labels,ps'⟩:Nod),u,u'))
 have bQ:=X5I hy0;simp only at bQ;have eX:∀u',(xs.map (·.1)).set i ⟨x1.id,x1.labels,ps'⟩=(xs.set i ((⟨x1.id,x1.labels,ps'⟩:Nod),u,u')).map (·.1):=fun u'=>by rw[map_set]
 have ay:xs.length=((xs.map rXN).map cRN).length:=by simp
 have eu:((xs.map rXN).map cRN)[i]? =some [.v (.int .i64 x1.id),.v u,.v v]:=by
  rw[getElem?_map,getElem?_map,hy0];rfl
 have aT:=X4Q (xs.map rXN);simp only[edN,edS,LM];clear hg aB hx hx' bA bw aD q0 ax;generalize hR:(xs.map rXN).map cRN=R at*;have hlm:(x1.props.map Xd).length=x1.props.length:=by simp
 generalize ax:x1.props.length=nl at*;obtain⟨op,id,src,dst,name,⟨k0,k1,k2,k3,k4⟩⟩:=c;simp only at ho;subst ho;simp only[Xz,Us,XC,X15] at*;refine Qad ?_;refine Ye ?_;show AWP prog E _ _ _;refine X3R 0 0 3 120 rfl (by omega) rfl rfl ay rfl rfl (fun cp k aI aW bL _=> ?_);refine Qld ?_;rw[hlm];have jw:=X2f (k:=k) aT;have bI:=fun u':Value=>Xai (n:=xs.length) (replicate k none) aT eu (o:=2) (d:= .v u') (by simp) ay;simp only[set_cons_succ,set_cons_zero] at bI;generalize map some R.flatten++replicate k none=C at*;have hj:i*3+2<C.length:=by omega
 have hrd:=X57 (y:= .own 121 nl) hj;have cH:=X94 (y:= .own 121 nl) (z:= .own 122 (ps'.length)) hj;have cP:0+i*3+2=i*3+2:=by omega
 have fj:=Eq.trans (CG (fun z=>(Yi C (some (_,.own 121 nl)))[z]?) cP) hrd;have hbd:0+i*3+2+1<=C.length:=by omega
 have bg:R.length=xs.length:=ay.symm;clear ay ax;have eH:=hlm.symm;refine Qgd ?_;refine UP ?_;refine Qjd ?_;refine Z3 (af:=hS) ?_;refine W2_ ?_;(refine Zi (cs':=C) (ho':=some (i*3+2,.own 122 (ps'.length))) ?_ (hcs:= ?hcs56);(case hcs56=>exact(by rw[cP];exact cH)));refine W1_ ?_;show clo _ _ _ _;refine Xcw 120 210 (i*3+2) 122 (Y0 (xs.take i)++[(u,1,x1.labels.map Xf)]) (Y0 (xs.drop (i+1))) (by conv=>lhs;whnf) hj (by conv=>lhs;whnf) (by conv=>lhs;whnf) (by rw[LM]) (fun u'=> ?_);have hcap:cp*3<=(C.set (i*3+2) (some (.v u'))).length:=by rw[length_set];omega
 refine X3h (X8m 0 0 120 110 (R.set i ([.v (.int .i64 x1.id),.v u,.v u'])) (by conv=>lhs;whnf) (by conv=>lhs;whnf) rfl (bI u') (by rw[length_set];exact bg) (fun y hy=>by
  rcases mem_or_eq_of_mem_set hy with hy|rfl
  ·exact aT y hy
  ·rfl) (by omega) aW hcap rfl rfl) ?_
 refine X3h (X4w 110 210 (xs.set i ((⟨x1.id,x1.labels,ps'⟩:Nod),u,u')) (by refine Eq.trans (b:= .row 3 (R.set i ([.v (.int .i64 x1.id),.v u,.v u']))) (by conv=>lhs;whnf) (by rw[eR])) (by refine Eq.trans (b:= .bag ((Y0 (xs.take i)++[(u,1,x1.labels.map Xf)])++(u',6,ps'.map Xd)::Y0 (xs.drop (i+1)))) (by conv=>lhs;whnf) (by rw[eB]))) ?_;refine X3h (X4r 4 211 ys (by conv=>lhs;whnf) (by conv=>lhs;whnf)) ?_;refine Xcl (show Xa _ _ _ _ _ from⟨_,St.le_refl _,TV,?_⟩);rw[eX u',LM,length_set];exact Xj ⟨rfl,rfl,rfl,rfl,TV⟩
theorem Xxo (g:Gra) (c:Chg) (hg:GV g) (hc:1<=c.id/\c.id<=1000000) (ho:c.op=6) (q1:XD Edg.id g.aj c.id=false) (qs:XD Nod.id g.nodes c.src=true) (qd:XD Nod.id g.nodes c.dst=true) (q2:g.aj.length<4000):
  Con prog 181 (edS g) [.ptr 0 0,Xz c] (edE (X1d g ⟨c.id,c.src,c.dst,c.name,[]⟩)) (.tup []):=by
 obtain⟨ns,es,nn,ne⟩:=g;have aB:=hg.ns;have ax:=hg.nl;have aO:=hg.es;have hne:=hg.ne;simp only at q1 qs qd q2 aB aO ax hne;have e0:X1d ⟨ns,es,nn,ne⟩ ⟨c.id,c.src,c.dst,c.name,[]⟩=⟨ns,es.take (Xo ltI Edg.id es c.id)++[⟨c.id,c.src,c.dst,c.name,[]⟩]++es.drop (Xo ltI Edg.id es c.id),nn,max ne (c.id+1)⟩:=by
  unfold X1d;simp only;rw[X4U q1]
 rw[e0];have hle:=X5p (lt:=ltI) (key:=Edg.id) es c.id;refine X0I (xs:=[]) func181 rfl ntmps181 rfl rfl rfl (fun E=> ?_);refine X0y rfl rfl rfl rfl (fun xs ys h1 h2=> ?_);subst h1 h2;have hE:=X4u (xs.map rXN) (ys.map rXE) nn ne c.id (by simp at q2 |-;omega) ((X4c ys).2 aO);have gb:=X0X (xs.map rXN) (ys.map rXE) nn ne c.src (by simp at ax |-;omega) ((X0R xs).2 aB);have gf:=X0X (xs.map rXN) (ys.map rXE) nn ne c.dst (by simp at ax |-;omega) ((X0R xs).2 aB);rw[X4m,X4F,q1] at hE;rw[X0N,X13,qs] at gb;rw[X0N,X13,qd] at gf;simp only[edL,LM] at hE gb gf q2 hle;generalize Xo ltI Edg.id (ys.map (·.1)) c.id=i at*;have hI:Con prog 252 [(4,.row 5 ((ys.map rXE).map cRE))] [.own 4 ((ys.map rXE).map cRE).length,ai (i:Nat),.d (.sl 5 [[.v (.int .i64 c.id),.v (.int .i64 c.src),.v (.int .i64 c.dst),.v (.string (X6 c.name)),.v (.slice none 0 0)]])] [(4,.dead),(110,.row 5 (((ys.map rXE).map cRE).take i++[.v (.int .i64 c.id),.v (.int .i64 c.src),.v (.int .i64 c.dst),.v (.string (X6 c.name)),.v (.slice none 0 0)]::((ys.map rXE).map cRE).drop i))] (.own 110 (((ys.map rXE).map cRE).length+1)):=
  YK 1 4 (Xvj ((ys.map rXE).map cRE) i [.v (.int .i64 c.id),.v (.int .i64 c.src),.v (.int .i64 c.dst),.v (.string (X6 c.name)),.v (.slice none 0 0)] (X6B _) rfl (by simp;omega) (by simp;omega))
 have fD:=VR 7;have cq:=VR 10;have gJ:=VR 20;have eX:(ys.map (·.1)).take i++[⟨c.id,c.src,c.dst,c.name,[]⟩]++(ys.map (·.1)).drop i=(ys.take i++((⟨c.id,c.src,c.dst,c.name,[]⟩:Edg),X0J)::ys.drop i).map (·.1):=by
  simp[map_take,map_drop]
 have eL:(ys.take i++((⟨c.id,c.src,c.dst,c.name,[]⟩:Edg),X0J)::ys.drop i).length=ys.length+1:=Xfk hle;have eR:((ys.map rXE).map cRE).take i++[.v (.int .i64 c.id),.v (.int .i64 c.src),.v (.int .i64 c.dst),.v (.string (X6 c.name)),.v (.slice none 0 0)]::((ys.map rXE).map cRE).drop i=((ys.take i++((⟨c.id,c.src,c.dst,c.name,[]⟩:Edg),X0J)::ys.drop i).map rXE).map cRE:=by
  simp[map_take,map_drop,rXE,cRE]
 have eB:U0 (ys.take i)++(X0J,6,[])::U0 (ys.drop i)=U0 (ys.take i++((⟨c.id,c.src,c.dst,c.name,[]⟩:Edg),X0J)::ys.drop i):=by rw[X9R,XmA];rfl
 have bQ:U0 ys=U0 (ys.take i)++U0 (ys.drop i):=by rw[<-X9R,take_append_drop]
 rw[eX];have ay:((ys.map rXE).map cRE).length=ys.length:=by simp
 rw[ay] at hI;simp only[edE,edS,LM,eL];have fX:(((ys.map rXE).map cRE).length:Int)<4000:=by rw[ay];omega
 have iS:ys.length=((ys.map rXE).map cRE).length:=ay.symm;clear hg aB aO e0 eX eL ax;generalize hR:(ys.map rXE).map cRE=R at*;generalize hX:ys.take i++((⟨c.id,c.src,c.dst,c.name,[]⟩:Edg),X0J)::ys.drop i=X at*;obtain⟨op,id,src,dst,name,⟨k0,k1,k2,k3,k4⟩⟩:=c
 try simp only at*
 subst ho;simp only[Xz,Us] at*;refine Qmd ?_;refine Yw ?_;refine Z3 (af:=fD) ?_;refine W6_ ?_;refine Qnd ?_;refine XR ?_;refine Z3 (af:=cq) ?_;refine W9_ ?_;refine Zj (op:= .lss) (r':= .bool true) (u:= .int .i64 (R.length:Nat)) (v:= .int .i64 4000) ?_ (hr':=by exact CG Value.bool (DT fX));refine Z3 (af:=gJ) ?_;refine Qma ?_;show Xa _ _ _ _ _;refine X4h (Xfe 211 6 (U0 (ys.take i)) (U0 (ys.drop i)) (by refine Eq.trans (b:= .bag (U0 ys)) (by conv=>lhs;whnf) (by rw[bQ]))) ?_;refine X4h (X4r 110 211 X (by refine Eq.trans (b:= .row 5 (R.take i++[.v (.int .i64 id),.v (.int .i64 src),.v (.int .i64 dst),.v (.string (X6 name)),.v (.slice none 0 0)]::R.drop i)) (by conv=>lhs;whnf) (by rw[eR])) (by refine Eq.trans (b:= .bag (U0 (ys.take i)++(X0J,6,[])::U0 (ys.drop i))) (by conv=>lhs;whnf) (by rw[eB]))) ?_;refine X4h (X4w 3 210 xs (by conv=>lhs;whnf) (by conv=>lhs;whnf)) ?_;exact Qed
theorem Xas {xs:List XE}{y:XE} (h:xs[i]? =some y):U0 xs=U0 (xs.take i)++(y.2,6,y.1.props.map Xd)::U0 (xs.drop (i+1)):=by
 conv=>lhs;rw[XbL h,X9R,XmA]
theorem Xtl {xs:List XE}{y x:XE} (h:xs[i]? =some x):U0 (xs.take i)++(y.2,6,y.1.props.map Xd)::U0 (xs.drop (i+1))=U0 (xs.set i y):=by
 have hi:=(GS.1 h).1;have h2:(xs.set i y)[i]? =some y:=getElem?_set_self hi;rw[Xas h2,take_set_of_le (Nat.le_refl i),drop_set_of_lt (by omega)]
theorem Xu6 {xs:List XE}{x y:XE} (h:xs[i]? =some x):((xs.map rXE).map cRE).set i (cRE (rXE y))=((xs.set i y).map rXE).map cRE:=by
 rw[map_set,map_set]
theorem XtH {x n:Edg} (hg:GV ⟨ns,es,nn,ne⟩) (hx:es[Xo ltI Edg.id es k]? =some x) (hk:x.id=k) (hn:n.id=k):
  X1d ⟨ns,es,nn,ne⟩ n=⟨ns,es.set (Xo ltI Edg.id es k) n,nn,ne⟩:=by
 have h1:=(hg.aj x (mem_of_getElem? hx)).2.1;simp only at h1;have hlt:=(GS.1 hx).1;unfold X1d;simp only;have dL:max ne (n.id+1)=ne:=by omega
 subst hn;rw[X7P UY hg.es hx hk,dL];simp only;rw[Xbv hlt]
theorem XqP (g:Gra) (c:Chg) (hg:GV g) (ho:c.op=7) (q1:XD Edg.id g.aj c.id=true):
  Con prog 181 (edS g) [.ptr 0 0,Xz c] (edE {g with aj:=UL Edg.id g.aj c.id}) (.tup []):=by
 obtain⟨ns,es,nn,ne⟩:=g;have aO:=hg.es;have hel:=hg.el;simp only at q1 aO hel;obtain⟨x0,hx0,bY⟩:=Xdj aO q1;have e0:UL Edg.id es c.id=es.take (Xo ltI Edg.id es c.id)++es.drop (Xo ltI Edg.id es c.id+1):=Xcu UY aO hx0 bY;simp only;rw[e0];have hle:Xo ltI Edg.id es c.id<es.length:=(GS.1 hx0).1;refine X0I (xs:=[]) func181 rfl ntmps181 rfl rfl rfl (fun E=> ?_);refine X0y rfl rfl rfl rfl (fun xs ys h1 h2=> ?_);subst h1 h2;have hE:=X4u (xs.map rXN) (ys.map rXE) nn ne c.id (by simp at hel |-;omega) ((X4c ys).2 aO);rw[X4m,X4F,q1] at hE;simp only[edL,LM] at hE hel hle;generalize Xo ltI Edg.id (ys.map (·.1)) c.id=i at*;have hD:Con prog 253 [(4,.row 5 ((ys.map rXE).map cRE))] [.own 4 ((ys.map rXE).map cRE).length,ai (i:Nat),ai ((i+1:Nat):Int)] [(4,.dead),(110,.row 5 (((ys.map rXE).map cRE).take i++((ys.map rXE).map cRE).drop (i+1)))] (.own 110 (((ys.map rXE).map cRE).length-1)):=
  YK 1 4 (XtN ((ys.map rXE).map cRE) i (X6B _) (by simp;omega) (by simp;omega))
 have nU:=VR 11;have eX:(ys.map (·.1)).take i++(ys.map (·.1)).drop (i+1)=(ys.take i++ys.drop (i+1)).map (·.1):=by simp[map_take,map_drop]
 have eL:(ys.take i++ys.drop (i+1)).length=ys.length-1:=by rw[LA,LT,LD];omega
 have eR:((ys.map rXE).map cRE).take i++((ys.map rXE).map cRE).drop (i+1)=((ys.take i++ys.drop (i+1)).map rXE).map cRE:=by simp[map_take,map_drop]
 obtain⟨y0,hy0⟩:∃y,ys[i]? =some y:=⟨_,getElem?_eq_getElem hle⟩
 have bQ:=Xas hy0;have eB:U0 (ys.take i)++U0 (ys.drop (i+1))=U0 (ys.take i++ys.drop (i+1)):=(X9R _ _).symm;rw[eX];have ay:((ys.map rXE).map cRE).length=ys.length:=by simp
 rw[ay] at hD;simp only[edE,edS,LM,eL];have iS:ys.length=((ys.map rXE).map cRE).length:=ay.symm;clear hg aO e0 eX eL hx0 bY q1 hy0 ay;generalize hR:(ys.map rXE).map cRE=R at*;generalize hX:ys.take i++ys.drop (i+1)=X at*;obtain⟨op,id,src,dst,name,⟨k0,k1,k2,k3,k4⟩⟩:=c;simp only at ho;subst ho;simp only[Xz,Us] at*;refine Qmd ?_;refine X1V ?_;refine QZc ?_;refine W6_ ?_;show Xa _ _ _ _ _;refine X4h (Xe7 211 (U0 (ys.take i)) (U0 (ys.drop (i+1))) (y0.2,6,y0.1.props.map Xd) (by refine Eq.trans (b:= .bag (U0 ys)) (by conv=>lhs;whnf) (by rw[bQ]))) ?_;refine X4h (X4r 110 211 X (by refine Eq.trans (b:= .row 5 (R.take i++R.drop (i+1))) (by conv=>lhs;whnf) (by rw[eR])) (by refine Eq.trans (b:= .bag (U0 (ys.take i)++U0 (ys.drop (i+1)))) (by conv=>lhs;whnf) (by rw[eB]))) ?_;refine X4h (X4w 3 210 xs (by conv=>lhs;whnf) (by conv=>lhs;whnf)) ?_;exact Qed
theorem XuF (g:Gra) (c:Chg) (x:Edg) (hg:GV g) (ho:c.op=8) (hx:X0r g.aj c.id=some x) (q1:(Ud x.props c.name c.v).length<=16):
  Con prog 181 (edS g) [.ptr 0 0,Xz c] (edE (X1d g ⟨x.id,x.src,x.dst,x.typ,Ud x.props c.name c.v⟩)) (.tup []):=by
 have bw:=Xc9 hx;rw[XnL hg] at hx;obtain⟨ns,es,nn,ne⟩:=g;have aO:=hg.es;have hel:=hg.el;have aD:=(hg.aj x bw.1).2.2.2.2.2;simp only at hx aO hel;obtain⟨x',hx',bA⟩:=Option.bind_eq_some_iff.1 hx;obtain⟨hk,rfl⟩:x'.id=c.id/\x'=x:=by by_cases e:x'.id=c.id<;>simp[e] at bA |-;exact bA
 have q0:XD Edg.id es c.id=true:=by rw[X10 UY aO];exact DT ⟨x',hx',hk⟩
 rw[XtH hg hx' hk (by exact hk)];have hle:Xo ltI Edg.id es c.id<es.length:=(GS.1 hx').1;refine X0I (xs:=[]) func181 rfl ntmps181 rfl rfl rfl (fun E=> ?_);refine Xal ?_;refine X0y rfl rfl rfl rfl (fun xs ys h1 h2=> ?_);subst h1 h2;have hE:=X4u (xs.map rXN) (ys.map rXE) nn ne c.id (by simp at hel |-;omega) ((X4c ys).2 aO);rw[X4m,X4F,q0] at hE;simp only[edL,LM] at hE hel hle;generalize Xo ltI Edg.id (ys.map (·.1)) c.id=i at*;obtain⟨⟨x1,u⟩,hy0,rfl⟩:∃y:XE,ys[i]? =some y/\y.1=x':=by
  rw[getElem?_map] at hx';obtain⟨y,e1,e2⟩:=Option.map_eq_some_iff.1 hx';exact⟨y,e1,e2⟩
 simp only at*;have nU:=VR 11;have hS:=YK 110 122 (YK 1 121 (XlA x1.props c.name c.v aD.pr aD.pl q1));have hS:Con prog 250 [(121,.row 6 (x1.props.map Xd))] [.own 121 x1.props.length,.d (.v (.string (X6 c.name))),XC c.v] [(121,.dead),(122,.row 6 ((Ud x1.props c.name c.v).map Xd))] (.own 122 (Ud x1.props c.name c.v).length):=by
  clear q1;rcases c with ⟨_,_,_,_,_,⟨_,_,_,_,_⟩⟩;exact hS
 clear q1;generalize Ud x1.props c.name c.v=ps' at*;have eR:∀u',((ys.map rXE).map cRE).set i ([.v (.int .i64 x1.id),.v (.int .i64 x1.src),.v (.int .i64 x1.dst),.v (.string (X6 x1.typ)),.v u'])=((ys.set i ((⟨x1.id,x1.src,x1.dst,x1.typ,ps'⟩:Edg),u')).map rXE).map cRE:=fun u'=>Xu6 hy0 (y:=((⟨x1.id,x1.src,x1.dst,x1.typ,ps'⟩:Edg),u'));have eB:∀u',(U0 (ys.take i))++(u',6,ps'.map Xd)::U0 (ys.drop (i+1))=U0 (ys.set i ((⟨x1.id,x1.src,x1.dst,x1.typ,ps'⟩:Edg),u')):=fun u'=>Xtl hy0 (y:=((⟨x1.id,x1.src,x1.dst,x1.typ,ps'⟩:Edg),u'));have bQ:=Xas hy0;simp only at bQ;have eX:∀u',(ys.map (·.1)).set i ⟨x1.id,x1.src,x1.dst,x1.typ,ps'⟩=(ys.set i ((⟨x1.id,x1.src,x1.dst,x1.typ,ps'⟩:Edg),u')).map (·.1):=fun u'=>by rw[map_set]
 have ay:ys.length=((ys.map rXE).map cRE).length:=by simp
 have eu:((ys.map rXE).map cRE)[i]? =some [.v (.int .i64 x1.id),.v (.int .i64 x1.src),.v (.int .i64 x1.dst),.v (.string (X6 x1.typ)),.v u]:=by
  rw[getElem?_map,getElem?_map,hy0];rfl
 have kY:=X6B (ys.map rXE);simp only[edE,edS,LM];clear hg aO hx hx' bA bw aD q0 hel;generalize hR:(ys.map rXE).map cRE=R at*;have hlm:(x1.props.map Xd).length=x1.props.length:=by simp
 generalize ax:x1.props.length=nl at*;obtain⟨op,id,src,dst,name,⟨k0,k1,k2,k3,k4⟩⟩:=c;simp only at ho;subst ho;simp only[Xz,Us,XC,X15] at*;refine Qmd ?_;refine YT ?_;show AWP prog E _ _ _;refine X3R 0 1 4 120 rfl (by omega) rfl rfl ay rfl rfl (fun cp k aI aW bL _=> ?_);refine Qod ?_;rw[hlm];have jw:=X2f (k:=k) kY;have bI:=fun u':Value=>Xai (n:=ys.length) (replicate k none) kY eu (o:=4) (d:= .v u') (by simp) ay;simp only[set_cons_succ,set_cons_zero] at bI;generalize map some R.flatten++replicate k none=C at*;have hj:i*5+4<C.length:=by omega
 have hrd:=X57 (y:= .own 121 nl) hj;have cH:=X94 (y:= .own 121 nl) (z:= .own 122 (ps'.length)) hj;have cP:0+i*5+4=i*5+4:=by omega
 have fj:=Eq.trans (CG (fun z=>(Yi C (some (_,.own 121 nl)))[z]?) cP) hrd;have hbd:0+i*5+4+1<=C.length:=by omega
 have bg:R.length=ys.length:=ay.symm;clear ay ax;have eH:=hlm.symm;refine XQ ?_;refine Zh (sz:=5) ?_;refine W1_ ?_;refine Qjd ?_;refine Z3 (af:=hS) ?_;refine Zh (sz:=5) ?_;refine W1_ ?_;(refine Zi (cs':=C) (ho':=some (i*5+4,.own 122 (ps'.length))) ?_ (hcs:= ?hcs57);(case hcs57=>exact(by rw[cP];exact cH)));refine W1_ ?_;show clo _ _ _ _;refine Xcw 120 211 (i*5+4) 122 (U0 (ys.take i)) (U0 (ys.drop (i+1))) (by conv=>lhs;whnf) hj (by conv=>lhs;whnf) (by conv=>lhs;whnf) (by rw[LM]) (fun u'=> ?_);have hcap:cp*5<=(C.set (i*5+4) (some (.v u'))).length:=by rw[length_set];omega
 refine X3h (X8m 0 1 120 110 (R.set i ([.v (.int .i64 x1.id),.v (.int .i64 x1.src),.v (.int .i64 x1.dst),.v (.string (X6 x1.typ)),.v u'])) (by conv=>lhs;whnf) (by conv=>lhs;whnf) rfl (bI u') (by rw[length_set];exact bg) (fun y hy=>by
  rcases mem_or_eq_of_mem_set hy with hy|rfl
  ·exact kY y hy
  ·rfl) (by omega) aW hcap rfl rfl) ?_
 refine X3h (X4r 110 211 (ys.set i ((⟨x1.id,x1.src,x1.dst,x1.typ,ps'⟩:Edg),u')) (by refine Eq.trans (b:= .row 5 (R.set i ([.v (.int .i64 x1.id),.v (.int .i64 x1.src),.v (.int .i64 x1.dst),.v (.string (X6 x1.typ)),.v u']))) (by conv=>lhs;whnf) (by rw[eR])) (by refine Eq.trans (b:= .bag (U0 (ys.take i)++(u',6,ps'.map Xd)::U0 (ys.drop (i+1)))) (by conv=>lhs;whnf) (by rw[eB]))) ?_;refine X3h (X4w 3 210 xs (by conv=>lhs;whnf) (by conv=>lhs;whnf)) ?_;refine Xcl (show Xa _ _ _ _ _ from⟨_,St.le_refl _,TV,?_⟩);rw[eX u',LM,length_set];exact Xj ⟨rfl,rfl,rfl,rfl,TV⟩
end Go.Fw

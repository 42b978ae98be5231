/- A graph copied. -/
import Derived.Test.YtpbgjcbkhgfmkaaGreatDoorM35
set_option maxHeartbeats 64000000
namespace Go.Fw
open Go Go.Proofs Tryz List
set_option maxRecDepth 100000
set_option linter.unusedVariables false
set_option linter.unusedSimpArgs false
section
variable {P:Program}{E:Env}{S:St}{Q:Exit->St->Prop}
theorem Xn9 {x y z:Code}{Q' ri:Exit->St->Prop} (U:St) (h:AWP P E x S (X3j (fun T=>AWP P E y T (X3j (fun T=>T.le U) ri)) Q')) (k:AWP P E z U Q):AWP P E x S (X3j (fun T=>AWP P E y T (X3j (fun T=>AWP P E z T Q) ri)) Q'):=
 XbF h fun e T hq=>by
  cases e with
  |normal=>exact X6x U hq k
  |_=>exact hq
end
variable{R:List (List D)}{i k:Nat}{d:ak}{g:Gra}{l:List Chg}{r:Rcd}{s:Sta}{t:Int}
theorem X8o {sz:Nat} (hz:∀x∈R,x.length=sz):(R.flatten.map some++replicate k (none:Option D)).take (R.length*sz)=R.flatten.map some:=by
 rw[take_left' (by rw[LM];exact X25 R hz)]
theorem XpV {k:Nat}{a b c u v:D} (T:List (Option D)) (hz:∀x∈R,x.length=3) (hi:R[i]? =some [a,b,c]):
  ((R.flatten.map some++T).set (i*3+1) (some u)).set (i*3+2) (some v)=(R.set i [a,u,v]).flatten.map some++T:=by
 have hlt:=(GS.1 hi).1;rw[Xe9 T hz hi (by simp)];have gC:∀x∈R.set i [a,u,c],x.length=3:=fun x hx=>by
  rcases mem_or_eq_of_mem_set hx with h|rfl
  ·exact hz x h
  ·rfl
 have hi':(R.set i [a,u,c])[i]? =some [a,u,c]:=by rw[getElem?_set_self hlt]
 have e:=Xe9 (o:=2) (d:=v) T gC hi' (by simp);simp only[set_cons_succ,set_cons_zero] at e |-;rw[e,set_set]
theorem Xxc (g:Gra) (hg:GV g):Con prog 114 [] [Y6 g] [(110,.nest 3 (g.nodes.map cNN)),(111,.nest 5 (g.aj.map cNE))] (.agg [.own 110 g.nodes.length,.own 111 g.aj.length,ai g.nn,ai g.ne]):=by
 obtain⟨ns,es,nn,ne⟩:=g;have ax:=hg.nl;have hel:=hg.el;have hnp:∀n∈ns,n.labels.length<=8/\n.props.length<=16:=fun n hn=>⟨((hg.nodes n hn).2.2).ll,((hg.nodes n hn).2.2).pl⟩
 have cJ:∀n∈es,n.props.length<=16:=fun n hn=>((hg.aj n hn).2.2.2.2.2).pl;simp only at ax hel;clear hg;refine ZC1 func114 ntmps114 fun E=> ?_;have jT:=XuX 110 (ns.map Xm) (by rw[LM];omega);have hce:=XoZ 111 (es.map Xr) (by rw[LM];omega);have lg:(ns.map Xm).length=ns.length:=by simp
 have kq:(es.map Xr).length=es.length:=by simp
 rw[lg] at jT;rw[kq] at hce;have jT:Con prog 175 [] [.d (.sl 3 (ns.map Xm))] [(110,.row 3 (ns.map Xm))] (.own 110 ns.length):=jT;have hce:Con prog 178 [] [.d (.sl 5 (es.map Xr))] [(111,.row 5 (es.map Xr))] (.own 111 es.length):=hce;unfold Y6;simp only;have m9:ns.length=(ns.map Xm).length:=lg.symm;have kQ:es.length=(es.map Xr).length:=kq.symm;refine Ye ?_;refine Xn9 ⟨60,[(1,.ptr 100 0),(2,.ptr 101 0),(3,.ptr 102 0)],[(100,.box [.d (.sl 3 (ns.map Xm)),.d (.sl 5 (es.map Xr)),ai nn,ai ne]),(101,.box [aq,aq,ai 0,ai 0]),(102,.box [.own 110 ns.length,.d (.sl 5 (es.map Xr)),ai nn,ai ne]),(110,.nest 3 (ns.map cNN))]⟩ ?_ ?_
 ·by_cases h0:ns=[]
  ·subst h0;refine W7_ ?_;refine Xn (fun _:Unit=>True) (fun _=>⟨60,[(1,.ptr 100 0),(2,.ptr 101 0),(3,.ptr 102 0),(15,ai (([]:List D).length:Nat)),(16,ai 0)],[(100,.box [.d (.sl 3 []),.d (.sl 5 (es.map Xr)),ai nn,ai ne]),(101,.box [aq,aq,ai 0,ai 0]),(102,.box [.own 110 0,.d (.sl 5 (es.map Xr)),ai nn,ai ne]),(110,.row 3 [])]⟩) (fun _=>0) () trivial (ZL0) ?_;intro _ _;have hn:¬(0:Int)<(([]:List D).length:Nat):=by simp
   refine W7_ ?_;refine St.le_trans (XbC 210 rfl) ?_;refine St.le_trans (X4w 110 210 [] rfl rfl) ?_;exact ZL0
  have hpos:0<(ns.map Xm).length:=by rw[lg];exact length_pos_iff.2 h0
  refine X3R 102 0 110 120 rfl hpos rfl rfl m9 rfl rfl (fun cp k aI aW bL _=> ?_);rw[lg] at aI bL;have hb0:(ns.map Xm).flatten.map some++replicate k none=(X28 ns []).flatten.map some++replicate k none:=by rw[XnY]
  rw[hb0];refine X8 (XbC 210 rfl) ?_;clear hel cJ kq kQ hpos hb0 h0 lg m9 jT hce;refine W3_ ?_;refine QIc ?_;refine W3_ ?_;refine Xn (ι:=List XN) (fun ys=>ys.map (·.1)=ns.take ys.length/\ys.length<=ns.length) (fun ys=>⟨60,[(1,.ptr 100 0),(2,.ptr 101 0),(3,.ptr 102 0),(14,.rs 120 0 ns.length cp),(15,ai ns.length),(16,ai ys.length)],[(100,.box [.d (.sl 3 (ns.map Xm)),.d (.sl 5 (es.map Xr)),ai nn,ai ne]),(101,.box [aq,aq,ai 0,ai 0]),(102,.box [.rs 120 0 ns.length cp,.d (.sl 5 (es.map Xr)),ai nn,ai ne]),(120,.raw ((X28 ns ys).flatten.map some++replicate k none) none),(210,.bag (Y0 ys))]⟩) (fun ys=>ns.length-ys.length) [] ⟨rfl,Nat.zero_le _⟩ (ZL0) ?_;rintro ys ⟨hy,cy⟩;by_cases hil:ys.length<ns.length
  case neg=>
   have hn:¬((ys.length:Nat):Int)<(ns.length:Nat):=by omega
   have jG:ys.map (·.1)=ns:=by rw[hy,take_of_length_le (by omega)]
   rw[Xse (by omega)];have aT:=X4Q (ys.map rXN);have hrl:((ys.map rXN).map cRN).length=ns.length:=by rw[LM,LM];omega
   have hlen:=X2f (k:=k) aT;rw[hrl] at hlen;have bO:=X8o (k:=k) aT;rw[hrl] at bO;refine W7_ ?_;refine St.le_trans (X8m 102 0 120 110 (n:=ns.length) (c:=cp) ((ys.map rXN).map cRN) (by conv=>lhs;whnf) (by conv=>lhs;whnf) rfl bO hrl aT aI aW (by rw[hlen];exact bL) rfl rfl) ?_;refine St.le_trans (X4w 110 210 ys (by conv=>lhs;whnf) (by conv=>lhs;whnf)) ?_;rw[jG];exact ZL0
  have hn:((ys.length:Nat):Int)<(ns.length:Nat):=by omega
  obtain⟨x,hx⟩:=Xu (l:=ns) hil;have iU:=XpN hx;have aT:=Xw8 ns ys;have hrl:=XvD cy;have hlen:=X2f (k:=k) aT;rw[hrl] at hlen;obtain⟨p1,p2⟩:=hnp x (mem_of_getElem? hx);have bI:=fun u v=>XwQ (u:=u) (v:=v) hx;have bD:=fun u v=>XvZ (u:=u) (v:=v) hy hx;obtain⟨aJ,xl,xp⟩:=x;simp only[Xm] at iU p1 p2;have hrow:((Yi ((X28 ns ys).flatten.map some++replicate k none) none).drop (0+ys.length*3)).take 3=[ai aJ,.d (.sl 1 (xl.map Xf)),.d (.sl 6 (xp.map Xd))]:=XdF (replicate k none) aT iU;have h3:=fun u v:Value=>XpV (k:=k) (u:= .v u) (v:= .v v) (replicate k none) aT iU;clear hx;generalize hi:ys.length=i at*;have bE:=Xpc 121 (xl.map Xf) (by rw[LM];omega);have cZ:=XlP 122 (xp.map Xd) (by rw[LM];omega);have bE:Con prog 176 [] [.d (.sl 1 (xl.map Xf))] [(121,.row 1 (xl.map Xf))] (.own 121 (xl.map Xf).length):=bE;have cZ:Con prog 177 [] [.d (.sl 6 (xp.map Xd))] [(122,.row 6 (xp.map Xd))] (.own 122 (xp.map Xd).length):=cZ;clear iU aT;generalize hC:(X28 ns ys).flatten.map some++replicate k (none:Option D)=C at*;have mc:i*3+1<C.length:=by omega
  have hw1:=Xfc (z:= .own 121 (xl.map Xf).length) mc;have e1:0+i*3+1=i*3+1:=by omega
  have ga:0+i*3+1+1<=C.length:=by omega
  have dG:0+i*3+2+1<=C.length:=by omega
  refine XR ?_;refine Zh (sz:=3) ?_;(refine Zm (ys:=[ai aJ,.d (.sl 1 (xl.map Xf)),.d (.sl 6 (xp.map Xd))]) (sz:=3) ?_ (hy:= ?hy73);(case hy73=>exact hrow));refine W5_ ?_;refine Qgd ?_;refine W1_ ?_;(refine Zi (cs':=C) (ho':=some (i*3+1,.own 121 (xl.map Xf).length)) ?_ (hcs:= ?hcs74);(case hcs74=>exact(by rw[e1];exact hw1)));refine W1_ ?_;show AWP prog E _ _ _;refine XcM 120 210 (i*3+1) 121 (Y0 ys) [] (by conv=>lhs;whnf) mc (Eq.trans (b:= .bag (Y0 ys)) (by conv=>lhs;whnf) (by rw[append_nil])) (by conv=>lhs;whnf) rfl (fun u=> ?_);have b7:(C.set (i*3+1) (some (D.v u))).length=C.length:=length_set;have hj2:i*3+2<(C.set (i*3+1) (some (D.v u))).length:=by omega
  have bK:=Xfc (z:= .own 122 (xp.map Xd).length) hj2;have e2:0+i*3+2=i*3+2:=by omega
  have h3:=h3 u;clear hw1 hrow bE;generalize uV:C.set (i*3+1) (some (D.v u))=C1 at*;have jg:0+i*3+2+1<=C1.length:=by omega
  refine Qgd ?_;refine W1_ ?_;(refine Zi (cs':=C1) (ho':=some (i*3+2,.own 122 (xp.map Xd).length)) ?_ (hcs:= ?hcs75);(case hcs75=>exact(by rw[e2];exact bK)));refine W1_ ?_;show AWP prog E _ _ _;refine XcM 120 210 (i*3+2) 122 (Y0 ys++[(u,1,xl.map Xf)]) [] (by conv=>lhs;whnf) hj2 (Eq.trans (b:= .bag (Y0 ys++(u,1,xl.map Xf)::[])) (by conv=>lhs;whnf) (by rw[append_nil])) (by conv=>lhs;whnf) rfl (fun v=> ?_);have me:=(h3 v).trans (by rw[show [D.v (Value.int IntKind.i64 aJ),D.v u,D.v v]=cRN (rXN ((⟨aJ,xl,xp⟩:Nod),u,v)) from rfl,bI u v]);have mg:(Y0 ys++[(u,1,xl.map Xf)])++(v,6,xp.map Xd)::[]=Y0 (ys++[((⟨aJ,xl,xp⟩:Nod),u,v)]):=by rw[X7l];simp[Y0,bXN]
  have pN:((i:Int)+1)=(((ys++[((⟨aJ,xl,xp⟩:Nod),u,v)]).length:Nat):Int):=by rw[LA,hi];rfl
  have hlen':(ys++[((⟨aJ,xl,xp⟩:Nod),u,v)]).length=i+1:=by rw[LA,hi];rfl
  have bD:=bD u v;clear h3 bI bK;generalize ys++[((⟨aJ,xl,xp⟩:Nod),u,v)]=ys' at*;refine W4_ ?_;refine⟨ys',⟨bD,by omega⟩,by omega,?_⟩;exact Xb rfl ⟨JL,JL,JL,JL,JL,AVal.le_of_eq (Eq.trans (b:=ai ((i:Int)+1)) rfl (by rw[pN])),TV⟩ ⟨rfl,rfl,rfl,Eq.trans (b:= .raw (C1.set (i*3+2) (some (D.v v))) none) rfl (by rw[me]),Eq.trans (b:= .bag ((Y0 ys++[(u,1,xl.map Xf)])++(v,6,xp.map Xd)::[])) rfl (by rw[mg]),TV⟩
 ·clear jT lg m9 ax hnp;show AWP prog E _ _ _;refine XA ?_;refine Xn9 ⟨60,[(1,.ptr 100 0),(2,.ptr 101 0),(3,.ptr 102 0)],[(100,.box [.d (.sl 3 (ns.map Xm)),.d (.sl 5 (es.map Xr)),ai nn,ai ne]),(101,.box [aq,aq,ai 0,ai 0]),(102,.box [.own 110 ns.length,.own 111 es.length,ai nn,ai ne]),(110,.nest 3 (ns.map cNN)),(111,.nest 5 (es.map cNE))]⟩ ?_ ?_
  ·by_cases h0:es=[]
   ·subst h0;refine W7_ ?_;refine Xn (fun _:Unit=>True) (fun _=>⟨60,[(1,.ptr 100 0),(2,.ptr 101 0),(3,.ptr 102 0),(44,ai (([]:List D).length:Nat)),(45,ai 0)],[(100,.box [.d (.sl 3 (ns.map Xm)),.d (.sl 5 []),ai nn,ai ne]),(101,.box [aq,aq,ai 0,ai 0]),(102,.box [.own 110 ns.length,.own 111 0,ai nn,ai ne]),(110,.nest 3 (ns.map cNN)),(111,.row 5 [])]⟩) (fun _=>0) () trivial (ZL0) ?_;intro _ _;have hn:¬(0:Int)<(([]:List D).length:Nat):=by simp
    refine W7_ ?_;refine St.le_trans (XbC 211 rfl) ?_;refine St.le_trans (X4r 111 211 [] rfl rfl) ?_;exact ZL0
   have hpos:0<(es.map Xr).length:=by rw[kq];exact length_pos_iff.2 h0
   refine X3R 102 1 111 123 rfl hpos rfl rfl kQ rfl rfl (fun cp k aI aW bL _=> ?_);rw[kq] at aI bL;have hb0:(es.map Xr).flatten.map some++replicate k none=(X22 es []).flatten.map some++replicate k none:=by rw[Xw6]
   rw[hb0];refine X8 (XbC 211 rfl) ?_;clear hpos hb0 h0 kq kQ hce;refine W3_ ?_;refine QIc ?_;refine W3_ ?_;refine Xn (ι:=List XE) (fun ys=>ys.map (·.1)=es.take ys.length/\ys.length<=es.length) (fun ys=>⟨60,[(1,.ptr 100 0),(2,.ptr 101 0),(3,.ptr 102 0),(43,.rs 123 0 es.length cp),(44,ai es.length),(45,ai ys.length)],[(100,.box [.d (.sl 3 (ns.map Xm)),.d (.sl 5 (es.map Xr)),ai nn,ai ne]),(101,.box [aq,aq,ai 0,ai 0]),(102,.box [.own 110 ns.length,.rs 123 0 es.length cp,ai nn,ai ne]),(110,.nest 3 (ns.map cNN)),(123,.raw ((X22 es ys).flatten.map some++replicate k none) none),(211,.bag (U0 ys))]⟩) (fun ys=>es.length-ys.length) [] ⟨rfl,Nat.zero_le _⟩ (ZL0) ?_;rintro ys ⟨hy,cy⟩;by_cases hil:ys.length<es.length
   case neg=>
    have hn:¬((ys.length:Nat):Int)<(es.length:Nat):=by omega
    have jG:ys.map (·.1)=es:=by rw[hy,take_of_length_le (by omega)]
    rw[XvM (by omega)];have aT:=X6B (ys.map rXE);have hrl:((ys.map rXE).map cRE).length=es.length:=by rw[LM,LM];omega
    have hlen:=X2f (k:=k) aT;rw[hrl] at hlen;have bO:=X8o (k:=k) aT;rw[hrl] at bO;refine W7_ ?_;refine St.le_trans (X8m 102 1 123 111 (n:=es.length) (c:=cp) ((ys.map rXE).map cRE) (by conv=>lhs;whnf) (by conv=>lhs;whnf) rfl bO hrl aT aI aW (by rw[hlen];exact bL) rfl rfl) ?_;refine St.le_trans (X4r 111 211 ys (by conv=>lhs;whnf) (by conv=>lhs;whnf)) ?_;rw[jG];exact ZL0
   have hn:((ys.length:Nat):Int)<(es.length:Nat):=by omega
   obtain⟨x,hx⟩:=Xu (l:=es) hil;have iU:=Xs5 hx;have aT:=XrI es ys;have hrl:=XoY cy;have hlen:=X2f (k:=k) aT;rw[hrl] at hlen;have p2:=cJ x (mem_of_getElem? hx);have bI:=fun u=>Xul (u:=u) hx;have bD:=fun u=>XxC (u:=u) hy hx;obtain⟨aJ,xs,xd,xt,xp⟩:=x;simp only[Xr] at iU p2;have hrow:((Yi ((X22 es ys).flatten.map some++replicate k none) none).drop (0+ys.length*5)).take 5=[ai aJ,ai xs,ai xd,.d (.v (.string (X6 xt))),.d (.sl 6 (xp.map Xd))]:=XdF (replicate k none) aT iU;have h3:=fun u:Value=>Xe9 (o:=4) (d:= .v u) (replicate k none) aT iU (by simp);simp only[set_cons_succ,set_cons_zero] at h3;clear hx;generalize hi:ys.length=i at*;have cZ:=XlP 122 (xp.map Xd) (by rw[LM];omega);have cZ:Con prog 177 [] [.d (.sl 6 (xp.map Xd))] [(122,.row 6 (xp.map Xd))] (.own 122 (xp.map Xd).length):=cZ;clear iU aT;generalize hC:(X22 es ys).flatten.map some++replicate k (none:Option D)=C at*;have mc:i*5+4<C.length:=by omega
   have hw1:=Xfc (z:= .own 122 (xp.map Xd).length) mc;have e1:0+i*5+4=i*5+4:=by omega
   have ga:0+i*5+4+1<=C.length:=by omega
   refine XR ?_;refine Zh (sz:=5) ?_;(refine Zm (ys:=[ai aJ,ai xs,ai xd,.d (.v (.string (X6 xt))),.d (.sl 6 (xp.map Xd))]) (sz:=5) ?_ (hy:= ?hy76);(case hy76=>exact hrow));refine W4_ ?_;refine W7_ ?_;refine Zh (sz:=5) ?_;refine W1_ ?_;(refine Zi (cs':=C) (ho':=some (i*5+4,.own 122 (xp.map Xd).length)) ?_ (hcs:= ?hcs77);(case hcs77=>exact(by rw[e1];exact hw1)));refine W1_ ?_;show AWP prog E _ _ _;refine XcM 123 211 (i*5+4) 122 (U0 ys) [] (by conv=>lhs;whnf) mc (Eq.trans (b:= .bag (U0 ys)) (by conv=>lhs;whnf) (by rw[append_nil])) (by conv=>lhs;whnf) rfl (fun u=> ?_);have me:=(h3 u).trans (by rw[show [D.v (Value.int IntKind.i64 aJ),D.v (Value.int IntKind.i64 xs),D.v (Value.int IntKind.i64 xd),D.v (Value.string (X6 xt)),D.v u]=cRE (rXE ((⟨aJ,xs,xd,xt,xp⟩:Edg),u)) from rfl,bI u]);have mg:U0 ys++(u,6,xp.map Xd)::[]=U0 (ys++[((⟨aJ,xs,xd,xt,xp⟩:Edg),u)]):=by rw[X9R];simp[U0,bXE]
   have pN:((i:Int)+1)=(((ys++[((⟨aJ,xs,xd,xt,xp⟩:Edg),u)]).length:Nat):Int):=by rw[LA,hi];rfl
   have hlen':(ys++[((⟨aJ,xs,xd,xt,xp⟩:Edg),u)]).length=i+1:=by rw[LA,hi];rfl
   have bD:=bD u;clear h3 bI hw1;generalize ys++[((⟨aJ,xs,xd,xt,xp⟩:Edg),u)]=ys' at*;refine W4_ ?_;refine⟨ys',⟨bD,by omega⟩,by omega,?_⟩;exact Xb rfl ⟨JL,JL,JL,JL,JL,AVal.le_of_eq (Eq.trans (b:=ai ((i:Int)+1)) rfl (by rw[pN])),TV⟩ ⟨rfl,rfl,rfl,rfl,Eq.trans (b:= .raw (C.set (i*5+4) (some (D.v u))) none) rfl (by rw[me]),Eq.trans (b:= .bag (U0 ys++(u,6,xp.map Xd)::[])) rfl (by rw[mg]),TV⟩
  ·clear hce kq kQ hel cJ;show AWP prog E _ _ _;refine W5_ ?_
   (show AWP prog E _ _ _;refine X2 ?_;exact(show Xa _ _ _ _ _ from⟨_,St.le_refl _,⟨⟨101,0,_,rfl,rfl,.inr ⟨4,_,rfl,rfl,rfl,rfl⟩⟩,TV⟩,Xj ⟨rfl,rfl,TV⟩⟩))
theorem XgN {c:Chg} (h:l[i]? =some c):VO g i (l.drop i)=if (YM g c).2≠0 then (VN,i,(YM g c).2) else VO (YM g c).1 (i+1) (l.drop (i+1)):=by
 obtain⟨hl,h⟩:=GS.1 h;rw[drop_eq_getElem_cons hl,h,VO]
theorem XlV (h:l.length<=i):VO g i (l.drop i)=(g,i,0):=by
 rw[drop_of_length_le h];rfl
theorem XtY (l:List Nod):((l.map cNN).map fun x=>x.map NC.toD)=l.map Xm:=by rw[map_map];exact map_congr_left fun n _=>rfl
theorem Xvh (l:List Edg):((l.map cNE).map fun x=>x.map NC.toD)=l.map Xr:=by rw[map_map];exact map_congr_left fun n _=>rfl
theorem XsW (l:List Nod):∀x∈l.map cNN,x.length=3:=fun x hx=>by obtain⟨p,_,rfl⟩:=mem_map.1 hx;rfl
theorem Xwj (l:List Edg):∀x∈l.map cNE,x.length=5:=fun x hx=>by obtain⟨p,_,rfl⟩:=mem_map.1 hx;rfl
abbrev X7x (g:Gra) (a b:Nat):AObj:= .box [.own a g.nodes.length,.own b g.aj.length,ai g.nn,ai g.ne]
abbrev X8e (g:Gra):AObj:= .nest 3 (g.nodes.map cNN)
abbrev X7E (g:Gra):AObj:= .nest 5 (g.aj.map cNE)
theorem XxD (g:Gra) (c:Chg) (hg:GV g) (ho:c.op<=5) (h:(YM g c).2=0):Con prog 115 [(102,X7x g 110 111),(110,X8e g),(111,X7E g)] [.ptr 102 0,Xz c] [(102,X7x (YM g c).1 120 111),(110,.dead),(111,X7E (YM g c).1),(120,X8e (YM g c).1)] (ai 0):=by
 have k:=YK 0 102 (YK 4 111 (YK 3 110 (YK 110 120 (XsK g c hg ho h))));obtain⟨op,id,src,dst,name,⟨vk,vn,vd,vs,vl⟩⟩:=c;exact k
theorem XuB (g:Gra) (c:Chg) (hg:GV g) (ho:¬c.op<=5) (h:(YM g c).2=0):Con prog 115 [(102,X7x g 110 111),(110,X8e g),(111,X7E g)] [.ptr 102 0,Xz c] [(102,X7x (YM g c).1 110 120),(110,X8e (YM g c).1),(111,.dead),(120,X7E (YM g c).1)] (ai 0):=by
 have k:=YK 0 102 (YK 4 111 (YK 3 110 (YK 110 120 (XrL g c hg ho h))));obtain⟨op,id,src,dst,name,⟨vk,vn,vd,vs,vl⟩⟩:=c;exact k
theorem Xtd (g:Gra) (c:Chg) (hg:GV g) (h:(YM g c).2≠0):Con prog 115 [(102,X7x g 110 111),(110,X8e g),(111,X7E g)] [.ptr 102 0,Xz c] [(102,.dead),(110,.dead),(111,.dead)] (ai (YM g c).2):=by
 have k:=YK 0 102 (YK 4 111 (YK 3 110 (Xr3 g c hg h)));obtain⟨op,id,src,dst,name,⟨vk,vn,vd,vs,vl⟩⟩:=c;exact k
theorem XjQ (g:Gra) (l:List Chg) (hg:GraHold g) (hl:l.length<=9223372036854775807):Con prog 69 [] [Y6 g,.d (.sl 10 (l.map Xs))] [] (.tup [Y6 (V9 g l).1,ai (V9 g l).2.1,ai (V9 g l).2.2]):=by
 refine ZCt func69 ntmps69 fun E=> ?_;have hk:=Xct g hg;have hlm:(l.map Xs).length=l.length:=by simp
 unfold V9;by_cases hc:X0n g≠0
 ·rw[PI hc];clear hg;generalize X0n g=e at*;obtain⟨ns,es,nn,ne⟩:=g;simp only[Y6,map_nil] at*;refine YY ?_
  (show AWP prog E _ _ _;refine X2 ?_;exact(show Xa _ _ _ _ _ from⟨_,Xq 101 (cs':=[.d (.sl 3 []),.d (.sl 5 []),ai 0,ai 0]) rfl JM rfl,⟨⟨101,0,_,rfl,rfl,.inr ⟨4,_,rfl,rfl,rfl,rfl⟩⟩,rfl,rfl,TV⟩,X4 _⟩))
 rw[NI hc];have hc:X0n g=0:=by simpa using hc
 rw[hc] at hk;have hv:=X5Q.1 hc;have cZ:=Xxc g hv;clear hc hg;generalize hR:VO g 0 l=R;obtain⟨ns,es,nn,ne⟩:=g;simp only[Y6] at hk cZ |-;refine X0Z ?_;clear hk cZ
 refine Xn (ι:=Nat×Gra) (fun q=>q.1<=l.length/\GV q.2/\VO q.2 q.1 (l.drop q.1)=R) (fun q=>⟨40,[(1,.d (.sl 10 (l.map Xs))),(4,.ptr 101 0),(8,.ptr 102 0),(21,.d (.sl 10 (l.map Xs))),(22,ai (l.map Xs).length),(23,ai q.1)],[(101,.box [aq,aq,ai 0,ai 0]),(102,X7x q.2 110 111),(110,X8e q.2),(111,X7E q.2)]⟩) (fun q=>l.length-q.1) (0,⟨ns,es,nn,ne⟩) ⟨Nat.zero_le _,hv,by simpa using hR⟩
  (ZL0) ?_
 rintro⟨i,g⟩ ⟨hi,hg,hr⟩;simp only at hi hg hr;clear hv hR;by_cases hil:i<l.length
 case neg=>
  have hn:¬(i:Int)<(l.map Xs).length:=by omega
  rw[XlV (by omega)] at hr;obtain rfl:i=l.length:=by omega
  subst hr;obtain⟨ns,es,nn,ne⟩:=g;simp only;refine W8_ ?_;show AWP prog E _ _ _;refine X8 (XmW 110 (by conv=>lhs;whnf) (XsW _)) ?_;refine X8 (XmW 111 (by conv=>lhs;whnf) (Xwj _)) ?_;rw[XtY,Xvh];refine X8 (X03 102 0 110 (by conv=>lhs;whnf) rfl (by conv=>lhs;whnf) (by rw[LM])) ?_;refine X8 (X03 102 1 111 (by conv=>lhs;whnf) rfl (by conv=>lhs;whnf) (by rw[LM])) ?_;rw[<-hlm];refine W9_ ?_
  (show AWP prog E _ _ _;refine X2 ?_;exact(show Xa _ _ _ _ _ from⟨_,St.le_refl _,⟨⟨101,0,_,rfl,rfl,.inr ⟨4,_,rfl,rfl,rfl,rfl⟩⟩,rfl,rfl,TV⟩,X4 _⟩))
 have hn:(i:Int)<(l.map Xs).length:=by omega
 obtain⟨x,hx⟩:=Xu (l:=l) hil;have au:(l.map Xs)[i]? =some (Xs x):=XM hx;rw[XgN hx] at hr;clear hx;by_cases hq:(YM g x).2≠0
 ·rw[PI hq] at hr;subst hr;have hs:=Xtd g x hg hq;clear hg;generalize (YM g x).2=e at*;obtain⟨op,id,src,dst,name,⟨vk,vn,vd,vs,vl⟩⟩:=x;simp only[Y6,Xz,Us,Xs,map_nil] at*;refine X17 ?_
  (show AWP prog E _ _ _;refine X2 ?_;exact(show Xa _ _ _ _ _ from⟨_,Xq 101 (cs':=[.d (.sl 3 []),.d (.sl 5 []),ai 0,ai 0]) rfl JM rfl,⟨⟨101,0,_,rfl,rfl,.inr ⟨4,_,rfl,rfl,rfl,rfl⟩⟩,rfl,rfl,TV⟩,X4 _⟩))
 rw[NI hq] at hr;have hq:(YM g x).2=0:=by simpa using hq
 have hg':=Xea hg hq;by_cases ho:x.op<=5
 ·have hs:=XxD g x hg ho hq;clear hg hq;generalize (YM g x).1=g' at*;obtain⟨op,id,src,dst,name,⟨vk,vn,vd,vs,vl⟩⟩:=x;simp only[Xz,Us,Xs] at*;refine UX ?_;refine⟨(i+1,g'),⟨by simp only;omega,hg',hr⟩,by simp only;omega,?_⟩;refine St.le_trans (Xko 110 120 (by decide) (by decide)) ?_;exact ZL0
 ·have hs:=XuB g x hg ho hq;clear hg hq;generalize (YM g x).1=g' at*;obtain⟨op,id,src,dst,name,⟨vk,vn,vd,vs,vl⟩⟩:=x;simp only[Xz,Us,Xs] at*;refine UX ?_;refine⟨(i+1,g'),⟨by simp only;omega,hg',hr⟩,by simp only;omega,?_⟩;refine St.le_trans (Xko 111 120 (by decide) (by decide)) ?_;exact ZL0
theorem XrP {a:Gra×Nat×Int} (h:(ofA s t a).2≠0):(ofA s t a).1=Yd:=by
 unfold ofA at h |-;by_cases q:a.2.2≠0
 ·rw[PI q]
 ·rw[NI q] at h;simp at h
theorem Xi7 {a:List Rul×Int} (h:(ofR s t a).2≠0):(ofR s t a).1=Yd:=by
 unfold ofR at h |-;by_cases q:a.2≠0
 ·rw[PI q]
 ·rw[NI q] at h;simp at h
theorem XxF (h:(U3 s r).2≠0):(U3 s r).1=Yd:=by
 unfold U3 at h |-;by_cases c1:YN s=false
 ·rw[PI c1]
 rw[NI c1] at h |-;by_cases c2:UH r≠0
 ·rw[PI c2]
 rw[NI c2] at h |-;by_cases c3:(r.kind=3/\r.ts<s.ts)\/(r.kind≠3/\r.ts≠s.ts+1)
 ·rw[PI c3]
 rw[NI c3] at h |-;by_cases c4:r.kind=1
 ·rw[PI c4] at h |-;exact XrP h
 rw[NI c4] at h |-;by_cases c5:r.kind=2
 ·rw[PI c5] at h |-;by_cases c6:r.off=true
  ·rw[PI c6] at h |-;exact Xi7 h
  ·rw[NI c6] at h |-;exact Xi7 h
 rw[NI c5] at h;simp at h
theorem Xg2 (h:YN s=true):StaHold (U3 s r).1:=by
 by_cases q:(U3 s r).2=0
 ·have:=(Vk.1 (XeJ q).v)
  exact⟨X5u this.1,by have:=this.2.1.len;omega⟩
 ·rw[XxF q];exact⟨X2Y,by simp⟩
theorem XnA (s:Sta) (r:Rcd) (hs:StaHold s) (hr:X0z r):Con prog 34 [] [Xy s,Uv r] [] (.tup [Xy (U3 s r).1,ai (U3 s r).2]):=by
 refine ZCt func34 ntmps34 fun E=> ?_;have hv:=Xa1 s hs;have hc:=Xbz r hr;have aS:Xy Yd= .agg [.d (.sl 3 []),.d (.sl 5 []),ai 0,ai 0,.d (.sl 6 []),ai 0,ai 0,ai 0]:=rfl;by_cases q1:YN s=true
 case neg=>
  have q1:YN s=false:=by simpa using q1
  have e:U3 s r=(Yd,19):=by unfold U3;rw[PI q1]
  rw[e];simp only[aS];rw[q1] at hv;clear e q1 hs hr hc aS;obtain⟨⟨ns,es,nn,ne⟩,rs,ts,ep,tail⟩:=s;obtain⟨kd,rts,l,⟨k,n,name,key,src,dst⟩,off⟩:=r;simp only[Xy,Uv] at*;refine Ye ?_;exact QFd
 rw[q1] at hv;obtain⟨v1,v2,t0,t1,_⟩:=Vk.1 q1;by_cases q2:UH r=0
 case neg=>
  have e:U3 s r=(Yd,UH r):=by unfold U3;rw[NI (by simp[q1]),PI q2]
  rw[e];simp only[aS];clear e q1 hs hr v1 v2 aS;generalize UH r=x at*;obtain⟨⟨ns,es,nn,ne⟩,rs,ts,ep,tail⟩:=s;obtain⟨kd,rts,l,⟨k,n,name,key,src,dst⟩,off⟩:=r;simp only[Xy,Uv] at*;refine X07 ?_;exact QFd
 rw[q2] at hc;have hg:=X5u v1;have hap:=XjQ s.g r.changes hg hr.1;have had:=Xvw s.rules r.rule hs.rl;have bX:=Xvm s.rules r.rule hs.rl;have e0:U3 s r=if (r.kind=3/\r.ts<s.ts)\/(r.kind≠3/\r.ts≠s.ts+1) then (Yd,26) else if r.kind=1 then ofA s r.ts (V9 s.g r.changes) else if r.kind=2 then (if r.off=true then ofR s r.ts (VC s.rules r.rule) else ofR s r.ts (Vc s.rules r.rule)) else (s,0):=by
  unfold U3;rw[NI (by simp[q1]),NI (by simp[q2])]
 rw[e0];clear e0 q1 q2 hs hr v1 v2 hg;generalize V9 s.g r.changes=A at*;generalize Vc s.rules r.rule=B at*;generalize VC s.rules r.rule=C at*;obtain⟨⟨an,ae,rj,rm⟩,a2,a3⟩:=A;obtain⟨b1,b2⟩:=B;obtain⟨c1,c2⟩:=C;obtain⟨⟨ns,es,nn,ne⟩,rs,ts,ep,tail⟩:=s;obtain⟨kd,rts,l,⟨k,n,name,key,src,dst⟩,off⟩:=r;simp only[Xy,Uv,Y6,Yu,X4Z] at*;by_cases q3:kd=3
 ·subst q3;by_cases q4:rts<ts
  ·rw[PI (.inl ⟨rfl,q4⟩)];simp only[Yd,map_nil];refine X7 ?_;refine W8_ ?_;refine Qm ?_;refine Qg ?_;refine XA ?_;exact QFd
  ·rw[NI (by simp;omega),NI (by simp),NI (by simp)];simp only;have uW:¬(3:Int)=1:=by decide
   have uX:¬(3:Int)=2:=by decide
   exact QHd
 by_cases q4:rts=ts+1
 case neg=>
  rw[PI (.inr ⟨q3,q4⟩)];simp only[Yd,map_nil];have n9:rts≠ts+1:=q4;refine X7 ?_;refine Yq ?_;exact QFd
 rw[NI (by rintro(⟨h,_⟩|⟨_,h⟩);exact q3 h;exact h q4)];by_cases q5:kd=1
 ·subst q5;rw[PI rfl];unfold ofA;simp only;by_cases q6:a3=0
  ·subst q6;rw[NI (by simp)];simp only;clear had bX;exact QHd
  ·rw[PI q6];simp only[Yd,map_nil];clear had bX;refine QCa ?_;refine YY ?_;exact QFd
 rw[NI q5];by_cases q7:kd=2
 case neg=>
  rw[NI q7];simp only;clear hap had bX;exact QHd
 subst q7;rw[PI rfl];unfold ofR;clear hap;cases off with
 |true=>
  rw[PI rfl];simp only;by_cases q6:c2=0
  ·subst q6;rw[NI (by simp)];simp only;refine QCa ?_;refine X17 ?_;exact QGd
  ·rw[PI q6];simp only[Yd,map_nil];refine QCa ?_;refine X17 ?_;exact QFd
 |false=>
  rw[NI (by simp)];simp only;by_cases q6:b2=0
  ·subst q6;rw[NI (by simp)];simp only;refine QCa ?_;refine X7 ?_;refine W7_ ?_;exact QGd
  ·rw[PI q6];simp only[Yd,map_nil];refine QCa ?_;refine X7 ?_;refine W7_ ?_;exact QFd
theorem XjG (s:Sta):Xy s= .agg [.d (.sl 3 (s.g.nodes.map Xm)),.d (.sl 5 (s.g.aj.map Xr)),ai s.g.nn,ai s.g.ne,.d (.sl 6 (s.rules.map Xh)),ai s.ts,ai s.ep,ai s.tail]:=rfl
theorem X8Z (s:Sta) (l:List Rcd) (hs:StaHold s) (hl:l.length<=9223372036854775807) (hr:∀r∈l,X0z r):Con prog 46 [] [Xy s,.d (.sl 10 (l.map Yp))] [] (.tup [Xy (YA s l).1,ai (YA s l).2]):=by
 refine ZCt func46 ntmps46 fun E=> ?_;have hlm:(l.map Yp).length=l.length:=by simp
 have aS:Xy Yd= .agg [.d (.sl 3 []),.d (.sl 5 []),ai 0,ai 0,.d (.sl 6 []),ai 0,ai 0,ai 0]:=rfl;generalize hG:YA s l=G;rw[XjG];refine XG ?_
 refine Xn (ι:=Nat×Sta) (fun q=>q.1<=l.length/\YA q.2 (l.drop q.1)=G/\StaHold q.2) (fun q=>⟨29,[(1,.d (.sl 10 (l.map Yp))),(2,.ptr 100 0),(4,.ptr 101 0),(10,.d (.sl 10 (l.map Yp))),(11,ai (l.map Yp).length),(12,ai q.1)],[(100,.box [.d (.sl 3 (q.2.g.nodes.map Xm)),.d (.sl 5 (q.2.g.aj.map Xr)),ai q.2.g.nn,ai q.2.g.ne,.d (.sl 6 (q.2.rules.map Xh)),ai q.2.ts,ai q.2.ep,ai q.2.tail]),(101,.box [aq,aq,ai 0,ai 0,aq,ai 0,ai 0,ai 0])]⟩) (fun q=>l.length-q.1) (0,s) ⟨Nat.zero_le _,by simpa using hG,hs⟩
  (ZL0) ?_
 rintro⟨i,x⟩ ⟨hi,hg,hx⟩;simp only at hi hg hx;by_cases hil:i<l.length
 case neg=>
  have hn:¬(i:Int)<(l.map Yp).length:=by omega
  rw[drop_of_length_le (by omega),show YA x []=(x,0) from rfl] at hg;subst hg;obtain⟨⟨ns,es,nn,ne⟩,rs,ts,ep,tail⟩:=x;simp only[Xy];refine XQ ?_;exact QId
 have hn:(i:Int)<(l.map Yp).length:=by omega
 obtain⟨r,cX⟩:=Xu (l:=l) hil;have hrc:(l.map Yp)[i]? =some (Yp r):=XM cX;have hp:=XnA x r hx (hr r (mem_of_getElem? cX));have cW:l.drop i=r::l.drop (i+1):=by
  obtain⟨h1,h2⟩:=GS.1 cX;rw[drop_eq_getElem_cons h1,h2]
 rw[cW,show YA x (r::l.drop (i+1))=if (U3 x r).2≠0 then (Yd,(U3 x r).2) else YA (U3 x r).1 (l.drop (i+1)) from rfl] at hg;by_cases q:(U3 x r).2=0
 case neg=>
  rw[PI q] at hg;subst hg;simp only[aS];generalize (U3 x r).2=e at*;generalize (U3 x r).1=y at*;clear hx aS cW cX;obtain⟨⟨yn,ye,cB,cC⟩,yr,yt,yp,yl⟩:=y;obtain⟨⟨ns,es,nn,ne⟩,rs,ts,ep,tail⟩:=x;obtain⟨kd,rts,cl,⟨k,n,name,key,src,dst⟩,off⟩:=r;simp only[Xy,Uv,Yp] at*;refine Qma ?_;exact QJd
 rw[NI (by simp[q])] at hg;have hy:StaHold (U3 x r).1:=by
  by_cases h:YN x=true
  ·exact Xg2 h
  ·rw[show U3 x r=(Yd,19) by unfold U3;rw[PI (by simpa using h)]];exact⟨X2Y,by simp⟩
 rw[q] at hp;generalize (U3 x r).1=y at*;clear hx aS cW cX q;refine(?_:AWP prog E _ _ _);obtain⟨kd,rts,cl,⟨k,n,name,key,src,dst⟩,off⟩:=r;obtain⟨⟨ns,es,nn,ne⟩,rs,ts,ep,tail⟩:=x;obtain⟨⟨yn,ye,cB,cC⟩,yr,yt,yp,yl⟩:=y;simp only[Xy,Uv,Yp] at hp hrc;refine Qr ?_;exact QKd
open Go
def Zq0 (b:List UInt8):Option UInt8:=b[(Y5 b).length]?
theorem XlK (h:(Vd d k).2=true):YN (Vd d k).1=true/\(Vd d k).1.tail=0:=by
 unfold Vd at h |-;simp only at h |-;by_cases c:(YZ (Yo d (k:Nat)).1).2=true/\X3T d k (YZ (Yo d (k:Nat)).1).1
 ·rw[PI c] at h |-;unfold X4D at h |-;split at h
  ·simp at h
  ·rename_i c2;rw[NI c2];have:=XjP (s:=(X1E ((X0D d k).take (YZ (Yo d (k:Nat)).1).1.2.2.1.toNat) (YZ (Yo d (k:Nat)).1).1.2.1 (YZ (Yo d (k:Nat)).1).1.1).1) (Prod.ext rfl h);exact⟨this.1,this.2.2.2.2⟩
 ·rw[NI c] at h;simp at h
theorem XjM (h:(VW d).2=true):YN (VW d).1=true/\(VW d).1.tail=0:=by
 unfold VW X5e at h |-;by_cases c:(Vd d 1).2=true/\((Vd d 0).2=false\/(Vd d 0).1.ep<(Vd d 1).1.ep)
 ·rw[PI c];exact XlK c.1
 ·rw[NI c] at h |-;exact XlK h
theorem Xe3 (h:Uo d=0):DOk d/\16<=d.aa.length:=by
 unfold Uo at h;by_cases c1:Ux d=false
 ·rw[PI c1] at h;simp at h
 rw[NI c1] at h;by_cases c2:d.on=false
 ·rw[PI c2] at h;simp at h
 rw[NI c2] at h;by_cases c3:(VA d.aa.length).2.2=false
 ·rw[PI c3] at h;simp at h
 refine⟨⟨by simpa using c1,by simpa using c2⟩,?_⟩;unfold VA at c3;by_cases c4:(d.aa.length:Int)<16\/4096<(d.aa.length:Int)
 ·rw[PI c4] at c3;simp at c3
 ·omega
theorem XdR {ep:Int} (hd:DOk d) (aL:16<=d.aa.length) (h0:0<=ep) (h1:ep<=1000000000000000):Uh d (X9 d:Nat) (d.aa.length:Nat) ep 0=0:=by
 have hlo:=Vm aL;unfold Uh;rw[NI (by rw[hd.v];simp),NI (by rw[hd.on];simp),NI (by omega),NI (by omega)]
end Go.Fw

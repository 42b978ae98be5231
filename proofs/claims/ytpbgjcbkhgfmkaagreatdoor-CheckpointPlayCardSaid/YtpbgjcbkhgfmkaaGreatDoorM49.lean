/- Strings that rise, names of a list; the program's and the reference's. -/
import Derived.Test.YtpbgjcbkhgfmkaaGreatDoorM19
import Derived.Test.YtpbgjcbkhgfmkaaGreatDoorM48
set_option maxHeartbeats 16000000
namespace Go.Fw
open Go Go.Proofs Tryz List
set_option maxRecDepth 100000
set_option linter.unusedVariables false
set_option linter.unusedSimpArgs false
theorem XjY (l:List (List UInt8)) (hl:l.length<=9223372036854775807):Con prog 278 [] [.d (.sl 1 (l.map Xf))] [] (ab (X08 l)):=by
 refine ZC1 func278 ntmps278 fun E=> ?_;have hlm:(l.map Xf).length=l.length:=by simp
 generalize hG:X08 l=G;refine XA ?_
 refine Xn (fun i:Nat=>1<=i/\i<=l.length+1/\X08 (l.drop (i-1))=G) (fun i=>⟨20,[(0,.d (.sl 1 (l.map Xf))),(3,ai i)],[]⟩) (fun i=>l.length-i) 1 ⟨by omega,by omega,by simpa using hG⟩
  (Xb rfl ⟨JL,JL,TV⟩ trivial) ?_
 rintro i ⟨hi,hi2,hg⟩;by_cases hil:i<l.length
 case neg=>
  have hn:¬(i:Int)<(l.map Xf).length:=by omega
  have hT:G=true:=by rw[<-hg,Xkp (by omega)]
  subst hT;exact Qy
 have hn:(i:Int)<(l.map Xf).length:=by omega
 obtain⟨j,rfl⟩:∃j,i=j+1:=⟨i-1,by omega⟩
 rw[Nat.add_sub_cancel] at hg;obtain⟨x,hx⟩:=Xu (l:=l) hil;obtain⟨y,hy⟩:=Xu (l:=l) (k:=j) (by omega);have au:(l.map Xf)[j+1]? =some (Xf x):=XM hx;have kX:(l.map Xf)[j]? =some (Xf y):=XM hy;rw[XiQ hy hx] at hg;cases hq:(Op.bytesLess x y||decide (x=y)) with
 |false=>
  rw[hq] at hg;simp only[Bool.not_false,Bool.true_and] at hg;refine QIb ?_;refine W8_ ?_;exact QJb
 |true=>
  rw[hq] at hg;simp only[Bool.not_true,Bool.false_and] at hg;subst hg;refine QIb ?_;exact QDa
variable{i:Nat}
theorem XtB {α:Type}{p:α->Bool}{l:List α}{x:α} (h:l[i]? =some x):(l.drop i).all p=(p x&&(l.drop (i+1)).all p):=by
 obtain⟨hi,rfl⟩:=GS.1 h;rw[drop_eq_getElem_cons hi,all_cons]
theorem Xnn (l:List (List UInt8)) (hl:l.length<=9223372036854775807):Con prog 277 [] [.d (.sl 1 (l.map Xf))] [] (ab (l.all Y8)):=by
 refine ZC1 func277 ntmps277 fun E=> ?_;have hlm:(l.map Xf).length=l.length:=by simp
 generalize hG:l.all Y8=G;refine XA ?_
 refine Xn (fun i:Nat=>i<=l.length/\(l.drop i).all Y8=G) (fun i=>⟨16,[(0,.d (.sl 1 (l.map Xf))),(3,ai i)],[]⟩) (fun i=>l.length-i) 0 ⟨by omega,by simpa using hG⟩
  (Xb rfl ⟨JL,JL,TV⟩ trivial) ?_
 rintro i ⟨hi,hg⟩;by_cases hil:i<l.length
 case neg=>
  have hn:¬(i:Int)<(l.map Xf).length:=by omega
  rw[drop_of_length_le (by omega),all_nil] at hg;subst hg;exact Qy
 have hn:(i:Int)<(l.map Xf).length:=by omega
 obtain⟨x,hx⟩:=Xu (l:=l) hil;have au:(l.map Xf)[i]? =some (Xf x):=XM hx;have hu:=XdJ x;rw[XtB hx] at hg;cases hq:Y8 x with
 |true=>
  rw[hq] at hg hu;rw[Bool.true_and] at hg;refine YY ?_;exact⟨i+1,⟨by omega,hg⟩,by omega,Xb rfl ⟨JL,JL,TV⟩ TV⟩
 |false=>
  rw[hq] at hg hu;rw[Bool.false_and] at hg;subst hg;exact Qk
theorem Xxa (ps:List Prp) (hl:ps.length<=4294967296):Con prog 276 [] [.d (.sl 6 (ps.map Xd))] [] (.d (.sl 1 ((ps.map Prp.key).map Xf))):=by
 refine ZC1 func276 ntmps276 fun E=> ?_;have hlm:(ps.map Xd).length=ps.length:=by simp
 refine XG ?_;refine X8 (Uu 3 130 1 rfl rfl rfl) ?_
 refine Xn (fun i:Nat=>i<=ps.length) (fun i=>⟨20,[(0,.d (.sl 6 (ps.map Xd))),(3,.own 130 (((ps.take i).map Prp.key).map Xf).length),(4,ai i)],[(130,.row 1 (((ps.take i).map Prp.key).map Xf))]⟩) (fun i=>ps.length-i) 0 (Nat.zero_le _)
  (Xb rfl ⟨JL,JL,JL,TV⟩ ⟨rfl,TV⟩) ?_
 intro i hi;by_cases hil:i<ps.length
 case neg=>
  obtain rfl:i=ps.length:=by omega
  have hn:¬((ps.length:Nat):Int)<(ps.map Xd).length:=by omega
  rw[take_length];refine Yx ?_;refine Qwb ?_;exact QEb
 have hn:(i:Int)<(ps.map Xd).length:=by omega
 obtain⟨x,hx⟩:=Xu (l:=ps) hil;have au:(ps.map Xd)[i]? =some (Xd x):=XM hx;have hroom:(((ps.take i).map Prp.key).map Xf).length<=4294967296:=by simp only[LM,LT];omega
 refine YY ?_;refine⟨i+1,hil,by omega,?_⟩;rw[XgQ hx];exact Xb rfl ⟨JL,AVal.le_of_eq (by refine Eq.trans (b:=AVal.own 130 (_+_)) rfl ?_;simp only[LA,LM,LC,length_nil]),JL,TV⟩ ⟨rfl,TV⟩
theorem Xnt (ls:List (List UInt8)) (ps:List Prp) (hls:ls.length<=9223372036854775807) (hok:∀p∈ps,X9X p):Con prog 226 [] [.d (.sl 1 (ls.map Xf)),.d (.sl 6 (ps.map Xd))] [] (ai (X1c ls ps)):=by
 refine ZC1 func226 ntmps226 fun E=> ?_;have hlm:(ps.map Xd).length=ps.length:=by simp
 have kM:(ls.map Xf).length=ls.length:=by simp
 by_cases h1:8<ls.length
 ·rw[XaG (.inl h1)];have dD:(8:Int)<(ls.map Xf).length:=by omega
  exact QC
 have dD:¬(8:Int)<(ls.map Xf).length:=by omega
 by_cases h2:16<ps.length
 ·rw[XaG (.inr h2)];have ek:(16:Int)<(ps.map Xd).length:=by omega
  exact QC
 have ek:¬(16:Int)<(ps.map Xd).length:=by omega
 rw[Xmt h1 h2];have hk:=Xxa ps (by omega);have aI:=Xnn ls hls;have aW:=Xnn (ps.map Prp.key) (by simp only[LM];omega);have fL:=XjY ls hls;have dj:=XjY (ps.map Prp.key) (by simp only[LM];omega);generalize ls.all Y8=n1 at*;generalize X08 ls=r1 at*;generalize (ps.map Prp.key).all Y8=n2 at*;generalize X08 (ps.map Prp.key)=r2 at*;generalize hG:(ps.map Prp.v).all Ui=G;by_cases b1:n1=false\/n2=false
 ·rw[PI b1];cases n1<;>cases n2<;>first|(simp at b1;done)|skip
  ·refine YY ?_;refine Z3 (af:=aI) ?_;exact Qz
  ·refine YY ?_;refine Z3 (af:=aI) ?_;exact Qz
  ·refine YY ?_;refine Z3 (af:=aI) ?_;refine W3_ ?_;refine Z3 (af:=aW) ?_;exact QD
 rw[NI b1];obtain⟨rfl,rfl⟩:n1=true/\n2=true:=by cases n1<;>cases n2<;>simp_all
 by_cases b2:r1=false\/r2=false
 ·rw[PI b2];cases r1<;>cases r2<;>first|(simp at b2;done)|skip
  ·refine Qbe ?_;exact Qz
  ·refine Qbe ?_;exact Qz
  ·refine Qbe ?_;refine W3_ ?_;refine Z3 (af:=dj) ?_;exact QD
 rw[NI b2];obtain⟨rfl,rfl⟩:r1=true/\r2=true:=by cases r1<;>cases r2<;>simp_all
 refine Qbe ?_;refine W3_ ?_;refine Z3 (af:=dj) ?_;refine XK ?_;clear b1 b2 h1 h2
 refine Xn (fun i:Nat=>i<=ps.length/\((ps.drop i).map Prp.v).all Ui=G) (fun i=>⟨46,[(1,.d (.sl 6 (ps.map Xd))),(6,ai i)],[]⟩) (fun i=>ps.length-i) 0 ⟨by omega,by simpa using hG⟩
  (ZL0) ?_
 rintro i ⟨hi,hg⟩;by_cases hil:i<ps.length
 case neg=>
  have hn':¬(i:Int)<(ps.map Xd).length:=by omega
  rw[drop_of_length_le (by omega),map_nil,all_nil] at hg;subst hg;rw[NI (by simp)];exact Qy
 have hn':(i:Int)<(ps.map Xd).length:=by omega
 obtain⟨x,hx⟩:=Xu (l:=ps) hil;have au:(ps.map Xd)[i]? =some (Xd x):=XM hx;have jF:=hok x (mem_of_getElem? hx);have hu:=Xmz x.v jF.2;rw[XlQ hx] at hg;generalize Ui x.v=pv at*;obtain⟨key,⟨vk,vn,vd,vs,vl⟩⟩:=x;simp only[XC,Xd,UT] at hu au;cases pv with
 |true=>
  rw[Bool.true_and] at hg;exact QLb
 |false=>
  rw[Bool.false_and] at hg;subst hg;rw[PI rfl];exact QK
abbrev Xv2:Nod:=⟨0,[],[]⟩
def X2o:List Nod->Int->Nod×Bool
 |[],_=>(Xv2,false)
 |x::r,n=>if x.id=n then (x,true) else X2o r n
theorem Xk1:∀(l:List Nod) (n:Int),(X2o l n).2=V1 l n
 |[],n=>rfl
 |x::r,n=>by
  unfold X2o V1;rw[any_cons];by_cases h:x.id=n
  ·simp[h]
  ·have:=Xk1 r n;unfold V1 at this;simp[h,this]
theorem XoG {l:List Nod}{n:Int}{x:Nod} (h:l[i]? =some x):X2o (l.drop i) n=if x.id=n then (x,true) else X2o (l.drop (i+1)) n:=by
 obtain⟨hi,rfl⟩:=GS.1 h;rw[drop_eq_getElem_cons hi,X2o]
theorem Xk2 (ns:List Nod) (es:List Edg) (nn ne n:Int) (hl:ns.length<=9223372036854775807):Con prog 196 [] [.agg [.d (.sl 3 (ns.map Xm)),.d (.sl 5 (es.map Xr)),ai nn,ai ne],ai n] [] (.tup [X0g (X2o ns n).1,ab (X2o ns n).2]):=by
 refine ZCt func196 ntmps196 fun E=> ?_;have hlm:(ns.map Xm).length=ns.length:=by simp
 generalize hG:X2o ns n=G;refine XR ?_
 refine Xn (fun i:Nat=>i<=ns.length/\X2o (ns.drop i) n=G) (fun i=>⟨28,[(1,ai n),(2,.ptr 100 0),(4,.ptr 101 0),(6,ai i)],[(100,.box [.d (.sl 3 (ns.map Xm)),.d (.sl 5 (es.map Xr)),ai nn,ai ne]),(101,.box [ai 0,aq,aq])]⟩) (fun i=>ns.length-i) 0 ⟨Nat.zero_le _,by simpa using hG⟩
  (ZL0) ?_
 rintro i ⟨hi,hg⟩;by_cases hil:i<ns.length
 case neg=>
  obtain rfl:i=ns.length:=by omega
  have hn:¬((ns.length:Nat):Int)<(ns.map Xm).length:=by omega
  rw[drop_length,X2o] at hg;subst hg;simp only[X0g,map_nil];refine Yv ?_;exact X2 ⟨_,Xq 101 (cs':=[ai 0,.d (.sl 1 []),.d (.sl 6 [])]) rfl JM rfl,⟨⟨101,0,_,rfl,rfl,.inr ⟨3,_,rfl,rfl,rfl,rfl⟩⟩,rfl,TV⟩,X4 _⟩
 have hn:(i:Int)<(ns.map Xm).length:=by omega
 obtain⟨x,hx⟩:=Xu (l:=ns) hil;have au:(ns.map Xm)[i]? =some (Xm x):=XM hx;rw[XoG hx] at hg;obtain⟨id,labels,props⟩:=x;simp only[Xm] at au hg;by_cases he:id=n
 ·rw[PI he] at hg;subst hg;simp only[X0g];refine UX ?_;exact Qlc
 ·rw[NI he] at hg;exact Qce
theorem XxB (ns:List Nod) (es:List Edg) (nn ne:Int) (hok:∀n∈ns,XgR n) (hl:ns.length<=9223372036854775807) (i:Nat) (x:Nod) (hx:ns[i]? =some x):Con prog 146 [] [.agg [.d (.sl 3 (ns.map Xm)),.d (.sl 5 (es.map Xr)),ai nn,ai ne],ai i] [] (ai (X1Z nn (V3 ns i) x)):=by
 refine ZC1 func146 ntmps146 fun E=> ?_;have hil:=(GS.1 hx).1;have au:(ns.map Xm)[i]? =some (Xm x):=XM hx;have fT:=hok x (mem_of_getElem? hx);have aR:=Xnt x.labels x.props fT.1 fT.2.2.2;clear fT;by_cases h0:i=0
 ·subst h0;rw[Xk7];obtain⟨id,labels,props⟩:=x;simp only[Xm] at au aR |-;by_cases q2:id<1
  ·rw[PI (show id<1\/nn<=id from .inl q2)];refine X7 ?_;exact Qy
  by_cases q3:nn<=id
  ·rw[PI (show id<1\/nn<=id from .inr q3)];refine X7 ?_;exact Qy
  rw[NI (show ¬(id<1\/nn<=id) from fun h=>h.elim q2 q3)];generalize X1c labels props=e at*;refine X7 ?_;exact QM
 ·obtain⟨j,rfl⟩:∃j,i=j+1:=⟨i-1,by omega⟩
  obtain⟨p,hp⟩:=Xu (l:=ns) (k:=j) (by omega);have cO:(ns.map Xm)[j]? =some (Xm p):=XM hp;rw[XgG hp];clear hp hx;obtain⟨id,labels,props⟩:=x;obtain⟨pid,plabels,pprops⟩:=p;simp only[Xm] at au aR cO |-;by_cases q1:id<=pid
  ·rw[PI q1];refine Qde ?_;exact Ql
  rw[NI q1];by_cases q2:id<1
  ·rw[PI (show id<1\/nn<=id from .inl q2)];refine Qde ?_;exact QK
  by_cases q3:nn<=id
  ·rw[PI (show id<1\/nn<=id from .inr q3)];refine Qde ?_;exact QK
  rw[NI (show ¬(id<1\/nn<=id) from fun h=>h.elim q2 q3)];generalize X1c labels props=e at*;refine Qde ?_;refine UD ?_;exact Zr0
theorem Xww (ns:List Nod) (es:List Edg) (nn ne:Int) (hok:∀e∈es,XkX e) (ax:ns.length<=9223372036854775807) (hl:es.length<=9223372036854775807) (i:Nat) (x:Edg) (hx:es[i]? =some x):Con prog 147 [] [.agg [.d (.sl 3 (ns.map Xm)),.d (.sl 5 (es.map Xr)),ai nn,ai ne],ai i] [] (ai (X2T ns ne (V3 es i) x)):=by
 refine ZC1 func147 ntmps147 fun E=> ?_;have hil:=(GS.1 hx).1;have au:(es.map Xr)[i]? =some (Xr x):=XM hx;have fT:=hok x (mem_of_getElem? hx);have aR:=Xnt [] x.props (by simp) fT.2.2;have hs1:=Xk2 ns es nn ne x.src ax;have bV:=Xk2 ns es nn ne x.dst ax;rw[Xk1] at hs1 bV;have hnm:=XdJ x.typ;clear fT;by_cases h0:i=0
 ·subst h0;rw[Xlh];obtain⟨id,src,dst,typ,props⟩:=x;simp only[Xr,X0g] at au aR hs1 bV hnm |-;simp only[map_nil] at aR;generalize V1 ns src=b1 at*;generalize V1 ns dst=b2 at*;generalize (X2o ns src).1=m1 at*;generalize (X2o ns dst).1=m2 at*;generalize Y8 typ=b3 at*;generalize X1c [] props=e at*;by_cases q2:id<1
  ·rw[PI (show id<1\/ne<=id from .inl q2)];refine X7 ?_;exact Qy
  by_cases q3:ne<=id
  ·rw[PI (show id<1\/ne<=id from .inr q3)];refine X7 ?_;exact Qy
  rw[NI (show ¬(id<1\/ne<=id) from fun h=>h.elim q2 q3)];cases b1 with
  |false=>
   rw[PI (show false=false\/b2=false from .inl rfl)];refine X7 ?_;refine Yg ?_;refine Qee ?_;exact QA
  |true=>
   cases b2 with
   |false=>
    rw[PI (show true=false\/false=false from .inr rfl)];refine X7 ?_;refine Yg ?_;refine Qee ?_;exact QA
   |true=>
    rw[NI (show ¬(true=false\/true=false) by simp)];cases b3 with
    |false=>
     rw[PI (show false=false from rfl)];refine X7 ?_;refine Yg ?_;refine Qee ?_;refine UV ?_;exact Zr0
    |true=>
     rw[NI (show ¬true=false by simp)];refine X7 ?_;refine Yg ?_;refine Qee ?_;refine X07 ?_;exact Zr0
 ·obtain⟨j,rfl⟩:∃j,i=j+1:=⟨i-1,by omega⟩
  obtain⟨p,hp⟩:=Xu (l:=es) (k:=j) (by omega);have cO:(es.map Xr)[j]? =some (Xr p):=XM hp;rw[Xks hp];clear hp hx;obtain⟨id,src,dst,typ,props⟩:=x;obtain⟨pid,psrc,pdst,ptyp,pprops⟩:=p;simp only[Xr,X0g] at au aR cO hs1 bV hnm |-;simp only[map_nil] at aR;generalize V1 ns src=b1 at*;generalize V1 ns dst=b2 at*;generalize (X2o ns src).1=m1 at*;generalize (X2o ns dst).1=m2 at*;generalize Y8 typ=b3 at*;generalize X1c [] props=e at*;by_cases q1:id<=pid
  ·rw[PI q1];refine Qde ?_;exact Ql
  rw[NI q1];by_cases q2:id<1
  ·rw[PI (show id<1\/ne<=id from .inl q2)];refine Qde ?_;exact QK
  by_cases q3:ne<=id
  ·rw[PI (show id<1\/ne<=id from .inr q3)];refine Qde ?_;exact QK
  rw[NI (show ¬(id<1\/ne<=id) from fun h=>h.elim q2 q3)];cases b1 with
  |false=>
   rw[PI (show false=false\/b2=false from .inl rfl)];refine Qde ?_;refine YT ?_;refine Qee ?_;exact QA
  |true=>
   cases b2 with
   |false=>
    rw[PI (show true=false\/false=false from .inr rfl)];refine Qde ?_;refine YT ?_;refine Qee ?_;exact QA
   |true=>
    rw[NI (show ¬(true=false\/true=false) by simp)];cases b3 with
    |false=>
     rw[PI (show false=false from rfl)];refine Qde ?_;refine YT ?_;refine Qee ?_;refine UV ?_;exact Zr0
    |true=>
     rw[NI (show ¬true=false by simp)];refine Qde ?_;refine YT ?_;refine Qee ?_;refine X07 ?_;exact Zr0
theorem XbU (g:Gra) (hok:GraHold g):Con prog 92 [] [Y6 g] [] (ai (X0n g)):=by
 obtain⟨ns,es,nn,ne⟩:=g;obtain⟨ax,hel,hnh,heh⟩:=hok;simp only at ax hel hnh heh;unfold Y6;simp only;refine ZC1 func92 ntmps92 fun E=> ?_;have hlm:(ns.map Xm).length=ns.length:=by simp
 have hle:(es.map Xr).length=es.length:=by simp
 by_cases h1:2000<ns.length
 ·rw[Xbg (.inl h1)];have dD:(2000:Int)<(ns.map Xm).length:=by omega
  exact QT
 have dD:¬(2000:Int)<(ns.map Xm).length:=by omega
 by_cases h2:4000<es.length
 ·rw[Xbg (.inr h2)];have ek:(4000:Int)<(es.map Xr).length:=by omega
  exact QT
 have ek:¬(4000:Int)<(es.map Xr).length:=by omega
 by_cases a1:nn<1
 ·rw[X6e h1 h2 (.inl a1)];exact QXb
 by_cases a2:1000001<nn
 ·rw[X6e h1 h2 (.inr (.inl a2))];exact QXb
 by_cases a3:ne<1
 ·rw[X6e h1 h2 (.inr (.inr (.inl a3)))];exact QXb
 by_cases a4:1000001<ne
 ·rw[X6e h1 h2 (.inr (.inr (.inr a4)))];exact QXb
 rw[XgY h1 h2 a1 a2 a3 a4];generalize hN:X12 nn none ns=N;generalize hM:X2b ns ne none es=M;refine QX ?_
 refine Xn (fun i:Nat=>i<=ns.length/\X12 nn (V3 ns i) (ns.drop i)=N) (fun i=>⟨61,[(1,.ptr 100 0),(3,ai i)],[(100,.box [.d (.sl 3 (ns.map Xm)),.d (.sl 5 (es.map Xr)),ai nn,ai ne])]⟩) (fun i=>ns.length-i) 0 ⟨Nat.zero_le _,by simpa [V3] using hN⟩
  (ZL0) ?_
 rintro i ⟨hi,hg⟩;by_cases hil:i<ns.length
 case pos=>
  have hn:(i:Int)<(ns.map Xm).length:=by omega
  obtain⟨x,hx⟩:=Xu (l:=ns) hil;have hc:=XxB ns es nn ne hnh ax i x hx;rw[Xnq hx] at hg;generalize X1Z nn (V3 ns i) x=e at*;by_cases he:e=0
  ·subst he;rw[NI (by simp)] at hg;refine Yv ?_;refine Z3 (af:=hc) ?_;refine XG ?_;exact Qtb
  ·rw[PI he] at hg;subst hg;rw[PI he];refine Yv ?_;refine Z3 (af:=hc) ?_;exact Qw
 obtain rfl:i=ns.length:=by omega
 have hn:¬((ns.length:Nat):Int)<(ns.map Xm).length:=by omega
 rw[drop_length,X12] at hg;subst hg;rw[NI (by simp)];refine Yv ?_
 refine Xn (fun i:Nat=>i<=es.length/\X2b ns ne (V3 es i) (es.drop i)=M) (fun i=>⟨61,[(1,.ptr 100 0),(5,ai i)],[(100,.box [.d (.sl 3 (ns.map Xm)),.d (.sl 5 (es.map Xr)),ai nn,ai ne])]⟩) (fun i=>es.length-i) 0 ⟨Nat.zero_le _,by simpa [V3] using hM⟩
  (ZL0) ?_
 clear hi hil hn;rintro i ⟨hi,hg⟩;by_cases hil:i<es.length
 case neg=>
  obtain rfl:i=es.length:=by omega
  have hn:¬((es.length:Nat):Int)<(es.map Xr).length:=by omega
  rw[drop_length,X2b] at hg;subst hg;exact QW
 have hn:(i:Int)<(es.map Xr).length:=by omega
 obtain⟨x,hx⟩:=Xu (l:=es) hil;have hc:=Xww ns es nn ne heh ax hel i x hx;rw[XnC hx] at hg;generalize X2T ns ne (V3 es i) x=e at*;by_cases he:e=0
 ·subst he;rw[NI (by simp)] at hg;refine Yv ?_;refine Z3 (af:=hc) ?_;refine XG ?_;exact Qtb
 ·rw[PI he] at hg;subst hg;refine Yv ?_;refine Z3 (af:=hc) ?_;exact Qw
end Go.Fw

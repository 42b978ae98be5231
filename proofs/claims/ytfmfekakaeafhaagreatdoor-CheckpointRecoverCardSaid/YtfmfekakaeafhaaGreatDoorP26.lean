/- The reference's check of a graph. -/
import Derived.Test.YtfmfekakaeafhaaGreatDoorP22
set_option linter.all false
set_option maxHeartbeats 16000000
namespace Go.Fw
open Go Go.Proofs Tryz List
open List renaming length->J
set_option maxRecDepth 100000
abbrev Xzh:Nod:=⟨0,[],[]⟩
def X2L:List Nod->Int->Nod×Bool
 |[],_=>(Xzh,false)
 |x::r,n=>if x.id=n then (x,true) else X2L r n
theorem XjS:∀(l:List Nod) (n:Int),(X2L l n).2=Vd l n
 |[],n=>rfl
 |x::r,n=>by
  unfold X2L Vd;rw[any_cons];by_cases h:x.id=n
  ·simp[h]
  ·have:=XjS r n;unfold Vd at this;simp[h,this]
def XwC {l:List Nod}{n:Int}{i:Nat}{x:Nod} (h:l[i]? =some x):X2L (l.drop i) n=if x.id=n then (x,true) else X2L (l.drop (i+1)) n:=by
 obtain⟨hi,rfl⟩:=GS.1 h;rw[drop_eq_getElem_cons hi,X2L]
def XoS (ns:List Nod) (es:List Edg) (nn ne n:Int) (hl:J ns<=9223372036854775807):Con prog 185 [] [.agg [.d (.sl 3 (ns.map Xi)),.d (.sl 5 (es.map Xk)),ai nn,ai ne],ai n] [] (.tup [X0s (X2L ns n).1,ab (X2L ns n).2]):=by
 refine ZCt func185 ntmps185 fun E=> ?_;have hlm:J (ns.map Xi)=J ns:=Oc
 generalize hG:X2L ns n=G;refine XG ?_
 refine Xl (fun i:Nat=>i<=J ns/\X2L (ns.drop i) n=G) (fun i=>⟨28,[(1,ai n),(2,.ptr 100 0),(4,.ptr 101 0),(6,ai i)],[(100,.box [.d (.sl 3 (ns.map Xi)),.d (.sl 5 (es.map Xk)),ai nn,ai ne]),(101,.box [ai 0,aq,aq])]⟩) (fun i=>J ns-i) 0 ⟨Nat.zero_le _,OX⟩
  (ZL0) ?_
 rintro i ⟨hi,hg⟩;by_cases hil:i<J ns
 case neg=>
  obtain rfl:i=J ns:=Oa
  have hn:¬((J ns:Nat):Int)<J (ns.map Xi):=Oa
  rw[drop_length,X2L] at hg;subst hg;simp only[X0s,map_nil];refine Yb ?_;exact X3 ⟨_,Xg 101 (cs':=[ai 0,.d (.sl 1 []),.d (.sl 6 [])]) rfl JM rfl,⟨⟨101,0,_,rfl,rfl,.inr ⟨3,_,rfl,rfl,rfl,rfl⟩⟩,rfl,TV⟩,X5 _⟩
 have hn:(i:Int)<J (ns.map Xi):=Oa
 obtain⟨x,hx⟩:=Xn (l:=ns) hil;have au:(ns.map Xi)[i]? =some (Xi x):=XC hx;rw[XwC hx] at hg;obtain⟨id,labels,props⟩:=x;simp only[Xi] at au hg;by_cases he:id=n
 ·rw[PI he] at hg;subst hg;simp only[X0s];refine UR ?_;exact Qib
 ·rw[NI he] at hg;exact QEc
def XwL (ns:List Nod) (es:List Edg) (nn ne:Int) (hok:∀n∈ns,XbH n) (hl:J ns<=9223372036854775807) (i:Nat) (x:Nod) (hx:ns[i]? =some x):Con prog 114 [] [.agg [.d (.sl 3 (ns.map Xi)),.d (.sl 5 (es.map Xk)),ai nn,ai ne],ai i] [] (ai (X2Z nn (Ve ns i) x)):=by
 refine ZC1 func114 ntmps114 fun E=> ?_;have hil:=(GS.1 hx).1;have au:(ns.map Xi)[i]? =some (Xi x):=XC hx;have gy:=hok x (mem_of_getElem? hx);have aX:=XmP x.labels x.props gy.1 gy.2.2.2;clear gy;by_cases h0:i=0
 ·subst h0;rw[XoL];obtain⟨id,labels,props⟩:=x;simp only[Xi] at au aX |-;by_cases q2:id<1
  ·rw[PI (show id<1\/nn<=id from .inl q2)];refine X4 ?_;exact Qh
  by_cases q3:nn<=id
  ·rw[PI (show id<1\/nn<=id from .inr q3)];refine X4 ?_;exact Qh
  rw[NI (show ¬(id<1\/nn<=id) from fun h=>h.elim q2 q3)];generalize X1r labels props=e at*;refine X4 ?_;exact QD
 ·obtain⟨j,rfl⟩:∃j,i=j+1:=⟨i-1,Oa⟩
  obtain⟨p,hp⟩:=Xn (l:=ns) (k:=j) Oa;have cW:(ns.map Xi)[j]? =some (Xi p):=XC hp;rw[XoX hp];clear hp hx;obtain⟨id,labels,props⟩:=x;obtain⟨pid,plabels,pprops⟩:=p;simp only[Xi] at au aX cW |-;by_cases q1:id<=pid
  ·rw[PI q1];refine QFc ?_;exact Qn
  rw[NI q1];by_cases q2:id<1
  ·rw[PI (show id<1\/nn<=id from .inl q2)];refine QFc ?_;exact QB
  by_cases q3:nn<=id
  ·rw[PI (show id<1\/nn<=id from .inr q3)];refine QFc ?_;exact QB
  rw[NI (show ¬(id<1\/nn<=id) from fun h=>h.elim q2 q3)];generalize X1r labels props=e at*;refine QFc ?_;refine UA ?_;exact Zr0
def XwJ (ns:List Nod) (es:List Edg) (nn ne:Int) (hok:∀e∈es,XcN e) (ax:J ns<=9223372036854775807) (hl:J es<=9223372036854775807) (i:Nat) (x:Edg) (hx:es[i]? =some x):Con prog 115 [] [.agg [.d (.sl 3 (ns.map Xi)),.d (.sl 5 (es.map Xk)),ai nn,ai ne],ai i] [] (ai (X3k ns ne (Ve es i) x)):=by
 refine ZC1 func115 ntmps115 fun E=> ?_;have hil:=(GS.1 hx).1;have au:(es.map Xk)[i]? =some (Xk x):=XC hx;have gy:=hok x (mem_of_getElem? hx);have aX:=XmP [] x.props Oc gy.2.2;have hs1:=XoS ns es nn ne x.src ax;have cV:=XoS ns es nn ne x.dst ax;rw[XjS] at hs1 cV;have hnm:=Xei x.typ;clear gy;by_cases h0:i=0
 ·subst h0;rw[Xjc];obtain⟨id,src,dst,typ,props⟩:=x;simp only[Xk,X0s] at au aX hs1 cV hnm |-;simp only[map_nil] at aX;generalize Vd ns src=b1 at*;generalize Vd ns dst=b2 at*;generalize (X2L ns src).1=m1 at*;generalize (X2L ns dst).1=m2 at*;generalize Yc typ=b3 at*;generalize X1r [] props=e at*;by_cases q2:id<1
  ·rw[PI (show id<1\/ne<=id from .inl q2)];refine X4 ?_;exact Qh
  by_cases q3:ne<=id
  ·rw[PI (show id<1\/ne<=id from .inr q3)];refine X4 ?_;exact Qh
  rw[NI (show ¬(id<1\/ne<=id) from fun h=>h.elim q2 q3)];cases b1 with
  |false=>
   rw[PI (show false=false\/b2=false from .inl rfl)];refine QYa ?_;exact Qi
  |true=>
   cases b2 with
   |false=>
    rw[PI (show true=false\/false=false from .inr rfl)];refine QYa ?_;exact Qi
   |true=>
    rw[NI (show ¬(true=false\/true=false) by simp)];cases b3 with
    |false=>
     rw[PI (show false=false from rfl)];refine QYa ?_;exact Qj
    |true=>
     rw[NI (show ¬true=false by simp)];refine QYa ?_;exact Qga
 ·obtain⟨j,rfl⟩:∃j,i=j+1:=⟨i-1,Oa⟩
  obtain⟨p,hp⟩:=Xn (l:=es) (k:=j) Oa;have cW:(es.map Xk)[j]? =some (Xk p):=XC hp;rw[Xim hp];clear hp hx;obtain⟨id,src,dst,typ,props⟩:=x;obtain⟨pid,psrc,pdst,ptyp,pprops⟩:=p;simp only[Xk,X0s] at au aX cW hs1 cV hnm |-;simp only[map_nil] at aX;generalize Vd ns src=b1 at*;generalize Vd ns dst=b2 at*;generalize (X2L ns src).1=m1 at*;generalize (X2L ns dst).1=m2 at*;generalize Yc typ=b3 at*;generalize X1r [] props=e at*;by_cases q1:id<=pid
  ·rw[PI q1];refine QFc ?_;exact Qn
  rw[NI q1];by_cases q2:id<1
  ·rw[PI (show id<1\/ne<=id from .inl q2)];refine QFc ?_;exact QB
  by_cases q3:ne<=id
  ·rw[PI (show id<1\/ne<=id from .inr q3)];refine QFc ?_;exact QB
  rw[NI (show ¬(id<1\/ne<=id) from fun h=>h.elim q2 q3)];cases b1 with
  |false=>
   rw[PI (show false=false\/b2=false from .inl rfl)];refine QFc ?_;refine Qna ?_;exact Zr0
  |true=>
   cases b2 with
   |false=>
    rw[PI (show true=false\/false=false from .inr rfl)];refine QFc ?_;refine Qna ?_;exact Zr0
   |true=>
    rw[NI (show ¬(true=false\/true=false) by simp)];cases b3 with
    |false=>
     rw[PI (show false=false from rfl)];refine QFc ?_;refine X4 ?_;refine UR ?_;exact Zr0
    |true=>
     rw[NI (show ¬true=false by simp)];refine QFc ?_;refine X4 ?_;refine X0r ?_;exact Zr0
def Xbh (g:Gra) (hok:GraHold g):Con prog 65 [] [XZ g] [] (ai (X0w g)):=by
 obtain⟨ns,es,nn,ne⟩:=g;obtain⟨ax,hel,hnh,heh⟩:=hok;simp only at ax hel hnh heh;unfold XZ;simp only;refine ZC1 func65 ntmps65 fun E=> ?_;have hlm:J (ns.map Xi)=J ns:=Oc
 have hle:J (es.map Xk)=J es:=Oc
 by_cases h1:2000<J ns
 ·rw[XcZ (.inl h1)];have bY:(2000:Int)<J (ns.map Xi):=by omega
  exact QCa
 have bY:¬(2000:Int)<J (ns.map Xi):=Oa
 by_cases h2:4000<J es
 ·rw[XcZ (.inr h2)];have dr:(4000:Int)<J (es.map Xk):=by omega
  exact QCa
 have dr:¬(4000:Int)<J (es.map Xk):=Oa
 by_cases a1:nn<1
 ·rw[X6F h1 h2 (.inl a1)];exact Qcc
 by_cases a2:1000001<nn
 ·rw[X6F h1 h2 (.inr (.inl a2))];exact Qcc
 by_cases a3:ne<1
 ·rw[X6F h1 h2 (.inr (.inr (.inl a3)))];exact Qcc
 by_cases a4:1000001<ne
 ·rw[X6F h1 h2 (.inr (.inr (.inr a4)))];exact Qcc
 rw[Xmb h1 h2 a1 a2 a3 a4];generalize hN:X1a nn none ns=N;generalize hM:X2k ns ne none es=M;refine Qxa ?_
 refine Xl (fun i:Nat=>i<=J ns/\X1a nn (Ve ns i) (ns.drop i)=N) (fun i=>⟨61,[(1,.ptr 100 0),(3,ai i)],[(100,.box [.d (.sl 3 (ns.map Xi)),.d (.sl 5 (es.map Xk)),ai nn,ai ne])]⟩) (fun i=>J ns-i) 0 ⟨Nat.zero_le _,by simpa [Ve] using hN⟩
  (ZL0) ?_
 rintro i ⟨hi,hg⟩;by_cases hil:i<J ns
 case pos=>
  have hn:(i:Int)<J (ns.map Xi):=Oa
  obtain⟨x,hx⟩:=Xn (l:=ns) hil;have hc:=XwL ns es nn ne hnh ax i x hx;rw[Xom hx] at hg;generalize X2Z nn (Ve ns i) x=e at*;by_cases he:e=0
  ·subst he;rw[NI Oc] at hg;refine Uf ?_;exact Qfc
  ·rw[PI he] at hg;subst hg;rw[PI he];exact QIa
 obtain rfl:i=J ns:=Oa
 have hn:¬((J ns:Nat):Int)<J (ns.map Xi):=Oa
 rw[drop_length,X1a] at hg;subst hg;rw[NI Oc];refine Yb ?_
 refine Xl (fun i:Nat=>i<=J es/\X2k ns ne (Ve es i) (es.drop i)=M) (fun i=>⟨61,[(1,.ptr 100 0),(5,ai i)],[(100,.box [.d (.sl 3 (ns.map Xi)),.d (.sl 5 (es.map Xk)),ai nn,ai ne])]⟩) (fun i=>J es-i) 0 ⟨Nat.zero_le _,by simpa [Ve] using hM⟩
  (ZL0) ?_
 clear hi hil hn;rintro i ⟨hi,hg⟩;by_cases hil:i<J es
 case neg=>
  obtain rfl:i=J es:=Oa
  have hn:¬((J es:Nat):Int)<J (es.map Xk):=Oa
  rw[drop_length,X2k] at hg;subst hg;exact QFa
 have hn:(i:Int)<J (es.map Xk):=Oa
 obtain⟨x,hx⟩:=Xn (l:=es) hil;have hc:=XwJ ns es nn ne heh ax hel i x hx;rw[Xle hx] at hg;generalize X3k ns ne (Ve es i) x=e at*;by_cases he:e=0
 ·subst he;rw[NI Oc] at hg;refine Uf ?_;exact Qfc
 ·rw[PI he] at hg;subst hg;exact QIa
end Go.Fw

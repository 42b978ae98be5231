/- The reference's valid. -/
import Derived.Test.YtfmfekakaeafhaaGreatDoorP09
set_option linter.all false
set_option maxHeartbeats 8000000
namespace Go.Fw
open Go Go.Proofs Tryz List
open List renaming length->J
set_option maxRecDepth 100000
def XaK (v:Val):Prop:=∀m:Nat,m<=8->Con prog 278 [] [Xt v,ai m] [] (ab (Xj m v))
variable{s t:List UInt8}{ps:List Prp}
def Xm7 {p:Nat}{c:UInt8} (hc:s[p]? =some c) (hb:okB c=false):X2s s=false:=by
 exact Yt48
def XsS (s:List UInt8) (hs:J s<=9223372036854775807):Con prog 316 [] [X1q s] [] (ab (X2s s&&decide (J s<=100))):=by
 refine ZC1 func316 ntmps316 fun E=> ?_;have hsz:(X7 s).size=J s:=rfl;refine XA ?_
 refine Xl (fun p:Nat=>p<=J s/\∀j,j<p->∃b,s[j]? =some b/\okB b=true) (fun p=>⟨23,[(0,X1q s),(3,ai p)],[]⟩) (fun p=>J s-p) 0 ⟨Oa,fun j hj=>Oa⟩
  (X9 rfl ⟨JL,JL,TV⟩ trivial) ?_
 rintro p ⟨hp,hall⟩;by_cases hlt:p<J s
 ·obtain⟨c,hc⟩:=Xn (l:=s) hlt;have hlt':p<(X7 s).size:=hlt;have fW:=Xj8 s hc hlt';by_cases h1:c.toNat<32
  ·rw[Xm7 hc (show okB c=false by unfold okB;exact DF Oa),Bool.false_and];exact Qg
  by_cases h2:126<c.toNat
  ·rw[Xm7 hc (show okB c=false by unfold okB;exact DF Oa),Bool.false_and];exact Qg
  have hok:okB c=true:=by unfold okB;exact DT Oa
  refine Uf ?_;refine⟨p+1,⟨Oa,fun j hj=> ?_⟩,Oa,X9 rfl ⟨JL,JL,TV⟩ TV⟩;by_cases e:j=p
  ·subst e;exact⟨c,hc,hok⟩
  ·exact hall j Oa
 obtain rfl:p=J s:=Oa
 rw[XkS hall rfl,Bool.true_and];refine Yb ?_;exact X3 ⟨_,Xe 2 (y:=ab (decide (J s<=100))) (ZzQ (by refine Eq.trans (b:=ab (decide (((X7 s).size:Int)<=100))) rfl ?_;exact CG ab (decide_eq_decide.2 Oa))),⟨rfl,TV⟩,X5 _⟩
def XqO (l:List Val) (hl:J l<=9223372036854775807) (ih:∀x∈l,XaK x):Con prog 317 [] [.d (.sl 5 (XR l))] [] (ab (X1P l)):=by
 refine ZC1 func317 ntmps317 fun E=> ?_;have hlen:=X1M l;by_cases h1:J l%2=0
 ·rw[show X1P l=false by unfold X1P;rw[DF Oa,Bool.false_and]];exact Qj
 by_cases h2:25<J l
 ·rw[show X1P l=false by unfold X1P;rw[DF Oa,Bool.false_and]];exact Qj
 rw[show X1P l=X0G 0 (l.drop 0) by unfold X1P;rw[DT Oa,Bool.true_and];rfl];refine V4 ?_
 refine Xl (fun i:Nat=>i<=J l/\X0G 0 (l.drop 0)=X0G i (l.drop i)) (fun i=>⟨38,[(0,.d (.sl 5 (XR l))),(3,ai i)],[]⟩) (fun i=>J l-i) 0 ⟨Oa,rfl⟩
  (X9 rfl ⟨JL,JL,TV⟩ trivial) ?_
 rintro i ⟨hi,aE⟩;by_cases hlt:i<J l
 ·obtain⟨x,hx⟩:=Xn (l:=l) hlt;have ie:=X6h hx;have dQ:=ih x (mem_of_getElem? hx) 0 Oa;obtain⟨k,n,d,s,q⟩:=x;simp only[Xt] at dQ;rw[UB] at ie;rw[aE];by_cases hpar:i%2=0
  case pos=>
   by_cases hk:k=5
   case neg=>
    rw[Xbp hx IG];refine QA ?_;exact QB
   subst hk;cases cj:Xj 0 (.mk 5 n d s q) with
   |true=>
    rw[cj] at dQ;have bD:=Xc8 hx (by rw[hpar];rfl) cj;rw[<-aE];refine QA ?_;refine YG ?_;exact⟨i+1,⟨Oa,aE.trans bD⟩,Oa,X9 rfl ⟨JL,JL,TV⟩ TV⟩
   |false=>
    rw[cj] at dQ;rw[XdI hx cj];refine QA ?_;exact QB
  case neg=>
   have hpar:i%2=1:=Oa
   by_cases hk:k=6
   case neg=>
    rw[Xbp hx IG];refine QC ?_;refine YG ?_;exact Zr0
   subst hk;cases cj:Xj 0 (.mk 6 n d s q) with
   |true=>
    rw[cj] at dQ;have bD:=Xc8 hx (by rw[hpar];rfl) cj;rw[<-aE];refine QC ?_;refine UK ?_;exact⟨i+1,⟨Oa,aE.trans bD⟩,Oa,X9 rfl ⟨JL,JL,TV⟩ TV⟩
   |false=>
    rw[cj] at dQ;rw[XdI hx cj];refine QC ?_;refine YG ?_;exact Zr0
 obtain rfl:i=J l:=Oa
 rw[aE,drop_length,X0G];exact Qh
def XpV (l:List Val) (m:Nat) (hm:m<=8) (hl:J l<=9223372036854775807) (ih:∀x∈l,XaK x):Con prog 318 [] [.d (.sl 5 (XR l)),ai m] [] (ab (decide (1<=m/\J l<=64)&&X0V (m-1) l)):=by
 refine ZC1 func318 ntmps318 fun E=> ?_;have hlen:=X1M l;by_cases h1:m<1
 ·rw[DF Oa,Bool.false_and];exact QD
 by_cases h2:64<J l
 ·rw[DF Oa,Bool.false_and];exact QD
 rw[show (decide (1<=m/\J l<=64)&&X0V (m-1) l)=X0V (m-1) (l.drop 0) by rw[DT Oa,Bool.true_and];rfl];refine Us ?_
 refine Xl (fun i:Nat=>i<=J l/\X0V (m-1) (l.drop 0)=X0V (m-1) (l.drop i)) (fun i=>⟨27,[(0,.d (.sl 5 (XR l))),(1,ai m),(5,ai i)],[]⟩) (fun i=>J l-i) 0 ⟨Oa,rfl⟩
  (X9 rfl ⟨JL,JL,JL,TV⟩ trivial) ?_
 rintro i ⟨hi,aE⟩;by_cases hlt:i<J l
 ·obtain⟨x,hx⟩:=Xn (l:=l) hlt;have ie:=X6h hx;have dQ:=ih x (mem_of_getElem? hx) (m-1) Oa;have hst:=Xnc (m:=m-1) hx;have e8:Value.int .i64 ((m:Int)-1)=nj (m-1):=by show Value.int .i64 _=Value.int .i64 _;congr 1;omega
  obtain⟨k',n',d',s',q'⟩:=x;simp only[Xt] at dQ;rw[UB] at ie;cases cj:Xj (m-1) (.mk k' n' d' s' q') with
  |true=>
   rw[cj] at dQ;rw[cj,Bool.true_and] at hst;refine YS ?_;(refine Z3 (op:= .sub) (r':=nj (m-1)) (u:=nj m) (v:=nj 1) ?_ (hr':=by exact e8) (hr:=OO));refine XA ?_;exact⟨i+1,⟨Oa,aE.trans hst⟩,Oa,X9 rfl ⟨JL,JL,JL,TV⟩ TV⟩
  |false=>
   rw[cj] at dQ;rw[cj,Bool.false_and] at hst;rw[aE,hst];refine YS ?_;(refine Z3 (op:= .sub) (r':=nj (m-1)) (u:=nj m) (v:=nj 1) ?_ (hr':=by exact e8) (hr:=OO));exact QE
 obtain rfl:i=J l:=Oa
 rw[aE,drop_length,X0V];exact Qh
mutual
def U1:Val->Prop
 | .mk k n d s l=>J s<=9223372036854775807/\J l<=9223372036854775807/\X1Z l
def X1Z:List Val->Prop
 |[]=>True
 |v::r=>U1 v/\X1Z r
end
def Xcg:∀{l:List Val}{x:Val},X1Z l->x∈l->U1 x
 |[],_,_,h=>OQ
 |v::r,x,h,hx=>by
  rw[X1Z] at h;rcases mem_cons.1 hx with rfl|hx
  ·exact h.1
  ·exact Xcg h.2 hx
def XvY (v:Val):Prop:=U1 v->XaK v
def Xwo (k n d:Int) (s:List UInt8) (l:List Val):Con prog 314 [] [Xt (.mk k n d s l),ab false,ab false,ab false,ab false] [] (ab (decide (n=0)&&decide (d=0)&&decide (s=[])&&decide (J l=0))):=by
 refine ZC1 func314 ntmps314 fun E=> ?_;have hlen:=X1M l;by_cases hn:n=0
 case neg=>
  rw[show (decide (n=0)&&decide (d=0)&&decide (s=[])&&decide (J l=0))=false by simp[*]];exact QH
 by_cases hd:d=0
 case neg=>
  rw[show (decide (n=0)&&decide (d=0)&&decide (s=[])&&decide (J l=0))=false by simp[*]];exact QI
 by_cases hs:s=[]
 case neg=>
  rw[show (decide (n=0)&&decide (d=0)&&decide (s=[])&&decide (J l=0))=false by simp[*]];exact QJ
 by_cases hl:J l=0
 case neg=>
  have hl':¬((J l:Int)=0):=Oa
  rw[show (decide (n=0)&&decide (d=0)&&decide (s=[])&&decide (J l=0))=false by simp[*]];exact QK
 rw[show (decide (n=0)&&decide (d=0)&&decide (s=[])&&decide (J l=0))=true by simp[*]];exact QL
def Xbe (k n d:Int) (s:List UInt8) (l:List Val):Con prog 314 [] [Xt (.mk k n d s l),ab true,ab false,ab false,ab false] [] (ab (decide (d=0)&&decide (s=[])&&decide (J l=0))):=by
 refine ZC1 func314 ntmps314 fun E=> ?_;have hlen:=X1M l;by_cases hd:d=0
 case neg=>
  rw[show (decide (d=0)&&decide (s=[])&&decide (J l=0))=false by simp[*]];exact QI
 by_cases hs:s=[]
 case neg=>
  rw[show (decide (d=0)&&decide (s=[])&&decide (J l=0))=false by simp[*]];exact QJ
 by_cases hl:J l=0
 case neg=>
  have hl':¬((J l:Int)=0):=Oa
  rw[show (decide (d=0)&&decide (s=[])&&decide (J l=0))=false by simp[*]];exact QK
 rw[show (decide (d=0)&&decide (s=[])&&decide (J l=0))=true by simp[*]];exact QL
def Xqa (k n d:Int) (s:List UInt8) (l:List Val):Con prog 314 [] [Xt (.mk k n d s l),ab true,ab true,ab false,ab false] [] (ab (decide (s=[])&&decide (J l=0))):=by
 refine ZC1 func314 ntmps314 fun E=> ?_;have hlen:=X1M l;by_cases hs:s=[]
 case neg=>
  rw[show (decide (s=[])&&decide (J l=0))=false by simp[*]];exact QJ
 by_cases hl:J l=0
 case neg=>
  have hl':¬((J l:Int)=0):=Oa
  rw[show (decide (s=[])&&decide (J l=0))=false by simp[*]];exact QK
 rw[show (decide (s=[])&&decide (J l=0))=true by simp[*]];exact QL
def XyT (k n d:Int) (s:List UInt8) (l:List Val):Con prog 314 [] [Xt (.mk k n d s l),ab false,ab false,ab true,ab false] [] (ab (decide (n=0)&&decide (d=0)&&decide (J l=0))):=by
 refine ZC1 func314 ntmps314 fun E=> ?_;have hlen:=X1M l;by_cases hn:n=0
 case neg=>
  rw[show (decide (n=0)&&decide (d=0)&&decide (J l=0))=false by simp[*]];exact QH
 by_cases hd:d=0
 case neg=>
  rw[show (decide (n=0)&&decide (d=0)&&decide (J l=0))=false by simp[*]];exact QI
 by_cases hl:J l=0
 case neg=>
  have hl':¬((J l:Int)=0):=Oa
  rw[show (decide (n=0)&&decide (d=0)&&decide (J l=0))=false by simp[*]];exact QK
 rw[show (decide (n=0)&&decide (d=0)&&decide (J l=0))=true by simp[*]];exact QL
def Xjl (k n d:Int) (s:List UInt8) (l:List Val):Con prog 314 [] [Xt (.mk k n d s l),ab false,ab false,ab false,ab true] [] (ab (decide (n=0)&&decide (d=0)&&decide (s=[]))):=by
 refine ZC1 func314 ntmps314 fun E=> ?_;have hlen:=X1M l;by_cases hn:n=0
 case neg=>
  rw[show (decide (n=0)&&decide (d=0)&&decide (s=[]))=false by simp[*]];exact QH
 by_cases hd:d=0
 case neg=>
  rw[show (decide (n=0)&&decide (d=0)&&decide (s=[]))=false by simp[*]];exact QI
 by_cases hs:s=[]
 case neg=>
  rw[show (decide (n=0)&&decide (d=0)&&decide (s=[]))=false by simp[*]];exact QJ
 rw[show (decide (n=0)&&decide (d=0)&&decide (s=[]))=true by simp[*]];refine X4 ?_;exact Zr0
open Go
open List renaming length->J
abbrev aC:List UInt8->List UInt8->Bool:=Op.bytesLess
theorem XdA:∀s t u:List UInt8,Op.bytesLess s t=true->Op.bytesLess t u=true->Op.bytesLess s u=true
 |_,[],_,h,_=>by grind [Op.bytesLess]
 |_,_::_,[],_,h=>by grind [Op.bytesLess]
 |[],_::_,_::_,_,_=>by simp[Op.bytesLess]
 |a::s,b::t,c::u,h1,h2=>by
  have ih:=XdA s t u
  grind [Op.bytesLess]
theorem X2a:KOrd aC:=⟨XaR,XdA,XcI⟩
abbrev Yp (s:List UInt8):List UInt8:=s
def XeS:∀l:List (List UInt8),X0f l=true↔YP aC Yp l
 |[]=>by simp[X0f,YP]
 |[a]=>by simp[X0f,YP]
 |a::b::r=>by
  have ih:=XeS (b::r)
  grind [X0f,YP,pairwise_cons,XcI,XdA,XaR]
structure PV (ls:List (List UInt8)) (ps:List Prp):Prop where
 ll:J ls<=8
 pl:J ps<=16
 ln:∀s∈ls,Yc s=true
 pn:∀p∈ps,Yc p.key=true
 lr:YP aC Yp ls
 pr:YP aC Prp.key ps
 pv:∀p∈ps,U9 p.v=true
def Xr6:YP aC Yp (ps.map Prp.key)↔YP aC Prp.key ps:=by
 grind [YP]
theorem Xm9 {ls:List (List UInt8)}:X1r ls ps=0↔PV ls ps:=by
 unfold X1r;have e1:X0f ls=true↔YP aC Yp ls:=XeS ls;have e2:X0f (ps.map Prp.key)=true↔YP aC Prp.key ps:=(XeS _).trans Xr6;constructor
 ·intro h;by_cases c1:8<J ls\/16<J ps
  ·omega
  rw[NI c1] at h;by_cases c2:ls.all Yc=false\/(ps.map Prp.key).all Yc=false
  ·grind
  rw[NI c2] at h;by_cases c3:X0f ls=false\/X0f (ps.map Prp.key)=false
  ·grind
  rw[NI c3] at h;by_cases c4:(ps.map Prp.v).all U9=false
  ·grind
  simp only[not_or,Bool.not_eq_false] at c2 c3 c4;refine⟨Oa,Oa,all_eq_true.1 c2.1,fun p hp=>all_eq_true.1 c2.2 _ (mem_map_of_mem hp),e1.1 c3.1,e2.1 c3.2,fun p hp=>all_eq_true.1 c4 _ (mem_map_of_mem hp)⟩
 ·intro h;have a1:ls.all Yc=true:=all_eq_true.2 h.ln;have a2:(ps.map Prp.key).all Yc=true:=all_eq_true.2 fun s hs=>by
   obtain⟨p,hp,rfl⟩:=mem_map.1 hs;exact h.pn p hp
  have a3:(ps.map Prp.v).all U9=true:=all_eq_true.2 fun s hs=>by
   obtain⟨p,hp,rfl⟩:=mem_map.1 hs;exact h.pv p hp
  have h1:=h.ll;have h2:=h.pl;rw[NI Oa,NI (by simp[a1,a2]),NI (by simp[e1.2 h.lr,e2.2 h.pr]),NI (by simp[a3])]
structure GV (g:Gra):Prop where
 nl:J g.nodes<=2000
 el:J g.aj<=4000
 nn:1<=g.nn/\g.nn<=1000001
 ne:1<=g.ne/\g.ne<=1000001
 nodes:∀n∈g.nodes,1<=n.id/\n.id<g.nn/\PV n.labels n.props
 ns:YP ltI Nod.id g.nodes
 aj:∀e∈g.aj,1<=e.id/\e.id<g.ne/\Vd g.nodes e.src=true/\Vd g.nodes e.dst=true/\Yc e.typ=true/\PV [] e.props
 es:YP ltI Edg.id g.aj
def Xet {nn:Int}:∀(l:List Nod) (p:Option Nod),X1a nn p l=0↔(∀n∈l,1<=n.id/\n.id<nn/\PV n.labels n.props)/\YP ltI Nod.id l/\∀q,p=some q->∀n∈l,q.id<n.id
 |[],p=>by simp[X1a,YP]
 |x::r,p=>by
  have ih:=Xet (nn:=nn) r (some x);have h0:X2Z nn p x=0↔(∀q,p=some q->q.id<x.id)/\1<=x.id/\x.id<nn/\PV x.labels x.props:=by
   unfold X2Z;rw[<-Xm9];by_cases c1:∃q,p=some q/\x.id<=q.id<;>grind
  grind [X1a,pairwise_cons,ltI,YP]
def XfJ {ns:List Nod}{ne:Int}:∀(l:List Edg) (p:Option Edg),X2k ns ne p l=0↔(∀e∈l,1<=e.id/\e.id<ne/\Vd ns e.src=true/\Vd ns e.dst=true/\Yc e.typ=true/\PV [] e.props)/\YP ltI Edg.id l/\∀q,p=some q->∀n∈l,q.id<n.id
 |[],p=>by simp[X2k,YP]
 |x::r,p=>by
  have ih:=XfJ (ns:=ns) (ne:=ne) r (some x);have h0:X3k ns ne p x=0↔(∀q,p=some q->q.id<x.id)/\1<=x.id/\x.id<ne/\Vd ns x.src=true/\Vd ns x.dst=true/\Yc x.typ=true/\PV [] x.props:=by
   unfold X3k;rw[<-Xm9];by_cases c1:∃q,p=some q/\x.id<=q.id
   ·rw[PI c1];obtain⟨q,hq,hle⟩:=c1;constructor
    ·intro h;omega
    ·rintro⟨h,_⟩;have:=h q hq;omega
   ·rw[NI c1];have m7:∀q,p=some q->q.id<x.id:=fun q hq=>Int.lt_of_not_ge fun hc=>c1 ⟨q,hq,hc⟩;by_cases c2:x.id<1\/ne<=x.id
    ·rw[PI c2];constructor
     ·intro h;omega
     ·rintro⟨_,h1,h2,_⟩;omega
    ·rw[NI c2];by_cases c3:Vd ns x.src=false\/Vd ns x.dst=false
     ·rw[PI c3];constructor
      ·intro h;omega
      ·rintro⟨_,_,_,h1,h2,_⟩;rw[h1,h2] at c3;simp at c3
     ·rw[NI c3];simp only[not_or,Bool.not_eq_false] at c3;by_cases c4:Yc x.typ=false
      ·rw[PI c4];constructor
       ·intro h;omega
       ·rintro⟨_,_,_,_,_,h1,_⟩;rw[h1] at c4;simp at c4
      ·rw[NI c4];exact⟨fun h=>⟨m7,Oa,Oa,c3.1,c3.2,by simpa using c4,h⟩,fun h=>h.2.2.2.2.2.2⟩
  rw[X2k];by_cases h1:X3k ns ne p x=0
  ·rw[NI (by rw[h1];simp),ih];obtain⟨k1,k2⟩:=h0.1 h1;constructor
   ·rintro⟨q1,q2,q3⟩;refine⟨fun n hn=> ?_,pairwise_cons.2 ⟨fun n hn=>by simpa [ltI] using q3 x rfl n hn,q2⟩,fun q hq n hn=> ?_⟩
    ·rcases mem_cons.1 hn with rfl|hn
     ·exact k2
     ·exact q1 n hn
    ·rcases mem_cons.1 hn with rfl|hn
     ·exact k1 q hq
     ·exact Int.lt_trans (k1 q hq) (q3 x rfl n hn)
   ·rintro⟨q1,q2,q3⟩;obtain⟨q4,q5⟩:=pairwise_cons.1 q2;refine⟨fun n hn=>q1 n (mem_cons_of_mem _ hn),q5,fun q hq n hn=> ?_⟩;cases hq;simpa [ltI] using q4 n hn
  ·rw[PI h1];constructor
   ·intro h;exact absurd h h1
   ·rintro⟨q1,q2,q3⟩;exact absurd (h0.2 ⟨fun q hq=>q3 q hq x Oc,q1 x Oc⟩) h1
theorem X6Q {g:Gra}:X0w g=0↔GV g:=by
 unfold X0w;constructor
 ·intro h;by_cases c1:2000<J g.nodes\/4000<J g.aj
  ·rw[PI c1] at h;simp at h
  rw[NI c1] at h;by_cases c2:g.nn<1\/1000001<g.nn\/g.ne<1\/1000001<g.ne
  ·rw[PI c2] at h;simp at h
  rw[NI c2] at h;by_cases c3:X1a g.nn none g.nodes≠0
  ·rw[PI c3] at h;exact absurd h c3
  rw[NI c3] at h;obtain⟨n1,n2,_⟩:=(Xet g.nodes none).1 Jn;obtain⟨e1,e2,_⟩:=(XfJ g.aj none).1 h;exact⟨Oa,Oa,Oa,Oa,n1,n2,e1,e2⟩
 ·intro h;have h1:=h.nl;have h2:=h.el;have h3:=h.nn;have h4:=h.ne;have hn:X1a g.nn none g.nodes=0:=(Xet _ _).2 ⟨h.nodes,h.ns,Oc⟩;have he:X2k g.nodes g.ne none g.aj=0:=(XfJ _ _).2 ⟨h.aj,h.es,Oc⟩;rw[NI Oa,NI Oa,NI (by rw[hn];simp),he]
structure PCmp {α:Type} (c:α->α->Int):Prop where
 refl:∀a,c a a=0
 pos:∀a b,c a b<0->0<c b a
 neg:∀a b,0<c a b->c b a<0
 tr:∀a b d,c a b<0->c b d<0->c a d<0
 eqL:∀a b d,c a b=0->c a d=c b d
 jB:∀a b d,c a b=0->c d a=c d b
def orC {α:Type} (c1 c2:α->α->Int) (a b:α):Int:=if c1 a b≠0 then c1 a b else c2 a b
def Xa4 {α:Type}{c1 c2:α->α->Int} (h1:PCmp c1) (h2:PCmp c2):PCmp (orC c1 c2):=by
 have z:∀a b,orC c1 c2 a b=0->c1 a b=0/\c2 a b=0:=fun a b h=>by
  exact Yt70
 have sw:∀a b,c1 a b=0->c1 b a=0:=fun a b h=>by rw[<-h1.eqL a b a h];exact h1.refl a
 refine⟨fun a=> ?_,fun a b h=> ?_,fun a b h=> ?_,fun a b d h k=> ?_,fun a b d h=> ?_,fun a b d h=> ?_⟩
 ·unfold orC;rw[NI (by simp[h1.refl]),h2.refl]
 ·unfold orC at h |-;by_cases q:c1 a b=0
  ·rw[NI Ip] at h;rw[NI (by simp[sw a b q])];exact h2.pos _ _ h
  ·rw[PI q] at h;have:=h1.pos _ _ h;rw[PI Oa];exact this
 ·unfold orC at h |-;by_cases q:c1 a b=0
  ·rw[NI Ip] at h;rw[NI (by simp[sw a b q])];exact h2.neg _ _ h
  ·rw[PI q] at h;have:=h1.neg _ _ h;rw[PI Oa];exact this
 ·unfold orC at h k |-;by_cases q:c1 a b=0
  ·rw[NI Ip] at h;by_cases r:c1 b d=0
   ·rw[NI (by simp[r])] at k;have e:c1 a d=0:=by rw[h1.eqL a b d q];exact r
    rw[NI (by simp[e])];exact h2.tr _ _ _ h k
   ·rw[PI r] at k;have e:c1 a d=c1 b d:=h1.eqL a b d q;rw[PI Oa];omega
  ·rw[PI q] at h;by_cases r:c1 b d=0
   ·have e:c1 a b=c1 a d:=h1.jB b d a r;rw[PI Oa];omega
   ·rw[PI r] at k;have e:=h1.tr _ _ _ h k;rw[PI Oa];exact e
 ·obtain⟨e1,e2⟩:=z a b h;unfold orC;rw[h1.eqL a b d e1,h2.eqL a b d e2]
 ·obtain⟨e1,e2⟩:=z a b h;unfold orC;rw[h1.jB a b d e1,h2.jB a b d e2]
def cI3 (x y:Int):Int:=if x<y then-1 else if y<x then 1 else 0
def Xo7:PCmp cI3:=by
 refine⟨fun a=> ?_,fun a b h=> ?_,fun a b h=> ?_,fun a b d h k=> ?_,fun a b d h=> ?_,fun a b d h=> ?_⟩
 all_goals unfold cI3 at*
 all_goals (repeat' split at*)<;>omega
def X67:Ul s t=0↔s=t:=by
 unfold Ul;constructor
 ·intro h;by_cases q:Op.bytesLess s t=true
  ·rw[PI q] at h;simp at h
  ·rw[NI q] at h;by_cases r:s=t
   ·exact r
   ·rw[NI r] at h;simp at h
 ·rintro rfl;rw[NI (by simp[XaR]),PI rfl]
def X7S:Ul s t<0↔Op.bytesLess s t=true:=by
 unfold Ul;constructor
 ·intro h;by_cases q:Op.bytesLess s t=true
  ·exact q
  ·rw[NI q] at h;split at h<;>omega
 ·intro h;rw[PI h];omega
def XmL:0<Ul s t↔Op.bytesLess t s=true:=by
 constructor
 ·intro h;have h1:¬Op.bytesLess s t=true:=fun q=>by have:=X7S.2 q;omega
  have h2:s≠t:=fun q=>by have:=X67.2 q;omega
  by_cases q:Op.bytesLess t s=true
  ·exact q
  ·exact absurd (XcI s t Iq IK) h2
 ·intro h;have h1:=XlF _ _ h;unfold Ul;rw[NI (by simp[h1]),NI (fun e=>by rw[e,XaR] at h;cases h)];omega
def Xda:PCmp Ul:=
 ⟨fun a=>X67.2 rfl,fun a b h=>XmL.2 (X7S.1 h),fun a b h=>X7S.2 (XmL.1 h),fun a b d h k=>X7S.2 (XdA _ _ _ (X7S.1 h) (X7S.1 k)),
  fun a b d h=>by rw[X67.1 h],fun a b d h=>by rw[X67.1 h]⟩
def PCmp.oo {α β:Type}{c:β->β->Int} (h:PCmp c) (f:α->β):PCmp (fun a b=>c (f a) (f b)):=
 ⟨fun a=>h.refl _,fun a b=>h.pos _ _,fun a b=>h.neg _ _,fun a b d=>h.tr _ _ _,fun a b d=>h.eqL _ _ _,fun a b d=>h.jB _ _ _⟩
def Xec:Rul->Rul->Int:=orC (fun a b=>cI3 a.kind b.kind) (orC (fun a b=>Ul a.name b.name) (orC (fun a b=>Ul a.key b.key) (orC (fun a b=>cI3 a.n b.n) (orC (fun a b=>Ul a.src b.src) (fun a b=>Ul a.dst b.dst)))))
theorem XjE (a b:Rul):V3 a b=Xec a b:=by
 unfold V3 Xec orC cI3;by_cases c1:a.kind<b.kind
 ·simp[c1]
 by_cases c2:b.kind<a.kind
 ·simp[c1,c2]
 by_cases c3:a.n<b.n
 ·simp[c1,c2,c3]
 by_cases c4:b.n<a.n
 ·simp[c1,c2,c3,c4]
 simp[c1,c2,c3,c4]
def XaC:PCmp V3:=by
 have h:V3=Xec:=by funext a b;exact XjE a b
 rw[h];exact Xa4 (Xo7.oo Rul.kind) (Xa4 (Xda.oo Rul.name) (Xa4 (Xda.oo Rul.key) (Xa4 (Xo7.oo Rul.n) (Xa4 (Xda.oo Rul.src) (Xda.oo Rul.dst)))))
def Xnn {x y:Int} (h:cI3 x y=0):x=y:=by
 unfold cI3 at h
 (repeat' split at h)<;>omega
def XbI {a b:Rul} (h:V3 a b=0):a=b:=by
 rw[XjE] at h;have z:∀{c1 c2:Rul->Rul->Int},orC c1 c2 a b=0->c1 a b=0/\c2 a b=0:=fun{c1 c2} h=>by
  exact Yt70
 obtain⟨h1,h⟩:=z h;obtain⟨h2,h⟩:=z h;obtain⟨h3,h⟩:=z h;obtain⟨h4,h⟩:=z h;obtain⟨h5,h6⟩:=z h;replace h1:=Xnn h1;replace h2:=X67.1 h2;replace h3:=X67.1 h3;replace h4:=Xnn h4;replace h5:=X67.1 h5;replace h6:=X67.1 h6;obtain⟨k,n,name,key,src,dst⟩:=a;obtain⟨k',n',name',key',src',dst'⟩:=b;simp only at h1 h2 h3 h4 h5 h6;subst h1 h2 h3 h4 h5 h6;rfl
def ltR (a b:Rul):Bool:=decide (V3 a b<0)
abbrev YW (r:Rul):Rul:=r
def X6k:KOrd ltR:=by
 refine⟨fun a=> ?_,fun a b c h k=> ?_,fun a b h k=> ?_⟩
 ·unfold ltR;rw[XaC.refl];rfl
 ·unfold ltR at*;simp only[decide_eq_true_eq] at*;exact XaC.tr _ _ _ h k
 ·unfold ltR at*;simp only[decide_eq_false_iff_not] at*;refine XbI ?_;by_cases q:0<V3 a b
  ·have:=XaC.neg _ _ q;omega
  ·omega
theorem Xp3:∀(l:List Rul) (p:Option Rul),X2V p l=true↔(∀r∈l,Uu r=0)/\YP ltR YW l/\∀q,p=some q->∀r∈l,ltR q r=true
 |[],p=>by simp[X2V,YP]
 |x::l,p=>by
  rw[X2V,Bool.and_eq_true,decide_eq_true_eq,Xp3 l (some x)];constructor
  ·rintro⟨⟨h1,h2⟩,h3,h4,h5⟩;have h6:=h5 x rfl;refine⟨fun r hr=> ?_,?_,fun q hq r hr=> ?_⟩
   ·rcases mem_cons.1 hr with rfl|hr
    ·exact h1
    ·exact h3 r hr
   ·exact pairwise_cons.2 ⟨fun r hr=>h6 r hr,h4⟩
   ·have hx:ltR q x=true:=by unfold ltR;simpa using h2 q hq
    rcases mem_cons.1 hr with rfl|hr
    ·exact hx
    ·exact X6k.tr _ _ _ hx (h6 r hr)
  ·rintro⟨h1,h2,h3⟩;obtain⟨h4,h5⟩:=pairwise_cons.1 h2;refine⟨⟨h1 x (mem_cons_self ..),fun q hq=> ?_⟩,fun r hr=>h1 r (mem_cons_of_mem _ hr),h5,fun q hq r hr=> ?_⟩
   ·have:=h3 q hq x (mem_cons_self ..);unfold ltR at this;simpa using this
   ·obtain rfl:x=q:=by simpa using hq
    exact h4 r hr
structure SchV (l:List Rul):Prop where
 ok:∀r∈l,Uu r=0
 st:YP ltR YW l
 len:J l<=40
theorem X7J {l:List Rul}:X1F l=true↔SchV l:=by
 unfold X1F;rw[Bool.and_eq_true,Xp3,decide_eq_true_eq];constructor
 ·rintro⟨⟨h1,h2,_⟩,h3⟩;exact⟨h1,h2,h3⟩
 ·intro h;exact⟨⟨h.ok,h.st,fun q hq=>by cases hq⟩,h.len⟩
instance decRul:DecidableEq Rul:=fun a b=>if h:V3 a b=0 then .isTrue (XbI h) else .isFalse (fun e=>h (by rw[e];exact XaC.refl _))
end Go.Fw

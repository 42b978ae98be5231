/- Changes applied to graphs, in plain Lean: lists ordered by a key. -/
import Derived.Test.YtpbgjcbkhgfmkaaGreatDoorChecked
import Derived.Test.YtpbgjcbkhgfmkaaGreatDoorM04
import Derived.Test.YtpbgjcbkhgfmkaaGreatDoorM06
set_option maxHeartbeats 8000000
namespace Go.Fw
open Go List
set_option linter.unusedVariables false
set_option linter.unusedSimpArgs false
structure KOrd {κ:Type} (lt:κ->κ->Bool):Prop where
 irr:∀a,lt a a=false
 tr:∀a b c,lt a b=true->lt b c=true->lt a c=true
 tri:∀a b,lt a b=false->lt b a=false->a=b
section
variable {α κ:Type}{lt:κ->κ->Bool}{key:α->κ}
def YW (lt:κ->κ->Bool) (key:α->κ) (l:List α):Prop:=l.Pairwise fun a b=>lt (key a) (key b)=true
def Xo (lt:κ->κ->Bool) (key:α->κ) (l:List α) (k:κ):Nat:=(l.takeWhile fun x=>lt (key x) k).length
theorem Xek {p:α->Bool}:∀{l:List α}{x:α},x∈l.takeWhile p->p x=true
 |y::l,x,h=>by
  cases hp:p y with
  |true=>
   rw[takeWhile_cons_of_pos hp] at h;rcases mem_cons.1 h with rfl|h
   ·exact hp
   ·exact Xek h
  |false=>rw[takeWhile_cons_of_neg (by simp[hp])] at h;simp at h
 |[],x,h=>by simp at h
theorem X5E {p:α->Bool}:∀l:List α,l.takeWhile p=l.take (l.takeWhile p).length/\l.dropWhile p=l.drop (l.takeWhile p).length
 |[]=>⟨rfl,rfl⟩
 |x::l=>by
  cases h:p x with
  |true=>
   rw[takeWhile_cons_of_pos h,dropWhile_cons_of_pos h];obtain⟨h1,h2⟩:=X5E (p:=p) l;exact⟨by rw[LC,take_succ_cons,<-h1],by rw[LC,drop_succ_cons,<-h2]⟩
  |false=>
   rw[takeWhile_cons_of_neg (by simp[h]),dropWhile_cons_of_neg (by simp[h])];exact⟨rfl,rfl⟩
theorem X5p (l:List α) (k:κ):Xo lt key l k<=l.length:=by
 unfold Xo;have:=(X5E (p:=fun x=>lt (key x) k) l).1;have:=CG length this;rw[LT] at this;omega
theorem XbY (l:List α) (k:κ):(l.takeWhile fun x=>lt (key x) k)=l.take (Xo lt key l k):=(X5E l).1
theorem X9r (l:List α) (k:κ):(l.dropWhile fun x=>lt (key x) k)=l.drop (Xo lt key l k):=(X5E l).2
theorem Xad {l:List α}{k:κ}:∀x∈l.take (Xo lt key l k),lt (key x) k=true:=by
 intro x hx;rw[<-XbY] at hx;exact Xek (p:=fun x=>lt (key x) k) hx
theorem X9g {l:List α}{k:κ}{x:α} (h:l[Xo lt key l k]? =some x):lt (key x) k=false:=by
 have h1:(l.dropWhile fun x=>lt (key x) k).head? =some x:=by
  rw[X9r,head?_drop];exact h
 have:=head?_dropWhile_not (fun x=>lt (key x) k) l;rw[h1] at this;simpa using this
theorem Xtc (ho:KOrd lt) {l:List α}{k:κ} (hs:YW lt key l):∀x∈l.drop (Xo lt key l k),lt (key x) k=false:=by
 intro x hx;obtain⟨j,hj⟩:=getElem?_of_mem hx;rw[getElem?_drop] at hj;cases j with
 |zero=>exact X9g (by simpa using hj)
 |succ j=>
  have hlt:Xo lt key l k+(j+1)<l.length:=(GS.1 hj).1;have h0:l[Xo lt key l k]? =some l[Xo lt key l k]:=getElem?_eq_getElem (by omega);have h1:=X9g h0;have h2:=(pairwise_iff_getElem.1 hs) (Xo lt key l k) (Xo lt key l k+(j+1)) (by omega) hlt (by omega);rw[getElem?_eq_getElem hlt] at hj;simp only[Option.some.injEq] at hj;rw[hj] at h2;by_cases q:lt (key x) k=true
  ·rw[ho.tr _ _ _ h2 q] at h1;cases h1
  ·simpa using q
theorem XfJ {p:α->Bool}:∀{l:List α},(∀x∈l,p x=true)->l.filter p=l:=fun h=>filter_eq_self.2 h
variable [DecidableEq κ]
def XD (key:α->κ) (l:List α) (k:κ):Bool:=l.any fun x=>decide (key x=k)
def UC (lt:κ->κ->Bool) (key:α->κ) (l:List α) (k:κ) (ns:List α):List α:=(l.takeWhile fun x=>lt (key x) k)++ns++(l.dropWhile fun x=>lt (key x) k).filter fun x=> !decide (key x=k)
def UL (key:α->κ) (l:List α) (k:κ):List α:=l.filter fun x=> !decide (key x=k)
theorem X10 (ho:KOrd lt) {l:List α}{k:κ} (hs:YW lt key l):XD key l k=decide (∃x,l[Xo lt key l k]? =some x/\key x=k):=by
 rw[Bool.eq_iff_iff];unfold XD;simp only[any_eq_true,decide_eq_true_eq];constructor
 ·rintro⟨x,hx,e⟩;rw[<-take_append_drop (Xo lt key l k) l] at hx;rcases mem_append.1 hx with hx|hx
  ·have:=Xad x hx;rw[e,ho.irr] at this;cases this
  ·obtain⟨j,hj⟩:=getElem?_of_mem hx;rw[getElem?_drop] at hj;cases j with
   |zero=>exact⟨x,by simpa using hj,e⟩
   |succ j=>
    exfalso;have hlt:Xo lt key l k+(j+1)<l.length:=(GS.1 hj).1;have h0:l[Xo lt key l k]? =some l[Xo lt key l k]:=getElem?_eq_getElem (by omega);have h1:=X9g h0;have h2:=(pairwise_iff_getElem.1 hs) (Xo lt key l k) (Xo lt key l k+(j+1)) (by omega) hlt (by omega);rw[getElem?_eq_getElem hlt] at hj;simp only[Option.some.injEq] at hj;rw[hj,e] at h2;rw[h2] at h1;cases h1
 ·rintro⟨x,hx,e⟩;exact⟨x,mem_of_getElem? hx,e⟩
theorem X4U {l:List α}{k:κ}{ns:List α} (hn:XD key l k=false):UC lt key l k ns=l.take (Xo lt key l k)++ns++l.drop (Xo lt key l k):=by
 unfold UC;rw[XbY,X9r,XfJ];intro x hx;have:=(any_eq_false.1 hn) x (mem_of_mem_drop hx);simpa using this
theorem Xn1 (ho:KOrd lt) {l:List α}{k:κ}{x:α} (hs:YW lt key l) (hx:l[Xo lt key l k]? =some x) (e:key x=k):(l.drop (Xo lt key l k)).filter (fun x=> !decide (key x=k))=l.drop (Xo lt key l k+1):=by
 have hlt:Xo lt key l k<l.length:=(GS.1 hx).1;rw[drop_eq_getElem_cons hlt];have hx':l[Xo lt key l k]=x:=by rw[getElem?_eq_getElem hlt] at hx;simpa using hx
 rw[hx',filter_cons_of_neg (by simp[e]),XfJ];intro y hy;obtain⟨j,hj⟩:=getElem?_of_mem hy;rw[getElem?_drop] at hj;have nT:Xo lt key l k+1+j<l.length:=(GS.1 hj).1;have h2:=(pairwise_iff_getElem.1 hs) (Xo lt key l k) (Xo lt key l k+1+j) hlt nT (by omega);rw[getElem?_eq_getElem nT] at hj;simp only[Option.some.injEq] at hj;rw[hj,hx',e] at h2;simp only[Bool.not_eq_true',decide_eq_false_iff_not];intro q;rw[q,ho.irr] at h2;cases h2
theorem X7P (ho:KOrd lt) {l:List α}{k:κ}{ns:List α}{x:α} (hs:YW lt key l) (hx:l[Xo lt key l k]? =some x) (e:key x=k):UC lt key l k ns=l.take (Xo lt key l k)++ns++l.drop (Xo lt key l k+1):=by
 unfold UC;rw[XbY,X9r,Xn1 ho hs hx e]
theorem Xcu (ho:KOrd lt) {l:List α}{k:κ}{x:α} (hs:YW lt key l) (hx:l[Xo lt key l k]? =some x) (e:key x=k):UL key l k=l.take (Xo lt key l k)++l.drop (Xo lt key l k+1):=by
 unfold UL;conv=>lhs;rw[<-take_append_drop (Xo lt key l k) l]
 rw[filter_append,Xn1 ho hs hx e,XfJ];intro y hy;have:=Xad y hy;simp only[Bool.not_eq_true',decide_eq_false_iff_not];intro q;rw[q,ho.irr] at this;cases this
theorem Xa2 {l:List α}{k:κ}{ns:List α}{x:α} (h:x∈UC lt key l k ns):x∈ns\/x∈l:=by
 unfold UC at h;rcases mem_append.1 h with h|h
 ·rcases mem_append.1 h with h|h
  ·exact .inr ((takeWhile_sublist _).subset h)
  ·exact .inl h
 ·exact .inr ((dropWhile_sublist _).subset ((mem_filter.1 h).1))
theorem X8D (ho:KOrd lt) {l:List α}{k:κ}{ns:List α} (hs:YW lt key l) (hn:ns=[]\/∃n,ns=[n]/\key n=k):YW lt key (UC lt key l k ns):=by
 unfold UC YW;have h1:YW lt key (l.takeWhile fun x=>lt (key x) k):=hs.sublist (takeWhile_sublist _);have h2:YW lt key ((l.dropWhile fun x=>lt (key x) k).filter fun x=> !decide (key x=k)):=(hs.sublist (dropWhile_sublist _)).sublist filter_sublist;have hA:∀a∈(l.takeWhile fun x=>lt (key x) k),lt (key a) k=true:=fun a ha=>Xek (p:=fun x=>lt (key x) k) ha;have hB:∀b∈((l.dropWhile fun x=>lt (key x) k).filter fun x=> !decide (key x=k)),lt k (key b)=true:=by
  intro b hb;rw[X9r] at hb;have q1:=Xtc ho hs b ((mem_filter.1 hb).1);have q2:key b≠k:=by simpa using (mem_filter.1 hb).2
  by_cases q:lt k (key b)=true
  ·exact q
  ·exact absurd (ho.tri _ _ q1 (by simpa using q)) q2
 have qN:∀a∈(l.takeWhile fun x=>lt (key x) k),∀b∈((l.dropWhile fun x=>lt (key x) k).filter fun x=> !decide (key x=k)),lt (key a) (key b)=true:=fun a ha b hb=>ho.tr _ _ _ (hA a ha) (hB b hb);rcases hn with rfl|⟨n,rfl,e⟩
 ·rw[append_nil];exact pairwise_append.2 ⟨h1,h2,qN⟩
 ·refine pairwise_append.2 ⟨pairwise_append.2 ⟨h1,pairwise_singleton _ _,fun a ha b hb=> ?_⟩,h2,fun a ha b hb=> ?_⟩
  ·obtain rfl:=mem_singleton.1 hb;rw[e];exact hA a ha
  ·rcases mem_append.1 ha with ha|ha
   ·exact qN a ha b hb
   ·obtain rfl:=mem_singleton.1 ha;rw[e];exact hB b hb
theorem XbB {l:List α}{k:κ} (hs:YW lt key l):YW lt key (UL key l k):=hs.sublist filter_sublist
theorem XbV {l:List α}{k:κ}{x:α} (h:x∈UL key l k):x∈l/\key x≠k:=by
 obtain⟨h1,h2⟩:=mem_filter.1 h;exact⟨h1,by simpa using h2⟩
end
def ltI (a b:Int):Bool:=decide (a<b)
theorem UY:KOrd ltI:=⟨fun a=>by simp[ltI],fun a b c h1 h2=>by simp only[ltI,decide_eq_true_eq] at*;omega,fun a b h1 h2=>by simp only[ltI,decide_eq_false_iff_not] at*;omega⟩
abbrev aA:List UInt8->List UInt8->Bool:=Op.bytesLess
theorem Xah:∀s t u:List UInt8,Op.bytesLess s t=true->Op.bytesLess t u=true->Op.bytesLess s u=true
 |_,[],_,h,_=>by simp[Op.bytesLess] at h
 |_,_::_,[],_,h=>by simp[Op.bytesLess] at h
 |[],_::_,_::_,_,_=>by simp[Op.bytesLess]
 |a::s,b::t,c::u,h1,h2=>by
  have ih:=Xah s t u;simp only[Op.bytesLess,Bool.or_eq_true,decide_eq_true_eq,Bool.and_eq_true,beq_iff_eq] at h1 h2 |-;rcases h1 with h1|⟨rfl,h1⟩<;>rcases h2 with h2|⟨rfl,h2⟩
  ·exact .inl (UInt8.lt_trans h1 h2)
  ·exact .inl h1
  ·exact .inl h2
  ·exact .inr ⟨rfl,ih h1 h2⟩
theorem X1t:KOrd aA:=⟨X9U,Xah,Xco⟩
abbrev Yl (s:List UInt8):List UInt8:=s
theorem Xeb:∀l:List (List UInt8),X08 l=true↔YW aA Yl l
 |[]=>by simp[X08,YW]
 |[a]=>by simp[X08,YW]
 |a::b::r=>by
  have ih:=Xeb (b::r);rw[X08,Bool.and_eq_true,ih];unfold YW;rw[pairwise_cons (a:=a)];constructor
  ·rintro⟨h1,h2⟩;refine⟨fun c hc=> ?_,h2⟩;have hab:aA a b=true:=by
    simp only[Bool.not_eq_true',Bool.or_eq_false_iff,decide_eq_false_iff_not] at h1;by_cases q:aA a b=true
    ·exact q
    ·exact absurd (Xco b a h1.1 (by simpa using q)) h1.2
   rcases mem_cons.1 hc with rfl|hc
   ·exact hab
   ·exact Xah _ _ _ hab ((pairwise_cons.1 h2).1 c hc)
  ·rintro⟨h1,h2⟩;refine⟨?_,h2⟩;have hab:=h1 b (by simp);simp only[Bool.not_eq_true',Bool.or_eq_false_iff,decide_eq_false_iff_not];refine⟨Xdz _ _ hab,fun e=> ?_⟩;rw[e] at hab;rw[show aA a a=false from X9U a] at hab;cases hab
structure PV (ls:List (List UInt8)) (ps:List Prp):Prop where
 ll:ls.length<=8
 pl:ps.length<=16
 ln:∀s∈ls,Y8 s=true
 pn:∀p∈ps,Y8 p.key=true
 lr:YW aA Yl ls
 pr:YW aA Prp.key ps
 pv:∀p∈ps,Ui p.v=true
variable{ps:List Prp}{k:Nat}{on:Bool}{secs:List (List UInt8)}{s t:List UInt8}
theorem Xwc:YW aA Yl (ps.map Prp.key)↔YW aA Prp.key ps:=by
 unfold YW;rw[pairwise_map]
theorem XgK {ls:List (List UInt8)}:X1c ls ps=0↔PV ls ps:=by
 unfold X1c;have e1:X08 ls=true↔YW aA Yl ls:=Xeb ls;have e2:X08 (ps.map Prp.key)=true↔YW aA Prp.key ps:=(Xeb _).trans Xwc;constructor
 ·intro h;by_cases c1:8<ls.length\/16<ps.length
  ·rw[PI c1] at h;simp at h
  rw[NI c1] at h;by_cases c2:ls.all Y8=false\/(ps.map Prp.key).all Y8=false
  ·rw[PI c2] at h;simp at h
  rw[NI c2] at h;by_cases c3:X08 ls=false\/X08 (ps.map Prp.key)=false
  ·rw[PI c3] at h;simp at h
  rw[NI c3] at h;by_cases c4:(ps.map Prp.v).all Ui=false
  ·rw[PI c4] at h;simp at h
  simp only[not_or,Bool.not_eq_false] at c2 c3 c4;refine⟨by omega,by omega,all_eq_true.1 c2.1,fun p hp=>all_eq_true.1 c2.2 _ (mem_map_of_mem hp),e1.1 c3.1,e2.1 c3.2,fun p hp=>all_eq_true.1 c4 _ (mem_map_of_mem hp)⟩
 ·intro h;have a1:ls.all Y8=true:=all_eq_true.2 h.ln;have a2:(ps.map Prp.key).all Y8=true:=all_eq_true.2 fun s hs=>by
   obtain⟨p,hp,rfl⟩:=mem_map.1 hs;exact h.pn p hp
  have a3:(ps.map Prp.v).all Ui=true:=all_eq_true.2 fun s hs=>by
   obtain⟨p,hp,rfl⟩:=mem_map.1 hs;exact h.pv p hp
  have h1:=h.ll;have h2:=h.pl;rw[NI (by omega),NI (by simp[a1,a2]),NI (by simp[e1.2 h.lr,e2.2 h.pr]),NI (by simp[a3])]
structure GV (g:Gra):Prop where
 nl:g.nodes.length<=2000
 el:g.aj.length<=4000
 nn:1<=g.nn/\g.nn<=1000001
 ne:1<=g.ne/\g.ne<=1000001
 nodes:∀n∈g.nodes,1<=n.id/\n.id<g.nn/\PV n.labels n.props
 ns:YW ltI Nod.id g.nodes
 aj:∀e∈g.aj,1<=e.id/\e.id<g.ne/\V1 g.nodes e.src=true/\V1 g.nodes e.dst=true/\Y8 e.typ=true/\PV [] e.props
 es:YW ltI Edg.id g.aj
theorem Xf8 {nn:Int}:∀(l:List Nod) (p:Option Nod),X12 nn p l=0↔(∀n∈l,1<=n.id/\n.id<nn/\PV n.labels n.props)/\YW ltI Nod.id l/\∀q,p=some q->∀n∈l,q.id<n.id
 |[],p=>by simp[X12,YW]
 |x::r,p=>by
  have ih:=Xf8 (nn:=nn) r (some x);have h0:X1Z nn p x=0↔(∀q,p=some q->q.id<x.id)/\1<=x.id/\x.id<nn/\PV x.labels x.props:=by
   unfold X1Z;rw[<-XgK];by_cases c1:∃q,p=some q/\x.id<=q.id
   ·rw[PI c1];obtain⟨q,hq,hle⟩:=c1;constructor
    ·intro h;omega
    ·rintro⟨h,_⟩;have:=h q hq;omega
   ·rw[NI c1];have jQ:∀q,p=some q->q.id<x.id:=fun q hq=>Int.lt_of_not_ge fun hc=>c1 ⟨q,hq,hc⟩;by_cases c2:x.id<1\/nn<=x.id
    ·rw[PI c2];constructor
     ·intro h;omega
     ·rintro⟨_,h1,h2,_⟩;omega
    ·rw[NI c2];exact⟨fun h=>⟨jQ,by omega,by omega,h⟩,fun h=>h.2.2.2⟩
  rw[X12];by_cases h1:X1Z nn p x=0
  ·rw[NI (by rw[h1];simp),ih];obtain⟨k1,k2⟩:=h0.1 h1;constructor
   ·rintro⟨q1,q2,q3⟩;refine⟨fun n hn=> ?_,pairwise_cons.2 ⟨fun n hn=>by simpa [ltI] using q3 x rfl n hn,q2⟩,fun q hq n hn=> ?_⟩
    ·rcases mem_cons.1 hn with rfl|hn
     ·exact k2
     ·exact q1 n hn
    ·rcases mem_cons.1 hn with rfl|hn
     ·exact k1 q hq
     ·exact Int.lt_trans (k1 q hq) (q3 x rfl n hn)
   ·rintro⟨q1,q2,q3⟩;obtain⟨q4,q5⟩:=pairwise_cons.1 q2;refine⟨fun n hn=>q1 n (mem_cons_of_mem _ hn),q5,fun q hq n hn=> ?_⟩;cases hq;simpa [ltI] using q4 n hn
  ·rw[PI h1];constructor
   ·intro h;exact absurd h h1
   ·rintro⟨q1,q2,q3⟩;exact absurd (h0.2 ⟨fun q hq=>q3 q hq x (by simp),q1 x (by simp)⟩) h1
theorem XfA {ns:List Nod}{ne:Int}:∀(l:List Edg) (p:Option Edg),X2b ns ne p l=0↔(∀e∈l,1<=e.id/\e.id<ne/\V1 ns e.src=true/\V1 ns e.dst=true/\Y8 e.typ=true/\PV [] e.props)/\YW ltI Edg.id l/\∀q,p=some q->∀n∈l,q.id<n.id
 |[],p=>by simp[X2b,YW]
 |x::r,p=>by
  have ih:=XfA (ns:=ns) (ne:=ne) r (some x);have h0:X2T ns ne p x=0↔(∀q,p=some q->q.id<x.id)/\1<=x.id/\x.id<ne/\V1 ns x.src=true/\V1 ns x.dst=true/\Y8 x.typ=true/\PV [] x.props:=by
   unfold X2T;rw[<-XgK];by_cases c1:∃q,p=some q/\x.id<=q.id
   ·rw[PI c1];obtain⟨q,hq,hle⟩:=c1;constructor
    ·intro h;omega
    ·rintro⟨h,_⟩;have:=h q hq;omega
   ·rw[NI c1];have jQ:∀q,p=some q->q.id<x.id:=fun q hq=>Int.lt_of_not_ge fun hc=>c1 ⟨q,hq,hc⟩;by_cases c2:x.id<1\/ne<=x.id
    ·rw[PI c2];constructor
     ·intro h;omega
     ·rintro⟨_,h1,h2,_⟩;omega
    ·rw[NI c2];by_cases c3:V1 ns x.src=false\/V1 ns x.dst=false
     ·rw[PI c3];constructor
      ·intro h;omega
      ·rintro⟨_,_,_,h1,h2,_⟩;rw[h1,h2] at c3;simp at c3
     ·rw[NI c3];simp only[not_or,Bool.not_eq_false] at c3;by_cases c4:Y8 x.typ=false
      ·rw[PI c4];constructor
       ·intro h;omega
       ·rintro⟨_,_,_,_,_,h1,_⟩;rw[h1] at c4;simp at c4
      ·rw[NI c4];exact⟨fun h=>⟨jQ,by omega,by omega,c3.1,c3.2,by simpa using c4,h⟩,fun h=>h.2.2.2.2.2.2⟩
  rw[X2b];by_cases h1:X2T ns ne p x=0
  ·rw[NI (by rw[h1];simp),ih];obtain⟨k1,k2⟩:=h0.1 h1;constructor
   ·rintro⟨q1,q2,q3⟩;refine⟨fun n hn=> ?_,pairwise_cons.2 ⟨fun n hn=>by simpa [ltI] using q3 x rfl n hn,q2⟩,fun q hq n hn=> ?_⟩
    ·rcases mem_cons.1 hn with rfl|hn
     ·exact k2
     ·exact q1 n hn
    ·rcases mem_cons.1 hn with rfl|hn
     ·exact k1 q hq
     ·exact Int.lt_trans (k1 q hq) (q3 x rfl n hn)
   ·rintro⟨q1,q2,q3⟩;obtain⟨q4,q5⟩:=pairwise_cons.1 q2;refine⟨fun n hn=>q1 n (mem_cons_of_mem _ hn),q5,fun q hq n hn=> ?_⟩;cases hq;simpa [ltI] using q4 n hn
  ·rw[PI h1];constructor
   ·intro h;exact absurd h h1
   ·rintro⟨q1,q2,q3⟩;exact absurd (h0.2 ⟨fun q hq=>q3 q hq x (by simp),q1 x (by simp)⟩) h1
theorem X5Q {g:Gra}:X0n g=0↔GV g:=by
 unfold X0n;constructor
 ·intro h;by_cases c1:2000<g.nodes.length\/4000<g.aj.length
  ·rw[PI c1] at h;simp at h
  rw[NI c1] at h;by_cases c2:g.nn<1\/1000001<g.nn\/g.ne<1\/1000001<g.ne
  ·rw[PI c2] at h;simp at h
  rw[NI c2] at h;by_cases c3:X12 g.nn none g.nodes≠0
  ·rw[PI c3] at h;exact absurd h c3
  rw[NI c3] at h;obtain⟨n1,n2,_⟩:=(Xf8 g.nodes none).1 (by simpa using c3);obtain⟨e1,e2,_⟩:=(XfA g.aj none).1 h;exact⟨by omega,by omega,by omega,by omega,n1,n2,e1,e2⟩
 ·intro h;have h1:=h.nl;have h2:=h.el;have h3:=h.nn;have h4:=h.ne;have hn:X12 g.nn none g.nodes=0:=(Xf8 _ _).2 ⟨h.nodes,h.ns,by simp⟩;have he:X2b g.nodes g.ne none g.aj=0:=(XfA _ _).2 ⟨h.aj,h.es,by simp⟩;rw[NI (by omega),NI (by omega),NI (by rw[hn];simp),he]
structure PCmp {α:Type} (c:α->α->Int):Prop where
 refl:∀a,c a a=0
 pos:∀a b,c a b<0->0<c b a
 neg:∀a b,0<c a b->c b a<0
 tr:∀a b d,c a b<0->c b d<0->c a d<0
 eqL:∀a b d,c a b=0->c a d=c b d
 eqR:∀a b d,c a b=0->c d a=c d b
def orC {α:Type} (c1 c2:α->α->Int) (a b:α):Int:=if c1 a b≠0 then c1 a b else c2 a b
theorem Xa0 {α:Type}{c1 c2:α->α->Int} (h1:PCmp c1) (h2:PCmp c2):PCmp (orC c1 c2):=by
 have z:∀a b,orC c1 c2 a b=0->c1 a b=0/\c2 a b=0:=fun a b h=>by
  unfold orC at h;by_cases q:c1 a b=0
  ·rw[NI (by simp[q])] at h;exact⟨q,h⟩
  ·rw[PI q] at h;exact absurd h q
 have sw:∀a b,c1 a b=0->c1 b a=0:=fun a b h=>by rw[<-h1.eqL a b a h];exact h1.refl a
 refine⟨fun a=> ?_,fun a b h=> ?_,fun a b h=> ?_,fun a b d h k=> ?_,fun a b d h=> ?_,fun a b d h=> ?_⟩
 ·unfold orC;rw[NI (by simp[h1.refl]),h2.refl]
 ·unfold orC at h |-;by_cases q:c1 a b=0
  ·rw[NI (by simp[q])] at h;rw[NI (by simp[sw a b q])];exact h2.pos _ _ h
  ·rw[PI q] at h;have:=h1.pos _ _ h;rw[PI (by omega)];exact this
 ·unfold orC at h |-;by_cases q:c1 a b=0
  ·rw[NI (by simp[q])] at h;rw[NI (by simp[sw a b q])];exact h2.neg _ _ h
  ·rw[PI q] at h;have:=h1.neg _ _ h;rw[PI (by omega)];exact this
 ·unfold orC at h k |-;by_cases q:c1 a b=0
  ·rw[NI (by simp[q])] at h;by_cases r:c1 b d=0
   ·rw[NI (by simp[r])] at k;have e:c1 a d=0:=by rw[h1.eqL a b d q];exact r
    rw[NI (by simp[e])];exact h2.tr _ _ _ h k
   ·rw[PI r] at k;have e:c1 a d=c1 b d:=h1.eqL a b d q;rw[PI (by omega)];omega
  ·rw[PI q] at h;by_cases r:c1 b d=0
   ·have e:c1 a b=c1 a d:=h1.eqR b d a r;rw[PI (by omega)];omega
   ·rw[PI r] at k;have e:=h1.tr _ _ _ h k;rw[PI (by omega)];exact e
 ·obtain⟨e1,e2⟩:=z a b h;unfold orC;rw[h1.eqL a b d e1,h2.eqL a b d e2]
 ·obtain⟨e1,e2⟩:=z a b h;unfold orC;rw[h1.eqR a b d e1,h2.eqR a b d e2]
def cI3 (x y:Int):Int:=if x<y then-1 else if y<x then 1 else 0
theorem Xns:PCmp cI3:=by
 refine⟨fun a=> ?_,fun a b h=> ?_,fun a b h=> ?_,fun a b d h k=> ?_,fun a b d h=> ?_,fun a b d h=> ?_⟩
 all_goals unfold cI3 at*
 all_goals (repeat' split at*)<;>omega
theorem X5D:Ur s t=0↔s=t:=by
 unfold Ur;constructor
 ·intro h;by_cases q:Op.bytesLess s t=true
  ·rw[PI q] at h;simp at h
  ·rw[NI q] at h;by_cases r:s=t
   ·exact r
   ·rw[NI r] at h;simp at h
 ·rintro rfl;rw[NI (by simp[X9U]),PI rfl]
theorem X8a:Ur s t<0↔Op.bytesLess s t=true:=by
 unfold Ur;constructor
 ·intro h;by_cases q:Op.bytesLess s t=true
  ·exact q
  ·rw[NI q] at h;split at h<;>omega
 ·intro h;rw[PI h];omega
theorem Xk4:0<Ur s t↔Op.bytesLess t s=true:=by
 constructor
 ·intro h;have h1:¬Op.bytesLess s t=true:=fun q=>by have:=X8a.2 q;omega
  have h2:s≠t:=fun q=>by have:=X5D.2 q;omega
  by_cases q:Op.bytesLess t s=true
  ·exact q
  ·exact absurd (Xco s t (by simpa using h1) (by simpa using q)) h2
 ·intro h;have h1:=Xdz _ _ h;unfold Ur;rw[NI (by simp[h1]),NI (fun e=>by rw[e,X9U] at h;cases h)];omega
theorem Xcp:PCmp Ur:=
 ⟨fun a=>X5D.2 rfl,fun a b h=>Xk4.2 (X8a.1 h),fun a b h=>X8a.2 (Xk4.1 h),fun a b d h k=>X8a.2 (Xah _ _ _ (X8a.1 h) (X8a.1 k)),
  fun a b d h=>by rw[X5D.1 h],fun a b d h=>by rw[X5D.1 h]⟩
theorem PCmp.oo {α β:Type}{c:β->β->Int} (h:PCmp c) (f:α->β):PCmp (fun a b=>c (f a) (f b)):=
 ⟨fun a=>h.refl _,fun a b=>h.pos _ _,fun a b=>h.neg _ _,fun a b d=>h.tr _ _ _,fun a b d=>h.eqL _ _ _,fun a b d=>h.eqR _ _ _⟩
def XfU:Rul->Rul->Int:=orC (fun a b=>cI3 a.kind b.kind) (orC (fun a b=>Ur a.name b.name) (orC (fun a b=>Ur a.key b.key) (orC (fun a b=>cI3 a.n b.n) (orC (fun a b=>Ur a.src b.src) (fun a b=>Ur a.dst b.dst)))))
theorem XnD (a b:Rul):UM a b=XfU a b:=by
 unfold UM XfU orC cI3;by_cases c1:a.kind<b.kind
 ·simp[c1]
 by_cases c2:b.kind<a.kind
 ·simp[c1,c2]
 by_cases c3:a.n<b.n
 ·simp[c1,c2,c3]
 by_cases c4:b.n<a.n
 ·simp[c1,c2,c3,c4]
 simp[c1,c2,c3,c4]
theorem X9a:PCmp UM:=by
 have h:UM=XfU:=by funext a b;exact XnD a b
 rw[h];exact Xa0 (Xns.oo Rul.kind) (Xa0 (Xcp.oo Rul.name) (Xa0 (Xcp.oo Rul.key) (Xa0 (Xns.oo Rul.n) (Xa0 (Xcp.oo Rul.src) (Xcp.oo Rul.dst)))))
theorem Xjb {x y:Int} (h:cI3 x y=0):x=y:=by
 unfold cI3 at h
 (repeat' split at h)<;>omega
theorem Xb2 {a b:Rul} (h:UM a b=0):a=b:=by
 rw[XnD] at h;have z:∀{c1 c2:Rul->Rul->Int},orC c1 c2 a b=0->c1 a b=0/\c2 a b=0:=fun{c1 c2} h=>by
  unfold orC at h;by_cases q:c1 a b=0
  ·rw[NI (by simp[q])] at h;exact⟨q,h⟩
  ·rw[PI q] at h;exact absurd h q
 obtain⟨h1,h⟩:=z h;obtain⟨h2,h⟩:=z h;obtain⟨h3,h⟩:=z h;obtain⟨h4,h⟩:=z h;obtain⟨h5,h6⟩:=z h;replace h1:=Xjb h1;replace h2:=X5D.1 h2;replace h3:=X5D.1 h3;replace h4:=Xjb h4;replace h5:=X5D.1 h5;replace h6:=X5D.1 h6;obtain⟨k,n,name,key,src,dst⟩:=a;obtain⟨k',n',name',key',src',dst'⟩:=b;simp only at h1 h2 h3 h4 h5 h6;subst h1 h2 h3 h4 h5 h6;rfl
def ltR (a b:Rul):Bool:=decide (UM a b<0)
abbrev YB (r:Rul):Rul:=r
theorem X61:KOrd ltR:=by
 refine⟨fun a=> ?_,fun a b c h k=> ?_,fun a b h k=> ?_⟩
 ·unfold ltR;rw[X9a.refl];rfl
 ·unfold ltR at*;simp only[decide_eq_true_eq] at*;exact X9a.tr _ _ _ h k
 ·unfold ltR at*;simp only[decide_eq_false_iff_not] at*;refine Xb2 ?_;by_cases q:0<UM a b
  ·have:=X9a.neg _ _ q;omega
  ·omega
theorem XmK:∀(l:List Rul) (p:Option Rul),X2M p l=true↔(∀r∈l,Uk r=0)/\YW ltR YB l/\∀q,p=some q->∀r∈l,ltR q r=true
 |[],p=>by simp[X2M,YW]
 |x::l,p=>by
  rw[X2M,Bool.and_eq_true,decide_eq_true_eq,XmK l (some x)];constructor
  ·rintro⟨⟨h1,h2⟩,h3,h4,h5⟩;have h6:=h5 x rfl;refine⟨fun r hr=> ?_,?_,fun q hq r hr=> ?_⟩
   ·rcases mem_cons.1 hr with rfl|hr
    ·exact h1
    ·exact h3 r hr
   ·exact pairwise_cons.2 ⟨fun r hr=>h6 r hr,h4⟩
   ·have hx:ltR q x=true:=by unfold ltR;simpa using h2 q hq
    rcases mem_cons.1 hr with rfl|hr
    ·exact hx
    ·exact X61.tr _ _ _ hx (h6 r hr)
  ·rintro⟨h1,h2,h3⟩;obtain⟨h4,h5⟩:=pairwise_cons.1 h2;refine⟨⟨h1 x (mem_cons_self ..),fun q hq=> ?_⟩,fun r hr=>h1 r (mem_cons_of_mem _ hr),h5,fun q hq r hr=> ?_⟩
   ·have:=h3 q hq x (mem_cons_self ..);unfold ltR at this;simpa using this
   ·obtain rfl:x=q:=by simpa using hq
    exact h4 r hr
structure SchV (l:List Rul):Prop where
 ok:∀r∈l,Uk r=0
 st:YW ltR YB l
 len:l.length<=40
theorem X6u {l:List Rul}:X0W l=true↔SchV l:=by
 unfold X0W;rw[Bool.and_eq_true,XmK,decide_eq_true_eq];constructor
 ·rintro⟨⟨h1,h2,_⟩,h3⟩;exact⟨h1,h2,h3⟩
 ·intro h;exact⟨⟨h.ok,h.st,fun q hq=>by cases hq⟩,h.len⟩
instance decRul:DecidableEq Rul:=fun a b=>if h:UM a b=0 then .isTrue (Xb2 h) else .isFalse (fun e=>h (by rw[e];exact X9a.refl _))
structure Wr where
 at_:Int
 b:List UInt8
structure ak where
 aa:List (List UInt8)
 pending:List Wr
 on:Bool
abbrev XV (l:List UInt8):List D:=[Xg l]
abbrev cWr (w:Wr):List D:=[.v (.int .i64 w.at_),Xg w.b]
abbrev XL (l:List (List UInt8)):D:= .sl 1 (l.map XV)
abbrev XS (l:List Wr):D:= .sl 2 (l.map cWr)
abbrev XU (d:ak):AVal:= .agg [.d (XL d.aa),.d (XS d.pending),ab d.on]
def Ux (d:ak):Bool:=
 decide (1<=d.aa.length/\d.aa.length<=4096/\(d.on=true\/d.pending.length=0)/\(∀s∈d.aa,s.length=64)/\
  ∀w∈d.pending,0<=w.at_/\w.at_<d.aa.length/\w.b.length=64)
theorem XaP {α:Type}{l:List α}{p:α->Prop} (h:∀(i:Nat) (x:α),l[i]? =some x->p x):∀x∈l,p x:=by
 intro x hx;obtain⟨i,hi⟩:=getElem?_of_mem hx;exact h i x hi
open Go Go.Proofs Tryz
set_option maxRecDepth 100000
variable{ag:List Wr}
theorem Xml {w:Wr} (hw:ag[k]? =some w) (hb:¬(0<=w.at_/\w.at_<secs.length/\w.b.length=64)):Ux ⟨secs,ag,on⟩=false:=by
 simp only[Ux,decide_eq_false_iff_not];exact fun hf=>hb (hf.2.2.2.2 w (mem_of_getElem? hw))
theorem Xnl (hw:secs[k]? =some s) (hb:s.length≠64):Ux ⟨secs,ag,on⟩=false:=by
 simp only[Ux,decide_eq_false_iff_not];exact fun hf=>hb (hf.2.2.2.1 s (mem_of_getElem? hw))
theorem Xa5 (d:ak):Con prog 88 [] [XU d] [] (ab (Ux d)):=by
 obtain⟨secs,ag,on⟩:=d;refine ZC1 func88 ntmps88 fun E=> ?_;by_cases hok:1<=secs.length/\secs.length<=4096/\(on=true\/ag.length=0)
 case neg=>
  have hv:Ux ⟨secs,ag,on⟩=false:=by simp only[Ux,decide_eq_false_iff_not];exact fun h=>hok ⟨h.1,h.2.1,h.2.2.1⟩
  by_cases h1:secs.length<1
  ·refine UU ?_;refine Qbc ?_;exact Qcc
  by_cases h2:4096<secs.length
  ·refine UU ?_;refine Qbc ?_;exact Qcc
  have h3:0<ag.length:=by
   rcases Nat.eq_zero_or_pos ag.length with h|h
   ·exact(hok ⟨by omega,by omega,.inr h⟩).elim
   ·exact h
  cases on with
  |true=>exact(hok ⟨by omega,by omega,.inl rfl⟩).elim
  |false=>
   exact Qdc
 obtain⟨k1,k2,k3⟩:=hok;refine XgE 0 1 rfl rfl (fun cN=> ?_);simp only[LM] at cN;refine X8n ?_;refine W3_ ?_;refine JD ?_;refine Xk0 ⟨64,[(1,.ptr 100 0)],[(100,.box [.d (XL secs),.d (XS ag),ab on])]⟩ ?_ ?_
 ·cases on with
  |true=>
   exact Qec
  |false=>
   have k4:ag.length=0:=by simpa using k3
   exact Qec
 refine W9_ ?_
 refine Xn (fun k:Nat=>k<=secs.length/\∀(i:Nat) s,i<k->secs[i]? =some s->s.length=64) (fun k=>⟨64,[(1,.ptr 100 0),(29,.d (XL secs)),(30,ai (secs.map XV).length),(31,ai k)],[(100,.box [.d (XL secs),.d (XS ag),ab on])]⟩) (fun k=>secs.length-k) 0 ⟨by omega,by omega⟩
  (Xb rfl ⟨JL,JL,JL,JL,TV⟩ ⟨rfl,TV⟩) ?_
 rintro k ⟨hk,hp⟩;refine W5_ ?_;refine X20 rfl (fun h=> ?_) (fun h=> ?_)
 ·have h:=of_decide_eq_true h;simp only[LM] at h;obtain⟨s,hs⟩:=Xu (l:=secs) (k:=k) (by omega);by_cases h3:s.length≠64
  ·have hv:=Xnl (ag:=ag) (on:=on) hs h3;refine U8 ?_;exact Qcc
  ·have h3:s.length=64:=by simpa using h3
   refine Ye ?_;refine⟨k+1,⟨by omega,fun i t hi ht=> ?_⟩,by omega,Xb rfl ⟨JL,JL,JL,JL,TV⟩ ⟨rfl,TV⟩⟩;by_cases hik:i=k
   ·subst hik;rw[hs] at ht;cases ht;omega
   ·exact hp i t (by omega) ht
 have h:=of_decide_eq_false h;simp only[LM] at h;obtain rfl:k=secs.length:=by omega
 have gE:∀s∈secs,s.length=64:=XaP fun i x hx=>hp i x (GS.1 hx).1 hx;refine XA ?_
 refine Xn (fun k:Nat=>k<=ag.length/\∀(i:Nat) w,i<k->ag[i]? =some w->0<=w.at_/\w.at_<secs.length/\w.b.length=64) (fun k=>⟨64,[(1,.ptr 100 0),(40,.d (XS ag)),(41,ai (ag.map cWr).length),(42,ai k)],[(100,.box [.d (XL secs),.d (XS ag),ab on])]⟩) (fun k=>ag.length-k) 0 ⟨by omega,by omega⟩
  (Xb rfl ⟨JL,JL,JL,JL,TV⟩ ⟨rfl,TV⟩) ?_
 rintro k ⟨hk,hq⟩;refine W5_ ?_;refine X20 rfl (fun h=> ?_) (fun h=> ?_)
 ·have h:=of_decide_eq_true h;simp only[LM] at h;obtain⟨w,hw⟩:=Xu (l:=ag) (k:=k) (by omega);by_cases hb:0<=w.at_/\w.at_<secs.length/\w.b.length=64
  ·obtain⟨b1,b2,b3⟩:=hb;refine X07 ?_;refine⟨k+1,⟨by omega,fun i t hi ht=> ?_⟩,by omega,Xb rfl ⟨JL,JL,JL,JL,TV⟩ ⟨rfl,TV⟩⟩;by_cases hik:i=k
   ·subst hik;rw[hw] at ht;cases ht;exact⟨b1,b2,b3⟩
   ·exact hq i t (by omega) ht
  ·have hv:=Xml (secs:=secs) (on:=on) hw hb;by_cases c1:w.at_<0
   ·exact Qdc
   by_cases c2:(secs.length:Int)<=w.at_
   ·exact Qdc
   have c3:w.b.length≠64:=fun h=>hb ⟨by omega,by omega,h⟩;exact Qdc
 have h:=of_decide_eq_false h;simp only[LM] at h;obtain rfl:k=ag.length:=by omega
 have oP:∀w∈ag,0<=w.at_/\w.at_<secs.length/\w.b.length=64:=XaP fun i x hx=>hq i x (GS.1 hx).1 hx;have hv:Ux ⟨secs,ag,on⟩=true:=by
  simp only[Ux,decide_eq_true_eq];exact⟨k1,k2,k3,gE,oP⟩
 refine W5_ ?_;exact Qcc
def V8 (d:ak):Int:=if Ux d then (if d.on then 0 else 22) else 1
theorem X3E (d:ak):Con prog 131 [] [XU d] [] (ai (V8 d)):=by
 obtain⟨secs,ag,on⟩:=d;refine ZC1 func131 ntmps131 fun E=> ?_;cases hv:Ux ⟨secs,ag,on⟩ with
 |true=>
  cases on with
  |true=>
   refine XA ?_;refine Z3 (af:=Xa5 ⟨secs,ag,true⟩) ?_;refine Yv ?_;exact Qfc
  |false=>
   refine XA ?_;refine Z3 (af:=Xa5 ⟨secs,ag,false⟩) ?_;refine Yg ?_;exact Qfc
 |false=>
  refine XA ?_;refine Z3 (af:=Xa5 ⟨secs,ag,on⟩) ?_;refine W8_ ?_;exact Qfc
theorem Xjc (xs:List (List D)) (hl:xs.length<=140737488355328):Con prog 132 [] [.d (.sl 1 xs)] [(110,.row 1 xs)] (.own 110 xs.length):=by
 have h:Con prog 132 [] [.d (.sl 1 xs)] [(100,.row 1 xs)] (.own 100 xs.length):=by
  refine ZC1 func132 ntmps132 fun E=> ?_;refine XA ?_;refine X6m rfl (fun h=> ?_) (fun _=> ?_)
  ·subst h;refine W4_ ?_;refine X2 ?_;exact⟨_,Uu 2 100 1 rfl rfl rfl,⟨rfl,TV⟩,Xj ⟨rfl,TV⟩⟩
  ·refine W8_ ?_;refine X2 ?_;refine⟨_,St.le_refl _,⟨?_,TV⟩,Xj ⟨rfl,TV⟩⟩;simp only[X5h];simp[St.get,St.set,St.own,Xp]
 exact YK 100 110 h
theorem Xm4 (xs:List (List D)) (hl:xs.length<=140737488355328):Con prog 132 [] [.d (.sl 1 xs)] [] (.d (.sl 1 xs)):=by
 refine ZC1 func132 ntmps132 fun E=> ?_;refine XA ?_;refine X6m rfl (fun h=> ?_) (fun _=> ?_)
 ·subst h;refine W4_ ?_;refine X2 ?_;exact⟨_,Xe 2 (AVal.le_nil 1),⟨rfl,TV⟩,X4 _⟩
 ·refine W8_ ?_;refine X2 ?_;exact⟨_,St.le_trans (XP 100 rfl) (Y7 2 100 rfl rfl (by simp)),⟨rfl,TV⟩,X4 _⟩
theorem Xc3 {α:Type}{l:List α}{x:α} (h:l[k]? =some x):l.take (k+1)=l.take k++[x]:=by
 rw[take_add_one,h];rfl
abbrev Vp (d:ak):Prop:=d.aa.length<=4096/\d.pending.length<=4096/\(∀s∈d.aa,s.length<=4096)/\∀w∈d.pending,w.b.length<=4096
theorem Xlj (d:ak) (hl:Vp d):Con prog 133 [] [XU d] [(120,.row 2 (d.pending.map cWr)),(121,.mat 1 (d.aa.map fun s=>s.map X5))] (.agg [.own 120 d.pending.length,.own 121 d.aa.length,ab d.on]):=by
 obtain⟨secs,ag,on⟩:=d;obtain⟨b7,bM,jH,l9⟩:=hl;simp only at b7 bM jH l9;refine ZC1 func133 ntmps133 fun E=> ?_;refine Yw ?_;refine X8 (X2y 102 1 121 1 (cs:=[aq,aq,ab on]) rfl rfl rfl rfl rfl) ?_;refine X8 (XvX 121 1 rfl) ?_;refine X8 (X2y 102 0 120 2 (cs:=[aq,.own 121 0,ab on]) rfl rfl rfl rfl rfl) ?_
 refine Xn (fun k:Nat=>k<=secs.length) (fun k=>⟨48,[(1,.ptr 100 0),(2,.ptr 101 0),(3,.ptr 102 0),(12,.d (XL secs)),(13,ai (secs.map XV).length),(14,ai k)],[(100,.box [.d (XL secs),.d (XS ag),ab on]),(101,.box [aq,aq,ab false]),(102,.box [.own 120 0,.own 121 k,ab on]),(120,.row 2 []),(121,.mat 1 ((secs.take k).map fun s=>s.map X5))]⟩) (fun k=>secs.length-k) 0 (by omega)
  (Xb rfl ⟨JL,JL,JL,JL,JL,JL,TV⟩ ⟨rfl,rfl,rfl,rfl,rfl,TV⟩) ?_
 intro k hk;refine W5_ ?_;refine X20 rfl (fun h=> ?_) (fun h=> ?_)
 ·have h:=of_decide_eq_true h;simp only[LM] at h;obtain⟨s,hs⟩:=Xu (l:=secs) (k:=k) (by omega);have aK:s.length<=4096:=jH s (mem_of_getElem? hs);refine XQ ?_;(refine Z3 (af:=Xjc (s.map X5) (by simp;omega)) ?_);refine W9_ ?_;refine⟨k+1,by omega,by omega,Xb rfl ⟨JL,JL,JL,JL,JL,JL,TV⟩ ⟨rfl,rfl,?_,rfl,?_,TV⟩⟩
  ·refine Eq.trans (b:=AObj.box [.own 120 0,.own 121 _,ab on]) rfl ?_;congr 3;simp;omega
  ·refine Eq.trans (b:=AObj.mat 1 (_++[_])) rfl ?_;rw[Xc3 hs];simp
 have h:=of_decide_eq_false h;simp only[LM] at h;obtain rfl:k=secs.length:=by omega
 refine XA ?_
 refine Xn (fun k:Nat=>k<=ag.length) (fun k=>⟨48,[(1,.ptr 100 0),(2,.ptr 101 0),(3,.ptr 102 0),(27,.d (XS ag)),(28,ai (ag.map cWr).length),(29,ai k)],[(100,.box [.d (XL secs),.d (XS ag),ab on]),(101,.box [aq,aq,ab false]),(102,.box [.own 120 k,.own 121 secs.length,ab on]),(120,.row 2 ((ag.take k).map cWr)),(121,.mat 1 (secs.map fun s=>s.map X5))]⟩) (fun k=>ag.length-k) 0 (by omega)
  (Xb rfl ⟨JL,JL,JL,JL,JL,JL,TV⟩ ⟨rfl,rfl,rfl,rfl,(by refine Eq.trans (b:=AObj.mat 1 _) rfl ?_;simp),TV⟩) ?_
 intro k hk;refine W5_ ?_;refine X20 rfl (fun h=> ?_) (fun h=> ?_)
 ·have h:=of_decide_eq_true h;simp only[LM] at h;obtain⟨w,hw⟩:=Xu (l:=ag) (k:=k) (by omega);have sZ:w.b.length<=4096:=l9 w (mem_of_getElem? hw);refine Yf ?_;(refine Z3 (af:=Xm4 (w.b.map X5) (by simp;omega)) ?_);refine XK ?_;refine⟨k+1,by omega,by omega,Xb rfl ⟨JL,JL,JL,JL,JL,JL,TV⟩ ⟨rfl,rfl,?_,?_,rfl,TV⟩⟩
  ·refine Eq.trans (b:=AObj.box [.own 120 _,.own 121 secs.length,ab on]) rfl ?_;congr 3;simp;omega
  ·refine Eq.trans (b:=AObj.row 2 (_++[_])) rfl ?_;rw[Xc3 hw];simp
 have h:=of_decide_eq_false h;simp only[LM] at h;obtain rfl:k=ag.length:=by omega
 refine W6_ ?_;refine X2 ⟨_,St.le_refl _,⟨⟨101,0,_,rfl,rfl,.inr ⟨3,_,rfl,rfl,rfl,rfl⟩⟩,TV⟩,Xj ⟨?_,rfl,TV⟩⟩;refine Eq.trans (b:=AObj.row 2 _) rfl ?_;simp
end Go.Fw

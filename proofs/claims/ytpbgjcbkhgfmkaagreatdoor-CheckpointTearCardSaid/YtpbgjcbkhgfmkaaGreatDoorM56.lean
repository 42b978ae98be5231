/- Logging and saving keep a state on its disk; plain Lean. -/
import Derived.KernelRfl
import Derived.Test.YtpbgjcbkhgfmkaaGreatDoorM46
set_option maxHeartbeats 256000000
namespace Go.Fw
open Go List
set_option linter.unusedVariables false
set_option linter.unusedSimpArgs false
variable{d:ak}{l:List Rcd}{s s0:Sta}{n:Int}{x:ak×Sta}
theorem Good.save (h:Good d s0 l s) (he:(U7 d s).2.2=0):Good (U7 d s).1 (U7 d s).2.1 [] (U7 d s).2.1/\(U7 d s).2.1=⟨s.g,s.rules,s.ts,s.ep+1,0⟩:=by
 obtain⟨hv,cJ,iT,lf⟩:=h.kept;obtain⟨v,hr,v1,v2,v3,v4,v5,v6⟩:=Vk.1 hv;unfold U7 at he |-;by_cases c:VG d s≠0
 ·rw[PI c] at he;exact absurd he c
 rw[NI c] at he |-;have hne:s.ep≠1000000000000000:=fun q=>by
  unfold VG at c;rw[X60 h.log.ok h.lay,NI (by simp),PI (.inr q)] at c;simp at c
 unfold UR at he |-;by_cases c2:((Xt d*64:Nat))<(Xv s.g s.rules).length
 ·rw[PI c2] at he;simp at he
 rw[NI c2];have hk:=X2D s0.ep;have hs1:1-XJ (s.ep+1)=XJ s0.ep:=by rw[<-cJ];unfold XJ;omega
 have aV:SvOk d (Xv s.g s.rules) (XJ (s.ep+1)):=⟨h.log.ok,h.log.ag,h.lay,h.log.len,X2D _,by omega⟩
 refine⟨Xk9 aV (Vk.2 ⟨v,hr,v1,v2,by simp only;omega,by simp only;omega,by simp,by simp⟩) ?_,rfl⟩;rw[hs1,h.bX];obtain⟨v',hr',w1,w2,w3,w4,_⟩:=Vk.1 h.v0;have hf:=h.fit;have hlen:=h.log.len;have bD:Xt d<=2000:=by unfold Xt;omega
 rw[Xbd ⟨by omega,by omega⟩ ⟨by omega,by omega⟩ ⟨by omega,by omega⟩ (X42 _)];intro _;simp only;omega
structure Stp where
 save:Bool
 l:List Rcd
def X4X (n:Int) (l:List Stp):Bool:=decide (16<=n/\n<=40/\l.length<=8)&&l.all fun p=>X1i p.l
def X2F (x:ak×Sta) (p:Stp):ak×Sta:=
 let r:=if p.save=true then U7 x.1 x.2 else Ys x.1 x.2 p.l
 if r.2.2=0 then (r.1,r.2.1) else x
def Un (n:Int) (l:List Stp):ak×Sta:=l.foldl X2F ((Ve n).1,(Ve n).2.1)
theorem XgV (hd:DOk d):∀(N F j:Nat),F+N<=d.aa.length->j<64*N->(U6 d F N)[j]? =((Yo d ((F+j/64:Nat):Int)).1)[j%64]?
 |0,F,j,_,h=>by omega
 |n+1,F,j,hn,h=>by
  have hl:=X0Y hd n F (by omega);rw[Xa6];by_cases q:j<64*n
  ·rw[getElem?_append_left (by omega)];exact XgV hd n F j (by omega) q
  ·rw[getElem?_append_right (by omega),hl,show j/64=n by omega,show j%64=j-64*n by omega]
theorem Xrd (hd:DOk d) (hp:d.pending=[]) (aL:16<=d.aa.length) {T:Nat} (hz:X3k (Y9 d (X9 d:Nat) (d.aa.length:Nat)) T) {i:Nat} (h1:X9 d*64+T<=i) (h2:i<d.aa.length*64):
  ∃b,d.aa[i/64]? =some b/\b.length=64/\b[i%64]? =some 0:=by
 obtain⟨l1,l2,l3⟩:=Vm aL;obtain⟨b,hb⟩:∃b,d.aa[i/64]? =some b:=⟨_,getElem?_eq_getElem (by omega)⟩
 have hv:=(X1U hd.v).2.2.1 b (mem_of_getElem? hb);refine⟨b,hb,hv,?_⟩;have hs:Y9 d (X9 d:Nat) (d.aa.length:Nat)=U6 d (X9 d) (d.aa.length-X9 d):=by
  unfold Y9;rw[Int.toNat_natCast,show(((d.aa.length:Nat):Int)-(X9 d:Nat)).toNat=d.aa.length-X9 d by omega]
 rw[hs] at hz;have hlen:=X0Y hd (d.aa.length-X9 d) (X9 d) (by omega);have ha:=XgV hd (d.aa.length-X9 d) (X9 d) (i-64*X9 d) (by omega) (by omega);rw[show X9 d+(i-64*X9 d)/64=i/64 by omega,show(i-64*X9 d)%64=i%64 by omega,X3A hd (by omega)] at ha;have fY:XI d (i/64)=b:=by
  unfold XI;rw[hp,hb];rfl
 rw[fY] at ha;rw[<-ha];unfold X3k at hz;have h3:((U6 d (X9 d) (d.aa.length-X9 d)).drop T)[i-64*X9 d-T]? =some 0:=by
  rw[hz,getElem?_replicate,PI (by omega)]
 rw[getElem?_drop,show T+(i-64*X9 d-T)=i-64*X9 d by omega] at h3;exact h3
theorem XiU {l:List Stp} (h:X4X n l=true):16<=n/\n<=40/\l.length<=8/\∀p∈l,X1i p.l=true:=by
 unfold X4X at h;rw[Bool.and_eq_true,decide_eq_true_eq,all_eq_true] at h;exact⟨h.1.1,h.1.2.1,h.1.2.2,h.2⟩
theorem Xxg (g:Good d s0 l s) (he:(U7 d s).2.2=0):(U7 d s).1.aa.length=d.aa.length:=by
 obtain⟨hv,_,_,_⟩:=g.kept;obtain⟨_,_,t0,t1,t2,t3,_⟩:=Vk.1 hv;have bF:=g.log.len;unfold U7 at he |-;by_cases c1:VG d s≠0
 ·rw[PI c1] at he;exact absurd he c1
 rw[NI c1] at he |-;unfold UR at he |-;by_cases c2:(Xt d*64:Nat)<(Xv s.g s.rules).length
 ·rw[PI c2] at he;simp at he
 rw[NI c2];have bD:Xt d<=500:=by unfold Xt;omega
 have aV:=X42 (Xv s.g s.rules);exact(Xau ⟨g.log.ok,g.log.ag,g.lay,g.log.len,X2D _,by omega⟩ (X6h fun x hx=>by
  simp only[mem_cons,mem_nil_iff,or_false] at hx;rcases hx with rfl|rfl|rfl|rfl
  ·omega
  ·omega
  ·omega
  ·exact aV)).2.2.1
theorem Xo9 {m:List Rcd} (g:Good d s0 l s) (he:(Ys d s m).2.2=0):(Ys d s m).1.aa.length=d.aa.length:=by
 obtain⟨k1,k2,k3,k4⟩:=g.logged he;have cJ:=g.kept.2.1;have hal:=g.log.app_len k3;unfold Ys at he |-;by_cases c1:Uo d≠0
 ·rw[PI c1] at he;exact absurd he c1
 rw[NI c1];by_cases c2:YN s=false
 ·rw[NI c1,PI c2] at he;simp at he
 rw[NI c2,NI (by simp[k2])];rw[cJ];simp only;rw[NI (by simp[k3])];exact hal
theorem Xiz (h1:16<=n) (h2:n<=2000):After n ((Ve n).1,(Ve n).2.1):=by
 obtain⟨h3,h4,h5⟩:=Xft h1 h2;exact⟨⟨_,_,h4,by simp⟩,h4.log.ag,by simp only;omega⟩
theorem Xmj {p:Stp} (h:After n x) (hp:X1i p.l=true):After n (X2F x p):=by
 obtain⟨s0,m,g,hm⟩:=h.g;unfold X2F;simp only;by_cases hs:p.save=true
 ·rw[PI hs];by_cases he:(U7 x.1 x.2).2.2=0
  ·rw[PI he];obtain⟨k1,k2⟩:=g.save he;exact⟨⟨_,_,k1,by simp⟩,k1.log.ag,by have:=Xxg g he;have:=h.len;simp only;omega⟩
  ·rw[NI he];exact h
 ·rw[NI hs];by_cases he:(Ys x.1 x.2 p.l).2.2=0
  ·rw[PI he];obtain⟨k1,k2,k3,k4⟩:=g.logged he;refine⟨⟨_,_,k1,fun r hr=> ?_⟩,k1.log.ag,by have:=Xo9 g he;have:=h.len;simp only;omega⟩;rcases mem_append.1 hr with h|h
   ·exact hm r h
   ·exact XgM hp r h
  ·rw[NI he];exact h
theorem Xt4 (h:After n x):VF x.1=(x.2,0):=by
 obtain⟨s0,m,g,hm⟩:=h.g;exact g.recov hm
open Go Go.Proofs Tryz
set_option maxRecDepth 100000
def X0F (p:Stp):List D:=[.v (.bool p.save),.sl 10 (p.l.map Yp)]
theorem Xgo (n:Int) (l:List Stp) (hl:l.length<=9223372036854775807) (hr:∀p∈l,p.l.length<=9223372036854775807):Con prog 24 [] [ai n,.d (.sl 2 (l.map X0F))] [] (ab (X4X n l)):=by
 refine ZC1 func24 ntmps24 fun E=> ?_;have hlm:(l.map X0F).length=l.length:=by simp
 unfold X4X;by_cases q1:n<16
 ·rw[DF (by omega),Bool.false_and];refine Yq ?_
  (show AWP prog E _ _ _;refine X2 ?_;exact(show Xa _ _ _ _ _ from⟨_,St.le_refl _,⟨rfl,TV⟩,X4 _⟩))
 by_cases q2:n>40
 ·rw[DF (by omega),Bool.false_and];refine Yq ?_
  (show AWP prog E _ _ _;refine X2 ?_;exact(show Xa _ _ _ _ _ from⟨_,St.le_refl _,⟨rfl,TV⟩,X4 _⟩))
 by_cases q:l.length<=8
 case neg=>
  rw[DF (by omega),Bool.false_and];have q':((l.map X0F).length:Int)>8:=by omega
  refine Yq ?_
  (show AWP prog E _ _ _;refine X2 ?_;exact(show Xa _ _ _ _ _ from⟨_,St.le_refl _,⟨rfl,TV⟩,X4 _⟩))
 rw[DT (by omega),Bool.true_and];have q':¬((l.map X0F).length:Int)>8:=by omega
 generalize hG:(l.all fun p=>X1i p.l)=G;refine U1 ?_
 refine Xn (fun i:Nat=>i<=l.length/\((l.drop i).all fun p=>X1i p.l)=G) (fun i=>⟨30,[(1,.d (.sl 2 (l.map X0F))),(5,ai i)],[]⟩) (fun i=>l.length-i) 0 ⟨Nat.zero_le _,hG⟩
  (ZL0) ?_
 rintro i ⟨hi,hg⟩;by_cases hil:i<l.length
 case neg=>
  obtain rfl:i=l.length:=by omega
  have hn:¬((l.length:Nat):Int)<(l.map X0F).length:=by omega
  rw[drop_length,all_nil] at hg;subst hg;refine XG ?_
  (show AWP prog E _ _ _;refine X2 ?_;exact(show Xa _ _ _ _ _ from⟨_,St.le_refl _,⟨rfl,TV⟩,X4 _⟩))
 have hn:(i:Int)<(l.map X0F).length:=by omega
 obtain⟨x,hx⟩:=Xu (l:=l) hil;have au:(l.map X0F)[i]? =some (X0F x):=XM hx;have hf:=Xbi x.l (hr x (mem_of_getElem? hx));rw[Xam hx] at hg;obtain⟨sv,rl⟩:=x;simp only[X0F] at au hf hg;clear hx;generalize X1i rl=b at*;cases b with
 |true=>
  rw[Bool.true_and] at hg;refine YT ?_;exact Qwc
 |false=>
  rw[Bool.false_and] at hg;subst hg;refine U1 ?_
  (show AWP prog E _ _ _;refine X2 ?_;exact(show Xa _ _ _ _ _ from⟨_,St.le_refl _,⟨rfl,TV⟩,X4 _⟩))
def X5b (d:ak) (s:Sta):AVal:= .agg [.d (XL d.aa),.d (XS d.pending),ab d.on,.d (.sl 3 (s.g.nodes.map Xm)),.d (.sl 5 (s.g.aj.map Xr)),ai s.g.nn,ai s.g.ne,.d (.sl 6 (s.rules.map Xh)),ai s.ts,ai s.ep,ai s.tail]
theorem Xt0 (d:ak) (s:Sta) (hd:DOk d) (hp:d.pending=[]) (aL:16<=d.aa.length) (hl:d.aa.length<=2000) (h0:0<=s.tail/\s.tail<=262144) (hz:X3k (Y9 d (X9 d:Nat) (d.aa.length:Nat)) s.tail.toNat):Con prog 55 [] [X5b d s] [] (ab true):=by
 refine ZC1 func55 ntmps55 fun E=> ?_;have aC:=X56 (d.aa.length:Nat);rw[X37 aL (by omega)] at aC;have aY:=fun i h1 h2=>Xrd hd hp aL hz (i:=i) h1 h2;obtain⟨l1,l2,l3⟩:=Vm aL;have hsz:∀b∈d.aa,b.length=64:=(X1U hd.v).2.2.1;have aM:(d.aa.map XV).length=d.aa.length:=LM ..;rw[<-aM] at aC;obtain⟨T,hT⟩:∃T:Nat,s.tail=T:=⟨s.tail.toNat,by omega⟩
 rw[hT,Int.toNat_natCast] at aY;have bN:T<=262144:=by omega
 clear hd hp hz h0;generalize Xt d=SN at*;generalize X9 d=LN at*;obtain⟨secs,ag,on⟩:=d;obtain⟨⟨ns,es,nn,ne⟩,rs,ts,ep,tail⟩:=s;simp only at hT l1 aM aL hl aY hsz;subst hT;simp only[X5b] at*;refine Yq ?_;refine ZBM LN 64 ?_;refine W3_ ?_;clear aC
 refine Xn (fun i:Nat=>LN*64<=i/\i<=secs.length*64) (fun i=>⟨58,[(1,.ptr 100 0),(4,ai (LN:Nat)),(6,ai i)],[(100,.box [.d (XL secs),.d (XS ag),ab on,.d (.sl 3 (ns.map Xm)),.d (.sl 5 (es.map Xr)),ai nn,ai ne,.d (.sl 6 (rs.map Xh)),ai ts,ai ep,ai (T:Nat)])]⟩) (fun i=>secs.length*64-i) (LN*64) ⟨Nat.le_refl _,by omega⟩
  (ZL0) ?_
 rintro i ⟨h1,h2⟩;by_cases hil:i<secs.length*64
 case neg=>
  have hn:¬(i:Int)<(((secs.map XV).length*64:Nat):Int):=by omega
  refine W8_ ?_;refine ZBM ((secs.map XV).length) 64 ?_;refine W8_ ?_
  (show AWP prog E _ _ _;refine X2 ?_;exact(show Xa _ _ _ _ _ from⟨_,St.le_refl _,⟨rfl,TV⟩,X4 _⟩))
 have hn:(i:Int)<(((secs.map XV).length*64:Nat):Int):=by omega
 obtain⟨b,hb⟩:∃b,secs[i/64]? =some b:=⟨_,getElem?_eq_getElem (by omega)⟩
 have hbc:(secs.map XV)[i/64]? =some (XV b):=XM hb;have bu:=hsz b (mem_of_getElem? hb);have ie:(b.map X5).length=b.length:=LM ..;simp only[XV] at hbc;by_cases hT:LN*64+T<=i
 case neg=>
  have tH:¬(i:Int)≥((LN*64+T:Nat):Int):=by omega
  clear aY;refine W8_ ?_;refine ZBM ((secs.map XV).length) 64 ?_;refine XR ?_;refine ZBq i 64 ?_;refine W8_ ?_;refine ZBM LN 64 ?_;refine W3_ ?_;refine ZBA (LN*64) T ?_;refine W8_ ?_;refine Qm ?_;refine Qg ?_;refine XA ?_;exact⟨i+1,⟨by omega,by omega⟩,by omega,ZL0⟩
 obtain⟨b',g1,g2,g3⟩:=aY i hT hil;rw[hb] at g1;cases g1;have kW:(b.map X5)[i%64]? =some (X5 0):=XM g3;have tH:(i:Int)≥((LN*64+T:Nat):Int):=by omega
 have hm':¬((i%64:Nat):Int)≥((b.map X5).length:Nat):=by omega
 simp only[X5] at kW;clear aY;refine W8_ ?_;refine ZBM ((secs.map XV).length) 64 ?_;refine XR ?_;refine ZBq i 64 ?_;refine W8_ ?_;refine ZBM LN 64 ?_;refine W3_ ?_;refine ZBA (LN*64) T ?_;refine W3_ ?_;refine Z2 (op:= .rem) (r':=ni (i%64)) (u:=ni i) (v:=ni 64) ?_ (hr:=by exact Vh (by omega));refine W6_ ?_;refine Z2 (op:= .rem) (r':=ni (i%64)) (u:=ni i) (v:=ni 64) ?_ (hr:=by exact Vh (by omega));refine XQ ?_;exact⟨i+1,⟨by omega,by omega⟩,by omega,ZL0⟩
structure AftC (n:Int) (x:ak×Sta):Prop where
 hold:StaHold x.2
 few:VB x.1
 short:x.1.aa.length<=2000/\x.1.pending.length<=500
 zero:Con prog 55 [] [X5b x.1 x.2] [] (ab true)
 rcv:Con prog 28 [] [XU x.1] [] (.tup [Xy x.2,ai 0])
 same:Con prog 20 [] [Xy x.2,Xy x.2] [] (ab true)
 ag:(x.1.pending.map cWr).length=0
theorem Xfh (h:After n x):AftC n x:=by
 obtain⟨s0,m,g,hm⟩:=h.g;obtain⟨k1,k2,k3,k4⟩:=g.kept;have hr:=Xt4 h;have hh:=X9C k1;have hf:=g.log.few;have hrc:=X6F x.1 hf;rw[hr] at hrc;have hz:X3k (Y9 x.1 (X9 x.1:Nat) (x.1.aa.length:Nat)) x.2.tail.toNat:=by
  have h1:=g.log.str;have h2:=g.log.tl;have h3:=g.log.room;unfold X3k;rw[h1,h2,Int.toNat_natCast,drop_left' rfl,LA,length_replicate];congr 1;omega
 exact⟨hh,hf,⟨hf.1,by rw[h.ag];simp⟩,Xt0 x.1 x.2 g.log.ok h.ag g.lay g.log.len ⟨k3,k4⟩ hz,hrc,X46 x.2 hh,by rw[h.ag];rfl⟩
theorem Xgu (n:Int) (l:List Stp) (hb:X4X n l=true) (hr:∀p∈l,∀r∈p.l,X0z r):Con prog 25 [] [ai n,.d (.sl 2 (l.map X0F))] [] (.tup [X5b (Un n l).1 (Un n l).2,ab true]):=by
 refine ZCt func25 ntmps25 fun E=> ?_;obtain⟨b1,b2,b3,b4⟩:=XiU hb;have hF:=Xej n (by omega);have bP:=Xiz (n:=n) b1 (by omega);have rD:=(Xft (n:=n) b1 (by omega)).1;rw[rD] at hF;have hlm:(l.map X0F).length=l.length:=by simp
 have hrun:Un n l=l.foldl X2F ((Ve n).1,(Ve n).2.1):=rfl;generalize Un n l=X at*;generalize (Ve n).1=D0 at*;generalize (Ve n).2.1=S0 at*;unfold X5b;refine X17 ?_;clear hF
 refine Xn (ι:=Nat×ak×Sta) (fun q=>q.1<=l.length/\X=(l.drop q.1).foldl X2F q.2/\After n q.2) (fun q=>⟨98,[(1,.d (.sl 2 (l.map X0F))),(4,.ptr 100 0),(9,.ptr 103 0),(10,ab true),(11,ai q.1)],[(100,.box [aq,aq,ab false,aq,aq,ai 0,ai 0,aq,ai 0,ai 0,ai 0]),(103,.box [.d (XL q.2.1.aa),.d (XS q.2.1.pending),ab q.2.1.on,.d (.sl 3 (q.2.2.g.nodes.map Xm)),.d (.sl 5 (q.2.2.g.aj.map Xr)),ai q.2.2.g.nn,ai q.2.2.g.ne,.d (.sl 6 (q.2.2.rules.map Xh)),ai q.2.2.ts,ai q.2.2.ep,ai q.2.2.tail])]⟩) (fun q=>l.length-q.1) (0,D0,S0) ⟨Nat.zero_le _,by simpa using hrun,bP⟩
  (ZL0) ?_
 clear hrun bP rD hb;rintro⟨i,x⟩ ⟨hi,hg,hA⟩;simp only at hi hg hA;by_cases hil:i<l.length
 case neg=>
  have hn:¬(i:Int)<(l.map X0F).length:=by omega
  rw[drop_of_length_le (by omega),foldl_nil] at hg;subst hg;refine U8 ?_;exact X2 ⟨_,St.le_refl _,⟨⟨100,0,_,rfl,rfl,.inr ⟨11,_,rfl,rfl,rfl,rfl⟩⟩,rfl,TV⟩,X4 _⟩
 have hn:(i:Int)<(l.map X0F).length:=by omega
 obtain⟨p,hp⟩:=Xu (l:=l) hil;have aR:(l.map X0F)[i]? =some (X0F p):=XM hp;have iC:=mem_of_getElem? hp;have mw:=b4 p iC;obtain⟨hrF,hrl⟩:=XfT mw (hr p iC);have cW:l.drop i=p::l.drop (i+1):=by
  obtain⟨h1,h2⟩:=GS.1 hp;rw[drop_eq_getElem_cons h1,h2]
 rw[cW,foldl_cons] at hg;have hN:=Xmj hA mw;have C:=Xfh hA;have CN:=Xfh hN;have c1:=X7F x.1 x.2 p.l C.hold C.few hrl hrF;have c2:=Xlq x.1 x.2 C.hold C.short;have c3:=CN.rcv;have c4:=CN.same;have c5:=CN.zero;have c6:=CN.ag;clear CN C cW hrF hrl mw iC hr b4 hA;unfold X5b at c5;obtain⟨sv,rl⟩:=p;simp only[X0F] at aR c1;cases sv with
 |true=>
  by_cases he:(U7 x.1 x.2).2.2=0
  ·have hx:X2F x ⟨true,rl⟩=((U7 x.1 x.2).1,(U7 x.1 x.2).2.1):=by
    unfold X2F;simp only[if_true];rw[PI he]
   rw[hx] at c3 c4 c5 c6 hN hg;rw[he] at c2;generalize Ys x.1 x.2 rl=A at*;generalize (U7 x.1 x.2).1=Y at*;generalize (U7 x.1 x.2).2.1=Z at*;clear hx he;simp only at c3 c4 c5 c6;have c7:((Y.pending.map cWr).length:Int)=0:=by omega
   refine QCa ?_;refine W3_ ?_;refine Qle ?_;exact⟨(i+1,Y,Z),⟨by simp only;omega,hg,hN⟩,by simp only;omega,ZL0⟩
  ·have hx:X2F x ⟨true,rl⟩=x:=by
    unfold X2F;simp only[if_true];rw[NI he]
   rw[hx] at c3 c4 c5 c6 hN hg;generalize Ys x.1 x.2 rl=A at*;generalize U7 x.1 x.2=B at*;have c7:((x.1.pending.map cWr).length:Int)=0:=by omega
   refine X7 ?_;refine UD ?_;refine Qle ?_;exact⟨(i+1,x),⟨by simp only;omega,hg,hN⟩,by simp only;omega,ZL0⟩
 |false=>
  clear c2;by_cases he:(Ys x.1 x.2 rl).2.2=0
  ·have hx:X2F x ⟨false,rl⟩=((Ys x.1 x.2 rl).1,(Ys x.1 x.2 rl).2.1):=by
    unfold X2F;simp only[Bool.false_eq_true,if_false];rw[PI he]
   rw[hx] at c3 c4 c5 c6 hN hg;rw[he] at c1;generalize (Ys x.1 x.2 rl).1=Y at*;generalize (Ys x.1 x.2 rl).2.1=Z at*;clear hx he;simp only at c3 c4 c5 c6;have c7:((Y.pending.map cWr).length:Int)=0:=by omega
   refine X7 ?_;refine Vb ?_;refine Qle ?_;exact⟨(i+1,Y,Z),⟨by simp only;omega,hg,hN⟩,by simp only;omega,ZL0⟩
  ·have hx:X2F x ⟨false,rl⟩=x:=by
    unfold X2F;simp only[Bool.false_eq_true,if_false];rw[NI he]
   rw[hx] at c3 c4 c5 c6 hN hg;generalize Ys x.1 x.2 rl=A at*;have c7:((x.1.pending.map cWr).length:Int)=0:=by omega
   refine X7 ?_;refine U8 ?_;refine Qle ?_;exact⟨(i+1,x),⟨by simp only;omega,hg,hN⟩,by simp only;omega,ZL0⟩
structure StpsOk (l:List Stp):Prop where
 len:l.length<=9223372036854775807
 rl:∀p∈l,p.l.length<=9223372036854775807
 ok:∀p∈l,∀r∈p.l,X0z r
theorem Xo3:prog.cellsOf 33=1:=by kernel_rfl
theorem XjV:prog.cellsOf 89=2:=by kernel_rfl
section
variable {H:Type}{enc:TypeId×Value->H}{W:World}
def XkL (p:Stp):Prop:=(∀r∈p.l,X0z r)/\p.l.length<=9223372036854775807
theorem XwS:Opens enc prog W 89 XkL X0F:=
 (Xb6 underlying89 XjV
  (X3t rfl XkJ (Xmw underlying4) (X3t rfl Xo3 Xg4 Xbm))).to
  (fun r=>⟨r.1,r.2.1⟩) fun r h=>⟨h.2.1,rfl⟩
theorem Xl1:Opens enc prog W 47 (fun l:List Stp=>(∀p∈l,XkL p)/\l.length<=9223372036854775807) (fun l=>[.sl 2 (l.map X0F)]):=
 Xf3 fun n=>XeY underlying47 XjV (by decide) fun m _=>XwS.at m
end
end Go.Fw

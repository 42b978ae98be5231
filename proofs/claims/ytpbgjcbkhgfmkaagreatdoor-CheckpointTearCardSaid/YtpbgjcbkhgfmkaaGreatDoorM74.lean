/- After a loss of power while a state is saved the old one or the new one is recovered; plain Lean. -/
import Derived.Test.YtpbgjcbkhgfmkaaGreatDoorM73
set_option maxHeartbeats 64000000
namespace Go.Fw
open Go List
set_option linter.unusedVariables false
set_option linter.unusedSimpArgs false
theorem XeQ:∀(bs:List (List UInt8)) (d:ak) (a:Nat) (x:ak),x∈VX d a bs->∃i,x=Yc d a (bs.take i)
 |[],d,a,x,h=>⟨0,by simpa [VX,Yc] using h⟩
 |b::r,d,a,x,h=>by
  rw[VX] at h;rcases mem_cons.1 h with rfl|h
  ·exact⟨0,rfl⟩
  ·obtain⟨i,hi⟩:=XeQ r _ _ _ h;exact⟨i+1,by rw[take_succ_cons,Yc];exact hi⟩
theorem Xxk (Z:List UInt8):XdO Z Z:=⟨rfl,fun p z x h1 h2=> .inl (by rw[h1] at h2;simpa using h2)⟩
structure Tear (d:ak) (s0 s:Sta) (l:List Rcd):Prop where
 g:Good d s0 l s
 ok:SvOk d (Xv s.g s.rules) (XJ (s.ep+1))
 hh:(UI (s.ep+1) s.ts ((Xv s.g s.rules).length:Nat) (XT (Xv s.g s.rules):Nat)).length=64
 v1:YN ⟨s.g,s.rules,s.ts,s.ep+1,0⟩=true
 ent:∀r∈l,(X0k r).length<=60000
 ep:s.ep=s0.ep
 two:XJ (s.ep+1)=1-XJ s0.ep
variable{d e:ak}{l:List Rcd}{s s0:Sta}
theorem Tear.of (h:Good d s0 l s) (he:(U7 d s).2.2=0) (hv:∀r∈l,(X0k r).length<=60000):Tear d s0 s l:=by
 obtain⟨gO,cJ,iT,lf⟩:=h.kept;obtain⟨v,hr,v1,v2,v3,v4,v5,v6⟩:=Vk.1 gO;unfold U7 at he;by_cases c:VG d s≠0
 ·rw[PI c] at he;exact absurd he c
 rw[NI c] at he;have hne:s.ep≠1000000000000000:=fun q=>by
  unfold VG at c;rw[X60 h.log.ok h.lay,NI (by simp),PI (.inr q)] at c;simp at c
 unfold UR at he;by_cases c2:((Xt d*64:Nat))<(Xv s.g s.rules).length
 ·rw[PI c2] at he;simp at he
 have hlen:=h.log.len;have bD:Xt d<=2000:=by unfold Xt;omega
 refine⟨h,⟨h.log.ok,h.log.ag,h.lay,h.log.len,X2D _,by omega⟩,X6h fun x hx=> ?_,Vk.2 ⟨v,hr,v1,v2,by simp only;omega,by simp only;omega,by simp,by simp⟩,hv,cJ,by rw[<-cJ];unfold XJ;omega⟩;have:=X42 (Xv s.g s.rules);simp only[mem_cons,mem_nil_iff,or_false] at hx;rcases hx with rfl|rfl|rfl|rfl
 ·omega
 ·omega
 ·omega
 ·exact this
theorem Tear.old_hdr (t:Tear d s0 s l):(YZ (XI d (XJ s0.ep))).1.1=s0.ep:=by
 obtain⟨v,hr,v1,v2,v3,v4,v5,v6⟩:=Vk.1 t.g.v0;have hf:=t.g.fit;have hlen:=t.g.log.len;have bD:Xt d<=2000:=by unfold Xt;omega
 rw[t.g.bX,Xbd ⟨by omega,by omega⟩ ⟨by omega,by omega⟩ ⟨by omega,by omega⟩ (X42 _)]
theorem Tear.old (t:Tear d s0 s l) (he:DOk e) (hp:e.pending=[]) (hl:e.aa.length=d.aa.length)
  (hv:∀j,j<d.aa.length->j≠XJ (s.ep+1)->(j<2+XJ (s.ep+1)*Xt d\/2+XJ (s.ep+1)*Xt d+Xt d<=j)->XI e j=XI d j)
  (ho:(YZ (XI e (XJ (s.ep+1)))).2=true->(YZ (XI e (XJ (s.ep+1)))).1.1<s0.ep):VF e=(s,0):=by
 have hk:=X2D s0.ep;have hlo:=Vm t.g.lay;have aL:=t.g.lay;have jE:=t.two;have hin:=X1l t.g.lay hk;have rP:=X1l t.g.lay t.ok.k2;refine(t.g.congr he hp hl (hv _ (by omega) (by omega) (.inl (by omega))) (fun j a b=>hv j (by omega) (by omega) ?_) (fun j a b=>hv j b (by omega) (.inr (by omega))) (by rw[<-jE];exact ho)).recov t.ent;rcases (by omega:XJ s0.ep=0\/XJ s0.ep=1) with q|q
 ·rw[jE,q];rw[q] at b;exact .inl (by omega)
 ·rw[jE,q];rw[q] at a;exact .inr (by omega)
theorem Tear.new (t:Tear d s0 s l) (he:DOk e) (hp:e.pending=[]) (hl:e.aa.length=d.aa.length)
  (h1:XI e (XJ (s.ep+1))=UI (s.ep+1) s.ts ((Xv s.g s.rules).length:Nat) (XT (Xv s.g s.rules):Nat))
  (h2:∀i c,(Vo (Xv s.g s.rules))[i]? =some c->XI e (2+XJ (s.ep+1)*Xt d+i)=c)
  (h3:XI e (XJ s0.ep)=XI d (XJ s0.ep))
  (h4:XdO (Y9 e (X9 d:Nat) (d.aa.length:Nat)) (Y9 d (X9 d:Nat) (d.aa.length:Nat))):VF e=(⟨s.g,s.rules,s.ts,s.ep+1,0⟩,0):=by
 have hs:Xt e=Xt d:=by unfold Xt;rw[hl]
 have hg:X9 e=X9 d:=by unfold X9;rw[hs]
 have aL:=t.g.lay;have hlen:=t.g.log.len;have cJ:=t.ep;have jE:1-XJ (s.ep+1)=XJ s0.ep:=by have:=t.two;have:=X2D s0.ep;omega
 refine Xrk he hp (by omega) (by omega) t.v1 rfl (by rw[hs];exact t.ok.fit) (XmB he (by omega) t.ok.k2 (by rw[hs];exact t.ok.fit) (by rw[hs];exact h2)) h1 ?_ ?_
 ·show(YZ (XI e (1-XJ (s.ep+1)))).2=true->(YZ (XI e (1-XJ (s.ep+1)))).1.1<s.ep+1;intro _;rw[jE,h3,t.old_hdr];omega
 ·rw[hg,hl];rw[t.g.log.str] at h4;exact Xoj t.g.log.gL t.g.log.ep1 (by simp only;omega) l _ _ (fun r hr=>⟨Xap t.g.log.ents r hr,t.ent r hr⟩) h4
theorem Xu2 (t:Tear d s0 s l) (he:DOk e) (hl:e.aa.length=d.aa.length) (hv:∀j,X9 d<=j->j<d.aa.length->XI e j=XI d j):Y9 e (X9 d:Nat) (d.aa.length:Nat)=Y9 d (X9 d:Nat) (d.aa.length:Nat):=by
 have hlo:=Vm t.g.lay;unfold Y9;exact X6b he t.g.log.ok hl.symm _ _ (by omega) fun j a b=>hv j (by omega) (by omega)
theorem Good.tear (h:Good d s0 l s) (he:(U7 d s).2.2=0) (hv:∀r∈l,(X0k r).length<=60000) {x:ak} (hx:x∈cx d s) (keep:List Int):
  VF (Vy (UZ x keep))=(s,0)\/VF (Vy (UZ x keep))=(⟨s.g,s.rules,s.ts,s.ep+1,0⟩,0):=by
 have t:=Tear.of h he hv;have aV:=t.ok;have hh:=t.hh;have hk:=X2D s0.ep;have hlo:=Vm h.lay;have aL:=h.lay;have jE:=t.two;have hin:=X1l h.lay hk;have rP:=X1l h.lay aV.k2;have hpf:=X68 aV.fit;have hk2:=aV.k2;unfold cx at hx;rw[NI (by rw[he];simp)] at hx;unfold svT at hx;rw[mem_append,mem_append,mem_append] at hx;have hnp:=h.log.ag;have hpa:∀w∈(sv1 d (Xv s.g s.rules) (XJ (s.ep+1))).pending,∃i:Nat,i<Xt d/\w.at_=((2+XJ (s.ep+1)*Xt d+i:Nat):Int):=fun w hw=>by
  obtain⟨i,b,h1,rfl⟩:=XgI hnp w hw;have:=(GS.1 h1).1;exact⟨i,by omega,rfl⟩
 rcases hx with hx|hx|hx|hx
 ·-- the snapshot is written
  left;obtain⟨i,rfl⟩:=XeQ _ _ _ _ hx;have kI:∀c∈(Vo (Xv s.g s.rules)).take i,c.length=64:=fun c hc=>XcJ _ c (mem_of_mem_take hc);have hlt:((Vo (Xv s.g s.rules)).take i).length<=(Vo (Xv s.g s.rules)).length:=by rw[LT];omega
  have hlk:=X1h ((Vo (Xv s.g s.rules)).take i) d (2+XJ (s.ep+1)*Xt d) h.log.ok (by omega) kI;obtain⟨c1,c2,c3⟩:=X4q hlk keep;rw[(X0m _ _ _).1] at c2;have fY:=fun{j:Nat} (hj:j<d.aa.length) hjj=>XiC h.log.ok hnp (a:=2+XJ (s.ep+1)*Xt d) (by omega) kI (j:=j) hj hjj keep;refine t.old c1 c3 c2 (fun j hj _ jy=>fY hj (by omega)) ?_;rw[fY (by omega) (.inl (by omega)),jE];exact h.oth
 ·simp only[mem_cons,mem_nil_iff,or_false] at hx;rcases hx with rfl|rfl|rfl
  ·-- the old header is written over
   left;obtain⟨d2,e2⟩:=XeC aV;obtain⟨d1,e1⟩:=Xjg aV;obtain⟨c1,c2,c3⟩:=X4q d2 keep;rw[e2] at c2;have hne:∀w∈(sv1 d (Xv s.g s.rules) (XJ (s.ep+1))).pending,w.at_≠((XJ (s.ep+1):Nat):Int):=fun w hw=>by
    obtain⟨i,hi,e⟩:=hpa w hw;omega
   obtain⟨c,hc,bE⟩:=XlG d2 (by rw[e1];omega) hne keep;have ji:XI (sv1 d (Xv s.g s.rules) (XJ (s.ep+1))) (XJ (s.ep+1))=XI d (XJ (s.ep+1)):=(X2l _ d _ _).1 (.inl (by omega));refine t.old c1 c3 c2 (fun j hj dB jy=> ?_) ?_
   ·rw[Xcs d2 (by rw[e2];exact hj) (fun w hw=> ?_) keep]
    ·show XI (VM (sv1 d (Xv s.g s.rules) (XJ (s.ep+1))) (XJ (s.ep+1)) Yy) j=_;rw[X7f,NI (fun q=>dB q.symm)];exact(X2l _ d _ j).1 (by omega)
    ·rcases mem_append.1 (show w∈(sv1 d (Xv s.g s.rules) (XJ (s.ep+1))).pending++[⟨((XJ (s.ep+1):Nat):Int),Yy⟩] from hw) with hw|hw
     ·obtain⟨i,hi,e⟩:=hpa w hw;omega
     ·obtain rfl:=mem_singleton.1 hw;simp only;omega
   ·rw[show XI (Vy (UZ (sv2 d (Xv s.g s.rules) (XJ (s.ep+1))) keep)) (XJ (s.ep+1))=_ from bE,ji];by_cases hc0:c=0
    ·subst hc0;rw[take_zero,drop_zero,nil_append,jE];exact h.oth
    ·rw[XpO (by omega)];intro q;cases q
  ·-- the old header is gone
   left;obtain⟨d3,e3,p3⟩:=Xga aV;obtain⟨w1,w2,w3⟩:=Xdf aV;obtain⟨c1,c2,c3⟩:=X4q d3 keep;rw[e3] at c2;refine t.old c1 c3 c2 (fun j hj dB jy=> ?_) ?_
   ·rw[XfG d3 p3 (by omega) keep];exact w3 j hj dB jy
   ·rw[XfG d3 p3 (by omega) keep,w1,XkF];intro q;cases q
  ·-- the new header is written
   obtain⟨d3,e3,p3⟩:=Xga aV;obtain⟨d4,e4⟩:=XdN (ep:=s.ep+1) (ts:=s.ts) aV hh;obtain⟨w1,w2,w3⟩:=Xdf aV;obtain⟨c1,c2,c3⟩:=X4q d4 keep;rw[e4] at c2;obtain⟨c,hc,bE⟩:=XlG d4 (by omega) (by rw[p3];simp) keep;rw[w1] at bE;have bE:XI (Vy (UZ (sv4 d (Xv s.g s.rules) (XJ (s.ep+1)) (s.ep+1) s.ts) keep)) (XJ (s.ep+1))=_:=bE;have cT:∀j,j<d.aa.length->j≠XJ (s.ep+1)->XI (Vy (UZ (sv4 d (Xv s.g s.rules) (XJ (s.ep+1)) (s.ep+1) s.ts) keep)) j=XI (sv3 d (Xv s.g s.rules) (XJ (s.ep+1))) j:=fun j hj dB=>by
    rw[Xcs d4 (by omega) (fun w hw=> ?_) keep]
    ·show XI (VM (sv3 d (Xv s.g s.rules) (XJ (s.ep+1))) (XJ (s.ep+1)) _) j=_;rw[X7f,NI (fun q=>dB q.symm)]
    ·rcases mem_append.1 (show w∈(sv3 d (Xv s.g s.rules) (XJ (s.ep+1))).pending++[⟨((XJ (s.ep+1):Nat):Int),_⟩] from hw) with hw|hw
     ·rw[p3] at hw;simp at hw
     ·obtain rfl:=mem_singleton.1 hw;simp only;omega
   by_cases tV:c<64
   ·left;refine t.old c1 c3 c2 (fun j hj dB jy=>by rw[cT j hj dB];exact w3 j hj dB jy) ?_;rw[bE,XwG hh tV];intro q;cases q
   ·right;obtain rfl:c=64:=by omega
    refine t.new c1 c3 c2 ?_ (fun i b hb=> ?_) ?_ ?_
    ·rw[bE,take_of_length_le (by omega),show Yy.drop 64=[] from rfl,append_nil]
    ·have hi:i<(Vo (Xv s.g s.rules)).length:=(GS.1 hb).1;rw[cT _ (by omega) (by omega)];exact w2 i b hb
    ·rw[cT _ (by omega) (by omega)];exact w3 _ (by omega) (by omega) (.inl (by omega))
    ·rw[Xu2 t c1 c2 (fun j a b=>by rw[cT j b (by omega)];exact w3 j b (by omega) (.inr (by omega)))];exact Xxk _
 ·-- the old log is wiped
  right;obtain⟨i,rfl⟩:=XeQ _ _ _ _ hx;obtain⟨d5,e5,p5⟩:=XdM (ep:=s.ep+1) (ts:=s.ts) aV hh;obtain⟨w1,w2,w3⟩:=Xhg (ep:=s.ep+1) (ts:=s.ts) aV hh;obtain⟨y1,y2⟩:=Xm7 (ep:=s.ep+1) (ts:=s.ts) aV hh;have hzl:=XaB d;have kI:∀c∈(X0U d).take i,c.length=64:=fun c hc=>X8Y d c (mem_of_mem_take hc);have hlt:((X0U d).take i).length<=(X0U d).length:=by rw[LT];omega
  have hlk:=X1h ((X0U d).take i) (sv5 d (Xv s.g s.rules) (XJ (s.ep+1)) (s.ep+1) s.ts) (X9 d) d5 (by omega) kI;obtain⟨c1,c2,c3⟩:=X4q hlk keep;rw[(X0m _ _ _).1,e5] at c2;have fY:=fun{j:Nat} (hj:j<X9 d)=>XiC d5 p5 (a:=X9 d) (by omega) kI (j:=j) (by omega) (.inl hj) keep;refine t.new c1 c3 c2 (by rw[fY (by omega)];exact w1) (fun i b hb=> ?_) (by rw[fY (by omega)];exact w3 _ (by omega) (by omega) (.inl (by omega))) ?_
  ·have hi:i<(Vo (Xv s.g s.rules)).length:=(GS.1 hb).1;rw[fY (by omega)];exact w2 i b hb
  ·have hby:=fun{k p:Nat} (hk:k<d.aa.length) {X:UInt8} hx=>XtS (k:=k) (p:=p) (X:=X) d5 p5 (a:=X9 d) (bs:=X0U d) (by omega) (X8Y d) i keep (by omega) hx;generalize Vy (UZ (Yc (sv5 d (Xv s.g s.rules) (XJ (s.ep+1)) (s.ep+1) s.ts) (X9 d) ((X0U d).take i)) keep)=e at*;have hn:((X9 d:Nat):Int).toNat+(((d.aa.length:Nat):Int)-(X9 d:Nat)).toNat=d.aa.length:=by omega
   have l1:=X0Y c1 (((d.aa.length:Nat):Int)-(X9 d:Nat)).toNat ((X9 d:Nat):Int).toNat (by omega);have l2:=X0Y h.log.ok (((d.aa.length:Nat):Int)-(X9 d:Nat)).toNat ((X9 d:Nat):Int).toNat (by omega);unfold Y9;refine⟨by rw[l1,l2],fun p z y hz hy=> ?_⟩;have hp:p<64*(((d.aa.length:Nat):Int)-(X9 d:Nat)).toNat:=by rw[<-l1];exact(GS.1 hz).1
   rw[Xdd c1 _ _ _ (by omega) hp] at hz;rw[Xdd h.log.ok _ _ _ (by omega) hp] at hy;have hj:((X9 d:Nat):Int).toNat+p/64<d.aa.length:=by omega
   rcases hby hj hz with q|q
   ·left;rw[w3 _ hj (by omega) (.inr (by omega)),hy] at q;simpa using q.symm
   ·right;have q:(XI (sv6 d (Xv s.g s.rules) (XJ (s.ep+1)) (s.ep+1) s.ts) (((X9 d:Nat):Int).toNat+p/64))[p%64]? =some z:=q;rw[y2 _ (by omega) hj] at q;unfold Yy at q;rw[getElem?_replicate] at q;split at q
    ·simpa using q.symm
    ·cases q
 ·-- all is done
  right;obtain rfl:=mem_singleton.1 hx;have hg:=(h.save he).1;have e1:(U7 d s).1=sv6 d (Xv s.g s.rules) (XJ (s.ep+1)) (s.ep+1) s.ts/\(U7 d s).2.1=⟨s.g,s.rules,s.ts,s.ep+1,0⟩:=by
   refine⟨?_,(h.save he).2⟩;unfold U7 at he |-;by_cases c:VG d s≠0
   ·rw[PI c] at he;exact absurd he c
   rw[NI c] at he |-;unfold UR at he |-;by_cases c2:((Xt d*64:Nat))<(Xv s.g s.rules).length
   ·rw[PI c2] at he;simp at he
   rw[NI c2]
  rw[e1.1,e1.2] at hg;exact(hg.crash keep).recov (by simp)
theorem Xj0 {n:Int}:∀(l:List Stp) (x:ak×Sta),After n x->(∀p∈l,X1i p.l=true)->After n (l.foldl X2F x)
 |[],x,h,_=>h
 |p::l,x,h,hl=>Xj0 l _ (Xmj h (hl p (mem_cons_self ..))) fun q hq=>hl q (mem_cons_of_mem _ hq)
open Go Go.Proofs Tryz
set_option maxRecDepth 100000
theorem Xup {b:List UInt8}{K:Nat}{ep ts:Int} (hd:DOk d) (hf:d.aa.length<=2000/\d.pending.length<=500) (aL:16<=d.aa.length) (hb:b.length<=Xt d*64) (hK:K<2) (hh:(UI ep ts (b.length:Nat) (XT b:Nat)).length=64):
  ∀x∈svT d b K ep ts,DOk x/\Vp x/\x.aa.length=d.aa.length:=by
 obtain⟨l1,l2,l3⟩:=Vm aL;have l4:=X1l aL hK;have hpf:=X68 hb;have bx:=XcJ b;obtain⟨s1,s2,s3⟩:=X0m (Vo b) d (2+K*Xt d);have o1:DOk (sv1 d b K):=X1h (Vo b) d _ hd (by omega) bx;have e1:(sv1 d b K).aa.length=d.aa.length:=by show(Yc _ _ _).aa.length=_;rw[s1]
 have o2:DOk (sv2 d b K):=X5F o1 (by omega) rfl;have e2:(sv2 d b K).aa.length=d.aa.length:=e1;obtain⟨o3,e3,q3⟩:=X2E o2;have lW:(sv3 d b K).aa.length=d.aa.length:=e3.trans e1;have o4:DOk (sv4 d b K ep ts):=X5F o3 (by show K<(sv3 d b K).aa.length;omega) hh;have e4:(sv4 d b K ep ts).aa.length=d.aa.length:=lW;obtain⟨o5,e5,q5⟩:=X2E o4;have lX:(sv5 d b K ep ts).aa.length=d.aa.length:=e5.trans lW;have tW:(sv5 d b K ep ts).pending=[]:=q5;obtain⟨z1,z2,z3⟩:=X0m (X0U d) (sv5 d b K ep ts) (X9 d);have hzl:=XaB d;have oz:DOk (Yc (sv5 d b K ep ts) (X9 d) (X0U d)):=X1h _ _ _ o5 (by show X9 d+_<=(sv5 d b K ep ts).aa.length;omega) (X8Y d);obtain⟨o6,e6,q6⟩:=X2E oz;have tC:(sv2 d b K).pending.length<=3001:=by
  show((sv1 d b K).pending++[(⟨(K:Nat),Yy⟩:Wr)]).length<=3001;have:(sv1 d b K).pending.length=d.pending.length+(Vo b).length:=s3;rw[LA,length_singleton];omega
 have tD:(sv4 d b K ep ts).pending.length<=1:=by
  show((sv3 d b K).pending++[_]).length<=1;rw[show (sv3 d b K).pending=[] from q3];simp
 intro x hx;unfold svT at hx;simp only[mem_append,mem_cons,mem_nil_iff,or_false] at hx;rcases hx with hx|(rfl|rfl|rfl)|hx|rfl
 ·have h:=Xds (Vo b) d (2+K*Xt d) hd (by omega) bx (by omega) x hx;exact⟨h.1,h.2.1,h.2.2⟩
 ·exact⟨o2,X2d o2.v (by omega),e2⟩
 ·exact⟨o3,X2d o3.v (by rw[show (sv3 d b K).pending=[] from q3];simp),lW⟩
 ·exact⟨o4,X2d o4.v (by omega),e4⟩
 ·have h:=Xds (X0U d) (sv5 d b K ep ts) (X9 d) o5 (by show X9 d+_<=(sv5 d b K ep ts).aa.length;omega) (X8Y d) (by show(sv5 d b K ep ts).pending.length+_<=4096;rw[tW];simp;omega) x hx;exact⟨h.1,h.2.1,h.2.2.trans lX⟩
 ·exact⟨o6,X2d o6.v (by rw[show (sv6 d b K ep ts).pending=[] from q6];simp),by show(sv6 d b K ep ts).aa.length=_;rw[show (sv6 d b K ep ts).aa.length=(Yc (sv5 d b K ep ts) (X9 d) (X0U d)).aa.length from e6,z1,lX]⟩
theorem Xsa {x:ak}{keep:List Int} (h:DOk x):Vp (UZ x keep):=by
 obtain⟨c1,c2,c3⟩:=X4q h keep;have e:(Vy (UZ x keep)).aa=(UZ x keep).aa/\(Vy (UZ x keep)).pending=(UZ x keep).pending:=by unfold Vy;split<;>exact⟨rfl,rfl⟩
 have:=X2d c1.v (by rw[c3];simp);unfold Vp at*
 rwa [e.1,e.2] at this
theorem Xsv (g:Good d s0 l s) (he:(U7 d s).2.2=0):(cx d s).length<=100000/\∀x∈cx d s,DOk x/\Vp x/\x.aa.length=d.aa.length:=by
 obtain⟨hv,_,_,_⟩:=g.kept;obtain⟨_,_,t0,t1,t2,t3,_⟩:=Vk.1 hv;have bF:=g.log.len;have bD:Xt d<=500:=by unfold Xt;omega
 have e:cx d s=svT d (Xv s.g s.rules) (XJ (s.ep+1)) (s.ep+1) s.ts:=by unfold cx;rw[NI (by simp[he])]
 have hfit:(Xv s.g s.rules).length<=Xt d*64:=by
  unfold U7 at he;by_cases c1:VG d s≠0
  ·rw[PI c1] at he;exact absurd he c1
  rw[NI c1] at he;unfold UR at he;by_cases c2:(Xt d*64:Nat)<(Xv s.g s.rules).length
  ·rw[PI c2] at he;simp at he
  ·omega
 have aV:=X42 (Xv s.g s.rules);rw[e];refine⟨Xag bF hfit,?_⟩;refine Xup g.log.ok ⟨bF,by rw[g.log.ag];simp⟩ g.lay hfit (X2D _) (X6h fun x hx=> ?_);simp only[mem_cons,mem_nil_iff,or_false] at hx;rcases hx with rfl|rfl|rfl|rfl
 ·omega
 ·omega
 ·omega
 ·exact aV
theorem Xrb (n:Int) (l:List Stp) (a:UInt8) (keep:List Int) (h:StpsOk l) (hk:keep.length<=9223372036854775807):Con prog 12 [] [ai n,.d (.sl 2 (l.map X0F)),.d (.v (.int .u8 (a.toNat:Int))),.d (X7W keep)] [] (ab true):=by
 refine ZC1 func12 ntmps12 fun E=> ?_;have hb:=Xgo n l h.len h.rl;have ha:=X64;have hkm:(keep.map X7z).length=keep.length:=LM ..;unfold X7W;by_cases q:X4X n l=true
 case neg=>
  rw[show X4X n l=false by simpa using q] at hb;refine UU ?_
  (show AWP prog E _ _ _;refine X2 ?_;exact(show Xa _ _ _ _ _ from⟨_,St.le_refl _,⟨rfl,TV⟩,X4 _⟩))
 rw[q] at hb;by_cases qk:keep.length<=60
 case neg=>
  have tX:((keep.map X7z).length:Int)>60:=by omega
  refine UU ?_
  (show AWP prog E _ _ _;refine X2 ?_;exact(show Xa _ _ _ _ _ from⟨_,St.le_refl _,⟨rfl,TV⟩,X4 _⟩))
 have tX:¬((keep.map X7z).length:Int)>60:=by omega
 have hf:=Xgu n l q h.ok;obtain⟨b1,b2,b3,b4⟩:=XiU q;have hA:After n (Un n l):=Xj0 l _ (Xiz b1 (by omega)) b4;have C:=Xfh hA;have ht:=Xnj (Un n l).1 (Un n l).2 C.hold C.short;obtain⟨s0,m,g,hm⟩:=hA.g;have jd:((cx (Un n l).1 (Un n l).2).map XO).length=(cx (Un n l).1 (Un n l).2).length:=LM ..;by_cases qe:(cx (Un n l).1 (Un n l).2).length=0
 ·rw[eq_nil_of_length_eq_zero qe] at ht;simp only[map_nil] at ht;clear g hm C hA;generalize (Un n l).1=X at*;generalize (Un n l).2=Y at*;unfold X5b at hf;obtain⟨xs,xp,xo⟩:=X;obtain⟨⟨ns,es,nn,ne⟩,rs,ts,ep,tail⟩:=Y;simp only[Xy] at*;have bZ:((([]:List (List D)).length:Nat):Int)=0:=rfl;refine QUa ?_
  (show AWP prog E _ _ _;refine X2 ?_;exact(show Xa _ _ _ _ _ from⟨_,St.le_refl _,⟨rfl,TV⟩,X4 _⟩))
 have he:(U7 (Un n l).1 (Un n l).2).2.2=0:=by
  by_cases c:(U7 (Un n l).1 (Un n l).2).2.2=0
  ·exact c
  ·rw[show cx (Un n l).1 (Un n l).2=[] by unfold cx;rw[PI c]] at qe;exact absurd rfl qe
 obtain⟨x,hx⟩:∃x,(cx (Un n l).1 (Un n l).2)[a.toNat%(cx (Un n l).1 (Un n l).2).length]? =some x:=⟨_,getElem?_eq_getElem (Nat.mod_lt _ (by omega))⟩
 have au:((cx (Un n l).1 (Un n l).2).map XO)[a.toNat%(cx (Un n l).1 (Un n l).2).length]? =some (XO x):=XM hx;have bw:=mem_of_getElem? hx;obtain⟨qa,rQ⟩:=Xsv g he;obtain⟨k1,k2,k3⟩:=rQ x bw;obtain⟨c1,c2,c3⟩:=X4q k1 keep;have eZ:=XuL x keep k2;have nH:=Xqn (UZ x keep) (Xsa k1);have hO:=X6F (Vy (UZ x keep)) ⟨by rw[c2,k3];exact C.few.1,by rw[c3];simp⟩;have tY:=g.tear he hm bw keep;have hs1:=X46 (Un n l).2 C.hold;have hH:StaHold ⟨(Un n l).2.g,(Un n l).2.rules,(Un n l).2.ts,(Un n l).2.ep+1,0⟩:=⟨C.hold.g,C.hold.rl⟩
 have bV:=XmP ⟨(Un n l).2.g,(Un n l).2.rules,(Un n l).2.ts,(Un n l).2.ep+1,0⟩ (Un n l).2.ts (Un n l).2.ep (Un n l).2.tail hH;have dZ:=X46 _ hH;rw[DF (by rintro⟨_,h,_⟩;simp only at h;omega)] at bV;have uz:=(Vk.1 g.kept.1).2.2.2.2.2.1;have uA:=(Vk.1 g.kept.1).2.2.2.2.1;have hall:∀r∈(cx (Un n l).1 (Un n l).2).map XO,r.length=3:=fun r hr=>by obtain⟨y,_,rfl⟩:=mem_map.1 hr;rfl
 clear rQ g hm C hA bw k1 k2 k3 c1 c2 c3 he hx hH;rw[<-jd] at au qe qa;generalize (cx (Un n l).1 (Un n l).2).map XO=T at*;generalize Vy (UZ x keep)=y' at*;generalize UZ x keep=y at*;generalize (Un n l).1=X at*;generalize (Un n l).2=Y at*;unfold X5b at hf;obtain⟨xs,xp,xo⟩:=X;obtain⟨⟨ns,es,nn,ne⟩,rs,ts,ep,tail⟩:=Y;simp only[Xy] at*;have hal:=a.toNat_lt;unfold XO at au;rcases tY with e|e
 ·rw[e] at hO;clear bV dZ e;refine QCa ?_;refine W4_ ?_;refine Z2 (op:= .rem) (r':=ni (a.toNat%T.length)) (u:=ni a.toNat) (v:=ni T.length) ?_ (hr:=by exact Vh qe);refine U1 ?_;refine Z3 (af:=hs1) ?_;refine XK ?_
  (show AWP prog E _ _ _;refine X2 ?_;exact(show Xa _ _ _ _ _ from⟨_,St.le_refl _,⟨rfl,TV⟩,X4 _⟩))
 ·rw[e] at hO;clear hs1 e;refine QCa ?_;refine W4_ ?_;refine Z2 (op:= .rem) (r':=ni (a.toNat%T.length)) (u:=ni a.toNat) (v:=ni T.length) ?_ (hr:=by exact Vh qe);refine U1 ?_;refine Z3 (af:=bV) ?_;refine W3_ ?_;refine Z3 (af:=dZ) ?_;refine W7_ ?_
  (show AWP prog E _ _ _;refine X2 ?_;exact(show Xa _ _ _ _ _ from⟨_,St.le_refl _,⟨rfl,TV⟩,X4 _⟩))
section
variable {H:Type}{enc:TypeId×Value->H}{W:World}
theorem Xxi:Opens enc prog W 48 (fun l:List Int=>l.length<=9223372036854775807) (fun l=>[X7W l]):=
 Xf3 fun n=>(XeY underlying48 X8O (by decide) fun m _=>(X9E underlying3).at m).to id fun _ h=>⟨h.2,rfl⟩
end
end Go.Fw

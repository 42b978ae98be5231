/- A log, and what is appended to it; plain Lean. -/
import Derived.Test.YtpbgjcbkhgfmkaaGreatDoorM33
namespace Go.Fw
open Go List
set_option linter.unusedVariables false
set_option linter.unusedSimpArgs false
variable{d e:ak}{ep f n t tail ts:Int}{b:List UInt8}{l m:List Rcd}{k:Nat}{r:Rcd}{s s0:Sta}
theorem Xkt {A:List UInt8} (hd:DOk d) (h1:0<=f) (h2:f<t) (h3:t<=d.aa.length) (h6:0<=tail) (h7:tail+A.length<=(t-f)*64) (hz:X3k (Y9 d f t) tail.toNat):
  Y9 (Uw (Yc d (f.toNat+tail.toNat/64) (X0V d f t tail A))).1 f t=(Y9 d f t).take tail.toNat++A++replicate ((Y9 d f t).length-tail.toNat-A.length) 0:=by
 by_cases hA:A=[]
 case neg=>exact XsL hd h1 h2 h3 h6 h7 hz hA
 subst hA;have hc:X0V d f t tail []=[]:=PI rfl;have hw:=Xew (f:=f.toNat) (n:=(t-f).toNat) (a:=f.toNat) (bs:=[]) hd (by omega) (Nat.le_refl _) (by simp) (by simp);rw[hc];unfold Y9 at hz |-;have hl:Yc d (f.toNat+tail.toNat/64) []=Yc d f.toNat []:=rfl;rw[hl,hw];simp only[Nat.sub_self,Nat.mul_zero,take_zero,nil_append,flatten_nil,length_nil,Nat.add_zero,drop_zero,append_nil,Nat.sub_zero];conv=>lhs;rw[<-take_append_drop tail.toNat (U6 d f.toNat (t-f).toNat)]
 rw[hz]
structure Log (d:ak) (f t ep:Int) (l:List Rcd) (tail:Int):Prop where
 ok:DOk d
 few:VB d
 ag:d.pending=[]
 len:d.aa.length<=2000
 f0:0<=f
 ft:f<t
 t24:t<=(d.aa.length:Int)
 gL:0<=ep
 ep1:ep<=1000000000000000
 tl:tail=(XZ ep l).length
 room:tail<=(t-f)*64
 str:Y9 d f t=XZ ep l++replicate ((t-f).toNat*64-(XZ ep l).length) 0
 ents:V7 l=0
theorem X8K:(Um d f t ep tail l).2.2=(YI d f t ep tail l).2.2:=by
 unfold Um;split
 ·rfl
 ·rename_i h;have:(YI d f t ep tail l).2.2=0:=by simpa using h
  rw[this]
theorem Xm0:∀{l m:List Rcd},V7 l=0->V7 m=0->V7 (l++m)=0
 |[],_,_,h=>h
 |x::l,m,h1,h2=>by
  rw[cons_append,V7];rw[V7] at h1;by_cases q:UH x=0
  ·rw[NI (by rw[q];simp)] at h1 |-;exact Xm0 h1 h2
  ·rw[PI q] at h1;exact absurd h1 q
theorem Log.app (h:Log d f t ep l tail) (he:(Um d f t ep tail m).2.2=0):Log (Um d f t ep tail m).1 f t ep (l++m) (Um d f t ep tail m).2.1:=by
 rw[X8K] at he;obtain⟨s1,s2,s3,s4⟩:=X4T he;obtain⟨g1,g2,g3⟩:=Xcn h.few he;have ht:=h.tl;have ur:=h.len;have mT:=h.t24;have hS:(Y9 d f t).length=64*(t-f).toNat:=by unfold Y9;exact X0Y h.ok _ _ (by have:=h.f0;have:=h.ft;omega)
 have hle:(XZ ep l).length<=(t-f).toNat*64:=by have:=h.room;have:=h.ft;omega
 have hz:X3k (Y9 d f t) tail.toNat:=by
  unfold X3k;rw[hS,h.str,ht,Int.toNat_natCast,drop_left' rfl];congr 1;omega
 have hst:=Xkt (A:=XZ ep m) h.ok h.f0 h.ft (by omega) (by omega) s3 hz;obtain⟨k1,k2,k3⟩:=X6R (A:=XZ ep m) h.ok h.f0 h.ft (by omega) (by omega) s3;have jx:=X1h (X0V d f t tail (XZ ep m)) d (f.toNat+tail.toNat/64) h.ok k1 k2;obtain⟨m1,m2,m3⟩:=X2E jx;rw[<-g3] at m1 m2 m3 hst;have ml:(Um d f t ep tail m).1.aa.length=d.aa.length:=by rw[m2,(X0m _ d _).1]
 rw[g2];refine⟨m1,⟨by omega,by rw[m3];simp⟩,m3,by omega,h.f0,h.ft,by rw[ml];exact h.t24,h.gL,h.ep1,?_,s3,?_,?_⟩
 ·rw[Xaq,LA,ht];omega
 ·rw[hst,Xaq,h.str,ht,Int.toNat_natCast,take_left' rfl,LA,LA,length_replicate];congr 2;omega
 ·exact Xm0 h.ents s2
theorem Log.app_len (h:Log d f t ep l tail) (he:(Um d f t ep tail m).2.2=0):(Um d f t ep tail m).1.aa.length=d.aa.length:=by
 rw[X8K] at he;obtain⟨s1,s2,s3,s4⟩:=X4T he;obtain⟨g1,g2,g3⟩:=Xcn h.few he;have ht:=h.tl;have mT:=h.t24;obtain⟨k1,k2,k3⟩:=X6R (A:=XZ ep m) h.ok h.f0 h.ft (by omega) (by omega) s3;have jx:=X1h (X0V d f t tail (XZ ep m)) d (f.toNat+tail.toNat/64) h.ok k1 k2;obtain⟨m1,m2,m3⟩:=X2E jx;rw[g3,m2,(X0m _ d _).1]
theorem XcL (h:r.changes.length<=60):(X0k r).length<=60000:=by
 unfold X0k;by_cases he:UH r=0
 case neg=>rw[NI he];simp
 rw[PI he];unfold UH at he;by_cases c1:¬(1<=r.kind/\r.kind<=3/\0<=r.ts/\r.ts<=1000000000000000)
 ·rw[PI c1] at he;omega
 rw[NI c1] at he;by_cases c2:(r.kind≠1/\0<r.changes.length)\/(r.kind≠2/\(r.off=true\/X4i r.rule=false))
 ·rw[PI c2] at he;omega
 rw[NI c2] at he;have h1:=X7c (n:=r.ts) (by omega) (by omega);have h2:=X7c (n:=(r.changes.length:Nat)) (by omega) (by omega);unfold X11;by_cases k2:r.kind=2
 ·rw[PI k2] at he;have h3:=X65 he;rw[NI (by omega),PI k2];simp only[LC,LA,length_nil];omega
 rw[NI k2] at he;by_cases c3:X1P r.changes≠0
 ·rw[PI c3] at he;exact absurd he c3
 by_cases k1:r.kind=1
 ·rw[PI k1];have hall:∀l:List Chg,X1P l=0->∀c∈l,YD c=0:=by
   intro l;induction l with
   |nil=>intro _ c hc;simp at hc
   |cons x l ih=>
    intro h0 c hc;rw[X1P] at h0;by_cases q:YD x=0
    ·rw[NI (by rw[q];simp)] at h0;rcases mem_cons.1 hc with rfl|hc
     ·exact q
     ·exact ih h0 c hc
    ·rw[PI q] at h0;exact absurd h0 q
  have h4:=Xb0 (hall r.changes (by simpa using c3));simp only[LC,LA];omega
 ·rw[NI k1,NI k2];simp only[LC,LA,length_nil];omega
theorem Log.err (h:Log d f t ep l tail):(Um d f t ep tail m).2.2=if V7 m≠0 then V7 m else if (t-f)*64<tail+(XZ ep m).length then 20 else 0:=by
 have hsp:Uh d f t ep tail=0:=by
  have h1:=h.f0;have h2:=h.ft;have h3:=h.t24;have h4:=h.len;have h5:=h.gL;have h6:=h.ep1;have h7:=h.tl;have h8:=h.room;unfold Uh;rw[NI (by rw[h.ok.v];simp),NI (by rw[h.ok.on];simp),NI (by omega),NI (by omega)]
 rw[X8K];unfold YI;rw[NI (by rw[hsp];simp)];split
 ·rfl
 ·split<;>rfl
theorem Log.scan (h:Log d f t ep l tail) (hv:∀r∈l,(X0k r).length<=60000):X0B d f t ep=(l,tail,0):=by
 have hsp:Uh d f t ep 0=0:=by
  have h1:=h.f0;have h2:=h.ft;have h3:=h.t24;have h4:=h.len;have h5:=h.gL;have h6:=h.ep1;have h7:=h.tl;have h8:=h.room;unfold Uh;rw[NI (by rw[h.ok.v];simp),NI (by rw[h.ok.on];simp),NI (by omega),NI (by omega)]
 have hb:=XqT h.gL h.ep1 l ((t-f).toNat*64-(XZ ep l).length) (fun r hr=>⟨Xap h.ents r hr,hv r hr⟩);unfold X0B;rw[NI (by rw[hsp];simp),h.str,hb,h.tl]
theorem Xsh {l:List Rul}{r:Rul} (h:SchV l) (hr:Uk r=0) (hh:XD YB l r=false) (hl:l.length≠40):SchV (UC ltR YB l r [r]):=by
 refine⟨fun x hx=> ?_,X8D X61 h.st (.inr ⟨r,rfl,rfl⟩),?_⟩
 ·rcases Xa2 hx with hx|hx
  ·obtain rfl:=mem_singleton.1 hx;exact hr
  ·exact h.ok x hx
 ·rw[X4U hh];have:=h.len;have:=X5p (lt:=ltR) (key:=YB) l r;simp only[LA,LT,LD,length_singleton];omega
theorem XvS {l:List Rul}{r:Rul} (h:SchV l):SchV (UL YB l r):=
 ⟨fun x hx=>h.ok x (XbV hx).1,XbB h.st,Nat.le_trans (length_filter_le _ _) h.len⟩
theorem Xp9 {l:List Rul}{r:Rul} (h:(Vc l r).2=0):SchV (Vc l r).1:=by
 unfold Vc at h |-;by_cases c1:X0W l=false
 ·rw[PI c1] at h;simp at h
 rw[NI c1] at h |-;by_cases c2:Uk r≠0
 ·rw[PI c2] at h;exact absurd h c2
 rw[NI c2] at h |-;by_cases c3:XD YB l r=true
 ·rw[PI c3] at h;simp at h
 rw[NI c3] at h |-;by_cases c4:l.length=40
 ·rw[PI c4] at h;simp at h
 rw[NI c4];exact Xsh (X6u.1 (by simpa using c1)) (by simpa using c2) (by simpa using c3) c4
theorem XvY {l:List Rul}{r:Rul} (h:(VC l r).2=0):SchV (VC l r).1:=by
 unfold VC at h |-;by_cases c1:X0W l=false
 ·rw[PI c1] at h;simp at h
 rw[NI c1] at h |-;by_cases c2:Uk r≠0
 ·rw[PI c2] at h;exact absurd h c2
 rw[NI c2] at h |-;by_cases c3:XD YB l r=false
 ·rw[PI c3] at h;simp at h
 rw[NI c3];exact XvS (X6u.1 (by simpa using c1))
theorem Xtq (h:UH r=0):0<=r.ts/\r.ts<=1000000000000000:=by
 unfold UH at h;by_cases c:¬(1<=r.kind/\r.kind<=3/\0<=r.ts/\r.ts<=1000000000000000)
 ·rw[PI c] at h;omega
 ·omega
structure KeptS (s t:Sta):Prop where
 v:YN t=true
 ep:t.ep=s.ep
 tl:t.tail=s.tail
theorem XeJ (h:(U3 s r).2=0):KeptS s (U3 s r).1:=by
 unfold U3 at h |-;by_cases c1:YN s=false
 ·rw[PI c1] at h;simp at h
 rw[NI c1] at h |-;have hv:YN s=true:=by simpa using c1
 obtain⟨v,hr,v1,v2,v3,v4,v5,v6⟩:=Vk.1 hv;by_cases c2:UH r≠0
 ·rw[PI c2] at h;exact absurd h c2
 rw[NI c2] at h |-;obtain⟨t1,t2⟩:=Xtq (r:=r) (by simpa using c2);by_cases c3:(r.kind=3/\r.ts<s.ts)\/(r.kind≠3/\r.ts≠s.ts+1)
 ·rw[PI c3] at h;simp at h
 rw[NI c3] at h |-;by_cases c4:r.kind=1
 ·rw[PI c4] at h |-;unfold ofA at h |-;by_cases c5:(V9 s.g r.changes).2.2≠0
  ·rw[PI c5] at h;exact absurd h c5
  rw[NI c5];exact⟨Vk.2 ⟨XjZ (by simpa using c5),hr,t1,t2,v3,v4,v5,v6⟩,rfl,rfl⟩
 rw[NI c4] at h |-;by_cases c5:r.kind=2
 ·rw[PI c5] at h |-;by_cases c6:r.off=true
  ·rw[PI c6] at h |-;unfold ofR at h |-;by_cases c7:(VC s.rules r.rule).2≠0
   ·rw[PI c7] at h;exact absurd h c7
   rw[NI c7];exact⟨Vk.2 ⟨v,XvY (by simpa using c7),t1,t2,v3,v4,v5,v6⟩,rfl,rfl⟩
  ·rw[NI c6] at h |-;unfold ofR at h |-;by_cases c7:(Vc s.rules r.rule).2≠0
   ·rw[PI c7] at h;exact absurd h c7
   rw[NI c7];exact⟨Vk.2 ⟨v,Xp9 (by simpa using c7),t1,t2,v3,v4,v5,v6⟩,rfl,rfl⟩
 ·rw[NI c5];exact⟨hv,rfl,rfl⟩
theorem XeP (h0:0<=t/\t<=262144) (hs:0<=s.tail/\s.tail<=262144):YN (Uz s t)=YN s:=by
 unfold YN Uz;simp[h0.1,h0.2,hs.1,hs.2]
theorem XwP (h0:0<=t/\t<=262144) (hs:0<=s.tail/\s.tail<=262144):(U3 (Uz s t) r).2=(U3 s r).2/\((U3 s r).2=0->(U3 (Uz s t) r).1=Uz (U3 s r).1 t):=by
 unfold U3;rw[XeP h0 hs];by_cases c1:YN s=false
 ·rw[PI c1,PI c1];exact⟨rfl,fun h=>by simp at h⟩
 rw[NI c1,NI c1];by_cases c2:UH r≠0
 ·rw[PI c2,PI c2];exact⟨rfl,fun h=>absurd h c2⟩
 rw[NI c2,NI c2];by_cases c3:(r.kind=3/\r.ts<s.ts)\/(r.kind≠3/\r.ts≠s.ts+1)
 ·rw[PI c3,PI (show(r.kind=3/\r.ts<(Uz s t).ts)\/(r.kind≠3/\r.ts≠(Uz s t).ts+1) from c3)];exact⟨rfl,fun h=>by simp at h⟩
 rw[NI c3,NI (show ¬((r.kind=3/\r.ts<(Uz s t).ts)\/(r.kind≠3/\r.ts≠(Uz s t).ts+1)) from c3)];by_cases c4:r.kind=1
 ·rw[PI c4,PI c4];show(ofA (Uz s t) r.ts (V9 s.g r.changes)).2=_/\(_->(ofA (Uz s t) r.ts (V9 s.g r.changes)).1=_)
  unfold ofA;by_cases c5:(V9 s.g r.changes).2.2≠0
  ·rw[PI c5,PI c5];exact⟨rfl,fun h=>absurd h c5⟩
  ·rw[NI c5,NI c5];exact⟨rfl,fun _=>rfl⟩
 rw[NI c4,NI c4];by_cases c5:r.kind=2
 ·rw[PI c5,PI c5];by_cases c6:r.off=true
  ·rw[PI c6,PI c6];show(ofR (Uz s t) r.ts (VC s.rules r.rule)).2=_/\(_->(ofR (Uz s t) r.ts (VC s.rules r.rule)).1=_)
   unfold ofR;by_cases c7:(VC s.rules r.rule).2≠0
   ·rw[PI c7,PI c7];exact⟨rfl,fun h=>absurd h c7⟩
   ·rw[NI c7,NI c7];exact⟨rfl,fun _=>rfl⟩
  ·rw[NI c6,NI c6];show(ofR (Uz s t) r.ts (Vc s.rules r.rule)).2=_/\(_->(ofR (Uz s t) r.ts (Vc s.rules r.rule)).1=_)
   unfold ofR;by_cases c7:(Vc s.rules r.rule).2≠0
   ·rw[PI c7,PI c7];exact⟨rfl,fun h=>absurd h c7⟩
   ·rw[NI c7,NI c7];exact⟨rfl,fun _=>rfl⟩
 ·rw[NI c5,NI c5];exact⟨rfl,fun _=>rfl⟩
theorem XbH:∀(l:List Rcd) (s:Sta),YN s=true->(YA s l).2=0->KeptS s (YA s l).1
 |[],s,hv,_=>⟨hv,rfl,rfl⟩
 |r::l,s,hv,h=>by
  rw[YA] at h |-;by_cases c:(U3 s r).2≠0
  ·rw[PI c] at h;exact absurd h c
  rw[NI c] at h |-;have k:=XeJ (s:=s) (r:=r) (by simpa using c);have k2:=XbH l _ k.v h;exact⟨k2.v,k2.ep.trans k.ep,k2.tl.trans k.tl⟩
theorem Xfx:∀(l:List Rcd) (s:Sta) (t:Int),0<=t/\t<=262144->0<=s.tail/\s.tail<=262144->(YA (Uz s t) l).2=(YA s l).2/\((YA s l).2=0->(YA (Uz s t) l).1=Uz (YA s l).1 t)
 |[],s,t,_,_=>⟨rfl,fun _=>rfl⟩
 |r::l,s,t,h0,hs=>by
  obtain⟨e1,e2⟩:=XwP (r:=r) h0 hs;rw[YA,YA,e1];by_cases c:(U3 s r).2≠0
  ·rw[PI c,PI c];exact⟨rfl,fun h=>absurd h c⟩
  rw[NI c,NI c,e2 (by simpa using c)];have k:=XeJ (s:=s) (r:=r) (by simpa using c);exact Xfx l _ t h0 (by rw[k.tl];exact hs)
theorem Xde:∀(a:List Rcd) (s:Sta) (b:List Rcd),YA s (a++b)=if (YA s a).2≠0 then (Yd,(YA s a).2) else YA (YA s a).1 b
 |[],s,b=>by simp[YA]
 |r::a,s,b=>by
  rw[cons_append,YA,YA];by_cases c:(U3 s r).2≠0
  ·rw[PI c,PI c,PI c]
  ·rw[NI c,NI c,Xde a]
theorem Vm (h:16<=d.aa.length):X9 d<d.aa.length/\3<=Xt d/\X9 d=2+2*Xt d:=by
 unfold X9 Xt;omega
theorem X1l (h:16<=d.aa.length) {k:Nat} (hk:k<2):2+k*Xt d+Xt d<=X9 d:=by
 have:=(Vm h).2.2;rcases (by omega:k=0\/k=1) with rfl|rfl<;>omega
structure Good (d:ak) (s0:Sta) (l:List Rcd) (s:Sta):Prop where
 lay:16<=d.aa.length
 log:Log d (X9 d:Nat) (d.aa.length:Nat) s0.ep l s.tail
 v0:YN s0=true
 t0:s0.tail=0
 fit:(Xv s0.g s0.rules).length<=Xt d*64
 area:(X0D d (XJ s0.ep)).take (Xv s0.g s0.rules).length=Xv s0.g s0.rules
 bX:XI d (XJ s0.ep)=UI s0.ep s0.ts ((Xv s0.g s0.rules).length:Nat) (XT (Xv s0.g s0.rules):Nat)
 oth:(YZ (XI d (1-XJ s0.ep))).2=true->(YZ (XI d (1-XJ s0.ep))).1.1<s0.ep
 play:YA s0 l=(Uz s 0,0)
theorem X2D (ep:Int):XJ ep<2:=by unfold XJ;omega
theorem XiD (ep:Int):((XJ ep:Nat):Int)=ep%2:=by unfold XJ;omega
theorem X42 (l:List UInt8):okN ((XT l:Nat):Int):=by
 unfold okN XT;omega
theorem Good.slot (h:Good d s0 l s):Vd d (XJ s0.ep)=(s0,true):=by
 obtain⟨v,hr,v1,v2,v3,v4,v5,v6⟩:=Vk.1 h.v0;have hk:=X2D s0.ep;have hm:=XiD s0.ep;have hl:=Vm h.lay;have hf:=h.fit;have hlen:=h.log.len;have hp:=Xbd (a:=s0.ep) (b:=s0.ts) (c:=((Xv s0.g s0.rules).length:Nat)) (e:=(XT (Xv s0.g s0.rules):Nat)) ⟨by omega,by omega⟩ ⟨by omega,by omega⟩ ⟨by omega,by unfold Xt at hf;omega⟩ (X42 _);unfold Vd;rw[X3A h.log.ok (by omega),h.bX,hp];simp only;rw[PI ⟨TV,⟨by simp only;omega,by simp only;omega,by simp only;omega,by simp only;omega,by simp only;omega⟩⟩];unfold X4D;simp only[Int.toNat_natCast];rw[h.area,NI (by simp),XiP h.v0];obtain⟨g,rs,ts,ep,tl⟩:=s0;have:=h.t0;simp only at this;rw[this]
theorem Xjk (hd:DOk d) {k:Nat} (hk:k<d.aa.length) (h:(Vd d k).2=true):(YZ (XI d k)).2=true/\(Vd d k).1.ep=(YZ (XI d k)).1.1:=by
 unfold Vd at h |-;rw[X3A hd hk] at h |-;simp only at h |-;by_cases c:(YZ (XI d k)).2=true/\X3T d k (YZ (XI d k)).1
 ·rw[PI c] at h |-;refine⟨c.1,?_⟩;unfold X4D at h |-;by_cases c2:(XT ((X0D d k).take (YZ (XI d k)).1.2.2.1.toNat):Int)≠(YZ (XI d k)).1.2.2.2
  ·rw[PI c2] at h;simp at h
  rw[NI c2] at h |-;exact(XjP (s:=(X1E ((X0D d k).take (YZ (XI d k)).1.2.2.1.toNat) (YZ (XI d k)).1.2.1 (YZ (XI d k)).1.1).1) (Prod.ext rfl h)).2.2.2.1
 ·rw[NI c] at h;simp at h
theorem Good.pick (h:Good d s0 l s):VW d=(s0,true):=by
 have hs:=h.slot;have hk:=X2D s0.ep;have aC:=h.lay;have ho:(Vd d (1-XJ s0.ep)).2=true->(Vd d (1-XJ s0.ep)).1.ep<s0.ep:=fun q=>by
  obtain⟨q1,q2⟩:=Xjk h.log.ok (by omega) q;rw[q2];exact h.oth q1
 unfold VW X5e;rcases (by omega:XJ s0.ep=0\/XJ s0.ep=1) with q|q
 ·rw[q] at hs ho;simp only[Nat.sub_zero] at ho;rw[hs];rw[NI (fun c=>by
   have:=ho c.1;rcases c.2 with c2|c2
   ·simp at c2
   ·simp only at c2;omega)]
 ·rw[q] at hs ho;simp only[Nat.sub_self] at ho;rw[hs];by_cases c:(Vd d 0).2=false
  ·rw[PI ⟨rfl,.inl c⟩]
  ·have:=ho (by simpa using c);rw[PI ⟨rfl,.inr this⟩]
theorem X60 (h:DOk d) (aL:16<=d.aa.length):Uo d=0:=by
 have hv:=(X1U h.v).2.1;unfold Uo VA;rw[NI (by rw[h.v];simp),NI (by rw[h.on];simp),NI (by rw[NI (by omega)];simp)]
theorem Good.recov (h:Good d s0 l s) (hv:∀r∈l,(X0k r).length<=60000):VF d=(s,0):=by
 unfold VF;rw[NI (by rw[X60 h.log.ok h.lay];simp),h.pick,NI (by simp)];simp only;rw[h.log.scan hv];unfold X47;simp only;rw[h.play,NI (by simp)];rfl
theorem XvL (b:List UInt8):(Vo b).length*64=(YC b).length:=by
 have:=(X2c b).1;unfold Vo;rw[X3f];omega
theorem XcJ (b:List UInt8):∀c∈Vo b,c.length=64:=by
 have:=(X2c b).1;exact XaN _ _ (by omega)
theorem XpC (b:List UInt8):(Vo b).flatten=YC b:=XdK _ _ (by have:=(X2c b).1;omega)
theorem X68 {n:Nat} (h:b.length<=n*64):(Vo b).length<=n:=by
 have h1:=XvL b;have h2:=(X2c b).2.2;omega
theorem X8Y (d:ak):∀c∈X0U d,c.length=64:=fun c hc=>by
 rw[eq_of_mem_replicate hc];rfl
theorem XaB (d:ak):(X0U d).length=d.aa.length-X9 d:=length_replicate
structure SvOk (d:ak) (b:List UInt8) (k:Nat):Prop where
 ok:DOk d
 ag:d.pending=[]
 lay:16<=d.aa.length
 len:d.aa.length<=2000
 k2:k<2
 fit:b.length<=Xt d*64
theorem Xjg (h:SvOk d b k):DOk (sv1 d b k)/\(sv1 d b k).aa=d.aa:=by
 have h1:=X1l h.lay h.k2;have h2:=Vm h.lay;have h3:=X68 h.fit;exact⟨X1h _ _ _ h.ok (by omega) (XcJ b),(X0m _ d _).1⟩
theorem XeC (h:SvOk d b k):DOk (sv2 d b k)/\(sv2 d b k).aa=d.aa:=by
 obtain⟨h1,h2⟩:=Xjg h;have:=h.lay;have:=h.k2;exact⟨X5F h1 (by rw[h2];omega) rfl,h2⟩
theorem Xga (h:SvOk d b k):DOk (sv3 d b k)/\(sv3 d b k).aa.length=d.aa.length/\(sv3 d b k).pending=[]:=by
 obtain⟨h1,h2⟩:=XeC h;obtain⟨m1,m2,m3⟩:=X2E h1;exact⟨m1,m2.trans (CG length h2),m3⟩
theorem XdN (h:SvOk d b k) (hh:(UI ep ts (b.length:Nat) (XT b:Nat)).length=64):DOk (sv4 d b k ep ts)/\(sv4 d b k ep ts).aa.length=d.aa.length:=by
 obtain⟨h1,h2,h3⟩:=Xga h;have:=h.lay;have:=h.k2;exact⟨X5F h1 (by omega) hh,h2⟩
theorem XdM (h:SvOk d b k) (hh:(UI ep ts (b.length:Nat) (XT b:Nat)).length=64):DOk (sv5 d b k ep ts)/\(sv5 d b k ep ts).aa.length=d.aa.length/\(sv5 d b k ep ts).pending=[]:=by
 obtain⟨h1,h2⟩:=XdN (ep:=ep) (ts:=ts) h hh;obtain⟨m1,m2,m3⟩:=X2E h1;exact⟨m1,m2.trans h2,m3⟩
theorem Xdf (h:SvOk d b k):XI (sv3 d b k) k=Yy/\(∀i c,(Vo b)[i]? =some c->XI (sv3 d b k) (2+k*Xt d+i)=c)/\
  ∀j,j<d.aa.length->j≠k->(j<2+k*Xt d\/2+k*Xt d+Xt d<=j)->XI (sv3 d b k) j=XI d j:=by
 obtain⟨h1,h2⟩:=XeC h;have hl:=CG length h2;have hin:=X1l h.lay h.k2;have hlo:=Vm h.lay;have hf:=X68 h.fit;have hk:=h.k2;have e:∀j,j<d.aa.length->XI (sv3 d b k) j=XI (sv2 d b k) j:=fun j hj=>X5B h1 (by omega);have e2:∀j,XI (sv2 d b k) j=if k=j then Yy else XI (sv1 d b k) j:=fun j=>X7f _ _ _ _
 refine⟨by rw[e k (by omega),e2,PI rfl],fun i c hc=> ?_,fun j hj dB jy=> ?_⟩
 ·have hi:i<(Vo b).length:=(GS.1 hc).1;rw[e _ (by omega),e2,NI (by omega)];exact(X2l (Vo b) d (2+k*Xt d) 0).2 i c hc
 ·rw[e j hj,e2,NI (fun q=>dB q.symm)];exact(X2l (Vo b) d (2+k*Xt d) j).1 (by omega)
theorem Xhg (h:SvOk d b k) (hh:(UI ep ts (b.length:Nat) (XT b:Nat)).length=64):XI (sv5 d b k ep ts) k=UI ep ts (b.length:Nat) (XT b:Nat)/\
  (∀i c,(Vo b)[i]? =some c->XI (sv5 d b k ep ts) (2+k*Xt d+i)=c)/\
  ∀j,j<d.aa.length->j≠k->(j<2+k*Xt d\/2+k*Xt d+Xt d<=j)->XI (sv5 d b k ep ts) j=XI d j:=by
 obtain⟨h1,h2⟩:=XdN (ep:=ep) (ts:=ts) h hh;obtain⟨v1,v2,v3⟩:=Xdf h;have hin:=X1l h.lay h.k2;have hlo:=Vm h.lay;have hf:=X68 h.fit;have hk:=h.k2;have e:∀j,j<d.aa.length->XI (sv5 d b k ep ts) j=XI (sv4 d b k ep ts) j:=fun j hj=>X5B h1 (by omega);have e2:∀j,XI (sv4 d b k ep ts) j=if k=j then UI ep ts (b.length:Nat) (XT b:Nat) else XI (sv3 d b k) j:=fun j=>X7f _ _ _ _
 refine⟨by rw[e k (by omega),e2,PI rfl],fun i c hc=> ?_,fun j hj dB jy=> ?_⟩
 ·have hi:i<(Vo b).length:=(GS.1 hc).1;rw[e _ (by omega),e2,NI (by omega)];exact v2 i c hc
 ·rw[e j hj,e2,NI (fun q=>dB q.symm)];exact v3 j hj dB jy
theorem Xau (h:SvOk d b k) (hh:(UI ep ts (b.length:Nat) (XT b:Nat)).length=64):DOk (Yc (sv5 d b k ep ts) (X9 d) (X0U d))/\DOk (sv6 d b k ep ts)/\(sv6 d b k ep ts).aa.length=d.aa.length/\(sv6 d b k ep ts).pending=[]:=by
 obtain⟨h1,h2,h3⟩:=XdM (ep:=ep) (ts:=ts) h hh;have hlo:=Vm h.lay;have hw:=X1h (X0U d) (sv5 d b k ep ts) (X9 d) h1 (by rw[XaB];omega) (X8Y d);obtain⟨m1,m2,m3⟩:=X2E hw;exact⟨hw,m1,by rw[show (sv6 d b k ep ts).aa.length=_ from m2,(X0m _ _ _).1];exact h2,m3⟩
theorem Xm7 (h:SvOk d b k) (hh:(UI ep ts (b.length:Nat) (XT b:Nat)).length=64):
  (∀j,j<X9 d->XI (sv6 d b k ep ts) j=XI (sv5 d b k ep ts) j)/\∀j,X9 d<=j->j<d.aa.length->XI (sv6 d b k ep ts) j=Yy:=by
 obtain⟨w1,w2,w3,w4⟩:=Xau (ep:=ep) (ts:=ts) h hh;have hlo:=Vm h.lay;have uT:=(XdM (ep:=ep) (ts:=ts) h hh).2.1;have e:∀j,j<d.aa.length->XI (sv6 d b k ep ts) j=XI (Yc (sv5 d b k ep ts) (X9 d) (X0U d)) j:=fun j hj=>X5B w1 (by rw[(X0m _ _ _).1];omega);refine⟨fun j hj=> ?_,fun j h1 h2=> ?_⟩
 ·rw[e j (by omega)];exact(X2l (X0U d) (sv5 d b k ep ts) (X9 d) j).1 (.inl hj)
 ·rw[e j h2];have:=(X2l (X0U d) (sv5 d b k ep ts) (X9 d) 0).2 (j-X9 d) Yy (by unfold X0U;rw[getElem?_replicate,PI (by omega)])
  rwa [show X9 d+(j-X9 d)=j by omega] at this
theorem XmB (he:DOk e) (aL:16<=e.aa.length) (hk:k<2) (hf:b.length<=Xt e*64) (hv:∀i c,(Vo b)[i]? =some c->XI e (2+k*Xt e+i)=c):(X0D e k).take b.length=b:=by
 have hin:=X1l aL hk;have hlo:=Vm aL;have hp:=X68 hf;have h2:=(X2c b).2.1;unfold X0D;obtain⟨r,hr⟩:∃r,Xt e=(Vo b).length+r:=⟨Xt e-(Vo b).length,by omega⟩
 conv=>lhs;rw[hr,X6V]
 rw[<-hr,XaR he (Vo b) (2+k*Xt e) (by omega) hv,XpC,take_append_of_le_length h2];unfold YC;rw[take_append_of_le_length (Nat.le_refl _),take_length]
theorem Xh8 (n:Nat):(replicate n Yy).flatten=replicate (n*64) 0:=by
 unfold Yy;rw[flatten_replicate_replicate]
theorem Xs6 (he:DOk e) (hp:e.pending=[]) (aL:16<=e.aa.length) (hl:e.aa.length<=2000) (h0:0<=ep) (h1:ep<=1000000000000000) (hv:∀j,X9 e<=j->j<e.aa.length->XI e j=Yy):
  Log e (X9 e:Nat) (e.aa.length:Nat) ep [] 0:=by
 have hlo:=Vm aL;refine⟨he,⟨hl,by rw[hp];simp⟩,hp,hl,by omega,by omega,Int.le_refl _,h0,h1,rfl,by omega,?_,rfl⟩;have hs:=XaR he (replicate (e.aa.length-X9 e) Yy) (X9 e) (by rw[length_replicate];omega) fun i b hb=>by
  rw[getElem?_replicate] at hb;split at hb
  ·simp only[Option.some.injEq] at hb;subst hb;exact hv _ (by omega) (by omega)
  ·cases hb
 rw[length_replicate,Xh8] at hs;unfold Y9;rw[Int.toNat_natCast,show((e.aa.length:Int)-(X9 e:Nat)).toNat=e.aa.length-X9 e by omega,hs];simp only[XZ,nil_append,length_nil,Nat.sub_zero]
theorem Xk9 (h:SvOk d (Xv s.g s.rules) (XJ ep)) (hv:YN ⟨s.g,s.rules,s.ts,ep,0⟩=true) (ho:(YZ (XI d (1-XJ ep))).2=true->(YZ (XI d (1-XJ ep))).1.1<ep):
  Good (sv6 d (Xv s.g s.rules) (XJ ep) ep s.ts) ⟨s.g,s.rules,s.ts,ep,0⟩ [] ⟨s.g,s.rules,s.ts,ep,0⟩:=by
 obtain⟨v,hr,v1,v2,v3,v4,v5,v6⟩:=Vk.1 hv;simp only at v hr v1 v2 v3 v4;have hfit:=h.fit;have hlen:=h.len;have bD:Xt d<=2000:=by unfold Xt;omega
 have hh:(UI ep s.ts ((Xv s.g s.rules).length:Nat) (XT (Xv s.g s.rules):Nat)).length=64:=X6h fun x hx=>by
  have:=X42 (Xv s.g s.rules);simp only[mem_cons,mem_nil_iff,or_false] at hx;rcases hx with rfl|rfl|rfl|rfl
  ·omega
  ·omega
  ·omega
  ·exact this
 obtain⟨w1,w2,w3,w4⟩:=Xau (ep:=ep) (ts:=s.ts) h hh;obtain⟨x1,x2⟩:=Xm7 (ep:=ep) (ts:=s.ts) h hh;obtain⟨y1,y2,y3⟩:=Xhg (ep:=ep) (ts:=s.ts) h hh;have hlo:=Vm h.lay;have hin:=X1l h.lay h.k2;have hk:=h.k2;have hpf:=X68 h.fit;have hs:Xt (sv6 d (Xv s.g s.rules) (XJ ep) ep s.ts)=Xt d:=by unfold Xt;rw[w3]
 have hg:X9 (sv6 d (Xv s.g s.rules) (XJ ep) ep s.ts)=X9 d:=by unfold X9;rw[hs]
 have aL:=h.lay;generalize sv6 d (Xv s.g s.rules) (XJ ep) ep s.ts=e at*;refine⟨by omega,Xs6 w2 w4 (by omega) (by omega) (show(0:Int)<=ep by omega) v4 (fun j h1 h2=>x2 j (by omega) (by omega)),hv,rfl,by rw[hs];exact hfit,?_,?_,?_,rfl⟩
 ·show(X0D e (XJ ep)).take (Xv s.g s.rules).length=Xv s.g s.rules;refine XmB w2 (by omega) hk (by rw[hs];exact hfit) fun i c hc=> ?_;have hi:i<(Vo (Xv s.g s.rules)).length:=(GS.1 hc).1;rw[hs,x1 _ (by omega)];exact y2 i c hc
 ·show XI e (XJ ep)=_;rw[x1 _ (by omega),y1]
 ·show(YZ (XI e (1-XJ ep))).2=true->_;rw[x1 _ (by omega),y3 _ (by omega) (by omega) (by omega)];exact ho
theorem Good.kept (h:Good d s0 l s):YN s=true/\s.ep=s0.ep/\0<=s.tail/\s.tail<=262144:=by
 have k:=XbH l s0 h.v0 (by rw[h.play]);rw[h.play] at k;have h1:=h.log.tl;have h2:=h.log.room;have h3:=h.log.len;have ht:0<=s.tail/\s.tail<=262144:=by omega
 refine⟨?_,k.ep,ht.1,ht.2⟩;have:=k.v
 rwa [show (Uz s 0,(0:Int)).1=Uz s 0 from rfl,XeP ⟨Int.le_refl _,by omega⟩ ht] at this
theorem XqA (h:Log d f t ep l tail) (he:(Um d f t ep tail m).2.2=0) {j:Nat} (hj:(j:Int)<f):XI (Um d f t ep tail m).1 j=XI d j:=by
 rw[X8K] at he;obtain⟨s1,s2,s3,s4⟩:=X4T he;obtain⟨g1,g2,g3⟩:=Xcn h.few he;have ht:=h.tl;have mT:=h.t24;have hft:=h.ft;obtain⟨k1,k2,k3⟩:=X6R (A:=XZ ep m) h.ok h.f0 h.ft (by omega) (by omega) s3;have jx:=X1h (X0V d f t tail (XZ ep m)) d (f.toNat+tail.toNat/64) h.ok k1 k2;rw[g3,X5B jx (by rw[(X0m _ d _).1];omega)];exact(X2l _ d _ j).1 (.inl (by omega))
theorem Good.logged (h:Good d s0 l s) (he:(Ys d s m).2.2=0):Good (Ys d s m).1 s0 (l++m) (Ys d s m).2.1/\(YA s m).2=0/\
  (Um d (X9 d:Nat) (d.aa.length:Nat) s0.ep s.tail m).2.2=0/\(Ys d s m).2.1=Uz (YA s m).1 (Um d (X9 d:Nat) (d.aa.length:Nat) s0.ep s.tail m).2.1:=by
 obtain⟨hv,cJ,iT,lf⟩:=h.kept;unfold Ys at he |-;rw[NI (by rw[X60 h.log.ok h.lay];simp),NI (by simp[hv])] at he |-;by_cases c:(YA s m).2≠0
 ·rw[PI c] at he;exact absurd he c
 rw[NI c] at he |-;have c:(YA s m).2=0:=by simpa using c
 rw[cJ] at he |-;simp only at he |-;by_cases c2:(Um d (X9 d:Nat) (d.aa.length:Nat) s0.ep s.tail m).2.2≠0
 ·rw[PI c2] at he;exact absurd he c2
 rw[NI c2];have c2:(Um d (X9 d:Nat) (d.aa.length:Nat) s0.ep s.tail m).2.2=0:=by simpa using c2
 have hL:=h.log.app c2;have hl:=h.log.app_len c2;have pK:=fun{j:Nat} (hj:(j:Int)<(X9 d:Nat))=>XqA h.log c2 hj;have bf:=Xfx m s 0 ⟨Int.le_refl _,by omega⟩ ⟨iT,lf⟩;refine⟨?_,c,c2,rfl⟩;generalize (Um d (X9 d:Nat) (d.aa.length:Nat) s0.ep s.tail m).1=e at*;generalize (Um d (X9 d:Nat) (d.aa.length:Nat) s0.ep s.tail m).2.1=tl at*;have hs:Xt e=Xt d:=by unfold Xt;rw[hl]
 have hg:X9 e=X9 d:=by unfold X9;rw[hs]
 have hlo:=Vm h.lay;have hk:=X2D s0.ep;have hin:=X1l h.lay hk;have aL:=h.lay;refine⟨by omega,by rw[hg,hl];exact hL,h.v0,h.t0,by rw[hs];exact h.fit,?_,by rw[pK (by omega)];exact h.bX,by rw[pK (by omega)];exact h.oth,?_⟩
 ·rw[show X0D e (XJ s0.ep)=X0D d (XJ s0.ep) from ?_]
  ·exact h.area
  ·unfold X0D;rw[hs];exact(X6b h.log.ok hL.ok hl _ _ (by omega) fun j h1 h2=>(pK (by omega)).symm).symm
 ·rw[Xde,h.play,NI (by simp)];simp only;exact Prod.ext (bf.2 c) (bf.1.trans c)
theorem XkF:(YZ Yy).2=false:=by decide+kernel
theorem XdS (h1:16<=n) (h2:n<=2000):DOk (Uy n).1/\(Uy n).1.pending=[]/\(Uy n).1.aa.length=n.toNat/\∀k,k<n.toNat->XI (Uy n).1 k=Yy:=by
 have e:(Uy n).1=⟨replicate n.toNat Yy,[],true⟩:=by unfold Uy;rw[PI ⟨by omega,by omega⟩]
 rw[e];refine⟨⟨?_,rfl⟩,rfl,length_replicate,fun k hk=> ?_⟩
 ·unfold Ux;simp only[decide_eq_true_eq,length_replicate];exact⟨by omega,by omega,by simp,fun s hs=>by rw[eq_of_mem_replicate hs];rfl,fun w hw=>by simp at hw⟩
 ·unfold XI;simp only[length_nil,Vx];rw[getElem?_replicate,PI hk];rfl
theorem XoI:(Xv UA []).length=4:=by decide+kernel
theorem Xft (h1:16<=n) (h2:n<=2000):(Ve n).2.2=0/\Good (Ve n).1 (Ve n).2.1 [] (Ve n).2.1/\(Ve n).1.aa.length=n.toNat:=by
 obtain⟨n1,n2,n3,n4⟩:=XdS h1 h2;have hs:3<=Xt (Uy n).1:=by unfold Xt;omega
 have bD:=XoI;unfold Ve;rw[NI (by unfold VA;rw[NI (by omega)];simp)];unfold UR;simp only;rw[NI (by omega)];have aV:SvOk (Uy n).1 (Xv UA []) (XJ 1):=⟨n1,n2,by omega,by omega,by decide,by omega⟩
 have hst:YN ⟨UA,[],0,1,0⟩=true:=by decide+kernel
 have hg:=Xk9 (s:=⟨UA,[],0,0,0⟩) (ep:=1) aV hst (fun q=>by
  rw[show 1-XJ 1=0 from rfl,n4 0 (by omega),XkF] at q;cases q)
 have hh:(UI 1 0 ((Xv UA []).length:Nat) (XT (Xv UA []):Nat)).length=64:=by decide+kernel
 exact⟨rfl,hg,by rw[(Xau (ep:=1) (ts:=0) aV hh).2.2.1];exact n3⟩
end Go.Fw

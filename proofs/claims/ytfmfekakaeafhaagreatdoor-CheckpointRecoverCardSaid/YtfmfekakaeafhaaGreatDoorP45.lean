/- Records played keep a state valid; a disk that holds a state, and what is recovered from it; plain Lean. -/
import Derived.KernelRfl
import Derived.Test.YtfmfekakaeafhaaGreatDoorP38
import Derived.Test.YtfmfekakaeafhaaGreatDoorP40
set_option linter.all false
set_option maxHeartbeats 64000000
namespace Go.Fw
open Go List
open List renaming length->J
theorem XqA {l:List Rul}{r:Rul} (h:SchV l) (hr:Uu r=0) (hh:XF YW l r=false) (hl:J l≠40):SchV (UY ltR YW l r [r]):=by
 refine⟨fun x hx=> ?_,Xb1 X6k h.st (.inr ⟨r,rfl,rfl⟩),?_⟩
 ·rcases X9N hx with hx|hx
  ·grind
  ·exact h.ok x hx
 ·rw[X5u hh];have:=h.len
  grind
theorem Xxg {l:List Rul}{r:Rul} (h:SchV l):SchV (UX YW l r):=
 ⟨fun x hx=>h.ok x (Xbq hx).1,Xcj h.st,Nat.le_trans (length_filter_le _ _) h.len⟩
def Xrf {l:List Rul}{r:Rul} (h:(VG l r).2=0):SchV (VG l r).1:=by
 grind [VG,XqA,X7J]
def Xto {l:List Rul}{r:Rul} (h:(X0a l r).2=0):SchV (X0a l r).1:=by
 grind [X0a,Xxg,X7J]
variable{r:Rcd}{b:List UInt8}{d e:ak}{ep n t ts:Int}{k:Nat}{l m:List Rcd}{s s0:Sta}
def XzH (h:UO r=0):0<=r.ts/\r.ts<=1000000000000000:=by
 grind [UO]
structure KeptS (s t:Sta):Prop where
 v:YH t=true
 ep:t.ep=s.ep
 tl:t.tail=s.tail
def Xhp (h:(Ue s r).2=0):KeptS s (Ue s r).1:=by
 unfold Ue at h |-;by_cases c1:YH s=false
 ·grind
 rw[NI c1] at h |-;have hv:YH s=true:=IE
 obtain⟨v,hr,v1,v2,v3,v4,v5,v6⟩:=Vz.1 hv;by_cases c2:UO r≠0
 ·grind
 rw[NI c2] at h |-;obtain⟨t1,t2⟩:=XzH (r:=r) Ir;by_cases c3:(r.kind=3/\r.ts<s.ts)\/(r.kind≠3/\r.ts≠s.ts+1)
 ·grind
 rw[NI c3] at h |-;by_cases c4:r.kind=1
 ·rw[PI c4] at h |-;unfold ofA at h |-;by_cases c5:(UW s.g r.changes).2.2≠0
  ·grind
  rw[NI c5];exact⟨Vz.2 ⟨Xmu (by simpa using c5),hr,t1,t2,v3,v4,v5,v6⟩,rfl,rfl⟩
 rw[NI c4] at h |-;by_cases c5:r.kind=2
 ·rw[PI c5] at h |-;by_cases c6:r.off=true
  ·rw[PI c6] at h |-;unfold ofR at h |-;by_cases c7:(X0a s.rules r.rule).2≠0
   ·grind
   rw[NI c7];exact⟨Vz.2 ⟨v,Xto (by simpa using c7),t1,t2,v3,v4,v5,v6⟩,rfl,rfl⟩
  ·rw[NI c6] at h |-;unfold ofR at h |-;by_cases c7:(VG s.rules r.rule).2≠0
   ·grind
   rw[NI c7];exact⟨Vz.2 ⟨v,Xrf (by simpa using c7),t1,t2,v3,v4,v5,v6⟩,rfl,rfl⟩
 ·rw[NI c5];exact⟨hv,rfl,rfl⟩
theorem XgX (h0:0<=t/\t<=262144) (hs:0<=s.tail/\s.tail<=262144):YH (UD s t)=YH s:=by
 grind [YH,UD]
def XpF (h0:0<=t/\t<=262144) (hs:0<=s.tail/\s.tail<=262144):(Ue (UD s t) r).2=(Ue s r).2/\((Ue s r).2=0->(Ue (UD s t) r).1=UD (Ue s r).1 t):=by
 unfold Ue;rw[XgX h0 hs];by_cases c1:YH s=false<;>grind [YH,UD,ofA,ofR]
def Xaz:∀(l:List Rcd) (s:Sta),YH s=true->(Yf s l).2=0->KeptS s (Yf s l).1
 |[],s,hv,_=>⟨hv,rfl,rfl⟩
 |r::l,s,hv,h=>by
  rw[Yf] at h |-;by_cases c:(Ue s r).2≠0
  ·grind
  rw[NI c] at h |-;have k:=Xhp (s:=s) (r:=r) Ju;have k2:=Xaz l _ k.v h;exact⟨k2.v,k2.ep.trans k.ep,k2.tl.trans k.tl⟩
def XcF:∀(l:List Rcd) (s:Sta) (t:Int),0<=t/\t<=262144->0<=s.tail/\s.tail<=262144->(Yf (UD s t) l).2=(Yf s l).2/\((Yf s l).2=0->(Yf (UD s t) l).1=UD (Yf s l).1 t)
 |[],s,t,_,_=>⟨rfl,fun _=>rfl⟩
 |r::l,s,t,h0,hs=>by
  obtain⟨e1,e2⟩:=XpF (r:=r) h0 hs;rw[Yf,Yf,e1];by_cases c:(Ue s r).2≠0
  ·grind
  rw[NI c,NI c,e2 Ju];have k:=Xhp (s:=s) (r:=r) Ju;exact XcF l _ t h0 (by rw[k.tl];exact hs)
theorem Xa8:∀(a:List Rcd) (s:Sta) (b:List Rcd),Yf s (a++b)=if (Yf s a).2≠0 then (XT,(Yf s a).2) else Yf (Yf s a).1 b
 |[],s,b=>by simp[Yf]
 |r::a,s,b=>by
  rw[cons_append,Yf,Yf];by_cases c:(Ue s r).2≠0
  ·grind
  ·rw[NI c,NI c,Xa8 a]
def X0m (h:16<=J d.aa):Xo d<J d.aa/\3<=Xx d/\Xo d=2+2*Xx d:=by
 grind [Xo,Xx]
def X1L (h:16<=J d.aa) {k:Nat} (hk:k<2):2+k*Xx d+Xx d<=Xo d:=by
 have:=(X0m h).2.2;rcases (by omega:k=0\/k=1) with rfl|rfl<;>omega
def XcD (hd:DOk d) (he:DOk e) (hl:J e.aa=J d.aa) (aQ:16<=J d.aa) {k:Nat} (hk:k<2) (hv:∀j,j=k\/(2+k*Xx d<=j/\j<2+k*Xx d+Xx d)->Yi d j=Yi e j):Vb e k=Vb d k:=by
 have hs:Xx e=Xx d:=Jv
 have hin:=X1L aQ hk;have hlo:=X0m aQ;have ha:Vm e k=Vm d k:=by
  grind [Vm,X6B]
 grind [X6C,X2Q,X4Z,Vb]
structure Good (d:ak) (s0:Sta) (l:List Rcd) (s:Sta):Prop where
 lay:16<=J d.aa
 log:Log d (Xo d:Nat) (J d.aa:Nat) s0.ep l s.tail
 v0:YH s0=true
 t0:s0.tail=0
 fit:J (XQ s0.g s0.rules)<=Xx d*64
 area:(Vm d (U8 s0.ep)).take (J (XQ s0.g s0.rules))=XQ s0.g s0.rules
 bS:Yi d (U8 s0.ep)=Vj s0.ep s0.ts (J (XQ s0.g s0.rules):Nat) (XP (XQ s0.g s0.rules):Nat)
 oth:(UM (Yi d (1-U8 s0.ep))).2=true->(UM (Yi d (1-U8 s0.ep))).1.1<s0.ep
 play:Yf s0 l=(UD s 0,0)
def X5O (ep:Int):U8 ep<2:=Jh
def Xv0 (ep:Int):((U8 ep:Nat):Int)=ep%2:=Jh
def X7z (l:List UInt8):okN ((XP l:Nat):Int):=by
 grind [okN,XP]
def Good.slot (h:Good d s0 l s):Vb d (U8 s0.ep)=(s0,true):=by
 obtain⟨v,hr,v1,v2,v3,v4,v5,v6⟩:=Vz.1 h.v0;have hk:=X5O s0.ep;have hm:=Xv0 s0.ep;have hl:=X0m h.lay;have hf:=h.fit;have hlen:=h.log.len;have hp:=Xe3 (a:=s0.ep) (b:=s0.ts) (c:=(J (XQ s0.g s0.rules):Nat)) (e:=(XP (XQ s0.g s0.rules):Nat)) ⟨Oa,Oa⟩ ⟨Oa,Oa⟩ ⟨Oa,Oa⟩ (X7z _);unfold Vb;rw[X6C h.log.ok Oa,h.bS,hp];simp only;rw[PI ⟨TV,⟨Od,Od,Od,Od,Od⟩⟩];unfold X4Z;simp only[Int.toNat_natCast];rw[h.area,NI Oc,Xz9 h.v0];obtain⟨g,rs,ts,ep,tl⟩:=s0;have:=h.t0
 grind
def XwW (hd:DOk d) {k:Nat} (hk:k<J d.aa) (h:(Vb d k).2=true):(UM (Yi d k)).2=true/\(Vb d k).1.ep=(UM (Yi d k)).1.1:=by
 unfold Vb at h |-;rw[X6C hd hk] at h |-;simp only at h |-;by_cases c:(UM (Yi d k)).2=true/\X2Q d k (UM (Yi d k)).1
 ·rw[PI c] at h |-;refine⟨c.1,?_⟩;unfold X4Z at h |-;by_cases c2:(XP ((Vm d k).take (UM (Yi d k)).1.2.2.1.toNat):Int)≠(UM (Yi d k)).1.2.2.2
  ·grind
  rw[NI c2] at h |-;exact(Xp6 (s:=(X1t ((Vm d k).take (UM (Yi d k)).1.2.2.1.toNat) (UM (Yi d k)).1.2.1 (UM (Yi d k)).1.1).1) (Prod.ext rfl h)).2.2.2.1
 grind
theorem Good.pick (h:Good d s0 l s):VD d=(s0,true):=by
 have hs:=h.slot;have hk:=X5O s0.ep;have aD:=h.lay;have ho:(Vb d (1-U8 s0.ep)).2=true->(Vb d (1-U8 s0.ep)).1.ep<s0.ep:=fun q=>by
  obtain⟨q1,q2⟩:=XwW h.log.ok Oa q;rw[q2];exact h.oth q1
 grind [VD,X38,U8]
def X8a (h:DOk d) (aQ:16<=J d.aa):UH d=0:=by
 have hv:=(X2j h.v).2.1;unfold UH X0x;rw[NI (by rw[h.v];simp),NI (by rw[h.on];simp),NI II]
def Good.recov (h:Good d s0 l s) (hv:∀r∈l,J (X0e r)<=60000):Vs d=(s,0):=by
 unfold Vs;rw[NI (by rw[X8a h.log.ok h.lay];simp),h.pick,NI Oc];simp only;rw[h.log.scan hv];unfold X2q;simp only;rw[h.play,NI Oc];rfl
open Go Go.Proofs Tryz
open List renaming length->J
set_option maxRecDepth 100000
def XsI {a:Gra×Nat×Int} (h:(ofA s t a).2≠0):(ofA s t a).1=XT:=by
 unfold ofA at h |-;by_cases q:a.2.2≠0
 ·rw[PI q]
 ·rw[NI q] at h;simp at h
def Xi7 {a:List Rul×Int} (h:(ofR s t a).2≠0):(ofR s t a).1=XT:=by
 unfold ofR at h |-;by_cases q:a.2≠0
 ·rw[PI q]
 ·rw[NI q] at h;simp at h
def XwA (h:(Ue s r).2≠0):(Ue s r).1=XT:=by
 unfold Ue at h |-;by_cases c1:YH s=false
 ·rw[PI c1]
 rw[NI c1] at h |-;by_cases c2:UO r≠0
 ·rw[PI c2]
 rw[NI c2] at h |-;by_cases c3:(r.kind=3/\r.ts<s.ts)\/(r.kind≠3/\r.ts≠s.ts+1)
 ·rw[PI c3]
 rw[NI c3] at h |-;by_cases c4:r.kind=1
 ·rw[PI c4] at h |-;exact XsI h
 rw[NI c4] at h |-;by_cases c5:r.kind=2
 ·rw[PI c5] at h |-;by_cases c6:r.off=true
  ·rw[PI c6] at h |-;exact Xi7 h
  ·rw[NI c6] at h |-;exact Xi7 h
 rw[NI c5] at h;simp at h
def Xfl (h:YH s=true):StaHold (Ue s r).1:=by
 by_cases q:(Ue s r).2=0
 ·have:=(Vz.1 (Xhp q).v)
  exact⟨X49 this.1,by have:=this.2.1.len;omega⟩
 ·rw[XwA q];exact⟨X3A,Oc⟩
def Xwp (s:Sta) (r:Rcd) (hs:StaHold s) (hr:X0z r):Con prog 63 [] [Xz s,Um r] [] (.tup [Xz (Ue s r).1,ai (Ue s r).2]):=by
 refine ZCt func63 ntmps63 fun E=> ?_;have hv:=Xbx s hs;have hc:=XdC r hr;have aV:Xz XT= .agg [.d (.sl 3 []),.d (.sl 5 []),ai 0,ai 0,.d (.sl 6 []),ai 0,ai 0,ai 0]:=rfl;by_cases q1:YH s=true
 case neg=>
  have q1:YH s=false:=ID
  have e:Ue s r=(XT,19):=by unfold Ue;rw[PI q1]
  rw[e];simp only[aV];rw[q1] at hv;clear e q1 hs hr hc aV;obtain⟨⟨ns,es,nn,ne⟩,rs,ts,ep,tail⟩:=s;obtain⟨kd,rts,l,⟨k,n,name,key,src,dst⟩,off⟩:=r;simp only[Xz,Um] at*;refine Y5 ?_;exact QCe
 rw[q1] at hv;obtain⟨v1,v2,t0,t1,_⟩:=Vz.1 q1;by_cases q2:UO r=0
 case neg=>
  have e:Ue s r=(XT,UO r):=by unfold Ue;rw[NI OS,PI q2]
  rw[e];simp only[aV];clear e q1 hs hr v1 v2 aV;generalize UO r=x at*;obtain⟨⟨ns,es,nn,ne⟩,rs,ts,ep,tail⟩:=s;obtain⟨kd,rts,l,⟨k,n,name,key,src,dst⟩,off⟩:=r;simp only[Xz,Um] at*;refine X04 ?_;exact QCe
 rw[q2] at hc;have hg:=X49 v1;have hap:=Xp2 s.g r.changes hg hr.1;have had:=XrF s.rules r.rule hs.rl;have bS:=Xtq s.rules r.rule hs.rl;have e0:Ue s r=if (r.kind=3/\r.ts<s.ts)\/(r.kind≠3/\r.ts≠s.ts+1) then (XT,26) else if r.kind=1 then ofA s r.ts (UW s.g r.changes) else if r.kind=2 then (if r.off=true then ofR s r.ts (X0a s.rules r.rule) else ofR s r.ts (VG s.rules r.rule)) else (s,0):=by
  unfold Ue;rw[NI OS,NI Il]
 rw[e0];clear e0 q1 q2 hs hr v1 v2 hg;generalize UW s.g r.changes=A at*;generalize VG s.rules r.rule=B at*;generalize X0a s.rules r.rule=C at*;obtain⟨⟨an,ae,rY,rZ⟩,a2,a3⟩:=A;obtain⟨b1,b2⟩:=B;obtain⟨c1,c2⟩:=C;obtain⟨⟨ns,es,nn,ne⟩,rs,ts,ep,tail⟩:=s;obtain⟨kd,rts,l,⟨k,n,name,key,src,dst⟩,off⟩:=r;simp only[Xz,Um,XZ,Yu,X6O] at*;by_cases q3:kd=3
 ·subst q3;by_cases q4:rts<ts
  ·rw[PI (.inl ⟨rfl,q4⟩)];simp only[XT,map_nil];refine X4 ?_;refine W8_ ?_;refine Qu ?_;refine Qt ?_;refine XA ?_;exact QCe
  ·rw[NI Ou,NI Oc,NI Oc];simp only;have vJ:¬(3:Int)=1:=by decide
   have vK:¬(3:Int)=2:=Oi
   exact QEe
 by_cases q4:rts=ts+1
 case neg=>
  rw[PI (.inr ⟨q3,q4⟩)];simp only[XT,map_nil];have nS:rts≠ts+1:=q4;refine X4 ?_;refine YA ?_;exact QCe
 rw[NI (by rintro(⟨h,_⟩|⟨_,h⟩);exact q3 h;exact h q4)];by_cases q5:kd=1
 ·subst q5;rw[PI rfl];unfold ofA;simp only;by_cases q6:a3=0
  ·subst q6;rw[NI Oc];simp only;clear had bS;exact QEe
  ·rw[PI q6];simp only[XT,map_nil];clear had bS;refine QYa ?_;refine U7 ?_;exact QCe
 rw[NI q5];by_cases q7:kd=2
 case neg=>
  rw[NI q7];simp only;clear hap had bS;exact QEe
 subst q7;rw[PI rfl];unfold ofR;clear hap;cases off with
 |true=>
  rw[PI rfl];simp only;by_cases q6:c2=0
  ·subst q6;rw[NI Oc];simp only;refine QYa ?_;refine X0r ?_;exact QDe
  ·rw[PI q6];simp only[XT,map_nil];refine QYa ?_;refine X0r ?_;exact QCe
 |false=>
  rw[NI Oc];simp only;by_cases q6:b2=0
  ·subst q6;rw[NI Oc];simp only;refine QYa ?_;refine Qla ?_;exact QDe
  ·rw[PI q6];simp only[XT,map_nil];refine QYa ?_;refine Qla ?_;exact QCe
theorem Xpg (s:Sta):Xz s= .agg [.d (.sl 3 (s.g.nodes.map Xi)),.d (.sl 5 (s.g.aj.map Xk)),ai s.g.nn,ai s.g.ne,.d (.sl 6 (s.rules.map Xh)),ai s.ts,ai s.ep,ai s.tail]:=rfl
def X9j (s:Sta) (l:List Rcd) (hs:StaHold s) (hl:J l<=9223372036854775807) (hr:∀r∈l,X0z r):Con prog 34 [] [Xz s,.d (.sl 10 (l.map Y6))] [] (.tup [Xz (Yf s l).1,ai (Yf s l).2]):=by
 refine ZCt func34 ntmps34 fun E=> ?_;have hlm:J (l.map Y6)=J l:=Oc
 have aV:Xz XT= .agg [.d (.sl 3 []),.d (.sl 5 []),ai 0,ai 0,.d (.sl 6 []),ai 0,ai 0,ai 0]:=rfl;generalize hG:Yf s l=G;rw[Xpg];refine XD ?_
 refine Xl (ι:=Nat×Sta) (fun q=>q.1<=J l/\Yf q.2 (l.drop q.1)=G/\StaHold q.2) (fun q=>⟨29,[(1,.d (.sl 10 (l.map Y6))),(2,.ptr 100 0),(4,.ptr 101 0),(10,.d (.sl 10 (l.map Y6))),(11,ai (J (l.map Y6))),(12,ai q.1)],[(100,.box [.d (.sl 3 (q.2.g.nodes.map Xi)),.d (.sl 5 (q.2.g.aj.map Xk)),ai q.2.g.nn,ai q.2.g.ne,.d (.sl 6 (q.2.rules.map Xh)),ai q.2.ts,ai q.2.ep,ai q.2.tail]),(101,.box [aq,aq,ai 0,ai 0,aq,ai 0,ai 0,ai 0])]⟩) (fun q=>J l-q.1) (0,s) ⟨Nat.zero_le _,OX,hs⟩
  (ZL0) ?_
 rintro⟨i,x⟩ ⟨hi,hg,hx⟩;simp only at hi hg hx;by_cases hil:i<J l
 case neg=>
  have hn:¬(i:Int)<J (l.map Y6):=Oa
  rw[drop_of_length_le Oa,show Yf x []=(x,0) from rfl] at hg;subst hg;obtain⟨⟨ns,es,nn,ne⟩,rs,ts,ep,tail⟩:=x;simp only[Xz];refine XK ?_;exact QBe
 have hn:(i:Int)<J (l.map Y6):=Oa
 obtain⟨r,dM⟩:=Xn (l:=l) hil;have hrc:(l.map Y6)[i]? =some (Y6 r):=XC dM;have hp:=Xwp x r hx (hr r (mem_of_getElem? dM));have dP:l.drop i=r::l.drop (i+1):=by
  obtain⟨h1,h2⟩:=GS.1 dM;rw[drop_eq_getElem_cons h1,h2]
 rw[dP,show Yf x (r::l.drop (i+1))=if (Ue x r).2≠0 then (XT,(Ue x r).2) else Yf (Ue x r).1 (l.drop (i+1)) from rfl] at hg;by_cases q:(Ue x r).2=0
 case neg=>
  rw[PI q] at hg;subst hg;simp only[aV];generalize (Ue x r).2=e at*;generalize (Ue x r).1=y at*;clear hx aV dP dM;obtain⟨⟨yn,ye,ck,cm⟩,yr,yt,yp,yl⟩:=y;obtain⟨⟨ns,es,nn,ne⟩,rs,ts,ep,tail⟩:=x;obtain⟨kd,rts,cl,⟨k,n,name,key,src,dst⟩,off⟩:=r;simp only[Xz,Um,Y6] at*;refine QW ?_;exact QAe
 exact Yt13
theorem XxY (b:List UInt8):J (dV b)*64=J (YI b):=by
 grind [X2i,dV,X3F]
def XuQ (b:List UInt8):∀c∈dV b,J c=64:=by
 have:=(X2i b).1;exact Xdr _ _ Oa
theorem XtS (b:List UInt8):(dV b).flatten=YI b:=XeF _ _ (by grind [X2i])
def X8x {n:Nat} (h:J b<=n*64):J (dV b)<=n:=by
 grind [XxY,X2i]
theorem XuH (d:ak):∀c∈X5h d,J c=64:=fun c hc=>by
 rw[eq_of_mem_replicate hc];rfl
theorem XkD (d:ak):J (X5h d)=J d.aa-Xo d:=length_replicate
structure SvOk (d:ak) (b:List UInt8) (k:Nat):Prop where
 ok:DOk d
 af:d.pending=[]
 lay:16<=J d.aa
 len:J d.aa<=2000
 k2:k<2
 fit:J b<=Xx d*64
def Xrs (h:SvOk d b k):DOk (sv1 d b k)/\(sv1 d b k).aa=d.aa:=by
 have h1:=X1L h.lay h.k2;have h2:=X0m h.lay;have h3:=X8x h.fit;exact⟨X2J _ _ _ h.ok Oa (XuQ b),(X1n _ d _).1⟩
theorem Xk0 (h:SvOk d b k):DOk (sv2 d b k)/\(sv2 d b k).aa=d.aa:=by
 obtain⟨h1,h2⟩:=Xrs h;have:=h.lay;have:=h.k2;exact⟨X8A h1 (by rw[h2];omega) rfl,h2⟩
def Xpx (h:SvOk d b k):DOk (sv3 d b k)/\J (sv3 d b k).aa=J d.aa/\(sv3 d b k).pending=[]:=by
 grind [Xk0,X4S,sv3]
theorem XjO (h:SvOk d b k) (hh:J (Vj ep ts (J b:Nat) (XP b:Nat))=64):DOk (sv4 d b k ep ts)/\J (sv4 d b k ep ts).aa=J d.aa:=by
 obtain⟨h1,h2,h3⟩:=Xpx h;have:=h.lay;have:=h.k2;exact⟨X8A h1 Oa hh,h2⟩
def Xku (h:SvOk d b k) (hh:J (Vj ep ts (J b:Nat) (XP b:Nat))=64):DOk (sv5 d b k ep ts)/\J (sv5 d b k ep ts).aa=J d.aa/\(sv5 d b k ep ts).pending=[]:=by
 grind [XjO,X4S,sv5]
def Xt6 (h:SvOk d b k):Yi (sv3 d b k) k=Uz/\(∀i c,(dV b)[i]? =some c->Yi (sv3 d b k) (2+k*Xx d+i)=c)/\
  ∀j,j<J d.aa->j≠k->(j<2+k*Xx d\/2+k*Xx d+Xx d<=j)->Yi (sv3 d b k) j=Yi d j:=by
 obtain⟨h1,h2⟩:=Xk0 h;have hl:=CG length h2;have hin:=X1L h.lay h.k2;have hlo:=X0m h.lay;have hf:=X8x h.fit;have hk:=h.k2;have e:∀j,j<J d.aa->Yi (sv3 d b k) j=Yi (sv2 d b k) j:=fun j hj=>X72 h1 Oa;have e2:∀j,Yi (sv2 d b k) j=if k=j then Uz else Yi (sv1 d b k) j:=fun j=>Xdt _ _ _ _
 refine⟨II,fun i c hc=> ?_,fun j hj lq vL=> ?_⟩
 ·have hi:i<J (dV b):=(GS.1 hc).1;rw[e _ Oa,e2,NI Oa];exact(X4c (dV b) d (2+k*Xx d) 0).2 i c hc
 ·rw[e j hj,e2,NI (fun q=>lq q.symm)];exact(X4c (dV b) d (2+k*Xx d) j).1 Oa
def XpK (h:SvOk d b k) (hh:J (Vj ep ts (J b:Nat) (XP b:Nat))=64):Yi (sv5 d b k ep ts) k=Vj ep ts (J b:Nat) (XP b:Nat)/\
  (∀i c,(dV b)[i]? =some c->Yi (sv5 d b k ep ts) (2+k*Xx d+i)=c)/\
  ∀j,j<J d.aa->j≠k->(j<2+k*Xx d\/2+k*Xx d+Xx d<=j)->Yi (sv5 d b k ep ts) j=Yi d j:=by
 obtain⟨h1,h2⟩:=XjO (ep:=ep) (ts:=ts) h hh;obtain⟨v1,v2,v3⟩:=Xt6 h;have hin:=X1L h.lay h.k2;have hlo:=X0m h.lay;have hf:=X8x h.fit;have hk:=h.k2;have e:∀j,j<J d.aa->Yi (sv5 d b k ep ts) j=Yi (sv4 d b k ep ts) j:=fun j hj=>X72 h1 Oa
 grind [sv4,Xdt]
theorem Xbo (h:SvOk d b k) (hh:J (Vj ep ts (J b:Nat) (XP b:Nat))=64):DOk (Yt (sv5 d b k ep ts) (Xo d) (X5h d))/\DOk (sv6 d b k ep ts)/\J (sv6 d b k ep ts).aa=J d.aa/\(sv6 d b k ep ts).pending=[]:=by
 obtain⟨h1,h2,h3⟩:=Xku (ep:=ep) (ts:=ts) h hh;have hlo:=X0m h.lay
 grind [X2J,XkD,XuH,X4S,sv6,X1n]
def XpJ (h:SvOk d b k) (hh:J (Vj ep ts (J b:Nat) (XP b:Nat))=64):
  (∀j,j<Xo d->Yi (sv6 d b k ep ts) j=Yi (sv5 d b k ep ts) j)/\∀j,Xo d<=j->j<J d.aa->Yi (sv6 d b k ep ts) j=Uz:=by
 obtain⟨w1,w2,w3,w4⟩:=Xbo (ep:=ep) (ts:=ts) h hh;have hlo:=X0m h.lay;have vM:=(Xku (ep:=ep) (ts:=ts) h hh).2.1;have e:∀j,j<J d.aa->Yi (sv6 d b k ep ts) j=Yi (Yt (sv5 d b k ep ts) (Xo d) (X5h d)) j:=fun j hj=>X72 w1 (by grind [X1n]);refine⟨fun j hj=> ?_,fun j h1 h2=> ?_⟩
 ·rw[e j Oa];simp_all [X4c]
 ·rw[e j h2];have:=(X4c (X5h d) (sv5 d b k ep ts) (Xo d) 0).2 (j-Xo d) Uz (by grind [X5h])
  grind
theorem Xyc (he:DOk e) (aQ:16<=J e.aa) (hk:k<2) (hf:J b<=Xx e*64) (hv:∀i c,(dV b)[i]? =some c->Yi e (2+k*Xx e+i)=c):(Vm e k).take (J b)=b:=by
 have hin:=X1L aQ hk;have hlo:=X0m aQ;have hp:=X8x hf;have h2:=(X2i b).2.1;unfold Vm;obtain⟨r,hr⟩:∃r,Xx e=J (dV b)+r:=⟨Xx e-J (dV b),Oa⟩
 conv=>lhs;rw[hr,X83]
 grind [Xch,XtS,YI]
theorem Xu7 (n:Nat):(replicate n Uz).flatten=replicate (n*64) 0:=by
 grind [Uz,flatten_replicate_replicate]
def Xvt (he:DOk e) (hp:e.pending=[]) (aQ:16<=J e.aa) (hl:J e.aa<=2000) (h0:0<=ep) (h1:ep<=1000000000000000) (hv:∀j,Xo e<=j->j<J e.aa->Yi e j=Uz):
  Log e (Xo e:Nat) (J e.aa:Nat) ep [] 0:=by
 have hlo:=X0m aQ;refine⟨he,⟨hl,by rw[hp];simp⟩,hp,hl,Oa,Oa,Int.le_refl _,h0,h1,rfl,Oa,?_,rfl⟩;have hs:=Xch he (replicate (J e.aa-Xo e) Uz) (Xo e) II fun i b hb=>by
  grind
 grind [Xu7,XV,Xv]
def Xn5 (h:SvOk d (XQ s.g s.rules) (U8 ep)) (hv:YH ⟨s.g,s.rules,s.ts,ep,0⟩=true) (ho:(UM (Yi d (1-U8 ep))).2=true->(UM (Yi d (1-U8 ep))).1.1<ep):
  Good (sv6 d (XQ s.g s.rules) (U8 ep) ep s.ts) ⟨s.g,s.rules,s.ts,ep,0⟩ [] ⟨s.g,s.rules,s.ts,ep,0⟩:=by
 obtain⟨v,hr,v1,v2,v3,v4,v5,v6⟩:=Vz.1 hv;simp only at v hr v1 v2 v3 v4;have hfit:=h.fit;have hlen:=h.len;have bA:Xx d<=2000:=OZ
 have hh:J (Vj ep s.ts (J (XQ s.g s.rules):Nat) (XP (XQ s.g s.rules):Nat))=64:=X7g fun x hx=>by
  grind [XP]
 obtain⟨w1,w2,w3,w4⟩:=Xbo (ep:=ep) (ts:=s.ts) h hh;obtain⟨x1,x2⟩:=XpJ (ep:=ep) (ts:=s.ts) h hh;obtain⟨y1,y2,y3⟩:=XpK (ep:=ep) (ts:=s.ts) h hh;have hlo:=X0m h.lay;have hin:=X1L h.lay h.k2;have hk:=h.k2;have hpf:=X8x h.fit;have hs:Xx (sv6 d (XQ s.g s.rules) (U8 ep) ep s.ts)=Xx d:=by unfold Xx;rw[w3]
 have hg:Xo (sv6 d (XQ s.g s.rules) (U8 ep) ep s.ts)=Xo d:=by unfold Xo;rw[hs]
 have aQ:=h.lay;generalize sv6 d (XQ s.g s.rules) (U8 ep) ep s.ts=e at*;refine⟨Oa,Xvt w2 w4 Oa Oa (show(0:Int)<=ep by omega) v4 (fun j h1 h2=>x2 j Oa Oa),hv,rfl,by rw[hs];exact hfit,?_,?_,?_,rfl⟩
 ·grind [Xyc]
 ·grind
 grind
def Good.kept (h:Good d s0 l s):YH s=true/\s.ep=s0.ep/\0<=s.tail/\s.tail<=262144:=by
 have k:=Xaz l s0 h.v0 (by rw[h.play]);rw[h.play] at k;have h1:=h.log.tl;have h2:=h.log.room;have h3:=h.log.len;have ht:0<=s.tail/\s.tail<=262144:=Oa
 refine⟨?_,k.ep,ht.1,ht.2⟩;have:=k.v
 grind [XgX]
def Good.save (h:Good d s0 l s) (he:(Up d s).2.2=0):Good (Up d s).1 (Up d s).2.1 [] (Up d s).2.1/\(Up d s).2.1=⟨s.g,s.rules,s.ts,s.ep+1,0⟩:=by
 obtain⟨hv,c9,jn,kS⟩:=h.kept;obtain⟨v,hr,v1,v2,v3,v4,v5,v6⟩:=Vz.1 hv;unfold Up at he |-;by_cases c:bW d s≠0
 ·grind
 rw[NI c] at he |-;have hne:s.ep≠1000000000000000:=fun q=>by
  grind [bW]
 unfold Vi at he |-;by_cases c2:((Xx d*64:Nat))<J (XQ s.g s.rules)
 ·grind
 rw[NI c2];have hk:=X5O s0.ep;have hs1:1-U8 (s.ep+1)=U8 s0.ep:=by grind [U8]
 have b5:SvOk d (XQ s.g s.rules) (U8 (s.ep+1)):=⟨h.log.ok,h.log.af,h.lay,h.log.len,X5O _,Oa⟩
 refine⟨Xn5 b5 (Vz.2 ⟨v,hr,v1,v2,Od,Od,Oc,Oc⟩) ?_,rfl⟩;rw[hs1,h.bS];obtain⟨v',hr',w1,w2,w3,w4,_⟩:=Vz.1 h.v0;have hf:=h.fit;have hlen:=h.log.len;have bA:Xx d<=2000:=OZ
 rw[Xe3 ⟨Oa,Oa⟩ ⟨Oa,Oa⟩ ⟨Oa,Oa⟩ (X7z _)]
 grind
def Xlr {f tail:Int} (h:Log d f t ep l tail) (he:(Uc d f t ep tail m).2.2=0) {j:Nat} (hj:(j:Int)<f):Yi (Uc d f t ep tail m).1 j=Yi d j:=by
 rw[X3q] at he;obtain⟨s1,s2,s3,s4⟩:=X3N he;obtain⟨g1,g2,g3⟩:=X6R h.few he;have ht:=h.tl;have mg:=h.t24;have hft:=h.ft;obtain⟨k1,k2,k3⟩:=X5g (A:=Xv ep m) h.ok h.f0 h.ft Oa Oa s3;have iJ:=X2J (V7 d f t tail (Xv ep m)) d (f.toNat+tail.toNat/64) h.ok k1 k2;rw[g3,X72 iJ (by grind [X1n])];exact(X4c _ d _ j).1 (.inl Oa)
def Good.logged (h:Good d s0 l s) (he:(YF d s m).2.2=0):Good (YF d s m).1 s0 (l++m) (YF d s m).2.1/\(Yf s m).2=0/\
  (Uc d (Xo d:Nat) (J d.aa:Nat) s0.ep s.tail m).2.2=0/\(YF d s m).2.1=UD (Yf s m).1 (Uc d (Xo d:Nat) (J d.aa:Nat) s0.ep s.tail m).2.1:=by
 obtain⟨hv,c9,jn,kS⟩:=h.kept;unfold YF at he |-;rw[NI (by rw[X8a h.log.ok h.lay];simp),NI (by simp[hv])] at he |-;by_cases c:(Yf s m).2≠0
 ·grind
 rw[NI c] at he |-;have c:(Yf s m).2=0:=Ju
 rw[c9] at he |-;simp only at he |-;by_cases c2:(Uc d (Xo d:Nat) (J d.aa:Nat) s0.ep s.tail m).2.2≠0
 ·grind
 rw[NI c2];have c2:(Uc d (Xo d:Nat) (J d.aa:Nat) s0.ep s.tail m).2.2=0:=Ir
 have hL:=h.log.app c2;have hl:=h.log.app_len c2;have qu:=fun{j:Nat} (hj:(j:Int)<(Xo d:Nat))=>Xlr h.log c2 hj;have aT:=XcF m s 0 ⟨Int.le_refl _,Oa⟩ ⟨jn,kS⟩;refine⟨?_,c,c2,rfl⟩;generalize (Uc d (Xo d:Nat) (J d.aa:Nat) s0.ep s.tail m).1=e at*;generalize (Uc d (Xo d:Nat) (J d.aa:Nat) s0.ep s.tail m).2.1=tl at*;have hs:Xx e=Xx d:=Jv
 have hg:Xo e=Xo d:=by unfold Xo;rw[hs]
 have hlo:=X0m h.lay;have hk:=X5O s0.ep;have hin:=X1L h.lay hk;have aQ:=h.lay;refine⟨Oa,by rw[hg,hl];exact hL,h.v0,h.t0,by rw[hs];exact h.fit,?_,by rw[qu Oa];exact h.bS,by rw[qu Oa];exact h.oth,?_⟩
 ·rw[show Vm e (U8 s0.ep)=Vm d (U8 s0.ep) from ?_]
  ·exact h.area
  ·unfold Vm;rw[hs];exact(X6B h.log.ok hL.ok hl _ _ Oa fun j h1 h2=>(qu Oa).symm).symm
 ·rw[Xa8,h.play,NI Oc]
  grind [UD]
theorem XzB:(UM Uz).2=false:=OD
def Xmq (h1:16<=n) (h2:n<=2000):DOk (X0O n).1/\(X0O n).1.pending=[]/\J (X0O n).1.aa=n.toNat/\∀k,k<n.toNat->Yi (X0O n).1 k=Uz:=by
 have e:(X0O n).1=⟨replicate n.toNat Uz,[],true⟩:=by grind [X0O]
 rw[e];refine⟨⟨?_,rfl⟩,rfl,length_replicate,fun k hk=> ?_⟩<;>grind [UF,Yi,VF,Uz]
def Xty:J (XQ UJ [])=4:=OD
def Xea (h1:16<=n) (h2:n<=2000):(X0F n).2.2=0/\Good (X0F n).1 (X0F n).2.1 [] (X0F n).2.1/\J (X0F n).1.aa=n.toNat:=by
 obtain⟨n1,n2,n3,n4⟩:=Xmq h1 h2;have hs:3<=Xx (X0O n).1:=OZ
 have bA:=Xty;unfold X0F;rw[NI (by grind [X0x])];unfold Vi;simp only;rw[NI Oa];have b5:SvOk (X0O n).1 (XQ UJ []) (U8 1):=⟨n1,n2,Oa,Oa,Oi,Oa⟩
 have hst:YH ⟨UJ,[],0,1,0⟩=true:=OD
 have hg:=Xn5 (s:=⟨UJ,[],0,0,0⟩) (ep:=1) b5 hst (fun q=>by
  grind [XzB])
 have hh:J (Vj 1 0 (J (XQ UJ []):Nat) (XP (XQ UJ []):Nat))=64:=OD
 simp_all [Xbo]
def Good.congr (h:Good d s0 l s) (he:DOk e) (hp:e.pending=[]) (hl:J e.aa=J d.aa)
  (h1:Yi e (U8 s0.ep)=Yi d (U8 s0.ep)) (h2:∀j,2+U8 s0.ep*Xx d<=j->j<2+U8 s0.ep*Xx d+Xx d->Yi e j=Yi d j)
  (h3:∀j,Xo d<=j->j<J d.aa->Yi e j=Yi d j) (ho:(UM (Yi e (1-U8 s0.ep))).2=true->(UM (Yi e (1-U8 s0.ep))).1.1<s0.ep):Good e s0 l s:=by
 have hs:Xx e=Xx d:=Jv
 have hg:Xo e=Xo d:=by unfold Xo;rw[hs]
 have hlo:=X0m h.lay;have hk:=X5O s0.ep;have hin:=X1L h.lay hk;have aQ:=h.lay;have L:=h.log;refine⟨Oa,⟨he,⟨by rw[hl];exact L.len,by rw[hp];simp⟩,hp,by rw[hl];exact L.len,Oa,Oa,Int.le_refl _,L.eo,L.ep1,L.tl,by rw[hl,hg];exact L.room,?_,L.ents⟩,h.v0,h.t0,by rw[hs];exact h.fit,?_,by rw[h1];exact h.bS,ho,h.play⟩
 ·rw[hl,hg,<-L.str];unfold XV;exact X6B he L.ok hl.symm _ _ Oa fun j a b=>h3 j Oa Oa
 ·have:Vm e (U8 s0.ep)=Vm d (U8 s0.ep):=by
   unfold Vm;rw[hs];exact X6B he L.ok hl.symm _ _ Oa fun j a b=>h2 j a b
  rw[this];exact h.area
theorem Xlq (s:Sta) (a b:Int):UD (UD s a) b=UD s b:=rfl
def Xt3 (s:Sta):UD s s.tail=s:=rfl
structure Tear (d:ak) (s0 s:Sta) (l:List Rcd):Prop where
 g:Good d s0 l s
 ok:SvOk d (XQ s.g s.rules) (U8 (s.ep+1))
 hh:J (Vj (s.ep+1) s.ts (J (XQ s.g s.rules):Nat) (XP (XQ s.g s.rules):Nat))=64
 v1:YH ⟨s.g,s.rules,s.ts,s.ep+1,0⟩=true
 ent:∀r∈l,J (X0e r)<=60000
 ep:s.ep=s0.ep
 two:U8 (s.ep+1)=1-U8 s0.ep
theorem Tear.of (h:Good d s0 l s) (he:(Up d s).2.2=0) (hv:∀r∈l,J (X0e r)<=60000):Tear d s0 s l:=by
 obtain⟨iM,c9,jn,kS⟩:=h.kept;obtain⟨v,hr,v1,v2,v3,v4,v5,v6⟩:=Vz.1 iM;unfold Up at he;by_cases c:bW d s≠0
 ·rw[PI c] at he;exact absurd he c
 rw[NI c] at he;have hne:s.ep≠1000000000000000:=fun q=>by
  unfold bW at c;rw[X8a h.log.ok h.lay,NI Oc,PI (.inr q)] at c;simp at c
 unfold Vi at he;by_cases c2:((Xx d*64:Nat))<J (XQ s.g s.rules)
 ·rw[PI c2] at he;simp at he
 have hlen:=h.log.len;have bA:Xx d<=2000:=OZ
 refine⟨h,⟨h.log.ok,h.log.af,h.lay,h.log.len,X5O _,Oa⟩,X7g fun x hx=> ?_,Vz.2 ⟨v,hr,v1,v2,Od,Od,Oc,Oc⟩,hv,c9,by rw[<-c9];unfold U8;omega⟩;have:=X7z (XQ s.g s.rules);simp only[mem_cons,mem_nil_iff,or_false] at hx;rcases hx with rfl|rfl|rfl|rfl
 ·omega
 ·omega
 ·omega
 ·exact this
def XvJ {u W:List UInt8} (h:∀x∈u,x≠0):Yo (u++0::W)=u/\X14 (u++0::W)=true:=by
 constructor
 ·unfold Yo;rw[takeWhile_append_of_pos (fun x hx=>by simpa using h x hx),takeWhile_cons_of_neg Oc,append_nil]
 ·unfold X14;simp
def Z0 (b:List UInt8):Option UInt8:=b[J (Yo b)]?
def XwY (h:X14 b=true):b.take (J (Yo b)+1)=Yo b++[0]:=by
 have hlt:=X7W h;have e:Z0 b=some 0:=by
  unfold Z0;have h0:(b.dropWhile fun x=>x !=0).head? =some 0:=by
   have e:b.dropWhile (fun x=>x !=0)=b.drop (J (Yo b)):=(X8u (p:=fun x=>x !=0) b).2;have hne:(b.dropWhile fun x=>x !=0)≠[]:=by
    rw[e];intro q;have:=CG length q;simp only[LD,length_nil] at this;omega
   have:=head?_dropWhile_not (fun x:UInt8=>x !=0) b;cases hh:(b.dropWhile fun x=>x !=0).head? with
   |none=>exact absurd (head?_eq_none_iff.1 hh) hne
   |some y=>
    rw[hh] at this;simpa using this
  rw[(X8u (p:=fun x=>x !=0) b).2,head?_drop] at h0;exact h0
 unfold Z0 at e;rw[X7H e,<-XgA]
def Xiv (ep:Int):∀(n:Nat) (b:List UInt8) (a:Nat),J b<n->a<=(US ep n b a).2/\(US ep n b a).2-a<=J b/\
  ∀(Z:List UInt8) (m:Nat),J (b.take ((US ep n b a).2-a)++Z)<m->US ep m (b.take ((US ep n b a).2-a)++Z) a=((US ep n b a).1++(US ep (J Z+1) Z (US ep n b a).2).1,(US ep (J Z+1) Z (US ep n b a).2).2)
 |0,b,a,h=>absurd h (Nat.not_lt_zero _)
 |n+1,b,a,h=>by
  by_cases c:X14 b=true/\(VP (Yo b) ep).2=true
  ·have hlt:=X7W c.1;obtain⟨i1,i2,i3⟩:=Xiv ep n (b.drop (J (Yo b)+1)) (a+(J (Yo b)+1)) OR;rw[X6L ep b a n c];simp only;generalize US ep n (b.drop (J (Yo b)+1)) (a+(J (Yo b)+1))=r at*;rw[LD] at i2;refine⟨Oa,Oa,fun Z m hm=> ?_⟩;have ht:b.take (r.2-a)=Yo b++0::(b.drop (J (Yo b)+1)).take (r.2-(a+(J (Yo b)+1))):=by
    have e:r.2-a=(J (Yo b)+1)+(r.2-(a+(J (Yo b)+1))):=Oa
    rw[e,take_add,XwY c.1,AS];rfl
   rw[ht,AS,cons_append] at hm |-;obtain⟨k1,k2⟩:=XvJ (W:=(b.drop (J (Yo b)+1)).take (r.2-(a+(J (Yo b)+1)))++Z) (XfG b);cases m with
   |zero=>omega
   |succ m=>
    rw[X6L ep _ a m ⟨k2,by rw[k1];exact c.2⟩,k1];have hd:(Yo b++0::((b.drop (J (Yo b)+1)).take (r.2-(a+(J (Yo b)+1)))++Z)).drop (J (Yo b)+1)=(b.drop (J (Yo b)+1)).take (r.2-(a+(J (Yo b)+1)))++Z:=by
     rw[<-drop_drop,drop_left];rfl
    rw[hd,i3 Z m (by simp only[LA,LC] at hm |-;omega)];rfl
  ·rw[X4l ep b a n c];refine⟨Nat.le_refl _,Oc,fun Z m hm=> ?_⟩;simp only[Nat.sub_self,take_zero,nil_append] at hm |-;rw[Xah ep m (J Z+1) Z a hm Oa]
def XmU (ep:Int) (S:List UInt8):(X0b ep S).2<=J S/\∀Z,X0b ep (S.take (X0b ep S).2++Z)=((X0b ep S).1++(US ep (J Z+1) Z (X0b ep S).2).1,(US ep (J Z+1) Z (X0b ep S).2).2):=by
 obtain⟨h1,h2,h3⟩:=Xiv ep (J S+1) S 0 (Nat.lt_succ_self _);refine⟨h2,fun Z=> ?_⟩;unfold X0b;exact h3 Z _ (Nat.lt_succ_self _)
structure Rec (d:ak) (s0:Sta) (l:List Rcd) (s:Sta):Prop where
 ok:DOk d
 lay:16<=J d.aa
 v0:YH s0=true
 t0:s0.tail=0
 pick:VD d=(s0,true)
 scan:(X0b s0.ep (XV d (Xo d:Nat) (J d.aa:Nat))).1=l
 tail:s.tail=((X0b s0.ep (XV d (Xo d:Nat) (J d.aa:Nat))).2:Nat)
 play:Yf s0 l=(UD s 0,0)
def XmJ (h:(Vb d k).2=true):YH (Vb d k).1=true/\(Vb d k).1.tail=0:=by
 unfold Vb at h |-;simp only at h |-;by_cases c:(UM (YZ d (k:Nat)).1).2=true/\X2Q d k (UM (YZ d (k:Nat)).1).1
 ·rw[PI c] at h |-;unfold X4Z at h |-;split at h
  ·simp at h
  ·rename_i c2;rw[NI c2];have:=Xp6 (s:=(X1t ((Vm d k).take (UM (YZ d (k:Nat)).1).1.2.2.1.toNat) (UM (YZ d (k:Nat)).1).1.2.1 (UM (YZ d (k:Nat)).1).1.1).1) (Prod.ext rfl h);exact⟨this.1,this.2.2.2.2⟩
 ·rw[NI c] at h;simp at h
def XjC (h:(VD d).2=true):YH (VD d).1=true/\(VD d).1.tail=0:=by
 unfold VD X38 at h |-;by_cases c:(Vb d 1).2=true/\((Vb d 0).2=false\/(Vb d 0).1.ep<(Vb d 1).1.ep)
 ·rw[PI c];exact XmJ c.1
 ·rw[NI c] at h |-;exact XmJ h
def Xgc (h:UH d=0):DOk d/\16<=J d.aa:=by
 unfold UH at h;by_cases c1:UF d=false
 ·rw[PI c1] at h;simp at h
 rw[NI c1] at h;by_cases c2:d.on=false
 ·rw[PI c2] at h;simp at h
 rw[NI c2] at h;by_cases c3:(X0x (J d.aa)).2.2=false
 ·rw[PI c3] at h;simp at h
 refine⟨⟨IE,Ir⟩,?_⟩;unfold X0x at c3;by_cases c4:(J d.aa:Int)<16\/4096<(J d.aa:Int)
 ·rw[PI c4] at c3;simp at c3
 ·omega
def XgY (hd:DOk d) (aQ:16<=J d.aa) (h0:0<=ep) (h1:ep<=1000000000000000):Ua d (Xo d:Nat) (J d.aa:Nat) ep 0=0:=by
 have hlo:=X0m aQ;unfold Ua;rw[NI (by rw[hd.v];simp),NI (by rw[hd.on];simp),NI Oa,NI Oa]
theorem Rec.of (h:Vs d=(s,0)):∃s0 l,Rec d s0 l s:=by
 unfold Vs at h;by_cases c1:UH d≠0
 ·rw[PI c1] at h;exact absurd (CG Prod.snd h) c1
 rw[NI c1] at h;obtain⟨hd,aQ⟩:=Xgc IE;by_cases c2:(VD d).2=false
 ·rw[PI c2] at h;simp at h
 rw[NI c2] at h;have c2:(VD d).2=true:=Ir
 obtain⟨v0,t0⟩:=XjC c2;obtain⟨v,hr,v1,v2,v3,v4,v5,v6⟩:=Vz.1 v0;unfold V8 at h;rw[NI (by rw[XgY hd aQ Oa v4];simp)] at h;unfold X2q at h;simp only at h;by_cases c3:(Yf (VD d).1 (X0b (VD d).1.ep (XV d (Xo d:Nat) (J d.aa:Nat))).1).2≠0
 ·rw[PI c3] at h;simp at h
 rw[NI c3] at h;simp only[Prod.mk.injEq,and_true] at h;have c3:(Yf (VD d).1 (X0b (VD d).1.ep (XV d (Xo d:Nat) (J d.aa:Nat))).1).2=0:=Jn
 have hk:=Xaz _ _ v0 c3;refine⟨(VD d).1,_,hd,aQ,v0,t0,Prod.ext rfl c2,rfl,by rw[<-h];rfl,?_⟩;refine Prod.ext ?_ c3;rw[<-h];show _=UD (UD _ _) 0;rw[Xlq];have e:(Yf (VD d).1 (X0b (VD d).1.ep (XV d (Xo d:Nat) (J d.aa:Nat))).1).1.tail=0:=hk.tl.trans t0;conv=>lhs;rw[<-Xt3 (Yf (VD d).1 (X0b (VD d).1.ep (XV d (Xo d:Nat) (J d.aa:Nat))).1).1,e]
def Rec.to (h:Rec d s0 l s):Vs d=(s,0):=by
 obtain⟨v,hr,v1,v2,v3,v4,v5,v6⟩:=Vz.1 h.v0;unfold Vs;rw[NI (by rw[X8a h.ok h.lay];simp),h.pick,NI Oc];simp only;unfold V8;rw[NI (by rw[XgY h.ok h.lay Oa v4];simp),h.scan,<-h.tail];unfold X2q;simp only;rw[h.play,NI Oc];rfl
theorem Rec.len (h:Rec d s0 l s):J (XV d (Xo d:Nat) (J d.aa:Nat))=64*(J d.aa-Xo d)/\0<=s.tail/\s.tail<=((J d.aa-Xo d:Nat):Int)*64:=by
 have hlo:=X0m h.lay;have e:J (XV d (Xo d:Nat) (J d.aa:Nat))=64*(J d.aa-Xo d):=by
  unfold XV;rw[X1j h.ok _ _ Oa];omega
 have hc:=(XmU s0.ep (XV d (Xo d:Nat) (J d.aa:Nat))).1;have ht:=h.tail;exact⟨e,Oa,Oa⟩
def Rec.kept (h:Rec d s0 l s):YH s=true/\s.ep=s0.ep/\0<=s.tail/\s.tail<=262144:=by
 have k:=Xaz l s0 h.v0 (by rw[h.play]);rw[h.play] at k;obtain⟨h1,h2,h3⟩:=h.len;have h4:=(X2j h.ok.v).2.1;have ht:0<=s.tail/\s.tail<=262144:=Oa
 refine⟨?_,k.ep,ht.1,ht.2⟩;have:=k.v
 rwa [show (UD s 0,(0:Int)).1=UD s 0 from rfl,XgX ⟨Int.le_refl _,Oa⟩ ht] at this
def Rec.other {t:Sta} (h:Rec d s0 l s) (he:DOk e) (hl:J e.aa=J d.aa) (hv:∀j,j<Xo d->Yi e j=Yi d j)
  (hs:X0b s0.ep (XV e (Xo d:Nat) (J d.aa:Nat))=(l++m,t.tail.toNat)) (h0:0<=t.tail) (hp:Yf (UD s 0) m=(UD t 0,0)):Rec e s0 (l++m) t:=by
 have bA:Xx e=Xx d:=Jv
 have hg:Xo e=Xo d:=by unfold Xo;rw[bA]
 have aQ:=h.lay;have s7:=X1L h.lay (k:=0) Oa;have s8:=X1L h.lay (k:=1) Oa;have p0:=XcD h.ok he hl h.lay (k:=0) Oa fun j hj=>(hv j Oa).symm;have p1:=XcD h.ok he hl h.lay (k:=1) Oa fun j hj=>(hv j Oa).symm;refine⟨he,Oa,h.v0,h.t0,by unfold VD;rw[p0,p1];exact h.pick,by rw[hg,hl,hs],by rw[hg,hl,hs];simp only;omega,?_⟩;rw[Xa8,h.play,NI Oc];exact hp
def Rec.logged (h:Rec d s0 l s) (hp:d.pending=[]) (hlen:J d.aa<=2000) (hz:X4x (XV d (Xo d:Nat) (J d.aa:Nat)) s.tail.toNat) (hv:∀r∈m,J (X0e r)<=60000) (he:(YF d s m).2.2=0):
  Rec (YF d s m).1 s0 (l++m) (YF d s m).2.1/\J (YF d s m).1.aa=J d.aa/\(YF d s m).1.pending=[]:=by
 obtain⟨iM,c9,jn,kS⟩:=h.kept;obtain⟨l1,l2,l3⟩:=h.len;have hlo:=X0m h.lay;obtain⟨_,_,_,_,v3,v4,_⟩:=Vz.1 h.v0;unfold YF at he |-;rw[NI (by rw[X8a h.ok h.lay];simp),NI (by simp[iM])] at he |-;by_cases c:(Yf s m).2≠0
 ·rw[PI c] at he;exact absurd he c
 rw[NI c] at he |-;have c:(Yf s m).2=0:=Ju
 rw[c9] at he |-;simp only at he |-;by_cases c2:(Uc d (Xo d:Nat) (J d.aa:Nat) s0.ep s.tail m).2.2≠0
 ·rw[PI c2] at he;exact absurd he c2
 rw[NI c2];have c2:(Uc d (Xo d:Nat) (J d.aa:Nat) s0.ep s.tail m).2.2=0:=Ir
 have mM:Vx d:=⟨hlen,by rw[hp];simp⟩
 rw[X3q] at c2;obtain⟨s1,s2,s3,s4⟩:=X3N c2;obtain⟨g1,g2,g3⟩:=X6R mM c2;obtain⟨k1,k2,k3⟩:=X5g (A:=Xv s0.ep m) h.ok Oa (show((Xo d:Nat):Int)<(J d.aa:Nat) by omega) Oa jn s3;have iJ:=X2J (V7 d (Xo d:Nat) (J d.aa:Nat) s.tail (Xv s0.ep m)) d (((Xo d:Nat):Int).toNat+s.tail.toNat/64) h.ok k1 k2;obtain⟨m1,m2,m3⟩:=X4S iJ;rw[(X1n _ _ _).1] at m2;have hst:=Xj6 (A:=Xv s0.ep m) h.ok Oa (show((Xo d:Nat):Int)<(J d.aa:Nat) by omega) Oa jn s3 hz;have kT:∀j,j<Xo d->Yi (V1 (Yt d (((Xo d:Nat):Int).toNat+s.tail.toNat/64) (V7 d (Xo d:Nat) (J d.aa:Nat) s.tail (Xv s0.ep m)))).1 j=Yi d j:=fun j hj=>by
  rw[X72 iJ (by rw[(X1n _ _ _).1];omega)];exact(X4c _ d _ j).1 (.inl Oa)
 rw[<-g3] at m1 m2 m3 hst kT;rw[g2];generalize (Uc d (Xo d:Nat) (J d.aa:Nat) s0.ep s.tail m).1=e at*;have mN:=(XmU s0.ep (XV d (Xo d:Nat) (J d.aa:Nat))).2 (Xv s0.ep m++replicate (J (XV d (Xo d:Nat) (J d.aa:Nat))-s.tail.toNat-J (Xv s0.ep m)) 0);have iQ:=h.tail;have uw:s.tail.toNat=(X0b s0.ep (XV d (Xo d:Nat) (J d.aa:Nat))).2:=Oa
 rw[<-uw,h.scan,<-AS,<-hst] at mN;have hfr:=X9q Oa v4 m (replicate (J (XV d (Xo d:Nat) (J d.aa:Nat))-s.tail.toNat-J (Xv s0.ep m)) 0) s.tail.toNat _ _ (fun r hr=>⟨Xav s2 r hr,hv r hr⟩) (Nat.lt_succ_self (J (Xv s0.ep m++replicate (J (XV d (Xo d:Nat) (J d.aa:Nat))-s.tail.toNat-J (Xv s0.ep m)) 0))) (Nat.lt_succ_self _);rw[XgH] at hfr;simp only[Nat.succ_eq_add_one] at hfr;rw[hfr] at mN;have aT:=XcF m s 0 ⟨Int.le_refl _,Oa⟩ ⟨jn,kS⟩;refine⟨(?_:Rec e s0 (l++m) (UD (Yf s m).1 (s.tail+(J (Xv s0.ep m):Nat)))),m2,m3⟩;refine h.other m1 m2 kT ?_ (show(0:Int)<=s.tail+(J (Xv s0.ep m):Nat) by omega) (Prod.ext (aT.2 c) (aT.1.trans c));rw[mN,append_nil];refine Prod.ext rfl ?_;show s.tail.toNat+J (Xv s0.ep m)=(s.tail+(J (Xv s0.ep m):Nat)).toNat;omega
def X6T (r:Rcd):Prop:=X0z r/\J r.changes<=60
def XcR (h:X6T r):X46 r:=⟨h.1,Xh4 h.2⟩
def X82 (h:UH d=0):DOk d/\16<=J d.aa/\J d.aa<=4096:=by
 obtain⟨h1,h2⟩:=Xgc h;exact⟨h1,h2,(X2j h1.v).2.1⟩
def X98 (d:ak) (s:Sta) (l:List Rcd) (hs:StaHold s) (hf:Vx d) (hl:J l<=1000) (hr:∀r∈l,X6T r):Con prog 11 [] [XY d,Xz s,.d (.sl 10 (l.map Y6))] [] (.tup [XY (YF d s l).1,Xz (YF d s l).2.1,ai (YF d s l).2.2]):=by
 refine ZCt func11 ntmps11 fun E=> ?_;have hu:=XgJ d;have hv:=Xbx s hs;have hp:=X9j s l hs Oa (fun r h=>(hr r h).1);have aV:Xz XT= .agg [.d (.sl 3 []),.d (.sl 5 []),ai 0,ai 0,.d (.sl 6 []),ai 0,ai 0,ai 0]:=rfl;by_cases q1:UH d=0
 case neg=>
  exact Yt36
 by_cases q2:YH s=true
 case neg=>
  exact Yt25
 by_cases q3:(Yf s l).2=0
 case neg=>
  exact Yt18
 have e:YF d s l=if (Uc d (Xo d:Nat) (J d.aa:Nat) s.ep s.tail l).2.2≠0 then (Ur,XT,(Uc d (Xo d:Nat) (J d.aa:Nat) s.ep s.tail l).2.2) else ((Uc d (Xo d:Nat) (J d.aa:Nat) s.ep s.tail l).1,UD (Yf s l).1 (Uc d (Xo d:Nat) (J d.aa:Nat) s.ep s.tail l).2.1,0):=Ij
 rw[e];obtain⟨o1,o2,o3⟩:=X82 q1;have aD:=X5r (J d.aa:Nat);rw[X39 o2 o3] at aD;have ha:=Xua d (Xo d:Nat) (J d.aa:Nat) s.ep s.tail l hf (fun r h=>XcR (hr r h)) hl;rw[q1] at hu;rw[q2] at hv;rw[q3] at hp;have aU:J (d.aa.map Yd)=J d.aa:=LM ..;clear e hs hf hr q1 q2 q3 o1 o2;generalize (Yf s l).1=y at*;generalize Uc d (Xo d:Nat) (J d.aa:Nat) s.ep s.tail l=A at*;generalize Xx d=SN at*;generalize Xo d=LN at*;rw[<-aU] at aD ha;obtain⟨⟨xs,xp,xo⟩,a2,a3⟩:=A;obtain⟨secs,af,on⟩:=d;obtain⟨⟨yn,ye,ck,cm⟩,yr,yt,yp,yl⟩:=y;obtain⟨⟨ns,es,nn,ne⟩,rs,ts,ep,tail⟩:=s;simp only[Xz,UD] at*;by_cases q4:a3=0
 case neg=>
  rw[PI q4];simp only[XT,map_nil];refine QYa ?_;refine Us ?_;exact QGe
 rw[NI (by simp[q4])];subst q4;refine QYa ?_;refine YG ?_;exact QIe
structure After (n:Int) (x:ak×Sta):Prop where
 g:∃s0 m,Good x.1 s0 m x.2/\∀r∈m,J (X0e r)<=60000
 af:x.1.pending=[]
 len:(J x.1.aa:Int)=n
def X1W (ts id:Int):Rcd:=⟨1,ts,[⟨1,id,0,0,[],zV⟩],zR,false⟩
def X2C:ak:=(X0F 16).1
def X3s:Sta:=(X0F 16).2.1
def X3Y:ak:=(YF X2C X3s [X1W 1 1]).1
def X2A:Sta:=(YF X2C X3s [X1W 1 1]).2.1
def X8L:(X0F 16).2.2=0/\Good X2C X3s [] X3s/\J X2C.aa=16:=Xea Oi Oi
def Xoh:(YF X2C X3s [X1W 1 1]).2.2=0:=OD
def Xfq:Good X3Y X3s [X1W 1 1] X2A:=(X8L.2.1.logged Xoh).1
def Xsz:X0F 16=(X2C,X3s,0)/\YF X2C X3s [X1W 1 1]=(X3Y,X2A,0)/\Vs X3Y=(X2A,0)/\(YF X3Y X2A [X1W 3 2]).2.2=26/\(Vs Ur).2=1/\
  (J X2C.aa=16/\∃b,X2C.aa[5]? =some b/\J b=64/\b[2]? =some 1/\b[3]? =some 1/\X2A.tail>0/\X2A.ts=1/\J X2A.g.nodes=1):=by
 refine⟨Prod.ext rfl (Prod.ext rfl X8L.1),Prod.ext rfl (Prod.ext rfl Xoh),Xfq.recov (fun r hr=> ?_),OD,OD,X8L.2.2,?_⟩
 ·rw[mem_singleton.1 hr];exact Xh4 (by simp[X1W])
 ·exact⟨_,getElem?_eq_getElem (by rw[X8L.2.2];decide),OD,OD,OD,OD,OD,OD⟩
end Go.Fw

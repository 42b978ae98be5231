/- How far a reader gets; how many things it can read; in plain Lean. -/
import Derived.Test.YtfmfekakaeafhaaGreatDoorP33
set_option linter.all false
set_option maxHeartbeats 8000000
namespace Go.Fw
open Go List
open List renaming length->J
def X2O (s:Rd):Prop:=0<=s.a/\s.a<=J s.c
structure GoR {α:Type} (d:Int) (f:Rd->α×Rd):Prop where
 ok:∀s,X2O s->X2O (f s).2
 go:∀s,X2O s->(f s).2.e=0->s.a+d<=(f s).2.a
variable{d ep:Int}{r:Rcd}{g:Gra}{l:List Chg}{n:Nat}{s:Rd}
def XfV {α:Type}{z:α}{f:List UInt8->Int->α×Int×Int} (hd:0<=d) (h:∀(c:List UInt8) (a:Int) (x:α) (e:Int),f c a=(x,e,0)->a+d<=e/\e<=J c):GoR d (X1m z f):=by
 refine⟨fun s hs=> ?_,fun s hs he=> ?_⟩
 ·unfold X1m;by_cases q:s.e=0
  ·rw[NI Ip];simp only[Rd.put];by_cases q2:(f s.c s.a).2.2=0
   ·have:=h s.c s.a _ _ (by rw[<-q2]);rw[PI q2];exact⟨Int.le_trans hs.1 (Int.le_trans (Int.le_add_of_nonneg_right hd) this.1),by show(f s.c s.a).2.1<=J s.c;exact this.2⟩
   ·rw[NI q2];exact hs
  ·rw[PI q];exact hs
 ·have hs0:=(Xbr z f).back he;unfold X1m at he |-;rw[NI (by simp[hs0])] at he |-;simp only[Rd.put] at he |-;rw[PI he];exact(h s.c s.a _ _ (by rw[<-he])).1
def X7b:GoR 1 Ym:=XfV Oa fun c a x e h=>by
 obtain⟨h1,_,_,h2⟩:=X43 h;exact⟨Oa,h1.2.2.1⟩
def Xm1 {α:Type}{f:Rd->α×Rd} (hp:PartR f) (hg:GoR 1 f):∀(n:Nat) (s:Rd),X2O s->(J (Vc f n s).1:Int)<=J s.c-s.a+1
 |0,s,hs=>by have:=hs.2;simp only[Vc,length_nil];omega
 |n+1,s,hs=>by
  have h0:=hs.2;rw[Vc];by_cases q:s.e=0
  ·rw[NI Ip];simp only[LC];have hc:=(hp.keep s).2;by_cases q2:(f s).2.e=0
   ·have h1:=Xm1 hp hg n (f s).2 (hg.ok s hs);have h2:=hg.go s hs q2;rw[hc] at h1;omega
   ·rw[Xfk q2];simp only[length_nil];omega
  ·rw[PI q];simp only[length_nil];omega
def Xee {α:Type}{f:Rd->α×Rd} (hg:GoR d f):∀(n:Nat) (s:Rd),X2O s->X2O (Vc f n s).2
 |0,s,hs=>hs
 |n+1,s,hs=>by
  rw[Vc];split
  ·exact hs
  ·exact Xee hg n _ (hg.ok s hs)
def X4s (s:Rd):∃m:Nat,(Ym s).1=m/\m<=9223372036854775807:=by
 unfold Ym X1m;by_cases q:s.e=0
 ·rw[NI Ip];simp only;by_cases q2:(Xd s.c s.a).2.2=0
  ·obtain⟨_,h1,h2,_⟩:=X43 (b:=s.c) (a:=s.a) (n:=(Xd s.c s.a).1) (e:=(Xd s.c s.a).2.1) (by rw[<-q2]);exact⟨(Xd s.c s.a).1.toNat,Oa,Oa⟩
  ·exact⟨0,by rw[Xh1 q2];rfl,Oa⟩
 ·rw[PI q];exact⟨0,rfl,Oa⟩
open Go Go.Proofs Tryz
open List renaming length->J
set_option maxRecDepth 100000
def Xd0 {α:Type}{f:Rd->α×Rd} (h:s.e=0):Vc f (n+1) s=((f s).1::(Vc f n (f s).2).1,(Vc f n (f s).2).2):=by
 rw[Vc,NI (by simp[h])]
def Xcb {α:Type}{f:Rd->α×Rd}{acc:List α}{L:List α×Rd} (h1:acc++(Vc f n s).1=L.1) (h2:(Vc f n s).2=L.2) (h:n=0\/s.e≠0):L=(acc,s):=by
 have:Vc f n s=([],s):=by
  rcases h with rfl|h
  ·rfl
  ·exact Xfk h
 rw[this] at h1 h2;simp only[append_nil] at h1;exact Prod.ext h1.symm h2.symm
def Xcx {α:Type}{f:Rd->α×Rd}{acc:List α}{L:List α×Rd} (h1:acc++(Vc f n s).1=L.1) (hl:J L.1<=1073741825):J acc<=1073741825:=by
 have:=CG length h1;simp only[LA] at this;omega
def X7K {α:Type}{f:Rd->α×Rd} (hp:PartR f) (hg:GoR 1 f) {n:Nat}{s:Rd} (hs:X2O s) (hc:J s.c<=1073741824):J (Vc f n s).1<=1073741825:=by
 have:=Xm1 hp hg n s hs;have:=hs.1;omega
def Xdk:GraHold ⟨[],[],1,1⟩:=⟨Oc,Oc,Oc,Oc⟩
def Xhi:Con prog 59 [] [] [] (XZ ⟨[],[],1,1⟩):=by
 refine ZC1 func59 ntmps59 fun E=> ?_;unfold XZ;simp only[map_nil];refine W9_ ?_;exact X3 ⟨_,Xg 100 (cs':=[.d (.sl 3 []),.d (.sl 5 []),ai 1,ai 1]) rfl JM rfl,⟨⟨100,0,_,rfl,rfl,.inr ⟨4,_,rfl,rfl,rfl,rfl⟩⟩,TV⟩,X5 _⟩
def Xnh {ls:List (List UInt8)}{ps:List Prp} (h:PV ls ps):J ls<=9223372036854775807/\(∀s∈ls,J s<=9223372036854775807)/\J ps<=9223372036854775807/\∀p∈ps,X7C p:=by
 have h1:=h.ll;have h2:=h.pl;refine⟨Oa,fun s hs=>by have:=XeJ (h.ln s hs);omega,Oa,fun p hp=>⟨by have:=XeJ (h.pn p hp);omega,Xqm (h.pv p hp)⟩⟩
def X49 (h:GV g):GraHold g:=by
 have h1:=h.nl;have h2:=h.el;refine⟨Oa,Oa,fun n hn=>Xnh (h.nodes n hn).2.2,fun e he=> ?_⟩;obtain⟨_,_,_,_,q,r⟩:=h.aj e he;obtain⟨_,_,r3,r4⟩:=Xnh r;exact⟨by have:=XeJ q;omega,r3,r4⟩
def X3A:GraHold VS:=⟨Oc,Oc,Oc,Oc⟩
def Xwv (hz:(UW g l).2.2≠0->(UW g l).1=VS):GraHold (UW g l).1:=by
 by_cases q:(UW g l).2.2=0
 ·exact X49 (Xmu q)
 ·rw[hz q];exact X3A
def Xkl:∀(l:List Chg) (g:Gra) (k:Nat),(VY g k l).2.2≠0->(VY g k l).1=VS
 |[],g,k,h=>by simp[VY] at h
 |c::r,g,k,h=>by
  rw[VY] at h |-;by_cases q:(YR g c).2≠0
  ·rw[PI q]
  ·rw[NI q] at h |-;exact Xkl r _ _ h
def XsW (h:(UW g l).2.2≠0):(UW g l).1=VS:=by
 unfold UW at h |-;by_cases q:X0w g≠0
 ·rw[PI q]
 ·rw[NI q] at h |-;exact Xkl l g 0 h
def XeQ (g:Gra) (l:List Chg):GraHold (UW g l).1:=Xwv XsW
def X0D:Rd->Chg×Rd:=X1m zC X0L
def X9S:PartR X0D:=Xbr zC X0L
def Xvx {c:List UInt8}{a:Int}{x:Chg}{e:Int} (h:X0L c a=(x,e,0)):only c a e (U3 x)/\a<e/\YE x=0:=by
 unfold X0L at h;by_cases h0:a<0\/(J c:Int)<a
 ·rw[PI h0] at h;simp at h
 ·rw[NI h0] at h;generalize hr:UE c a 0=r at h;obtain⟨y,z,e'⟩:=r;simp only at h;by_cases he:e'=0
  ·subst he;simp only[if_true] at h;by_cases hy:YE y=0
   ·rw[NI I6] at h;simp only[Prod.mk.injEq,and_true] at h;obtain⟨rfl,rfl⟩:=h;obtain⟨h1,h2,_⟩:=Xjv Oa hr;exact⟨h1,h2,hy⟩
   ·rw[PI hy] at h;simp only[Prod.mk.injEq] at h;exact absurd h.2.2 hy
  ·rw[NI he,PI he] at h;simp only[Prod.mk.injEq] at h;exact absurd h.2.2 he
def Xtg:X3r (fun c=>YE c=0) cw X0D:=XfA fun c q x t hx h=>by
 have hp:cw x=U3 x:=PI hx;rw[hp] at h |-;have h1:=(Xmx hx h).1;have hq:=h.le;unfold X0L;rw[NI Oa];simp only[h1,hx,if_true,ne_eq,not_true_eq_false,if_false]
def XdB:GoR 1 X0D:=XfV Oa fun c a x e h=>by
 obtain⟨h1,h2,_⟩:=Xvx h;exact⟨Oa,h1.2.2.1⟩
structure Sta where
 g:Gra
 rules:List Rul
 ts:Int
 ep:Int
 tail:Int
abbrev XT:Sta:=⟨VS,[],0,0,0⟩
abbrev UJ:Gra:=⟨[],[],1,1⟩
def X0x (n:Int):Int×Int×Bool:=if n<16\/4096<n then (0,0,false) else ((n-2)/4,2+2*((n-2)/4),true)
def Xx (d:ak):Nat:=(J d.aa-2)/4
def Xo (d:ak):Nat:=2+2*Xx d
def YH (s:Sta):Bool:=decide (X0w s.g=0)&&(X1F s.rules&&decide (0<=s.ts/\s.ts<=1000000000000000/\1<=s.ep/\s.ep<=1000000000000000/\0<=s.tail/\s.tail<=262144))
def UH (d:ak):Int:=if UF d=false then 1 else if d.on=false then 22 else if (X0x (J d.aa)).2.2=false then 1 else 0
def VG (l:List Rul) (r:Rul):List Rul×Int:=
 if X1F l=false then ([],19) else if Uu r≠0 then ([],Uu r) else if XF YW l r=true then ([],7) else if J l=40 then ([],20) else (UY ltR YW l r [r],0)
def X0a (l:List Rul) (r:Rul):List Rul×Int:=
 if X1F l=false then ([],19) else if Uu r≠0 then ([],Uu r) else if XF YW l r=false then ([],23) else (UX YW l r,0)
def gA (n:Nod):Chg:=⟨1,n.id,0,0,[],zV⟩
def gB (e:Edg):Chg:=⟨6,e.id,e.src,e.dst,e.typ,zV⟩
def X5D (id:Int) (l:List (List UInt8)):List Chg:=l.map fun s=>⟨3,id,0,0,s,zV⟩
def Vg (op id:Int) (l:List Prp):List Chg:=l.map fun p=>⟨op,id,0,0,p.key,p.v⟩
def dU (n:Nod):List Chg:=X5D n.id n.labels++Vg 5 n.id n.props
def eV (e:Edg):List Chg:=Vg 8 e.id e.props
def X0Z (l:List Nod):List Chg:=l.map gA++(l.map dU).flatten
def X1J (l:List Edg):List Chg:=l.map gB++(l.map eV).flatten
def X0v (g:Gra):List Chg:=X0Z g.nodes++X1J g.aj
def XQ (g:Gra) (rs:List Rul):List UInt8:=X5e cu rs++(X5e cw (X0v g)++(Xq g.nn++Xq g.ne))
def X0i:Rd->(List Rul×List Chg×Int×Int)×Rd:=X3K (UL Vy) fun _=>X3K (UL X0D) fun _=>X3K Ym fun _=>Ym
def X3h (b:List UInt8) (ts ep:Int) (rs:List Rul) (a z:Int) (r:Gra×Nat×Int):Sta×Bool:=
 if r.2.2≠0 then (XT,false) else (⟨⟨r.1.nodes,r.1.aj,a,z⟩,rs,ts,ep,0⟩,YH ⟨⟨r.1.nodes,r.1.aj,a,z⟩,rs,ts,ep,0⟩&&decide (XQ ⟨r.1.nodes,r.1.aj,a,z⟩ rs=b))
def X1t (b:List UInt8) (ts ep:Int):Sta×Bool:=
 let p:=X0i ⟨0,b,0,0⟩
 if p.2.e≠0\/p.2.a≠J b then (XT,false) else X3h b ts ep p.1.1 p.1.2.2.1 p.1.2.2.2 (UW UJ p.1.2.1)
def VX (a b c e:Int):List UInt8:=Yx (X0n [a,b,c,e])
def Vj (a b c e:Int):List UInt8:=VX a b c e++(replicate (63-J (VX a b c e)) 0++[1])
def X5N:Rd->(Int×Int×Int×Int)×Rd:=X3K Ym fun _=>X3K Ym fun _=>X3K Ym fun _=>Ym
def UM (b:List UInt8):(Int×Int×Int×Int)×Bool:=
 let u:=Y8 b 0
 if u.2.2≠0 then ((0,0,0,0),false) else
 let p:=X5N ⟨0,u.1,0,0⟩
 (p.1,decide (p.2.e=0/\p.2.a=J u.1)&&decide (Vj p.1.1 p.1.2.1 p.1.2.2.1 p.1.2.2.2=b))
def Vm (d:ak) (k:Nat):List UInt8:=Ug d (2+k*Xx d) (Xx d)
def X4Z (d:ak) (k:Nat) (h:Int×Int×Int×Int):Sta×Bool:=
 if (XP ((Vm d k).take h.2.2.1.toNat):Int)≠h.2.2.2 then (XT,false) else X1t ((Vm d k).take h.2.2.1.toNat) h.2.1 h.1
def X2Q (d:ak) (k:Nat) (h:Int×Int×Int×Int):Prop:=1<=h.1/\h.1<=1000000000000000/\h.1%2=k/\h.2.1<=1000000000000000/\h.2.2.1<=(Xx d*64:Nat)
instance {d:ak}{k:Nat}{h:Int×Int×Int×Int}:Decidable (X2Q d k h):=by unfold X2Q;infer_instance
def Vb (d:ak) (k:Nat):Sta×Bool:=
 let h:=UM (YZ d (k:Nat)).1
 if h.2=true/\X2Q d k h.1 then X4Z d k h.1 else (XT,false)
def X38 (s t:Sta×Bool):Sta×Bool:=if t.2=true/\(s.2=false\/s.1.ep<t.1.ep) then (t.1,true) else s
def VD (d:ak):Sta×Bool:=X38 (Vb d 0) (Vb d 1)
def ofA (s:Sta) (ts:Int) (a:Gra×Nat×Int):Sta×Int:=if a.2.2≠0 then (XT,a.2.2) else (⟨a.1,s.rules,ts,s.ep,s.tail⟩,0)
def ofR (s:Sta) (ts:Int) (a:List Rul×Int):Sta×Int:=if a.2≠0 then (XT,a.2) else (⟨s.g,a.1,ts,s.ep,s.tail⟩,0)
def Ue (s:Sta) (r:Rcd):Sta×Int:=
 if YH s=false then (XT,19) else if UO r≠0 then (XT,UO r)
 else if (r.kind=3/\r.ts<s.ts)\/(r.kind≠3/\r.ts≠s.ts+1) then (XT,26)
 else if r.kind=1 then ofA s r.ts (UW s.g r.changes)
 else if r.kind=2 then (if r.off=true then ofR s r.ts (X0a s.rules r.rule) else ofR s r.ts (VG s.rules r.rule))
 else (s,0)
def Yf:Sta->List Rcd->Sta×Int
 |s,[]=>(s,0)
 |s,r::l=>if (Ue s r).2≠0 then (XT,(Ue s r).2) else Yf (Ue s r).1 l
def UD (s:Sta) (t:Int):Sta:=⟨s.g,s.rules,s.ts,s.ep,t⟩
def YF (d:ak) (s:Sta) (l:List Rcd):ak×Sta×Int:=
 if UH d≠0 then (Ur,XT,UH d) else if YH s=false then (Ur,XT,19) else if (Yf s l).2≠0 then (Ur,XT,(Yf s l).2) else
 let a:=Uc d (Xo d:Nat) (J d.aa:Nat) s.ep s.tail l
 if a.2.2≠0 then (Ur,XT,a.2.2) else (a.1,UD (Yf s l).1 a.2.1,0)
def X2q (s:Sta) (x:List Rcd×Int×Int):Sta×Int:=if (Yf s x.1).2≠0 then (XT,19) else (UD (Yf s x.1).1 x.2.1,0)
def Vs (d:ak):Sta×Int:=
 if UH d≠0 then (XT,UH d) else if (VD d).2=false then (XT,23) else
 X2q (VD d).1 (V8 d (Xo d:Nat) (J d.aa:Nat) (VD d).1.ep)
def dV (b:List UInt8):List (List UInt8):=V0 (J (YI b)/64) (YI b)
def X5h (d:ak):List (List UInt8):=replicate (J d.aa-Xo d) Uz
def sv1 (d:ak) (b:List UInt8) (k:Nat):ak:=Yt d (2+k*Xx d) (dV b)
def sv2 (d:ak) (b:List UInt8) (k:Nat):ak:=X0H (sv1 d b k) k Uz
def sv3 (d:ak) (b:List UInt8) (k:Nat):ak:=(V1 (sv2 d b k)).1
def sv4 (d:ak) (b:List UInt8) (k:Nat) (ep ts:Int):ak:=X0H (sv3 d b k) k (Vj ep ts (J b:Nat) (XP b:Nat))
def sv5 (d:ak) (b:List UInt8) (k:Nat) (ep ts:Int):ak:=(V1 (sv4 d b k ep ts)).1
def sv6 (d:ak) (b:List UInt8) (k:Nat) (ep ts:Int):ak:=(V1 (Yt (sv5 d b k ep ts) (Xo d) (X5h d))).1
def svT (d:ak) (b:List UInt8) (k:Nat) (ep ts:Int):List ak:=
 cD d (2+k*Xx d) (dV b)++([sv2 d b k,sv3 d b k,sv4 d b k ep ts]++(cD (sv5 d b k ep ts) (Xo d) (X5h d)++[sv6 d b k ep ts]))
def U8 (ep:Int):Nat:=(ep%2).toNat
def Vi (d:ak) (s:Sta) (ep:Int):ak×Sta×Int:=
 if (Xx d*64:Nat)<J (XQ s.g s.rules) then (Ur,XT,20) else (sv6 d (XQ s.g s.rules) (U8 ep) ep s.ts,⟨s.g,s.rules,s.ts,ep,0⟩,0)
def X0F (n:Int):ak×Sta×Int:=if (X0x n).2.2=false then (Ur,XT,1) else Vi (X0O n).1 ⟨UJ,[],0,0,0⟩ 1
def bW (d:ak) (s:Sta):Int:=if UH d≠0 then UH d else if YH s=false\/s.ep=1000000000000000 then 19 else 0
def Up (d:ak) (s:Sta):ak×Sta×Int:=if bW d s≠0 then (Ur,XT,bW d s) else Vi d s (s.ep+1)
def Xio (f t:Int) (h1:0<=f) (h2:f<t) (h3:t<=4096):Con prog 113 [] [.agg [ai f,ai t]] [] (ai ((t-f)*64)):=by
 refine ZC1 func113 ntmps113 fun E=> ?_;refine Ya ?_
 (exact Zz2)
def Xmk (d:ak) (f t ep tail:Int):Con prog 76 [] [.agg [ai f,ai t],XY d,ai ep,ai tail] [] (ai (Ua d f t ep tail)):=by
 refine ZC1 func76 ntmps76 fun E=> ?_;have hv:=XaN d;by_cases q1:UF d=false
 ·have e:Ua d f t ep tail=1:=by unfold Ua;rw[PI q1]
  rw[e];rw[q1] at hv;obtain⟨secs,af,on⟩:=d;refine YV ?_
  (exact Zz2)
 have dF:UF d=true:=ID
 rw[dF] at hv;have aL:=(X2j dF).2.1;by_cases q2:d.on=false
 ·have e:Ua d f t ep tail=22:=by unfold Ua;rw[NI q1,PI q2]
  rw[e];obtain⟨secs,af,on⟩:=d;simp only at q2;subst q2;refine U7 ?_
  (exact Zz2)
 have hm:J (d.aa.map Yd)=J d.aa:=Oc
 have e3:f<0\/t<=f\/(J d.aa:Int)<t->Ua d f t ep tail=1:=fun h=>by unfold Ua;rw[NI q1,NI q2,PI h]
 have e4:¬(f<0\/t<=f\/(J d.aa:Int)<t)->ep<0\/1000000000000000<ep\/tail<0\/(t-f)*64<tail->Ua d f t ep tail=1:=fun h h'=>by unfold Ua;rw[NI q1,NI q2,NI h,PI h']
 have e5:¬(f<0\/t<=f\/(J d.aa:Int)<t)->¬(ep<0\/1000000000000000<ep\/tail<0\/(t-f)*64<tail)->Ua d f t ep tail=0:=fun h h'=>by unfold Ua;rw[NI q1,NI q2,NI h,NI h']
 generalize Ua d f t ep tail=r at*;obtain⟨secs,af,on⟩:=d;obtain rfl:on=true:=by simpa using q2
 simp only at hm aL e3 e4 e5;clear q1 q2 dF;by_cases a1:f<0
 ·obtain rfl:=e3 (.inl a1);clear e3 e4 e5;refine Qxa ?_
  (exact Zz2)
 by_cases a2:t<=f
 ·obtain rfl:=e3 (.inr (.inl a2));clear e3 e4 e5;refine Qxa ?_
  (exact Zz2)
 by_cases a3:(J secs:Int)<t
 ·obtain rfl:=e3 (.inr (.inr a3));have qa:(J (secs.map Yd):Int)<t:=by omega
  clear e3 e4 e5;refine Qxa ?_
  (exact Zz2)
 have qa:¬(J (secs.map Yd):Int)<t:=Oa
 have hz:=Xio f t Oa Oa Oa;have e4:=e4 Oa;have e5:=e5 Oa;clear e3;by_cases b1:ep<0
 ·obtain rfl:=e4 (.inl b1);clear e4 e5;refine QBa ?_
  (exact Zz2)
 by_cases b2:1000000000000000<ep
 ·obtain rfl:=e4 (.inr (.inl b2));clear e4 e5;refine QBa ?_
  (exact Zz2)
 by_cases b3:tail<0
 ·obtain rfl:=e4 (.inr (.inr (.inl b3)));clear e4 e5;refine QBa ?_
  (exact Zz2)
 by_cases b4:(t-f)*64<tail
 ·obtain rfl:=e4 (.inr (.inr (.inr b4)));clear e4 e5;refine QBa ?_
  (exact Zz2)
 obtain rfl:=e5 Oa;clear e4 e5;refine X4 ?_;refine UA ?_
 (exact Zz2)
abbrev Vx (d:ak):Prop:=J d.aa<=2000/\J d.pending<=2000
def X9M {d:ak} (h:UF d=true) (hf:Vx d):X05 d:=X5x h (by have:=hf.2;omega)
def Xif (d:ak) (f t:Int) (hd:DOk d) (hf:Vx d) (h1:0<=f) (h2:f<=t) (h3:t<=J d.aa):Con prog 77 [] [.agg [ai f,ai t],XY d] [] (.d (Xc (XV d f t))):=by
 refine ZC1 func77 ntmps77 fun E=> ?_;obtain⟨F,rfl⟩:∃F:Nat,f=F:=⟨f.toNat,Oa⟩
 obtain⟨N,rfl⟩:∃N:Nat,t=((F+N:Nat):Int):=⟨(t-F).toNat,Oa⟩
 have hS:XV d (F:Nat) ((F+N:Nat):Int)=Ug d F N:=by
  unfold XV;rw[Int.toNat_natCast,show(((F+N:Nat):Int)-(F:Nat)).toNat=N by omega]
 rw[hS];have hr:=fun a=>Xf8 d a (X9M hd.v hf);have hlen:=fun i (hi:i<=N)=>X1j hd i F Oa;have fM:=X95 d;have bh:=fun i (hi:i<N)=>X66 hd (a:=F+i) Oa;have aL:=hf.1;clear hS hf hd;obtain⟨secs,af,on⟩:=d;generalize hB:Ug ⟨secs,af,on⟩ F=B at*;refine Yh ?_;refine X8 (Uo 5 130 1 rfl rfl rfl) ?_
 refine Xl (fun i:Nat=>i<=N) (fun i=>⟨27,[(2,.ptr 100 0),(3,.ptr 101 0),(5,.own 130 (J ((B i).map X6))),(6,ai ((F+i:Nat):Int))],[(100,.box [ai (F:Nat),ai ((F+N:Nat):Int)]),(101,.box [.d (XS secs),.d (XW af),ab on]),(130,.row 1 ((B i).map X6))]⟩) (fun i=>N-i) 0 (Nat.zero_le _)
  (X9 rfl ⟨JL,JL,(by rw[<-hB];exact ZzV),JL,TV⟩ ⟨rfl,rfl,(by rw[<-hB];rfl),TV⟩) ?_
 intro i hi;have bx:=hlen i hi;have hroom:J ((B i).map X6)<=1000000:=Oj
 by_cases hil:i<N
 case neg=>
  obtain rfl:i=N:=Oa
  have hn:¬((F+i:Nat):Int)<((F+i:Nat):Int):=Oa
  refine Ya ?_;refine QId ?_
  (exact Zz2)
 have hn:((F+i:Nat):Int)<((F+N:Nat):Int):=Oa
 have fE:=hr ((F+i:Nat):Int);have hst:B (i+1)=B i++(YZ ⟨secs,af,on⟩ ((F+i:Nat):Int)).1:=by rw[<-hB];exact fM i F
 have hrl:=bh i hil;generalize (YZ ⟨secs,af,on⟩ ((F+i:Nat):Int)).1=R at*;generalize (YZ ⟨secs,af,on⟩ ((F+i:Nat):Int)).2=R2 at*;have dW:J (R.map X6)<=64:=Oj
 clear hr fM hlen bh hB;refine VM ?_;refine⟨i+1,hil,Oa,?_⟩;dsimp only;rw[hst,map_append];exact X9 rfl ⟨JL,JL,ZzQ OC,JL,TV⟩ ⟨rfl,rfl,rfl,TV⟩
def X46 (r:Rcd):Prop:=X0z r/\J (X0e r)<=60000
def X7c {n:Int} (h1:0<=n) (h2:n<=9223372036854775807):J (Xq n)<=10:=by
 rw[X2z h1];exact X2n Oa
def X8b (h1:0<=ep) (h2:ep<=1000000000000000) (hr:J (X0e r)<=60000):J (Un ep r)<=60010:=by
 unfold Un;rw[LA];have:=X7c h1 Oa;omega
def XfU {b:List UInt8} (h:J b<=65536):J (Yx b)<=J b+14:=by
 unfold Yx;rw[LA,LA,X4m];have:=X7c (n:=(J b:Int)) Oa Oa;omega
def XdQ (h1:0<=ep) (h2:ep<=1000000000000000) (hr:J (X0e r)<=60000):J (UN ep r)<=130000:=by
 unfold UN;have h3:=X8b h1 h2 hr;have h4:=XfU (b:=Un ep r) Oa;have h5:=Xcs (Yx (Un ep r));rw[LA,length_singleton];omega
def X9d (h1:0<=ep) (h2:ep<=1000000000000000):∀l:List Rcd,(∀r∈l,J (X0e r)<=60000)->J (Xv ep l)<=130000*J l
 |[],_=>by simp[Xv]
 |r::l,h=>by
  have a:=XdQ h1 h2 (h r Oc);have b:=X9d h1 h2 l fun x hx=>h x JA;rw[Xv,LA,LC];omega
def Xj1 {x:UInt8} (h:x.toNat<=1):n8 (x.toNat+1)=n8 (x+1).toNat:=by
 have:(x+1).toNat=x.toNat+1:=by rw[UInt8.toNat_add];simp;omega
 rw[this]
def Xrr (ep:Int) (r:Rcd) (h1:0<=ep) (h2:ep<=1000000000000000) (hr:X46 r):Con prog 183 [] [ai ep,Um r] [] (.d (Xc (UN ep r))):=by
 refine ZC1 func183 ntmps183 fun E=> ?_;have c1:=Xgu ep Oa;have c2:=Xy4 r hr.1;have bx:=X8b h1 h2 hr.2;have c3:=XhS (Un ep r) Oa;have fL:=X7c h1 Oa;have hrl:=hr.2;have hfl:=XfU (b:=Un ep r) Oa;have bI:Xc (UN ep r)= .sl 1 ((YB (Yx (Un ep r))).map X6++[[.v (.int .u8 0)]]):=by unfold UN Xc;rw[map_append];rfl
 rw[bI];unfold Un at*;generalize X0e r=R at*;generalize Xq ep=U at*;have mz:J (U.map X6)=J U:=Oc
 have l6:J (R.map X6)=J R:=Oc
 generalize hF:Yx (U++R)=F at*;have tW:J (F.map X6)=J F:=Oc
 clear hr bI hF;obtain⟨kd,ts,l,⟨k,n,name,key,src,dst⟩,off⟩:=r;simp only[Um] at*;refine Yr ?_;refine Zc (γ:=130) ?_;refine W5_ ?_;clear c1 c2 c3;refine X8 (Uo 5 131 1 rfl rfl rfl) ?_
 refine Xl (fun i:Nat=>i<=J F) (fun i=>⟨34,[(5,.own 131 (J ((YB (F.take i)).map X6))),(13,.d (Xc F)),(14,ai (J (F.map X6))),(15,ai i)],[(131,.row 1 ((YB (F.take i)).map X6))]⟩) (fun i=>J F-i) 0 (Nat.zero_le _)
  (ZL0) ?_
 intro i hi;have hel:=Xcs (F.take i);rw[LT] at hel;have hroom:J ((YB (F.take i)).map X6)<=130048:=Oj
 by_cases hil:i<J F
 case neg=>
  obtain rfl:i=J F:=Oa
  have hn:¬((J F:Nat):Int)<J (F.map X6):=Oa
  rw[take_length] at hroom |-;refine XD ?_;refine X8 (XI 131 rfl) ?_;refine X8 (XX 4 131 rfl rfl Oc) ?_
  (exact Zz2)
 have hn:(i:Int)<J (F.map X6):=Oa
 obtain⟨x,hx⟩:=Xn (l:=F) hil;have au:(F.map X6)[i]? =some (X6 x):=XC hx;have hst:=XlJ hx;by_cases hx1:x.toNat<=1
 ·have jM:(x.toNat:Int)<=1:=by omega
  have fP:=Xj1 hx1;have eW:(YB (F.take (i+1))).map X6=(YB (F.take i)).map X6++[[.v (.int .u8 1)],X6 (x+1)]:=by rw[hst];unfold X4e;rw[PI hx1,map_append];rfl
  clear hx hst hel;refine YA ?_;(refine Z3 (op:= .add) (r':=n8 (x+1).toNat) (u:=n8 x.toNat) (v:=n8 1) ?_ (hr':=by exact fP) (hr:=by exact X2e (by rw[VE];omega)));refine W8_ ?_;refine⟨i+1,hil,Oa,?_⟩;dsimp only;rw[eW];exact QJd
 ·have jM:¬(x.toNat:Int)<=1:=by omega
  have eW:(YB (F.take (i+1))).map X6=(YB (F.take i)).map X6++[X6 x]:=by rw[hst];unfold X4e;rw[NI hx1,map_append];rfl
  clear hx hst hel;refine Uf ?_;refine⟨i+1,hil,Oa,?_⟩;dsimp only;rw[eW];exact QJd
def XtU (ep:Int) (l:List Rcd) (h1:0<=ep) (h2:ep<=1000000000000000) (hr:∀r∈l,X46 r) (hl:J l<=1000):Con prog 112 [] [ai ep,.d (.sl 10 (l.map Y6))] [] (.tup [.d (Xc (X3B ep l)),ai (V9 l)]):=by
 refine ZCt func112 ntmps112 fun E=> ?_;have hlm:J (l.map Y6)=J l:=Oc
 have e1:V9 l≠0->X3B ep l=[]:=fun h=>PI h;have e2:V9 l=0->X3B ep l=Xv ep l:=fun h=>NI (by rw[h];simp);generalize hR:V9 l=R at*;generalize X3B ep l=P at*;refine Yb ?_;refine X8 (Uo 6 130 1 rfl rfl rfl) ?_
 refine Xl (fun i:Nat=>i<=J l/\V9 (l.drop i)=R) (fun i=>⟨28,[(0,ai ep),(6,.own 130 (J ((Xv ep (l.take i)).map X6))),(10,.d (.sl 10 (l.map Y6))),(11,ai (J (l.map Y6))),(12,ai i)],[(130,.row 1 ((Xv ep (l.take i)).map X6))]⟩) (fun i=>J l-i) 0 ⟨Nat.zero_le _,Is⟩
  (ZL0) ?_
 rintro i ⟨hi,hg⟩;have hel:=X9d h1 h2 (l.take i) fun x hx=>(hr x (mem_of_mem_take hx)).2;rw[LT] at hel;have hroom:J ((Xv ep (l.take i)).map X6)<=130000000:=Oj
 by_cases hil:i<J l
 case neg=>
  obtain rfl:i=J l:=Oa
  have hn:¬((J l:Nat):Int)<J (l.map Y6):=Oa
  rw[drop_length] at hg;obtain rfl:0=R:=hg;obtain rfl:=e2 rfl;rw[take_length] at hroom |-;clear e1 e2;refine XK ?_;refine QId ?_
  (exact Zz1 rfl ⟨_,ZzS,⟨rfl,rfl,TV⟩,X5 _⟩)
 have hn:(i:Int)<J (l.map Y6):=Oa
 obtain⟨x,hx⟩:=Xn (l:=l) hil;have au:(l.map Y6)[i]? =some (Y6 x):=XC hx;have hw:=hr x (mem_of_getElem? hx);rw[Xjg hx] at hg;have c1:=XdC x hw.1;have c2:=Xrr ep x h1 h2 hw;have hst:=XhQ (ep:=ep) hx;have cF:=XdQ h1 h2 hw.2;have eW:(Xv ep (l.take (i+1))).map X6=(Xv ep (l.take i)).map X6++(UN ep x).map X6:=by rw[hst,map_append]
 have lu:J ((UN ep x).map X6)<=130000:=by rw[LM];exact cF
 generalize UN ep x=Y at*;generalize UO x=re at*;clear hx hr hst hw hel;obtain⟨kd,ts,cl,⟨k,n,name,key,src,dst⟩,off⟩:=x;simp only[Um,Y6] at*;by_cases bR:re=0
 case neg=>
  rw[PI bR] at hg;subst hg;obtain rfl:=e1 bR;clear e1 e2 c2;refine UR ?_
  (exact Zz1 rfl ⟨_,Xe 4 (AVal.le_nil 1),⟨rfl,rfl,TV⟩,X5 _⟩)
 rw[NI (by simpa using bR)] at hg;subst bR;clear e1 e2;refine QW ?_;refine⟨i+1,⟨hil,hg⟩,Oa,?_⟩;dsimp only;rw[eW];exact X9 rfl ⟨JL,ZzQ OC,JL,JL,JL,TV⟩ ⟨rfl,TV⟩
end Go.Fw

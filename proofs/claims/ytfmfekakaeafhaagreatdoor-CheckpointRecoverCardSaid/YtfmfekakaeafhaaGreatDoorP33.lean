/- What is read aZ a change or a rule is its encoding, in plain Lean. -/
import Derived.Test.YtfmfekakaeafhaaGreatDoorP26
import Derived.Test.YtfmfekakaeafhaaGreatDoorP27
import Derived.Test.YtfmfekakaeafhaaGreatDoorP28
set_option linter.all false
set_option maxHeartbeats 32000000
namespace Go.Fw
open Go List
open List renaming length->J
variable{a at_ e ep k limit m n:Int}{b s u w:List UInt8}{c:Chg}{d:ak}{i q:Nat}{l:List Int}{r:Rul}{v:Val}{x:Rcd}
def XeH {a1:Int} (h0:0<=a) (h:rkI b a 0 limit=(k,a1,0)):only b a a1 [UInt8.ofNat k.toNat]/\a1=a+1/\1<=k/\k<=limit:=by
 unfold rkI rkS at h;rw[NI Oc,NI Oc] at h;split at h
 ·simp at h
 ·rename_i h1;split at h
  ·simp at h
  ·rename_i h2;obtain⟨c,hc⟩:∃c,b[a.toNat]? =some c:=⟨_,getElem?_eq_getElem Oa⟩
   rw[hc] at h h2;simp only[Option.getD_some,Prod.mk.injEq] at h h2;obtain⟨rfl,rfl,_⟩:=h;refine⟨?_,Oa,Oa,Oa⟩;rw[Xlu,show((a.toNat:Nat):Int)+1=a+1 by omega];exact XoJ h0 hc
theorem X8X:rnS b a 0=Xd b a:=NI Oc
theorem Xeb:rsS b a 0=VZ b a 20:=NI Oc
def Xbc (h:rnS b a e=(n,m,0)):e=0:=by
 by_cases he:e=0
 ·exact he
 ·rw[Xh3 he] at h;simp at h;exact absurd h.2.2 he
def X5E (h:rsS b a e=(s,m,0)):e=0:=by
 by_cases he:e=0
 ·exact he
 ·rw[XjL he] at h;simp at h;exact absurd h.2.2 he
def Xl9 (h:riS b a e=(n,m,0)):e=0:=by
 by_cases he:e=0
 ·exact he
 ·rw[Xf9 he] at h;simp at h;exact absurd h.2.2 he
def XyR (h:rvS b a e=(v,m,0)):e=0:=by
 by_cases he:e=0
 ·exact he
 ·rw[XnW he] at h;simp at h;exact absurd h.2.2 he
def Xy2 (h:rkI b a e limit=(k,m,0)):e=0:=by
 by_cases he:e=0
 ·exact he
 ·unfold rkI at h;rw[PI he] at h;simp at h;exact absurd h.2.2 he
theorem Xp5 (c:UInt8) (w:List UInt8):c::w=[c]++w:=rfl
def X6p:U1 zV:=by rw[U1];exact⟨Oc,Oc,by rw[X1Z];trivial⟩
def Xjv (h0:0<=a) (h:UE b a 0=(c,at_,0)):only b a at_ (U3 c)/\a<at_/\1<=c.op/\c.op<=8:=by
 unfold UE at h;simp only at h;generalize hk:rkI b a 0 8=k at h;obtain⟨op,a1,e1⟩:=k;simp only at h;generalize hi:rnS b a1 e1=i at h;obtain⟨id,a2,e2⟩:=i;simp only at h;generalize hf:(if op=6 then rnS b a2 e2 else (0,a2,e2))=f at h;obtain⟨src,a3,e3⟩:=f;simp only at h;generalize ht:(if op=6 then rnS b a3 e3 else (0,a3,e3))=t at h;obtain⟨dst,a4,e4⟩:=t;simp only at h;generalize hs:(if YO op=true then rsS b a4 e4 else ([],a4,e4))=s at h;obtain⟨name,a5,e5⟩:=s;simp only at h;generalize hv:(if YL op=true then rvS b a5 e5 else (zV,a5,e5))=v at h;obtain⟨v,a6,e6⟩:=v;simp only[Prod.mk.injEq] at h;obtain⟨rfl,rfl,rfl⟩:=h;have z5:e5=0:=by
  split at hv
  ·exact XyR hv
  ·simp at hv;exact hv.2.2
 subst z5;have z4:e4=0:=by
  split at hs
  ·exact X5E hs
  ·simp at hs;exact hs.2.2
 subst z4;have z3:e3=0:=by
  split at ht
  ·exact Xbc ht
  ·simp at ht;exact ht.2.2
 subst z3;have z2:e2=0:=by
  split at hf
  ·exact Xbc hf
  ·simp at hf;exact hf.2.2
 subst z2;have z1:=Xbc hi;subst z1;obtain⟨p1,p2,p3,p4⟩:=XeH h0 hk;rw[X8X] at hi;obtain⟨q1,q2,q3,q4⟩:=X43 hi;have r1:only b a2 a4 (if op=6 then Xq src++Xq dst else [])/\a2<=a4:=by
  by_cases h6:op=6
  ·rw[PI h6] at hf ht |-;rw[X8X] at hf ht;have x1:=X43 hf;have x2:=X43 ht;exact⟨X2W x1.1 x2.1,Oa⟩
  ·rw[NI h6] at hf ht |-;simp at hf ht;obtain⟨_,rfl⟩:=hf;obtain⟨_,rfl⟩:=ht;have:=q1.2.1;exact⟨Xa2 (by have:=p1.1;omega) q1.2.2.1,Oa⟩
 have r2:only b a4 a5 (if YO op=true then Ys name else [])/\a4<=a5:=by
  by_cases h6:YO op=true
  ·rw[PI h6] at hs |-;rw[Xeb] at hs;have x1:=X7Q hs;exact⟨x1.1,Oa⟩
  ·rw[NI h6] at hs |-;simp at hs;obtain⟨_,rfl⟩:=hs;exact⟨Xa2 (by have:=r1.1.1;have:=r1.1.2.1;omega) r1.1.2.2.1,Oa⟩
 have r3:only b a5 a6 (if YL op=true then UP v else [])/\a5<=a6:=by
  by_cases h6:YL op=true
  ·rw[PI h6] at hv |-;rw[XgZ] at hv;have x1:=Xlk hv;exact⟨x1.1,x1.1.2.1⟩
  ·rw[NI h6] at hv |-;simp at hv;obtain⟨_,rfl⟩:=hv;exact⟨Xa2 (by have:=r2.1.1;have:=r2.1.2.1;omega) r2.1.2.2.1,Oa⟩
 refine⟨?_,Oa,p3,p4⟩;unfold U3;simp only;rw[Xp5];exact X2W p1 (X2W (X2W (X2W q1 r1.1) r2.1) r3.1)
def Xrj (b:List UInt8) (a e:Int):J (rsS b a e).1<=20:=by
 unfold rsS;split
 ·simp
 ·have:=Xov b a 20 Oa;omega
def Xqp (b:List UInt8) (a e:Int):U1 (rvS b a e).1:=by
 unfold rvS;split
 ·exact X6p
 ·by_cases hz:(X03 b a).2.2=0
  ·have:=Xlk (b:=b) (a:=a) (v:=(X03 b a).1) (e:=(X03 b a).2.1) (by rw[<-hz]);exact XcY _ _ this.2.1
  ·unfold X03 at hz |-;split
   ·exact X6p
   ·rename_i h1;rw[NI h1] at hz;simp only at hz |-;split
    ·exact X6p
    ·rename_i h2;rw[NI h2] at hz;exact absurd OK hz
def XfT (b:List UInt8) (a e:Int):X4G (UE b a e).1:=by
 unfold UE;constructor
 ·simp only;by_cases h:YO (rkI b a e 8).1=true
  ·simp only[PI h];exact Nat.le_trans (Xrj _ _ _) Oa
  ·simp only[NI h];simp
 ·simp only;by_cases h:YL (rkI b a e 8).1=true
  ·simp only[PI h];exact Xqp _ _ _
  ·simp only[NI h];exact X6p
def XhV (h0:0<=a) (h:VW b a 0=(r,at_,0)):only b a at_ (VN r)/\a<at_:=by
 unfold VW at h;simp only at h;generalize hk:rkI b a 0 7=k at h;obtain⟨kd,a1,e1⟩:=k;simp only at h;generalize h1:rsS b a1 e1=s at h;obtain⟨s1,a2,e2⟩:=s;simp only at h;generalize h2:rsS b a2 e2=s at h;obtain⟨s2,a3,e3⟩:=s;simp only at h;generalize h3:rsS b a3 e3=s at h;obtain⟨s3,a4,e4⟩:=s;simp only at h;generalize h4:rsS b a4 e4=s at h;obtain⟨s4,a5,e5⟩:=s;simp only at h;generalize h5:riS b a5 e5=s at h;obtain⟨n,a6,e6⟩:=s;simp only[Prod.mk.injEq] at h;obtain⟨rfl,rfl,rfl⟩:=h;obtain rfl:=Xl9 h5;obtain rfl:=X5E h4;obtain rfl:=X5E h3;obtain rfl:=X5E h2;obtain rfl:=X5E h1;rw[Xeb] at h1 h2 h3 h4;rw[Xbl] at h5;obtain⟨p1,p2,p3,p4⟩:=XeH h0 hk;have x1:=X7Q h1;have x2:=X7Q h2;have x3:=X7Q h3;have x4:=X7Q h4;have x5:=Xdn h5;refine⟨?_,Oa⟩;unfold VN;simp only;rw[Xp5];exact X2W p1 (X2W (X2W (X2W (X2W x1.1 x2.1) x3.1) x4.1) x5.1)
open Go Go.Proofs Tryz
open List renaming length->J
set_option maxRecDepth 100000
abbrev zC:Chg:=⟨0,0,0,0,[],zV⟩
abbrev X5Q:Rcd:=⟨0,0,[],zR,false⟩
def X0L (b:List UInt8) (a:Int):Chg×Int×Int:=
 if a<0\/(J b:Int)<a then (zC,0,1) else
  let r:=UE b a 0
  let e:=if r.2.2=0 then YE r.1 else r.2.2
  if e≠0 then (zC,0,e) else (r.1,r.2.1,0)
def X1h (b:List UInt8) (a:Int):Rul×Int×Int:=
 if a<0\/(J b:Int)<a then (zR,0,1) else
  let r:=VW b a 0
  let e:=if r.2.2=0 then Uu r.1 else r.2.2
  if e≠0 then (zR,0,e) else (r.1,r.2.1,0)
theorem XsH (c:Chg) (ρ:Nat->Nat):(Xu c).ren ρ=Xu c:=by
 obtain⟨op,id,src,dst,name,⟨k,n,d,s,l⟩⟩:=c;rfl
theorem Xwn (r:Rul) (ρ:Nat->Nat):(Yu r).ren ρ=Yu r:=rfl
def XsC (b:List UInt8) (a e limit:Int) (hb:J b<=281474976710656) (ha:e=0->0<=a/\a<=J b):Con prog 198 [(101,oRd b a e)] [.ptr 101 0,ai limit] [(101,oRd b (rkI b a e limit).2.1 (rkI b a e limit).2.2)] (ai (rkI b a e limit).1):=YU 0 101 (Xhl b a e limit hb ha)
def XkI (b:List UInt8) (a e:Int) (hb:J b<=281474976710656):Con prog 199 [(101,oRd b a e)] [.ptr 101 0] [(101,oRd b (rnS b a e).2.1 (rnS b a e).2.2)] (ai (rnS b a e).1):=YU 0 101 (Xax b a e hb)
def Xxq (b:List UInt8) (a e:Int) (hb:J b<=281474976710656) (ha:e=0->0<=a/\a<=J b):Con prog 200 [(101,oRd b a e)] [.ptr 101 0] [(101,oRd b (roS b a e).2.1 (roS b a e).2.2)] (ab (roS b a e).1):=YU 0 101 (XpW b a e hb ha)
def XkT (b:List UInt8) (a e:Int) (hb:J b<=281474976710656) (ha:e=0->0<=a/\a<=J b):Con prog 196 [(101,oRd b a e)] [.ptr 101 0] [(101,oRd b (UE b a e).2.1 (UE b a e).2.2)] (Xu (UE b a e).1):=by
 have h:=YU 0 101 (Xpm b a e hb ha);rw[XsH] at h;exact h
def XnE (b:List UInt8) (a e:Int) (hb:J b<=281474976710656) (ha:e=0->0<=a/\a<=J b):Con prog 195 [(101,oRd b a e)] [.ptr 101 0] [(101,oRd b (VW b a e).2.1 (VW b a e).2.2)] (Yu (VW b a e).1):=by
 have h:=YU 0 101 (Xw2 b a e hb ha);rw[Xwn] at h;exact h
def XqZ (b:List UInt8) (a:Int) (hb:J b<=281474976710656):Con prog 133 [] [.d (Xc b),ai a] [] (.tup [Xu (X0L b a).1,ai (X0L b a).2.1,ai (X0L b a).2.2]):=by
 refine ZCt func133 ntmps133 fun E=> ?_;have hlm:J (b.map X6)=J b:=Oc
 unfold X0L;by_cases h1:a<0
 ·rw[PI (.inl h1)];exact Qxd
 by_cases h2:(J b:Int)<a
 ·rw[PI (.inr h2)];have dr:(J (b.map X6):Int)<a:=by omega
  exact Qxd
 rw[NI Oa];have dr:¬(J (b.map X6):Int)<a:=Oa
 have hr:=XkT b a 0 hb (fun _=>Oa);have hc:=X63 (UE b a 0).1;generalize UE b a 0=r at*;obtain⟨c,at_,e⟩:=r;simp only at hr hc |-;generalize YE c=ce at*;obtain⟨op,id,src,dst,name,⟨k,n,d,s,l⟩⟩:=c;simp only[Xu] at hr hc |-;by_cases he:e=0
 ·subst he;rw[PI rfl];by_cases h3:ce=0
  ·subst h3;rw[NI Oc];refine X4 ?_;refine UR ?_;exact Qyd
  ·rw[PI h3];refine X4 ?_;refine VM ?_;exact Qwd
 ·rw[NI he,PI he];refine X4 ?_;refine YT ?_;exact Qwd
def Xxo (b:List UInt8) (a:Int) (hb:J b<=281474976710656):Con prog 131 [] [.d (Xc b),ai a] [] (.tup [Yu (X1h b a).1,ai (X1h b a).2.1,ai (X1h b a).2.2]):=by
 refine ZCt func131 ntmps131 fun E=> ?_;have hlm:J (b.map X6)=J b:=Oc
 unfold X1h;by_cases h1:a<0
 ·rw[PI (.inl h1)];exact QAd
 by_cases h2:(J b:Int)<a
 ·rw[PI (.inr h2)];have dr:(J (b.map X6):Int)<a:=by omega
  exact QAd
 rw[NI Oa];have dr:¬(J (b.map X6):Int)<a:=Oa
 have hr:=XnE b a 0 hb (fun _=>Oa);have hc:=X8i (VW b a 0).1;generalize VW b a 0=r at*;obtain⟨c,at_,e⟩:=r;simp only at hr hc |-;generalize Uu c=ce at*;obtain⟨k,n,name,key,src,dst⟩:=c;simp only[Yu] at hr hc |-;by_cases he:e=0
 ·subst he;rw[PI rfl];by_cases h3:ce=0
  ·subst h3;rw[NI Oc];refine X4 ?_;refine UR ?_;exact Qzd
  ·rw[PI h3];refine X4 ?_;refine VM ?_;exact Qzd
 ·rw[NI he,PI he];refine X4 ?_;refine YT ?_;exact Qzd
def X0n (l:List Int):List UInt8:=(l.map Xq).flatten
def X5e {α:Type} (w:α->List UInt8) (l:List α):List UInt8:=Xq (J l)++(l.map w).flatten
structure Rd where
 k:Nat
 c:List UInt8
 a:Int
 e:Int
def Rd.put (s:Rd) (a e:Int):Rd:=⟨s.k,s.c,a,e⟩
def X1m {α:Type} (z:α) (f:List UInt8->Int->α×Int×Int) (s:Rd):α×Rd:=
 if s.e≠0 then (z,s) else let r:=f s.c s.a;(r.1,s.put (if r.2.2=0 then r.2.1 else s.a) r.2.2)
def Ym:Rd->Int×Rd:=X1m 0 Xd
def Vy:Rd->Rul×Rd:=X1m zR X1h
def Vc {α:Type} (f:Rd->α×Rd):Nat->Rd->List α×Rd
 |0,s=>([],s)
 |n+1,s=>if s.e≠0 then ([],s) else let x:=f s;let r:=Vc f n x.2;(x.1::r.1,r.2)
def UL {α:Type} (f:Rd->α×Rd) (s:Rd):List α×Rd:=let n:=Ym s;Vc f n.1.toNat n.2
def Xfk {α:Type}{f:Rd->α×Rd}{n:Nat}{s:Rd} (h:s.e≠0):Vc f n s=([],s):=by
 cases n with
 |zero=>rfl
 |succ n=>rw[Vc,PI h]
def Xzn {α:Type}{z:α}{f:List UInt8->Int->α×Int×Int}{s:Rd} (h:s.e≠0):X1m z f s=(z,s):=by
 unfold X1m;rw[PI h]
def eq3 {α:Type}{x:α×Int×Int} (h:x.2.2=0):x=(x.1,x.2.1,0):=by rw[<-h]
def X0C (b:List UInt8):Nat->Int->Int->List Chg×Int×Int
 |0,a,e=>([],a,e)
 |n+1,a,e=>if e≠0 then ([],a,e) else ((UE b a e).1::(X0C b n (UE b a e).2.1 (UE b a e).2.2).1,(X0C b n (UE b a e).2.1 (UE b a e).2.2).2)
def Xg8 {n:Nat} (h:e≠0):X0C b n a e=([],a,e):=by
 cases n with
 |zero=>rfl
 |succ n=>rw[X0C,PI h]
def rdX (b:List UInt8):Rcd×Int×Int:=
 let k:=rkI b 0 0 3
 let t:=rnS b k.2.1 k.2.2
 let n:=rnS b t.2.1 t.2.2
 let l:=X0C b n.1.toNat n.2.1 n.2.2
 let r:=VW b t.2.1 t.2.2
 let o:=roS b r.2.1 r.2.2
 if k.1=1 then (⟨k.1,t.1,l.1,zR,false⟩,l.2) else if k.1=2 then (⟨k.1,t.1,[],r.1,o.1⟩,o.2) else (⟨k.1,t.1,[],zR,false⟩,t.2)
def rdF (b:List UInt8) (x:Rcd×Int×Int):Rcd×Int:=
 let e1:=if x.2.2=0/\x.2.1<J b then 2 else x.2.2
 let e2:=if e1=0 then UO x.1 else e1
 if e2≠0 then (X5Q,e2) else (x.1,0)
def rdS (b:List UInt8):Rcd×Int:=rdF b (rdX b)
def Xed (h:e≠0):rdF b (x,a,e)=(X5Q,e):=by
 unfold rdF;simp only;rw[if_neg (c:=e=0/\a<J b) (fun q=>h q.1),NI h,PI h]
def Xfm (h:a<J b):rdF b (x,a,0)=(X5Q,2):=by
 unfold rdF;simp[h]
def Xba (h:¬a<J b) (hc:UO x=0):rdF b (x,a,0)=(x,0):=by
 unfold rdF;simp[h,hc]
def Xf4 (h:¬a<J b) (hc:UO x≠0):rdF b (x,a,0)=(X5Q,UO x):=by
 unfold rdF;simp[h,hc]
def Xhd (h0:0<=a) (h:(UE b a 0).2.2=0):a<(UE b a 0).2.1/\0<=(UE b a 0).2.1/\(UE b a 0).2.1<=J b:=by
 have:=Xjv (b:=b) (a:=a) (c:=(UE b a 0).1) (at_:=(UE b a 0).2.1) h0 (eq3 h);have h2:=this.1.2.2.1;omega
def X7s (h:(rnS b a e).2.2=0):0<=(rnS b a e).2.1/\(rnS b a e).2.1<=J b:=by
 have he:e=0:=Xbc (n:=(rnS b a e).1) (m:=(rnS b a e).2.1) (eq3 h);subst he;rw[X8X] at h |-;obtain⟨q,h1,h2⟩:=X4Y b a h;omega
def Xno (b:List UInt8) (a e:Int):∃n:Nat,(rnS b a e).1=n/\n<=9223372036854775807:=by
 by_cases he:e=0
 ·subst he;rw[X8X];by_cases h:(Xd b a).2.2=0
  ·have:=X43 (b:=b) (a:=a) (n:=(Xd b a).1) (e:=(Xd b a).2.1) (eq3 h);exact⟨(Xd b a).1.toNat,Oa,Oa⟩
  ·exact⟨0,by rw[Xh1 h];rfl,Oa⟩
 ·rw[Xh3 he];exact⟨0,rfl,Oa⟩
def XqB (h0:0<=a) (h:(rkI b a 0 limit).2.2=0):0<=(rkI b a 0 limit).2.1/\(rkI b a 0 limit).2.1<=J b:=by
 have:=XeH (b:=b) (a:=a) (limit:=limit) (k:=(rkI b a 0 limit).1) (a1:=(rkI b a 0 limit).2.1) h0 (eq3 h);have h2:=this.1.2.2.1;omega
def XlO (h0:e=0->0<=a) (h:(VW b a e).2.2=0):0<=(VW b a e).2.1/\(VW b a e).2.1<=J b:=by
 have he:e=0:=by
  by_cases he:e=0
  ·exact he
  ·exfalso;unfold VW at h;simp only at h;have z5:=Xl9 (b:=b) (n:=(riS b _ _).1) (m:=(riS b _ _).2.1) (eq3 h);have z4:=X5E (b:=b) (s:=(rsS b _ _).1) (m:=(rsS b _ _).2.1) (eq3 z5);have z3:=X5E (b:=b) (s:=(rsS b _ _).1) (m:=(rsS b _ _).2.1) (eq3 z4);have z2:=X5E (b:=b) (s:=(rsS b _ _).1) (m:=(rsS b _ _).2.1) (eq3 z3);have z1:=X5E (b:=b) (s:=(rsS b _ _).1) (m:=(rsS b _ _).2.1) (eq3 z2);exact he (Xy2 (b:=b) (k:=(rkI b a e 7).1) (m:=(rkI b a e 7).2.1) (eq3 z1))
 subst he;have:=XhV (b:=b) (a:=a) (r:=(VW b a 0).1) (at_:=(VW b a 0).2.1) (h0 rfl) (eq3 h);have h2:=this.1.2.2.1;have h3:=h0 rfl;omega
def X8c {b:List UInt8}:∀(n:Nat) (a e:Int),(e=0->0<=a/\a<=J b)->(∀c∈(X0C b n a e).1,X4G c)/\(J (X0C b n a e).1:Int)<=J b+1/\(e=0->(J (X0C b n a e).1:Int)<=J b+1-a)
 |0,a,e,h=>by rw[X0C];exact⟨Oc,Ou,fun he=>by have:=h he;simp;omega⟩
 |n+1,a,e,h=>by
  rw[X0C];by_cases he:e=0
  ·subst he;rw[NI Oc];have h1:=h rfl;have hp:=fun hz=>Xhd (b:=b) (a:=a) h1.1 hz;have ih:=X8c (b:=b) n (UE b a 0).2.1 (UE b a 0).2.2 (fun hz=>by have:=hp hz;omega);have hc:=XfT b a 0;generalize UE b a 0=c at*;by_cases hz:c.2.2=0
   ·have h2:=hp hz;have h3:=ih.2.2 hz;refine⟨fun x hx=> ?_,?_,fun _=> ?_⟩
    rotate_left
    ·simp only[LC];omega
    ·simp only[LC];omega
    rcases mem_cons.1 hx with rfl|hx
    ·exact hc
    ·exact ih.1 x hx
   ·rw[Xg8 hz];refine⟨fun x hx=> ?_,Ou,fun _=>Ou⟩;simp at hx;subst hx;exact hc
  ·rw[PI he];exact⟨Oc,Ou,fun h=>absurd h he⟩
def Xvl (b:List UInt8) (hb:J b<=1073741824):Con prog 137 [] [.d (Xc b)] [] (.tup [Um (rdS b).1,ai (rdS b).2]):=by
 refine ZCt func137 ntmps137 fun E=> ?_;have hb':J b<=281474976710656:=Oa
 have hlm:J (b.map X6)=J b:=Oc
 have hk:=XsC b 0 0 3 hb' (fun _=>Oa);have hkp:=fun h=>XqB (b:=b) (a:=0) (limit:=3) Oa h;unfold rdS;generalize hX:rdX b=X;unfold rdX at hX;generalize rkI b 0 0 3=k at*;obtain⟨kd,a1,e1⟩:=k;simp only at hk hkp hX;have ht:=XkI b a1 e1 hb';have jf:=fun h=>X7s (b:=b) (a:=a1) (e:=e1) h;generalize rnS b a1 e1=t at*;obtain⟨ts,a2,e2⟩:=t;simp only at ht jf hX;refine U7 ?_;refine X4q ⟨85,[(0,.d (Xc b)),(2,.ptr 100 0),(4,.ptr 101 0),(5,.ptr 102 0)],[(100,.box [ai 0,ai 0,aq,ai 0,ai 0,Xa [],Xa [],Xa [],Xa [],ab false]),(101,oRd b X.2.1 X.2.2),(102,.box [ai X.1.kind,ai X.1.ts,.d (.sl 10 (X.1.changes.map Xp)),ai X.1.rule.kind,ai X.1.rule.n,Xa X.1.rule.name,Xa X.1.rule.key,Xa X.1.rule.src,Xa X.1.rule.dst,ab X.1.off])]⟩ ?_ ?_
 ·by_cases k1:kd=1
  ·rw[PI k1] at hX;have hn:=XkI b a2 e2 hb';have hnp:=fun h=>X7s (b:=b) (a:=a2) (e:=e2) h;have dB:=Xno b a2 e2;generalize rnS b a2 e2=nn at*;obtain⟨n,a3,e3⟩:=nn;obtain⟨m,hm,hml⟩:=dB;simp only at hm hn hnp hX;subst hm;rw[Int.toNat_natCast] at hX;have hall:=X8c (b:=b) m a3 e3 (fun h=>hnp h);generalize hL:X0C b m a3 e3=L at*;refine XD ?_;refine X8 (X1Y 102 2 103 10 rfl rfl rfl rfl rfl) ?_
   refine Xl (ι:=List Chg×Nat×Int×Int) (fun q=>q.1++(X0C b q.2.1 q.2.2.1 q.2.2.2).1=L.1/\(X0C b q.2.1 q.2.2.1 q.2.2.2).2=L.2/\(q.2.2.2=0->0<=q.2.2.1/\q.2.2.1<=J b)/\q.2.1<=9223372036854775807)
    (fun q=>⟨85,[(0,.d (Xc b)),(2,.ptr 100 0),(4,.ptr 101 0),(5,.ptr 102 0),(6,ai q.2.1)],[(100,.box [ai 0,ai 0,aq,ai 0,ai 0,Xa [],Xa [],Xa [],Xa [],ab false]),(101,oRd b q.2.2.1 q.2.2.2),(102,.box [ai kd,ai ts,.own 103 (J (q.1.map Xp)),ai 0,ai 0,Xa [],Xa [],Xa [],Xa [],ab false]),(103,.row 10 (q.1.map Xp))]⟩) (fun q=>q.2.1) ([],m,a3,e3)
    ⟨by rw[hL];rfl,by rw[hL],hnp,hml⟩
    (ZL0) ?_
   rintro⟨acc,j,a,e⟩ ⟨h1,h2,h3,h4⟩;simp only at h1 h2 h3 h4;have fin:j=0\/e≠0->L=(acc,a,e):=by
    exact Yt50
   by_cases hj:j=0
   ·subst hj;have eC:=fin (.inl rfl);subst eC;refine Ya ?_;refine St.le_trans (XI 103 rfl) ?_;refine St.le_trans (VR 102 2 103 rfl rfl rfl rfl) ?_;subst hX;exact ZL0
   by_cases he:e=0
   case neg=>
    have eC:=fin (.inr he);subst eC;have hj':(0:Int)<j:=Oa
    refine Ya ?_;refine St.le_trans (XI 103 rfl) ?_;refine St.le_trans (VR 102 2 103 rfl rfl rfl rfl) ?_;subst hX;exact ZL0
   subst he;obtain⟨i,rfl⟩:∃i,j=i+1:=⟨j-1,Oa⟩
   have h5:=h3 rfl;have hc:=XkT b a 0 hb' (fun _=>h5);have dG:=fun h=>Xhd (b:=b) (a:=a) h5.1 h;rw[X0C,NI Oc] at h1 h2;generalize UE b a 0=c at*;obtain⟨c,a',e'⟩:=c;simp only at hc dG h1 h2;have hroom:J (acc.map Xp)<=1073741825:=by
    have:=CG length h1;simp only[LA,LC] at this;simp only[LM];omega
   have cZ:(acc++[c]).map Xp=acc.map Xp++[Xp c]:=Oc
   obtain⟨op,id,src,dst,name,⟨xk,xn,xd,xs,xl⟩⟩:=c;simp only[Xu] at hc;have hj':(0:Int)<(i+1:Nat):=Oa
   refine YG ?_
   (refine Z3 (op:= .sub) (r':=nj i) (u:= .int .i64 ((i+1:Nat):Int)) (v:= .int .i64 1) ?_ (hr':=by exact CG (Value.int .i64) (show(((i+1:Nat):Int)-1)=(i:Int) by omega)) (hr:=OO))
   refine W2_ ?_;refine⟨(acc++[_],i,a',e'),⟨Iq,h2,(fun h=>by have:=dG h;exact⟨Oa,Oa⟩:e'=0->0<=a'/\a'<=J b),(by omega:i<=9223372036854775807)⟩,I8,?_⟩;dsimp only;rw[cZ];exact X9 rfl JM ⟨rfl,rfl,by refine Eq.trans (b:=AObj.box [_,_,.own 103 (_+_),_,_,_,_,_,_,_]) rfl ?_;simp only[LA,LM,LC,length_nil],rfl,TV⟩
  by_cases k2:kd=2
  ·rw[NI k1,PI k2] at hX;have hr:=XnE b a2 e2 hb' jf;have k9:=fun h=>XlO (b:=b) (a:=a2) (e:=e2) (fun he=>(jf he).1) h;generalize VW b a2 e2=r at*;obtain⟨r,a3,e3⟩:=r;simp only at hr k9 hX;have ho:=Xxq b a3 e3 hb' k9;generalize roS b a3 e3=o at*;obtain⟨o,a4,e4⟩:=o;obtain⟨k,n,name,key,src,dst⟩:=r;simp only[Yu] at hr ho hX;subst hX;refine XM ?_;refine St.le_trans (Xg 102 (cs':=[ai kd,ai ts,.d (.sl 10 []),ai k,ai n,Xa name,Xa key,Xa src,Xa dst,ab o]) rfl JM rfl) ?_;exact ZL0
  rw[NI k1,NI k2] at hX;subst hX;refine XD ?_;refine St.le_trans (Xg 102 (cs':=[ai kd,ai ts,.d (.sl 10 []),ai 0,ai 0,Xa [],Xa [],Xa [],Xa [],ab false]) rfl JM rfl) ?_;exact ZL0
 have jL:X0z X.1:=by
  exact Yt33
 have hc:=XdC X.1 jL;clear hX jL hk hkp ht jf;obtain⟨x,a,e⟩:=X;by_cases he:e=0
 case neg=>
  rw[Xed he];clear hc;obtain⟨kd,ts,l,⟨k,n,name,key,src,dst⟩,off⟩:=x;simp only[Um];refine Qxa ?_;exact QBd
 subst he;by_cases ha:a<J b
 ·rw[Xfm ha];have gJ:a<J (b.map X6):=by omega
  clear hc;obtain⟨kd,ts,l,⟨k,n,name,key,src,dst⟩,off⟩:=x;simp only[Um];refine X4 ?_;refine Yr ?_;exact QBd
 have gJ:¬a<J (b.map X6):=Oa
 by_cases h3:UO x=0
 ·rw[Xba ha h3];simp only at hc;rw[h3] at hc;obtain⟨kd,ts,l,⟨k,n,name,key,src,dst⟩,off⟩:=x;simp only[Um] at hc |-;refine QWa ?_;exact QCd
 ·rw[Xf4 ha h3];simp only at hc;generalize UO x=ce at*;obtain⟨kd,ts,l,⟨k,n,name,key,src,dst⟩,off⟩:=x;simp only[Um] at hc |-;refine X4 ?_;refine Yh ?_;exact QBd
structure At (b:List UInt8) (q:Nat) (w:List UInt8):Prop where
 le:q<=J b
 eq:b.drop q=w
def At.step (h:At b q (u++w)):At b (q+J u) w:=by
 have h1:=CG length h.eq;simp only[LD,LA] at h1;refine⟨by have:=h.le;omega,?_⟩;rw[<-drop_drop,h.eq,drop_left]
def At.split (h:At b q (u++w)):b=b.take q++u++w/\J (b.take q)=q:=by
 refine⟨?_,by have:=h.le;simp;omega⟩;rw[AS,<-h.eq,take_append_drop]
def At.cons {c:UInt8} (h:At b q (c::w)):b[q]? =some c/\At b (q+1) w:=by
 refine⟨?_,At.step (u:=[c]) h⟩;have:=CG (·[0]?) h.eq;simpa using this
def Xha (h:At b q (UInt8.ofNat k.toNat::w)) (hk:1<=k/\k<=limit/\k<=255):rkI b q 0 limit=(k,((q+1:Nat):Int),0):=by
 obtain⟨h1,h2⟩:=h.cons;have hlt:=(GS.1 h1).1;unfold rkI rkS;rw[NI Oc,NI Oc,Int.toNat_natCast,NI Oa,h1,Option.getD_some,X1R Oa,NI Oa];simp only[Prod.mk.injEq,and_true];constructor
 ·omega
 ·omega
def X7U (h:At b q (Xq n++w)) (hn:0<=n/\n<=9223372036854775807):rnS b q 0=(n,((q+J (Xq n):Nat):Int),0):=by
 obtain⟨h1,h2⟩:=h.split;have:=X84 hn (b.take q) w;rw[X8X];rw[<-h1,h2] at this;rw[this];simp
def XwB (h:At b q (U5 n++w)) (hn: -9223372036854775808<=n/\n<=9223372036854775807):riS b q 0=(n,((q+J (U5 n):Nat):Int),0):=by
 obtain⟨h1,h2⟩:=h.split;have:=Xbb hn (b.take q) w;rw[Xbl];rw[<-h1,h2] at this;rw[this];simp
def X8y (h:At b q (Ys s++w)) (hn:J s<=20):rsS b q 0=(s,((q+J (Ys s):Nat):Int),0):=by
 obtain⟨h1,h2⟩:=h.split;have:=XmC (s:=s) (most:=20) Oa Oa (b.take q) w;rw[Xeb];rw[<-h1,h2] at this;rw[this];simp
def Xxw (h:At b q (UP v++w)) (hv:Xj 8 v=true):rvS b q 0=(v,((q+J (UP v):Nat):Int),0):=by
 obtain⟨h1,h2⟩:=h.split;have:=Xxm hv (b.take q) w;rw[XgZ];rw[<-h1,h2] at this;rw[this];simp
def Xrt (h:Vf v=true):v=zV:=by
 obtain⟨k,n,d,s,l⟩:=v;unfold Vf at h;rw[Bool.and_eq_true] at h;obtain⟨h1,h0⟩:=h;obtain rfl:k=0:=of_decide_eq_true h0;rw[Xj] at h1;simp at h1;obtain⟨⟨⟨h2,h3⟩,h4⟩,h5⟩:=h1;subst h2;subst h3;subst h4;subst h5;rfl
def Xw6 (h:YE c=0):(c.op≠6->c.src=0/\c.dst=0)/\(YO c.op=false->c.name=[])/\(YL c.op=false->c.v=zV):=by
 unfold YE at h;split at h
 ·omega
 rename_i h1;split at h
 ·omega
 rename_i h2;split at h
 ·omega
 rename_i h3;refine⟨fun hk=>⟨?_,?_⟩,fun hn=> ?_,fun hv=> ?_⟩
 ·by_cases he:c.src=0
  ·exact he
  ·exact absurd (.inr ⟨hk,.inl he⟩) h2
 ·by_cases he:c.dst=0
  ·exact he
  ·exact absurd (.inr ⟨hk,.inr he⟩) h2
 ·by_cases he:c.name=[]
  ·exact he
  ·exact absurd (.inl ⟨hn,he⟩) h3
 ·refine Xrt ?_;cases hz:Vf c.v with
  |true=>rfl
  |false=>exact absurd (.inr ⟨hv,hz⟩) h3
def Xmx (hc:YE c=0) (h:At b q (U3 c++w)):UE b q 0=(c,((q+J (U3 c):Nat):Int),0)/\At b (q+J (U3 c)) w:=by
 refine⟨?_,h.step⟩;obtain⟨o1,o2,o3,o4,o5⟩:=XbQ hc;obtain⟨z1,z2,z3⟩:=Xw6 hc;obtain⟨op,id,src,dst,name,v⟩:=c;simp only at o1 o2 o3 o4 o5 z1 z2 z3;have hput:U3 ⟨op,id,src,dst,name,v⟩=UInt8.ofNat op.toNat::(Xq id++((if op=6 then Xq src++Xq dst else [])++((if YO op=true then Ys name else [])++(if YL op=true then UP v else [])))):=by
  unfold U3;simp only[AS]
 rw[hput] at h |-;rw[cons_append] at h;have k1:=Xha h (limit:=8) Oa;have h1:=h.cons.2;rw[AS] at h1;have k2:=X7U h1 Oa;have h2:=h1.step;unfold UE;rw[k1];simp only;rw[k2];simp only;by_cases h6:op=6
 ·subst h6;have s3:=o3 rfl;have hn:=o4 rfl;have hv:=z3 rfl;subst hv;simp only[if_true,show YO 6=true by decide,show YL 6=false by decide,Bool.false_eq_true,if_false,append_nil] at h2 |-;rw[AS,AS] at h2;have k3:=X7U h2 Oa;have h3:=h2.step;have k4:=X7U h3 Oa;have h4:=h3.step;have k5:=X8y h4 hn;rw[k3];simp only;rw[k4];simp only;rw[k5];simp only[Prod.mk.injEq,true_and,and_true,LC,LA];omega
 ·have z1:=z1 h6;obtain⟨rfl,rfl⟩:=z1;simp only[NI h6,nil_append] at h2 |-;by_cases hn:YO op=true
  ·simp only[PI hn] at h2 |-;rw[AS] at h2;have k5:=X8y h2 (o4 hn);have h3:=h2.step;rw[k5];simp only;by_cases hv:YL op=true
   ·simp only[PI hv] at h3 |-;have k6:=Xxw h3 (o5 hv).1;rw[k6];simp only[Prod.mk.injEq,true_and,and_true,LC,LA];omega
   ·simp only[NI hv,append_nil] at h3 |-;have:=z3 (by simpa using hv);subst this;simp only[Prod.mk.injEq,true_and,and_true,LC,LA];omega
  ·have hv:¬YL op=true:=by revert hn;unfold YO YL;simp;omega
   simp only[NI hn,NI hv,append_nil,nil_append] at h2 |-;have e1:=z2 (by simpa using hn);have e2:=z3 (by simpa using hv);subst e1;subst e2;simp only[Prod.mk.injEq,true_and,and_true,LC,LA];omega
def Xl6 (hr:Uu r=0) (h:At b q (VN r++w)):VW b q 0=(r,((q+J (VN r):Nat):Int),0)/\At b (q+J (VN r)) w:=by
 refine⟨?_,h.step⟩;obtain⟨o1,⟨l1,l2,l3,l4⟩,o3⟩:=X8o hr;obtain⟨k,n,name,key,src,dst⟩:=r;simp only at o1 l1 l2 l3 l4 o3;have hput:VN ⟨k,n,name,key,src,dst⟩=UInt8.ofNat k.toNat::(Ys name++(Ys key++(Ys src++(Ys dst++U5 n)))):=by
  unfold VN;simp only[AS]
 rw[hput] at h |-;rw[cons_append] at h;have k1:=Xha h (limit:=7) Oa;have h1:=h.cons.2;simp only[AS] at h1;have k2:=X8y h1 l1;have h2:=h1.step;have k3:=X8y h2 l2;have h3:=h2.step;have k4:=X8y h3 l3;have h4:=h3.step;have k5:=X8y h4 l4;have h5:=h4.step;have k6:=XwB h5 o1;unfold VW;rw[k1];simp only;rw[k2];simp only;rw[k3];simp only;rw[k4];simp only;rw[k5];simp only;rw[k6];simp only[Prod.mk.injEq,true_and,and_true,LC,LA];omega
def Xo9:∀(l:List Chg) (q:Nat) (w:List UInt8),(∀c∈l,YE c=0)->At b q (X0A l++w)->X0C b (J l) q 0=(l,((q+J (X0A l):Nat):Int),0)/\At b (q+J (X0A l)) w
 |[],q,w,_,h=>⟨rfl,h⟩
 |c::l,q,w,hc,h=>by
  have hput:X0A (c::l)=U3 c++X0A l:=rfl;rw[hput,AS] at h;obtain⟨h1,h2⟩:=Xmx (hc c Oc) h;obtain⟨h3,h4⟩:=Xo9 l _ w (fun x hx=>hc x JA) h2;rw[hput,LA];refine⟨?_,by rw[<-Nat.add_assoc];exact h4⟩;rw[LC,X0C,NI Oc,h1];simp only;rw[h3];simp only[Prod.mk.injEq,true_and,and_true];omega
def XiC (h:X59 r=true):r=zR:=by
 obtain⟨k,n,name,key,src,dst⟩:=r;unfold X59 at h;have:=of_decide_eq_true h;simp only at this;obtain⟨rfl,rfl,rfl,rfl,rfl,rfl⟩:=this;rfl
def Xpp {r:Rcd} (h:UO r=0):rdS (X1c r)=(r,0):=by
 obtain⟨fZ,hts,h1,h2,h3,h4⟩:=XeV h;have hX:rdX (X1c r)=(r,(J (X1c r):Int),0):=by
  obtain⟨kd,ts,l,rl,off⟩:=r;simp only at fZ hts h1 h2 h3 h4;generalize hb:X1c ⟨kd,ts,l,rl,off⟩=b;have hA:At b 0 (X1c ⟨kd,ts,l,rl,off⟩):=⟨Oa,by rw[hb];rfl⟩
  unfold X1c at hA hb;simp only at hA hb;have k1:=Xha hA (limit:=3) Oa;have a1:=hA.cons.2;have k2:=X7U a1 Oa;have a2:=a1.step;unfold rdX;rw[show ((0:Nat):Int)=0 from rfl] at k1;rw[k1];simp only;rw[k2];simp only;rcases fZ with rfl|rfl|rfl
  ·obtain⟨h1,hl⟩:=h1 Oi;simp only[if_true] at a2 hb |-;have k3:=X7U a2 (n:=(J l:Nat)) Oa;have a3:=a2.step;rw[k3];simp only[Int.toNat_natCast];obtain⟨k4,a4⟩:=Xo9 l _ [] h1 (by rw[append_nil];exact a3);rw[k4];obtain⟨e1,e2⟩:=h4 Oi;subst e1;have e2:=XiC e2;subst e2;simp only[Prod.mk.injEq,true_and,and_true];rw[<-hb];simp only[LC,LA];omega
  ·have h2:=h2 rfl;obtain rfl:=h3 Oi;simp only[show ¬((2:Int)=1) by omega,if_false,if_true] at a2 hb |-;obtain⟨k4,a4⟩:=Xl6 h2 a2;rw[k4];simp only;have hro:roS b ((0+1+J (Xq ts)+J (VN rl):Nat):Int) 0=(off,((0+1+J (Xq ts)+J (VN rl)+1:Nat):Int),0):=by
    obtain⟨c1,c2⟩:=a4.cons;have hlt:=(GS.1 c1).1;unfold roS;rw[NI Oc,NI Oa,Int.toNat_natCast,c1,Option.getD_some];cases off<;>simp<;>omega
   rw[hro];simp only[Prod.mk.injEq,true_and,and_true];rw[<-hb];simp only[LC,LA,length_nil];omega
  ·obtain rfl:=h3 Oi;obtain⟨e1,e2⟩:=h4 Oi;subst e1;have e2:=XiC e2;subst e2;simp only[show ¬((3:Int)=1) by omega,show ¬((3:Int)=2) by omega,if_false] at a2 hb |-;simp only[Prod.mk.injEq,true_and,and_true];rw[<-hb];simp only[LC,LA,length_nil];omega
 unfold rdS;rw[hX];exact Xba Oa h
structure PartR {α:Type} (f:Rd->α×Rd):Prop where
 err:∀s,s.e≠0->(f s).2=s
 keep:∀s,(f s).2.k=s.k/\(f s).2.c=s.c
def PartR.back {α:Type}{f:Rd->α×Rd} (h:PartR f) {s:Rd} (he:(f s).2.e=0):s.e=0:=by
 by_cases q:s.e=0
 ·exact q
 ·rw[h.err s q] at he;exact he
def X3r {α:Type} (ok:α->Prop) (w:α->List UInt8) (f:Rd->α×Rd):Prop:=
 ∀(s:Rd) (q:Nat) (x:α) (t:List UInt8),ok x->s.e=0->s.a=q->At s.c q (w x++t)->f s=(x,⟨s.k,s.c,((q+J (w x):Nat):Int),0⟩)
def Xbr {α:Type} (z:α) (f:List UInt8->Int->α×Int×Int):PartR (X1m z f):=by
 refine⟨fun s h=>by rw[Xzn h],fun s=> ?_⟩;unfold X1m;split<;>exact⟨rfl,rfl⟩
def XfA {α:Type}{z:α}{f:List UInt8->Int->α×Int×Int}{ok:α->Prop}{w:α->List UInt8}
  (h:∀(c:List UInt8) (q:Nat) (x:α) (t:List UInt8),ok x->At c q (w x++t)->f c q=(x,((q+J (w x):Nat):Int),0)):X3r ok w (X1m z f):=by
 intro s q x t hx he ha aY;unfold X1m;rw[NI (by simp[he]),ha,h s.c q x t hx aY];rfl
def Xlf {α:Type}{f:Rd->α×Rd} (hf:PartR f):∀n,PartR (Vc f n)
 |0=>⟨fun s _=>rfl,fun s=>⟨rfl,rfl⟩⟩
 |n+1=>by
  refine⟨fun s h=>by rw[Xfk h],fun s=> ?_⟩;rw[Vc];split
  ·exact⟨rfl,rfl⟩
  ·have h1:=hf.keep s;have h2:=(Xlf hf n).keep (f s).2;exact⟨h2.1.trans h1.1,h2.2.trans h1.2⟩
def XnC {α:Type}{f:Rd->α×Rd}{ok:α->Prop}{w:α->List UInt8} (hf:X3r ok w f):∀(l:List α) (s:Rd) (q:Nat) (t:List UInt8),(∀x∈l,ok x)->s.e=0->s.a=q->
  At s.c q ((l.map w).flatten++t)->Vc f (J l) s=(l,⟨s.k,s.c,((q+J (l.map w).flatten:Nat):Int),0⟩)
 |[],s,q,t,_,he,ha,aY=>by
  obtain⟨k,c,a,e⟩:=s;simp only at he ha;subst he ha;rfl
 |x::r,s,q,t,hx,he,ha,aY=>by
  have oN:At s.c q (w x++((r.map w).flatten++t)):=by simpa using aY
  have h1:=hf s q x _ (hx x Oc) he ha oN;have h2:=XnC hf r ⟨s.k,s.c,((q+J (w x):Nat):Int),0⟩ (q+J (w x)) t (fun y hy=>hx y I6) rfl rfl oN.step;rw[LC,Vc,NI (by simp[he]),h1];simp only;rw[h2];simp only[map_cons,flatten_cons,LA,Nat.add_assoc]
def X3K {α β:Type} (f:Rd->α×Rd) (g:α->Rd->β×Rd) (s:Rd):(α×β)×Rd:=(((f s).1,(g (f s).1 (f s).2).1),(g (f s).1 (f s).2).2)
def Xr9 {α β:Type}{f:Rd->α×Rd}{g:α->Rd->β×Rd} (hf:PartR f) (hg:∀x,PartR (g x)):PartR (X3K f g):=by
 refine⟨fun s h=> ?_,fun s=> ?_⟩
 ·unfold X3K;have:=hf.err s h;simp only;rw[(hg _).err _ (by rw[this];exact h),this]
 ·unfold X3K;have h1:=hf.keep s;have h2:=(hg (f s).1).keep (f s).2;exact⟨h2.1.trans h1.1,h2.2.trans h1.2⟩
def X8C {α β:Type}{f:Rd->α×Rd}{g:α->Rd->β×Rd}{ok:α->Prop}{ok':α->β->Prop}{w:α->List UInt8}{w':β->List UInt8} (hf:X3r ok w f) (hg:∀x,X3r (ok' x) w' (g x)):
  X3r (fun p:α×β=>ok p.1/\ok' p.1 p.2) (fun p=>w p.1++w' p.2) (X3K f g):=by
 rintro s q ⟨x,y⟩ t ⟨hx,hy⟩ he ha aY;rw[AS] at aY;have h1:=hf s q x _ hx he ha aY;unfold X3K;rw[h1];simp only;rw[hg x ⟨s.k,s.c,((q+J (w x):Nat):Int),0⟩ (q+J (w x)) y t hy rfl rfl aY.step];simp only[LA,Nat.add_assoc]
def X16:PartR Ym:=Xbr 0 Xd
def X7X:PartR Vy:=Xbr zR X1h
def okN (n:Int):Prop:=0<=n/\n<=9223372036854775807
def X7j:X3r okN Xq Ym:=XfA fun c q x t hx h=>by have:=X7U h hx;rwa [X8X] at this
def Xvm:X3r (fun r=>Uu r=0) cu Vy:=XfA fun c q x t hx h=>by
 have hp:cu x=VN x:=PI hx;rw[hp] at h |-;have h1:=(Xl6 hx h).1;have hq:=h.le;unfold X1h;rw[NI Oa];simp only[h1,hx,if_true,ne_eq,not_true_eq_false,if_false]
def X9c {α:Type}{f:Rd->α×Rd} (hf:PartR f):PartR (UL f):=by
 have h:=Xr9 X16 (fun n:Int=>Xlf hf n.toNat);exact⟨fun s hs=>h.err s hs,fun s=>h.keep s⟩
def XkU {α:Type}{f:Rd->α×Rd}{ok:α->Prop}{w:α->List UInt8} (hf:X3r ok w f):X3r (fun l=>(∀x∈l,ok x)/\J l<=9223372036854775807) (X5e w) (UL f):=by
 rintro s q l t ⟨hx,hl⟩ he ha aY;unfold X5e at aY |-;rw[AS] at aY;have h1:=X7j s q (J l:Nat) _ ⟨Oa,Oa⟩ he ha aY;unfold UL;rw[h1];simp only[Int.toNat_natCast];rw[XnC hf l ⟨s.k,s.c,((q+J (Xq (J l)):Nat):Int),0⟩ (q+J (Xq (J l))) t hx rfl rfl aY.step];simp only[LA,Nat.add_assoc]
def XiP {α:Type}{w:α->List UInt8}{k:Nat}:∀{l:List α},(∀x∈l,J (w x)<=k)->J (l.map w).flatten<=k*J l
 |[],_=>Oc
 |x::r,h=>by
  have h1:=h x Oc;have h2:=XiP (l:=r) fun y hy=>h y I6;simp only[map_cons,flatten_cons,LA,LC,Nat.mul_add,Nat.mul_one];omega
def XeJ (h:Yc s=true):J s<=20:=by
 unfold Yc at h;simp only[Bool.and_eq_true,decide_eq_true_eq] at h;exact h.1.1.2
theorem XdM (h:U9 v=true):Xj 8 v=true/\(v.kind=1\/v.kind=2\/v.kind=4):=by
 unfold U9 X8Q at h;simp only[Bool.and_eq_true,decide_eq_true_eq] at h;exact⟨h.2,h.1⟩
def X2I (ls:List (List UInt8)) (s:List UInt8):Bool:=ls.any fun x=>decide (s=x)
def XdO {d:Int}{l:List Val} (h:U9 (.mk k n d s l)=true):Xj 8 (.mk k n d s l)=true/\(k=1\/k=2\/k=4)/\d=0/\l=[]/\(k≠4->s=[])/\(k=4->n=0)/\J s<=100/\(k=2-> -1000000000000000<=n/\n<=1000000000000000):=by
 obtain⟨h1,h2⟩:=XdM h;have h2:k=1\/k=2\/k=4:=h2;refine⟨h1,h2,?_⟩;rw[Xj] at h1;rcases h2 with rfl|rfl|rfl
 ·simp at h1;exact⟨h1.1.1.1,h1.1.2,fun _=>h1.1.1.2,Oc,by rw[h1.1.1.2];simp,Oc⟩
 ·simp at h1;exact⟨h1.1.1.1,h1.1.2,fun _=>h1.1.1.2,Oc,by rw[h1.1.1.2];simp,fun _=>h1.2⟩
 ·simp at h1;exact⟨h1.1.1,h1.1.2,Oc,fun _=>h1.2.1.1,h1.2.1.2,Oc⟩
def X3x:List (List UInt8)->List UInt8->Nat->Int
 |[],_,_=> -1
 |x::r,s,i=>if s=x then (i:Int) else X3x r s (i+1)
def Xuf {l:List (List UInt8)}{x:List UInt8} (h:l[i]? =some x):X3x (l.drop i) s i=if s=x then (i:Int) else X3x (l.drop (i+1)) s (i+1):=by
 obtain⟨hi,rfl⟩:=GS.1 h;rw[drop_eq_getElem_cons hi,X3x]
def Xka:∀(l:List (List UInt8)) (s:List UInt8) (i:Nat),decide (0<=X3x l s i)=X2I l s
 |[],s,i=>by simp[X3x,X2I]
 |x::r,s,i=>by
  rw[X3x,X2I,any_cons];by_cases h:s=x
  ·simp[h]
  ·have:=Xka r s (i+1);unfold X2I at this;simp[h,this]
def XtA (l:List (List UInt8)) (s:List UInt8) (hl:J l<=9223372036854775807):Con prog 353 [] [.d (.sl 1 (l.map Xf)),Xa s] [] (ai (X3x l s 0)):=by
 refine ZC1 func353 ntmps353 fun E=> ?_;generalize hG:X3x l s 0=G;refine XG ?_
 refine Xl (fun i:Nat=>i<=J l/\X3x (l.drop i) s i=G) (fun i=>⟨19,[(0,.d (.sl 1 (l.map Xf))),(1,Xa s),(7,ai (J (l.map Xf))),(8,ai i)],[]⟩) (fun i=>J l-i) 0 ⟨Nat.zero_le _,OX⟩
  (ZL0) ?_
 rintro i ⟨hi,hg⟩;by_cases hil:i<J l
 case neg=>
  have hn:¬(i:Int)<J (l.map Xf):=Oj
  rw[drop_of_length_le Oa,X3x] at hg;subst hg;exact Qn
 have hn:(i:Int)<J (l.map Xf):=Oj
 obtain⟨x,hx⟩:=Xn (l:=l) hil;have au:(l.map Xf)[i]? =some (Xf x):=XC hx;rw[Xuf hx] at hg;by_cases hq:s=x
 ·rw[PI hq] at hg;subst hg;refine YG ?_;exact Zr0
 rw[NI hq] at hg;exact Qgc
def Xvj (l:List (List UInt8)) (s:List UInt8) (hl:J l<=9223372036854775807):Con prog 311 [] [.d (.sl 1 (l.map Xf)),Xa s] [] (ab (X2I l s)):=by
 refine ZC1 func311 ntmps311 fun E=> ?_;have hi:=XtA l s hl;rw[<-Xka l s 0];generalize X3x l s 0=q at*;exact Qi
def Xiy (h:n<=9223372036854775807):J (Xq n)<=10:=by
 by_cases h0:0<=n
 ·exact X0g ⟨h0,h⟩
 ·unfold Xq;rw[PI Oa];simp
def XrR {x:Int} (h:l[i]? =some x):(X0n (l.take (i+1))).map X6=(X0n (l.take i)).map X6++(Xq x).map X6:=by
 rw[X1A h];simp[X0n]
def XeN (h:∀x∈l,x<=9223372036854775807):J (X0n l)<=10*J l:=XiP fun x hx=>Xiy (h x hx)
def Xct {α:Type}{w:α->List UInt8}{l:List α}{x:α} (h:l[i]? =some x):(u++((l.take (i+1)).map w).flatten).map X6=(u++((l.take i).map w).flatten).map X6++(w x).map X6:=by
 rw[X1A h];simp
def Xyz:∀(k:SK) (u:Value),X1D u=some k->X5w u u=true:=by
 intro k u h;cases u<;>simp[X1D] at h<;>simp[X5w]
def XvD (us:List Value) (ks:List SK) (h:us.map X1D=ks.map some):X2g us us=true:=by
 induction us generalizing ks with
 |nil=>rfl
 |cons u us ih=>
  cases ks with
  |nil=>simp at h
  |cons k ks=>
   simp only[map_cons,cons.injEq] at h;unfold X2g;rw[Xyz k u h.1,ih ks h.2];rfl
def Xzs (b:List UInt8) (hb:J b<=1073741824):X0z (rdS b).1:=by
 have h1:X0z (rdX b).1:=by
  unfold rdX;simp only;split
  ·have hz:=fun h=>X7s (b:=b) (a:=(rnS b (rkI b 0 0 3).2.1 (rkI b 0 0 3).2.2).2.1) (e:=(rnS b (rkI b 0 0 3).2.1 (rkI b 0 0 3).2.2).2.2) h;have:=X8c (b:=b) (rnS b (rnS b (rkI b 0 0 3).2.1 (rkI b 0 0 3).2.2).2.1 (rnS b (rkI b 0 0 3).2.1 (rkI b 0 0 3).2.2).2.2).1.toNat _ _ (fun h=>hz h);exact⟨Od,this.1⟩
  ·split<;>exact⟨Oc,Oc⟩
 unfold rdS;generalize rdX b=X at*;obtain⟨x,a,e⟩:=X;by_cases he:e=0
 ·subst he;by_cases ha:a<J b
  ·rw[Xfm ha];exact⟨Oc,Oc⟩
  ·by_cases h3:UO x=0
   ·rw[Xba ha h3];exact h1
   ·rw[Xf4 ha h3];exact⟨Oc,Oc⟩
 ·rw[Xed he];exact⟨Oc,Oc⟩
def XtQ (l:List (List UInt8)) (hl:J l<=9223372036854775807):Con prog 123 [] [.d (.sl 1 (l.map Xf)),.d (.sl 1 (l.map Xf))] [] (ab true):=by
 refine ZC1 func123 ntmps123 fun E=> ?_;have hlm:J (l.map Xf)=J l:=Oc
 refine Y5 ?_
 refine Xl (fun i:Nat=>i<=J l) (fun i=>⟨26,[(0,.d (.sl 1 (l.map Xf))),(1,.d (.sl 1 (l.map Xf))),(5,ai i)],[]⟩) (fun i=>J l-i) 0 (Nat.zero_le _)
  (ZL0) ?_
 intro i hi;by_cases hil:i<J l
 case neg=>
  obtain rfl:i=J l:=Oa
  have hn:¬((J l:Nat):Int)<J (l.map Xf):=Oa
  exact Qh
 have hn:(i:Int)<J (l.map Xf):=Oa
 obtain⟨x,hx⟩:=Xn (l:=l) hil;have au:(l.map Xf)[i]? =some (Xf x):=XC hx;clear hx;refine UK ?_;exact QDd
def XiF (l:List Prp) (hok:∀p∈l,U1 p.v) (hl:J l<=9223372036854775807):Con prog 124 [] [.d (.sl 6 (l.map Xb)),.d (.sl 6 (l.map Xb))] [] (ab true):=by
 refine ZC1 func124 ntmps124 fun E=> ?_;have hlm:J (l.map Xb)=J l:=Oc
 refine Y5 ?_
 refine Xl (fun i:Nat=>i<=J l) (fun i=>⟨42,[(0,.d (.sl 6 (l.map Xb))),(1,.d (.sl 6 (l.map Xb))),(5,ai i)],[]⟩) (fun i=>J l-i) 0 (Nat.zero_le _)
  (ZL0) ?_
 intro i hi;by_cases hil:i<J l
 case neg=>
  obtain rfl:i=J l:=Oa
  have hn:¬((J l:Nat):Int)<J (l.map Xb):=Oa
  exact Qh
 have hn:(i:Int)<J (l.map Xb):=Oa
 obtain⟨x,hx⟩:=Xn (l:=l) hil;have au:(l.map Xb)[i]? =some (Xb x):=XC hx;have ho:=XfN x.v (hok x (mem_of_getElem? hx));unfold X8z at ho;obtain⟨key,⟨vk,vn,vd,vs,vl⟩⟩:=x;simp only[Xb,UB,Xt] at au ho;clear hx;refine X04 ?_;refine Z5 (ag:=ho) ?_;refine XA ?_;exact QDd
def Xrk (ns:List Nod) (es:List Edg) (nn ne:Int) (hg:GraHold ⟨ns,es,nn,ne⟩):Con prog 69 [] [.agg [.d (.sl 3 (ns.map Xi)),.d (.sl 5 (es.map Xk)),ai nn,ai ne],.agg [.d (.sl 3 (ns.map Xi)),.d (.sl 5 (es.map Xk)),ai nn,ai ne]] [] (ab true):=by
 refine ZC1 func69 ntmps69 fun E=> ?_;have dO:J (ns.map Xi)=J ns:=Oc
 have hle:J (es.map Xk)=J es:=Oc
 have ax:=hg.nl;have hel:=hg.el;simp only at ax hel;refine VM ?_
 refine Xl (fun i:Nat=>i<=J ns) (fun i=>⟨116,[(2,.ptr 100 0),(3,.ptr 101 0),(5,ai i)],[(100,.box [.d (.sl 3 (ns.map Xi)),.d (.sl 5 (es.map Xk)),ai nn,ai ne]),(101,.box [.d (.sl 3 (ns.map Xi)),.d (.sl 5 (es.map Xk)),ai nn,ai ne])]⟩) (fun i=>J ns-i) 0 (Nat.zero_le _)
  (ZL0) ?_
 intro i hi;by_cases hil:i<J ns
 case pos=>
  have hn:(i:Int)<J (ns.map Xi):=Oa
  obtain⟨x,hx⟩:=Xn (l:=ns) hil;have au:(ns.map Xi)[i]? =some (Xi x):=XC hx;have hh:=hg.nodes x (mem_of_getElem? hx);have c1:=XtQ x.labels hh.1;have c2:=XiF x.props (fun p hp=>(hh.2.2.2 p hp).2) hh.2.2.1;clear hh;obtain⟨id,labels,props⟩:=x;simp only[Xi] at au c1 c2;clear hx;refine QUa ?_;exact QDd
 obtain rfl:i=J ns:=Oa
 have hn:¬((J ns:Nat):Int)<J (ns.map Xi):=Oa
 refine Yb ?_;clear hi hil hn
 refine Xl (fun i:Nat=>i<=J es) (fun i=>⟨116,[(2,.ptr 100 0),(3,.ptr 101 0),(8,ai i)],[(100,.box [.d (.sl 3 (ns.map Xi)),.d (.sl 5 (es.map Xk)),ai nn,ai ne]),(101,.box [.d (.sl 3 (ns.map Xi)),.d (.sl 5 (es.map Xk)),ai nn,ai ne])]⟩) (fun i=>J es-i) 0 (Nat.zero_le _)
  (ZL0) ?_
 intro i hi;by_cases hil:i<J es
 case pos=>
  have hn:(i:Int)<J (es.map Xk):=Oa
  obtain⟨x,hx⟩:=Xn (l:=es) hil;have au:(es.map Xk)[i]? =some (Xk x):=XC hx;have hh:=hg.aj x (mem_of_getElem? hx);have c2:=XiF x.props (fun p hp=>(hh.2.2 p hp).2) hh.2.1;clear hh;obtain⟨id,src,dst,typ,props⟩:=x;simp only[Xk] at au c2;clear hx;refine X4 ?_;refine VM ?_;exact QDd
 obtain rfl:i=J es:=Oa
 have hn:¬((J es:Nat):Int)<J (es.map Xk):=Oa
 exact QFa
def Xql (g:Gra) (hg:GraHold g):Con prog 41 [] [XZ g,XZ g] [] (ab true):=by
 obtain⟨ns,es,nn,ne⟩:=g;have hc:=Xrk ns es nn ne hg;unfold XZ;simp only;refine ZC1 func41 ntmps41 fun E=> ?_;exact QB
def X4e (x:UInt8):List UInt8:=if x.toNat<=1 then [1,x+1] else [x]
def YB:List UInt8->List UInt8
 |[]=>[]
 |x::r=>X4e x++YB r
def Un (ep:Int) (r:Rcd):List UInt8:=Xq ep++X0e r
def UN (ep:Int) (r:Rcd):List UInt8:=YB (Yx (Un ep r))++[0]
def Xv (ep:Int):List Rcd->List UInt8
 |[]=>[]
 |r::l=>UN ep r++Xv ep l
def V9:List Rcd->Int
 |[]=>0
 |r::l=>if UO r≠0 then UO r else V9 l
def X3B (ep:Int) (l:List Rcd):List UInt8:=if V9 l≠0 then [] else Xv ep l
def Ua (d:ak) (f t ep tail:Int):Int:=
 if UF d=false then 1 else if d.on=false then 22 else if f<0\/t<=f\/(J d.aa:Int)<t then 1
 else if ep<0\/1000000000000000<ep\/tail<0\/(t-f)*64<tail then 1 else 0
def Ug (d:ak):Nat->Nat->List UInt8
 |_,0=>[]
 |f,n+1=>(YZ d (f:Nat)).1++Ug d (f+1) n
def XV (d:ak) (f t:Int):List UInt8:=Ug d f.toNat (t-f).toNat
def X0H (d:ak) (a:Nat) (b:List UInt8):ak:=⟨d.aa,d.pending++[⟨(a:Nat),b⟩],d.on⟩
def cD:ak->Nat->List (List UInt8)->List ak
 |d,_,[]=>[d]
 |d,a,b::r=>d::cD (X0H d a b) (a+1) r
def Yt:ak->Nat->List (List UInt8)->ak
 |d,_,[]=>d
 |d,a,b::r=>Yt (X0H d a b) (a+1) r
def YI (l:List UInt8):List UInt8:=l++replicate ((64-J l%64)%64) 0
def V0:Nat->List UInt8->List (List UInt8)
 |0,_=>[]
 |n+1,l=>l.take 64::V0 n (l.drop 64)
def X1I (d:ak) (f t tail:Int) (add:List UInt8):List UInt8:=YI (((XV d f t).take tail.toNat).drop (tail.toNat/64*64)++add)
def V7 (d:ak) (f t tail:Int) (add:List UInt8):List (List UInt8):=
 if add=[] then [] else V0 (J (X1I d f t tail add)/64) (X1I d f t tail add)
def X3O (d:ak) (f t tail:Int) (add:List UInt8):List ak:=
 cD d (f.toNat+tail.toNat/64) (V7 d f t tail add)++[(V1 (Yt d (f.toNat+tail.toNat/64) (V7 d f t tail add))).1]
def Yy (d:ak) (f t ep tail:Int) (l:List Rcd):List ak×Int×Int:=
 if Ua d f t ep tail≠0 then ([],0,Ua d f t ep tail) else if V9 l≠0 then ([],0,V9 l)
 else if (t-f)*64<tail+J (Xv ep l) then ([],0,20) else (X3O d f t tail (Xv ep l),tail+J (Xv ep l),0)
def Uc (d:ak) (f t ep tail:Int) (l:List Rcd):ak×Int×Int:=
 if (Yy d f t ep tail l).2.2≠0 then (Ur,0,(Yy d f t ep tail l).2.2) else (((Yy d f t ep tail l).1.getLast?).getD Ur,(Yy d f t ep tail l).2.1,0)
def V2:List UInt8->Option (List UInt8)
 |[]=>some []
 |[x]=>if x=1 then none else some [x]
 |x::y::r=>if x=1 then (if y=1\/y=2 then (V2 r).map (fun l=>(y-1)::l) else none) else (V2 (y::r)).map (fun l=>x::l)
def X7R (c:List UInt8) (ep:Int) (u:Int×Int×Int):Rcd×Bool:=
 if u.2.2≠0\/u.1≠ep then (X5Q,false) else ((rdS (c.drop u.2.1.toNat)).1,decide ((rdS (c.drop u.2.1.toNat)).2=0))
def X5M (raw:List UInt8) (ep:Int) (u:List UInt8×Int×Int):Rcd×Bool:=
 if u.2.2≠0\/u.2.1≠J raw then (X5Q,false) else X7R u.1 ep (Xd u.1 0)
def VP (b:List UInt8) (ep:Int):Rcd×Bool:=match V2 b with
 |none=>(X5Q,false)
 |some raw=>X5M raw ep (Y8 raw 0)
def Yo (b:List UInt8):List UInt8:=b.takeWhile fun x=>x !=0
def X14 (b:List UInt8):Bool:=b.any fun x=>x==0
def US (ep:Int):Nat->List UInt8->Nat->List Rcd×Nat
 |0,_,a=>([],a)
 |n+1,b,a=>if X14 b=true/\(VP (Yo b) ep).2=true then
   ((VP (Yo b) ep).1::(US ep n (b.drop (J (Yo b)+1)) (a+(J (Yo b)+1))).1,(US ep n (b.drop (J (Yo b)+1)) (a+(J (Yo b)+1))).2)
  else ([],a)
def X0b (ep:Int) (b:List UInt8):List Rcd×Nat:=US ep (J b+1) b 0
def V8 (d:ak) (f t ep:Int):List Rcd×Int×Int:=
 if Ua d f t ep 0≠0 then ([],0,Ua d f t ep 0) else ((X0b ep (XV d f t)).1,((X0b ep (XV d f t)).2:Nat),0)
def Xqm (h:U9 v=true):U1 v:=by
 obtain⟨k,n,d,s,l⟩:=v;obtain⟨_,_,_,rfl,_,_,p7,_⟩:=XdO h;rw[U1];exact⟨Oa,Oc,by simp[X1Z]⟩
def X7H {α:Type}{l:List α}{x:α} (h:l[i]? =some x):l.take (i+1)=l.take i++[x]:=by
 rw[take_add_one,h];rfl
theorem Xi6:∀u v:List UInt8,YB (u++v)=YB u++YB v
 |[],v=>rfl
 |x::u,v=>by rw[cons_append,YB,YB,Xi6 u v,AS]
def Xq8 (x:UInt8):J (X4e x)<=2:=by unfold X4e;split<;>simp
def Xcs:∀l:List UInt8,J (YB l)<=2*J l
 |[]=>by simp[YB]
 |x::l=>by
  have h1:=Xcs l;have h2:=Xq8 x;rw[YB,LA,LC];omega
def XlJ {l:List UInt8}{x:UInt8} (h:l[i]? =some x):YB (l.take (i+1))=YB (l.take i)++X4e x:=by
 rw[X7H h,Xi6,YB,YB,append_nil]
theorem X6D (ep:Int):∀u v:List Rcd,Xv ep (u++v)=Xv ep u++Xv ep v
 |[],v=>rfl
 |x::u,v=>by rw[cons_append,Xv,Xv,X6D ep u v,AS]
def XhQ {l:List Rcd} (h:l[i]? =some x):Xv ep (l.take (i+1))=Xv ep (l.take i)++UN ep x:=by
 rw[X7H h,X6D,Xv,Xv,append_nil]
def Xjg {l:List Rcd} (h:l[i]? =some x):V9 (l.drop i)=if UO x≠0 then UO x else V9 (l.drop (i+1)):=by
 obtain⟨hi,rfl⟩:=GS.1 h;rw[drop_eq_getElem_cons hi,V9]
theorem X95 (d:ak):∀(n f:Nat),Ug d f (n+1)=Ug d f n++(YZ d ((f+n:Nat):Int)).1
 |0,f=>by simp[Ug]
 |n+1,f=>by
  rw[Ug,X95 d n (f+1),Ug,AS];congr 3;rw[show f+1+n=f+(n+1) by omega]
theorem Xof (bs:List (List UInt8)) (b:List UInt8):∀(d:ak) (a:Nat),Yt d a (bs++[b])=X0H (Yt d a bs) (a+J bs) b:=by
 induction bs with
 |nil=>intro d a;rfl
 |cons x bs ih=>
  intro d a;rw[cons_append,Yt,Yt,ih,LC];congr 1;omega
theorem Xkk (bs:List (List UInt8)) (b:List UInt8):∀(d:ak) (a:Nat),cD d a (bs++[b])=cD d a bs++[X0H (Yt d a bs) (a+J bs) b]:=by
 induction bs with
 |nil=>intro d a;rfl
 |cons x bs ih=>
  intro d a;rw[cons_append,cD,cD,ih,LC,Yt];simp only[cons_append];congr 4;omega
theorem X7f (bs:List (List UInt8)):∀(d:ak) (a:Nat),J (cD d a bs)=J bs+1:=by
 induction bs with
 |nil=>intro d a;rfl
 |cons x bs ih=>intro d a;rw[cD,LC,ih,LC]
theorem X1n (bs:List (List UInt8)):∀(d:ak) (a:Nat),(Yt d a bs).aa=d.aa/\(Yt d a bs).on=d.on/\J (Yt d a bs).pending=J d.pending+J bs:=by
 induction bs with
 |nil=>intro d a;exact⟨rfl,rfl,rfl⟩
 |cons x bs ih=>
  intro d a;obtain⟨h1,h2,h3⟩:=ih (X0H d a x) (a+1);rw[Yt];refine⟨h1,h2,h3.trans ?_⟩;simp only[X0H,LA,LC,length_nil];omega
theorem XkX (b:List UInt8) (d:ak) (a n:Nat):Yt d a (replicate (n+1) b)=X0H (Yt d a (replicate n b)) (a+n) b:=by
 have:replicate (n+1) b=replicate n b++[b]:=by rw[replicate_succ']
 rw[this,Xof,length_replicate]
theorem X3F:∀(n:Nat) (l:List UInt8),J (V0 n l)=n
 |0,_=>rfl
 |n+1,l=>by rw[V0,LC,X3F n]
def Xdr:∀(n:Nat) (l:List UInt8),64*n<=J l->∀c∈V0 n l,J c=64
 |0,_,_,c,h=>by simp[V0] at h
 |n+1,l,hl,c,h=>by
  rw[V0,mem_cons] at h;rcases h with rfl|h
  ·rw[LT];omega
  ·exact Xdr n (l.drop 64) OR c h
theorem XgN:∀(n:Nat) (l:List UInt8),V0 (n+1) l=V0 n l++[(l.drop (64*n)).take 64]
 |0,l=>by simp[V0]
 |n+1,l=>by
  rw[V0,XgN n (l.drop 64),V0,cons_append,drop_drop,show 64+64*n=64*(n+1) by omega]
theorem X2i (l:List UInt8):J (YI l)%64=0/\J l<=J (YI l)/\J (YI l)<J l+64:=by
 unfold YI;rw[LA,length_replicate];omega
structure DOk (d:ak):Prop where
 v:UF d=true
 on:d.on=true
theorem DOk.use (h:DOk d):Vh d=0:=by
 unfold Vh;rw[PI h.v,PI h.on]
def X2j (h:UF d=true):1<=J d.aa/\J d.aa<=4096/\(∀s∈d.aa,J s=64)/\∀w∈d.pending,0<=w.at_/\w.at_<J d.aa/\J w.b=64:=by
 unfold UF at h;simp only[decide_eq_true_eq] at h;exact⟨h.1,h.2.1,h.2.2.2.1,h.2.2.2.2⟩
def X8A {a:Nat} (h:DOk d) (ha:a<J d.aa) (hb:J b=64):DOk (X0H d a b):=by
 obtain⟨h1,h2,h3,h4⟩:=X2j h.v;refine⟨?_,h.on⟩;unfold UF X0H;simp only[decide_eq_true_eq];refine⟨h1,h2,.inl h.on,h3,fun w hw=> ?_⟩;rw[mem_append,mem_singleton] at hw;rcases hw with hw|rfl
 ·exact h4 w hw
 ·exact⟨Oc,by simpa using ha,hb⟩
def Xde {a:Nat} (h:DOk d) (ha:a<J d.aa) (hb:J b=64):VL d (a:Nat) b=(X0H d a b,0):=by
 unfold VL X0H;rw[NI (by rw[h.use];simp),PI ⟨Oa,Oa,hb⟩]
theorem X2J (bs:List (List UInt8)):∀(d:ak) (a:Nat),DOk d->a+J bs<=J d.aa->(∀c∈bs,J c=64)->DOk (Yt d a bs):=by
 induction bs with
 |nil=>intro d a h _ _;exact h
 |cons x bs ih=>
  intro d a h hl hc;rw[LC] at hl;rw[Yt];exact ih (X0H d a x) (a+1) (X8A h Oa (hc x Oc)) (by show a+1+J bs<=J d.aa;omega) fun c q=>hc c Ip
def X5x (h:UF d=true) (hp:J d.pending<=4096):X05 d:=by
 obtain⟨h1,h2,h3,h4⟩:=X2j h;exact⟨h2,hp,fun s hs=>by rw[h3 s hs];omega,fun w hw=>by rw[(h4 w hw).2.2];omega⟩
def XfH (h:DOk d):V1 d=(⟨Vl d (fun _=>64),[],true⟩,0):=by
 unfold V1;rw[NI (by rw[h.use];simp),h.on]
def X76 {f t tail:Int} (h:Ua d f t ep tail=0):DOk d/\0<=f/\f<t/\t<=J d.aa/\0<=ep/\ep<=1000000000000000/\0<=tail/\tail<=(t-f)*64:=by
 unfold Ua at h;by_cases c1:UF d=false
 ·rw[PI c1] at h;simp at h
 rw[NI c1] at h;by_cases c2:d.on=false
 ·rw[PI c2] at h;simp at h
 rw[NI c2] at h;by_cases c3:f<0\/t<=f\/(J d.aa:Int)<t
 ·rw[PI c3] at h;simp at h
 rw[NI c3] at h;by_cases c4:ep<0\/1000000000000000<ep\/tail<0\/(t-f)*64<tail
 ·rw[PI c4] at h;simp at h
 exact⟨⟨IE,Ir⟩,Oa,Oa,Oa,Oa,Oa,Oa,Oa⟩
def XgQ {af:List Wr} (hs:J s=64) (hp:∀w∈af,J w.b=64):∀n,J (VF af a s n)=64
 |0=>hs
 |n+1=>by
  rw[VF];cases h:af[n]? with
  |none=>exact XgQ hs hp n
  |some w=>
   simp only;split
   ·exact hp w (mem_of_getElem? h)
   ·exact XgQ hs hp n
def X66 (h:DOk d) {a:Nat} (ha:a<J d.aa):J (YZ d (a:Nat)).1=64:=by
 obtain⟨h1,h2,h3,h4⟩:=X2j h.v;unfold YZ;rw[NI (by rw[h.use];simp),PI ⟨Oa,Oa⟩];refine XgQ ?_ (fun w hw=>(h4 w hw).2.2) _;rw[Int.toNat_natCast,getElem?_eq_getElem ha];exact h3 _ (getElem_mem ha)
def X1j (h:DOk d):∀(n f:Nat),f+n<=J d.aa->J (Ug d f n)=64*n
 |0,f,_=>rfl
 |n+1,f,hl=>by
  rw[Ug,LA,X66 h Oa,X1j h n (f+1) Oa];omega
def XfQ:prog.cellsOf 4=1:=Oh
def Y6 (r:Rcd):List D:=[.v (.int .i64 r.kind),.v (.int .i64 r.ts),.sl 10 (r.changes.map Xp),.v (.int .i64 r.rule.kind),.v (.int .i64 r.rule.n),.v (.string (X7 r.rule.name)),.v (.string (X7 r.rule.key)),.v (.string (X7 r.rule.src)),.v (.string (X7 r.rule.dst)),.v (.bool r.off)]
end Go.Fw

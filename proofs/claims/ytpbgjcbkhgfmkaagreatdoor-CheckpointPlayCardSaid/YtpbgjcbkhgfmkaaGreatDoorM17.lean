/- Changes and rules read at an offset: the program's. -/
import Derived.Test.YtpbgjcbkhgfmkaaGreatDoorM16
set_option maxHeartbeats 32000000
namespace Go.Fw
open Go Go.Proofs Tryz List
set_option maxRecDepth 100000
set_option linter.unusedVariables false
set_option linter.unusedSimpArgs false
abbrev zC:Chg:=⟨0,0,0,0,[],zV⟩
abbrev X53:Rcd:=⟨0,0,[],zR,false⟩
def X1T (b:List UInt8) (a:Int):Chg×Int×Int:=
 if a<0\/(b.length:Int)<a then (zC,0,1) else
  let r:=Vu b a 0
  let e:=if r.2.2=0 then YD r.1 else r.2.2
  if e≠0 then (zC,0,e) else (r.1,r.2.1,0)
def X1W (b:List UInt8) (a:Int):Rul×Int×Int:=
 if a<0\/(b.length:Int)<a then (zR,0,1) else
  let r:=X0x b a 0
  let e:=if r.2.2=0 then Uk r.1 else r.2.2
  if e≠0 then (zR,0,e) else (r.1,r.2.1,0)
theorem XoN (c:Chg) (ρ:Nat->Nat):(Xz c).ren ρ=Xz c:=by
 obtain⟨op,id,src,dst,name,⟨k,n,d,s,l⟩⟩:=c;rfl
theorem Xvu (r:Rul) (ρ:Nat->Nat):(Yu r).ren ρ=Yu r:=rfl
theorem XrW (b:List UInt8) (a e limit:Int) (hb:b.length<=281474976710656) (ha:e=0->0<=a/\a<=b.length):Con prog 232 [(101,oRd b a e)] [.ptr 101 0,ai limit] [(101,oRd b (rkI b a e limit).2.1 (rkI b a e limit).2.2)] (ai (rkI b a e limit).1):=YK 0 101 (Xet b a e limit hb ha)
theorem Xju (b:List UInt8) (a e:Int) (hb:b.length<=281474976710656):Con prog 233 [(101,oRd b a e)] [.ptr 101 0] [(101,oRd b (rnS b a e).2.1 (rnS b a e).2.2)] (ai (rnS b a e).1):=YK 0 101 (X9M b a e hb)
theorem XrY (b:List UInt8) (a e:Int) (hb:b.length<=281474976710656) (ha:e=0->0<=a/\a<=b.length):Con prog 234 [(101,oRd b a e)] [.ptr 101 0] [(101,oRd b (roS b a e).2.1 (roS b a e).2.2)] (ab (roS b a e).1):=YK 0 101 (Xtg b a e hb ha)
theorem XjH (b:List UInt8) (a e:Int) (hb:b.length<=281474976710656) (ha:e=0->0<=a/\a<=b.length):Con prog 230 [(101,oRd b a e)] [.ptr 101 0] [(101,oRd b (Vu b a e).2.1 (Vu b a e).2.2)] (Xz (Vu b a e).1):=by
 have h:=YK 0 101 (XoL b a e hb ha);rw[XoN] at h;exact h
theorem Xnr (b:List UInt8) (a e:Int) (hb:b.length<=281474976710656) (ha:e=0->0<=a/\a<=b.length):Con prog 229 [(101,oRd b a e)] [.ptr 101 0] [(101,oRd b (X0x b a e).2.1 (X0x b a e).2.2)] (Yu (X0x b a e).1):=by
 have h:=YK 0 101 (Xvz b a e hb ha);rw[Xvu] at h;exact h
theorem Xs1 (b:List UInt8) (a:Int) (hb:b.length<=281474976710656):Con prog 157 [] [.d (Xg b),ai a] [] (.tup [Xz (X1T b a).1,ai (X1T b a).2.1,ai (X1T b a).2.2]):=by
 refine ZCt func157 ntmps157 fun E=> ?_;have hlm:(b.map X5).length=b.length:=by simp
 unfold X1T;by_cases h1:a<0
 ·rw[PI (.inl h1)];refine XY ?_;exact QFb
 by_cases h2:(b.length:Int)<a
 ·rw[PI (.inr h2)];have ek:((b.map X5).length:Int)<a:=by omega
  refine XY ?_;exact QFb
 rw[NI (by omega)];have ek:¬((b.map X5).length:Int)<a:=by omega
 have hr:=XjH b a 0 hb (fun _=>by omega);have hc:=X6k (Vu b a 0).1;generalize Vu b a 0=r at*;obtain⟨c,at_,e⟩:=r;simp only at hr hc |-;generalize YD c=ce at*;obtain⟨op,id,src,dst,name,⟨k,n,d,s,l⟩⟩:=c;simp only[Xz] at hr hc |-;by_cases he:e=0
 ·subst he;rw[PI rfl];by_cases h3:ce=0
  ·subst h3;rw[NI (by simp)];refine X7 ?_;refine UX ?_;exact X2 ⟨_,St.le_refl _,⟨⟨100,0,_,rfl,rfl,.inr ⟨10,_,rfl,rfl,rfl,rfl⟩⟩,rfl,rfl,TV⟩,X4 _⟩
  ·rw[PI h3];refine X7 ?_;refine X00 ?_;exact QFb
 ·rw[NI he,PI he];refine X7 ?_;refine U1 ?_;exact QFb
theorem XqL (b:List UInt8) (a:Int) (hb:b.length<=281474976710656):Con prog 155 [] [.d (Xg b),ai a] [] (.tup [Yu (X1W b a).1,ai (X1W b a).2.1,ai (X1W b a).2.2]):=by
 refine ZCt func155 ntmps155 fun E=> ?_;have hlm:(b.map X5).length=b.length:=by simp
 unfold X1W;by_cases h1:a<0
 ·rw[PI (.inl h1)];refine XY ?_;exact QGb
 by_cases h2:(b.length:Int)<a
 ·rw[PI (.inr h2)];have ek:((b.map X5).length:Int)<a:=by omega
  refine XY ?_;exact QGb
 rw[NI (by omega)];have ek:¬((b.map X5).length:Int)<a:=by omega
 have hr:=Xnr b a 0 hb (fun _=>by omega);have hc:=X7u (X0x b a 0).1;generalize X0x b a 0=r at*;obtain⟨c,at_,e⟩:=r;simp only at hr hc |-;generalize Uk c=ce at*;obtain⟨k,n,name,key,src,dst⟩:=c;simp only[Yu] at hr hc |-;by_cases he:e=0
 ·subst he;rw[PI rfl];by_cases h3:ce=0
  ·subst h3;rw[NI (by simp)];refine X7 ?_;refine UX ?_;exact QGb
  ·rw[PI h3];refine X7 ?_;refine X00 ?_;exact QGb
 ·rw[NI he,PI he];refine X7 ?_;refine U1 ?_;exact QGb
open Go
def X04 (l:List Int):List UInt8:=(l.map Xl).flatten
def X5n {α:Type} (w:α->List UInt8) (l:List α):List UInt8:=Xl l.length++(l.map w).flatten
structure Rd where
 k:Nat
 c:List UInt8
 a:Int
 e:Int
def Rd.put (s:Rd) (a e:Int):Rd:=⟨s.k,s.c,a,e⟩
def X1J {α:Type} (z:α) (f:List UInt8->Int->α×Int×Int) (s:Rd):α×Rd:=
 if s.e≠0 then (z,s) else let r:=f s.c s.a;(r.1,s.put (if r.2.2=0 then r.2.1 else s.a) r.2.2)
def YF:Rd->Int×Rd:=X1J 0 XB
def X1X:Rd->Rul×Rd:=X1J zR X1W
def VY {α:Type} (f:Rd->α×Rd):Nat->Rd->List α×Rd
 |0,s=>([],s)
 |n+1,s=>if s.e≠0 then ([],s) else let x:=f s;let r:=VY f n x.2;(x.1::r.1,r.2)
def X16 {α:Type} (f:Rd->α×Rd) (s:Rd):List α×Rd:=let n:=YF s;VY f n.1.toNat n.2
variable{n q:Nat}{a e limit:Int}{b s u w:List UInt8}{c:Chg}{r:Rul}{v:Val}{x:Rcd}
theorem XdU {α:Type}{f:Rd->α×Rd}{s:Rd} (h:s.e≠0):VY f n s=([],s):=by
 cases n with
 |zero=>rfl
 |succ n=>rw[VY,PI h]
theorem XsP {α:Type}{z:α}{f:List UInt8->Int->α×Int×Int}{s:Rd} (h:s.e≠0):X1J z f s=(z,s):=by
 unfold X1J;rw[PI h]
theorem eq3 {α:Type}{x:α×Int×Int} (h:x.2.2=0):x=(x.1,x.2.1,0):=by rw[<-h]
def X1L (b:List UInt8):Nat->Int->Int->List Chg×Int×Int
 |0,a,e=>([],a,e)
 |n+1,a,e=>if e≠0 then ([],a,e) else ((Vu b a e).1::(X1L b n (Vu b a e).2.1 (Vu b a e).2.2).1,(X1L b n (Vu b a e).2.1 (Vu b a e).2.2).2)
theorem Xgn (h:e≠0):X1L b n a e=([],a,e):=by
 cases n with
 |zero=>rfl
 |succ n=>rw[X1L,PI h]
def rdX (b:List UInt8):Rcd×Int×Int:=
 let k:=rkI b 0 0 3
 let t:=rnS b k.2.1 k.2.2
 let n:=rnS b t.2.1 t.2.2
 let l:=X1L b n.1.toNat n.2.1 n.2.2
 let r:=X0x b t.2.1 t.2.2
 let o:=roS b r.2.1 r.2.2
 if k.1=1 then (⟨k.1,t.1,l.1,zR,false⟩,l.2) else if k.1=2 then (⟨k.1,t.1,[],r.1,o.1⟩,o.2) else (⟨k.1,t.1,[],zR,false⟩,t.2)
def rdF (b:List UInt8) (x:Rcd×Int×Int):Rcd×Int:=
 let e1:=if x.2.2=0/\x.2.1<b.length then 2 else x.2.2
 let e2:=if e1=0 then UH x.1 else e1
 if e2≠0 then (X53,e2) else (x.1,0)
def rdS (b:List UInt8):Rcd×Int:=rdF b (rdX b)
theorem Xis (h:e≠0):rdF b (x,a,e)=(X53,e):=by
 unfold rdF;simp only;rw[if_neg (c:=e=0/\a<b.length) (fun q=>h q.1),NI h,PI h]
theorem XlL (h:a<b.length):rdF b (x,a,0)=(X53,2):=by
 unfold rdF;simp[h]
theorem XdA (h:¬a<b.length) (hc:UH x=0):rdF b (x,a,0)=(x,0):=by
 unfold rdF;simp[h,hc]
theorem Xj6 (h:¬a<b.length) (hc:UH x≠0):rdF b (x,a,0)=(X53,UH x):=by
 unfold rdF;simp[h,hc]
theorem Xiq (h0:0<=a) (h:(Vu b a 0).2.2=0):a<(Vu b a 0).2.1/\0<=(Vu b a 0).2.1/\(Vu b a 0).2.1<=b.length:=by
 have:=Xle (b:=b) (a:=a) (c:=(Vu b a 0).1) (at_:=(Vu b a 0).2.1) h0 (eq3 h);have h2:=this.1.2.2.1;omega
theorem XaC (h:(rnS b a e).2.2=0):0<=(rnS b a e).2.1/\(rnS b a e).2.1<=b.length:=by
 have he:e=0:=Xby (n:=(rnS b a e).1) (m:=(rnS b a e).2.1) (eq3 h);subst he;rw[X8j] at h |-;obtain⟨q,h1,h2⟩:=X6N b a h;omega
theorem Xrf (b:List UInt8) (a e:Int):∃n:Nat,(rnS b a e).1=n/\n<=9223372036854775807:=by
 by_cases he:e=0
 ·subst he;rw[X8j];by_cases h:(XB b a).2.2=0
  ·have:=X4M (b:=b) (a:=a) (n:=(XB b a).1) (e:=(XB b a).2.1) (eq3 h);exact⟨(XB b a).1.toNat,by omega,by omega⟩
  ·exact⟨0,by rw[XhQ h];rfl,by omega⟩
 ·rw[Xf9 he];exact⟨0,rfl,by omega⟩
theorem XxI (h0:0<=a) (h:(rkI b a 0 limit).2.2=0):0<=(rkI b a 0 limit).2.1/\(rkI b a 0 limit).2.1<=b.length:=by
 have:=Xgd (b:=b) (a:=a) (limit:=limit) (k:=(rkI b a 0 limit).1) (a1:=(rkI b a 0 limit).2.1) h0 (eq3 h);have h2:=this.1.2.2.1;omega
theorem XpR (h0:e=0->0<=a) (h:(X0x b a e).2.2=0):0<=(X0x b a e).2.1/\(X0x b a e).2.1<=b.length:=by
 have he:e=0:=by
  by_cases he:e=0
  ·exact he
  ·exfalso;unfold X0x at h;simp only at h;have z5:=XmO (b:=b) (n:=(riS b _ _).1) (m:=(riS b _ _).2.1) (eq3 h);have z4:=X5y (b:=b) (s:=(rsS b _ _).1) (m:=(rsS b _ _).2.1) (eq3 z5);have z3:=X5y (b:=b) (s:=(rsS b _ _).1) (m:=(rsS b _ _).2.1) (eq3 z4);have z2:=X5y (b:=b) (s:=(rsS b _ _).1) (m:=(rsS b _ _).2.1) (eq3 z3);have z1:=X5y (b:=b) (s:=(rsS b _ _).1) (m:=(rsS b _ _).2.1) (eq3 z2);exact he (XuO (b:=b) (k:=(rkI b a e 7).1) (m:=(rkI b a e 7).2.1) (eq3 z1))
 subst he;have:=XkD (b:=b) (a:=a) (r:=(X0x b a 0).1) (at_:=(X0x b a 0).2.1) (h0 rfl) (eq3 h);have h2:=this.1.2.2.1;have h3:=h0 rfl;omega
theorem Xcx {b:List UInt8}:∀(n:Nat) (a e:Int),(e=0->0<=a/\a<=b.length)->(∀c∈(X1L b n a e).1,Xbf c)/\((X1L b n a e).1.length:Int)<=b.length+1/\(e=0->((X1L b n a e).1.length:Int)<=b.length+1-a)
 |0,a,e,h=>by rw[X1L];exact⟨by simp,by simp;omega,fun he=>by have:=h he;simp;omega⟩
 |n+1,a,e,h=>by
  rw[X1L];by_cases he:e=0
  ·subst he;rw[NI (by simp)];have h1:=h rfl;have hp:=fun hz=>Xiq (b:=b) (a:=a) h1.1 hz;have ih:=Xcx (b:=b) n (Vu b a 0).2.1 (Vu b a 0).2.2 (fun hz=>by have:=hp hz;omega);have hc:=Xue b a 0;generalize Vu b a 0=c at*;by_cases hz:c.2.2=0
   ·have h2:=hp hz;have h3:=ih.2.2 hz;refine⟨fun x hx=> ?_,?_,fun _=> ?_⟩
    rotate_left
    ·simp only[LC];omega
    ·simp only[LC];omega
    rcases mem_cons.1 hx with rfl|hx
    ·exact hc
    ·exact ih.1 x hx
   ·rw[Xgn hz];refine⟨fun x hx=> ?_,by simp;omega,fun _=>by simp;omega⟩;simp at hx;subst hx;exact hc
  ·rw[PI he];exact⟨by simp,by simp;omega,fun h=>absurd h he⟩
theorem Xrm (b:List UInt8) (hb:b.length<=1073741824):Con prog 161 [] [.d (Xg b)] [] (.tup [Uv (rdS b).1,ai (rdS b).2]):=by
 refine ZCt func161 ntmps161 fun E=> ?_;have hb':b.length<=281474976710656:=by omega
 have hlm:(b.map X5).length=b.length:=by simp
 have hk:=XrW b 0 0 3 hb' (fun _=>by omega);have hkp:=fun h=>XxI (b:=b) (a:=0) (limit:=3) (by omega) h;unfold rdS;generalize hX:rdX b=X;unfold rdX at hX;generalize rkI b 0 0 3=k at*;obtain⟨kd,a1,e1⟩:=k;simp only at hk hkp hX;have ht:=Xju b a1 e1 hb';have mU:=fun h=>XaC (b:=b) (a:=a1) (e:=e1) h;generalize rnS b a1 e1=t at*;obtain⟨ts,a2,e2⟩:=t;simp only at ht mU hX;refine Yv ?_;refine Z3 (af:=ht) ?_;refine XA ?_;refine X6x ⟨85,[(0,.d (Xg b)),(2,.ptr 100 0),(4,.ptr 101 0),(5,.ptr 102 0)],[(100,.box [ai 0,ai 0,aq,ai 0,ai 0,Xi [],Xi [],Xi [],Xi [],ab false]),(101,oRd b X.2.1 X.2.2),(102,.box [ai X.1.kind,ai X.1.ts,.d (.sl 10 (X.1.changes.map Xs)),ai X.1.rule.kind,ai X.1.rule.n,Xi X.1.rule.name,Xi X.1.rule.key,Xi X.1.rule.src,Xi X.1.rule.dst,ab X.1.off])]⟩ ?_ ?_
 ·by_cases k1:kd=1
  ·rw[PI k1] at hX;have hn:=Xju b a2 e2 hb';have hnp:=fun h=>XaC (b:=b) (a:=a2) (e:=e2) h;have dF:=Xrf b a2 e2;generalize rnS b a2 e2=nn at*;obtain⟨n,a3,e3⟩:=nn;obtain⟨m,hm,hml⟩:=dF;simp only at hm hn hnp hX;subst hm;rw[Int.toNat_natCast] at hX;have hall:=Xcx (b:=b) m a3 e3 (fun h=>hnp h);generalize hL:X1L b m a3 e3=L at*;refine XA ?_;refine QNa ?_;refine X8 (X2y 102 2 103 10 rfl rfl rfl rfl rfl) ?_
   refine Xn (ι:=List Chg×Nat×Int×Int) (fun q=>q.1++(X1L b q.2.1 q.2.2.1 q.2.2.2).1=L.1/\(X1L b q.2.1 q.2.2.1 q.2.2.2).2=L.2/\(q.2.2.2=0->0<=q.2.2.1/\q.2.2.1<=b.length)/\q.2.1<=9223372036854775807)
    (fun q=>⟨85,[(0,.d (Xg b)),(2,.ptr 100 0),(4,.ptr 101 0),(5,.ptr 102 0),(6,ai q.2.1)],[(100,.box [ai 0,ai 0,aq,ai 0,ai 0,Xi [],Xi [],Xi [],Xi [],ab false]),(101,oRd b q.2.2.1 q.2.2.2),(102,.box [ai kd,ai ts,.own 103 (q.1.map Xs).length,ai 0,ai 0,Xi [],Xi [],Xi [],Xi [],ab false]),(103,.row 10 (q.1.map Xs))]⟩) (fun q=>q.2.1) ([],m,a3,e3)
    ⟨by rw[hL];rfl,by rw[hL],hnp,hml⟩
    (ZL0) ?_
   rintro⟨acc,j,a,e⟩ ⟨h1,h2,h3,h4⟩;simp only at h1 h2 h3 h4;have fin:j=0\/e≠0->L=(acc,a,e):=by
    intro h;have:X1L b j a e=([],a,e):=by
     rcases h with rfl|h
     ·rfl
     ·exact Xgn h
    rw[this] at h1 h2;simp only[append_nil] at h1;exact Prod.ext h1.symm h2.symm
   by_cases hj:j=0
   ·subst hj;have gZ:=fin (.inl rfl);subst gZ;refine Yx ?_;refine St.le_trans (XP 103 rfl) ?_;refine St.le_trans (X03 102 2 103 rfl rfl rfl rfl) ?_;subst hX;exact ZL0
   by_cases he:e=0
   case neg=>
    have gZ:=fin (.inr he);subst gZ;have hj':(0:Int)<j:=by omega
    refine Yx ?_;refine St.le_trans (XP 103 rfl) ?_;refine St.le_trans (X03 102 2 103 rfl rfl rfl rfl) ?_;subst hX;exact ZL0
   subst he;obtain⟨i,rfl⟩:∃i,j=i+1:=⟨j-1,by omega⟩
   have h5:=h3 rfl;have hc:=XjH b a 0 hb' (fun _=>h5);have cZ:=fun h=>Xiq (b:=b) (a:=a) h5.1 h;rw[X1L,NI (by simp)] at h1 h2;generalize Vu b a 0=c at*;obtain⟨c,a',e'⟩:=c;simp only at hc cZ h1 h2;have hroom:(acc.map Xs).length<=1073741825:=by
    have:=CG length h1;simp only[LA,LC] at this;simp only[LM];omega
   have gD:(acc++[c]).map Xs=acc.map Xs++[Xs c]:=by simp
   obtain⟨op,id,src,dst,name,⟨xk,xn,xd,xs,xl⟩⟩:=c;simp only[Xz] at hc;have hj':(0:Int)<(i+1:Nat):=by omega
   refine Ye ?_;refine Z3 (af:=hc) ?_;refine W7_ ?_
   (refine Z1 (op:= .sub) (r':=nj i) (u:= .int .i64 ((i+1:Nat):Int)) (v:= .int .i64 1) ?_ (hr':=by exact CG (Value.int .i64) (show(((i+1:Nat):Int)-1)=(i:Int) by omega)) (hr:=by exact X71 (by unfold X2i;omega)))
   refine W2_ ?_;refine⟨(acc++[_],i,a',e'),⟨by simpa using h1,h2,(fun h=>by have:=cZ h;exact⟨by omega,by omega⟩:e'=0->0<=a'/\a'<=b.length),(by omega:i<=9223372036854775807)⟩,by show i<i+1;omega,?_⟩;dsimp only;rw[gD];exact Xb rfl JM ⟨rfl,rfl,by refine Eq.trans (b:=AObj.box [_,_,.own 103 (_+_),_,_,_,_,_,_,_]) rfl ?_;simp only[LA,LM,LC,length_nil],rfl,TV⟩
  by_cases k2:kd=2
  ·rw[NI k1,PI k2] at hX;have hr:=Xnr b a2 e2 hb' mU;have mH:=fun h=>XpR (b:=b) (a:=a2) (e:=e2) (fun he=>(mU he).1) h;generalize X0x b a2 e2=r at*;obtain⟨r,a3,e3⟩:=r;simp only at hr mH hX;have ho:=XrY b a3 e3 hb' mH;generalize roS b a3 e3=o at*;obtain⟨o,a4,e4⟩:=o;obtain⟨k,n,name,key,src,dst⟩:=r;simp only[Yu] at hr ho hX;subst hX;refine XY ?_;refine St.le_trans (Xq 102 (cs':=[ai kd,ai ts,.d (.sl 10 []),ai k,ai n,Xi name,Xi key,Xi src,Xi dst,ab o]) rfl JM rfl) ?_;exact ZL0
  rw[NI k1,NI k2] at hX;subst hX;refine XG ?_;refine St.le_trans (Xq 102 (cs':=[ai kd,ai ts,.d (.sl 10 []),ai 0,ai 0,Xi [],Xi [],Xi [],Xi [],ab false]) rfl JM rfl) ?_;exact ZL0
 have nR:X0z X.1:=by
  subst hX;split
  ·have hz:=fun h=>XaC (b:=b) (a:=a2) (e:=e2) h;have:=Xcx (b:=b) (rnS b a2 e2).1.toNat (rnS b a2 e2).2.1 (rnS b a2 e2).2.2 (fun h=>hz h);exact⟨by simp only;omega,this.1⟩
  ·split<;>exact⟨by simp,by simp⟩
 have hc:=Xbz X.1 nR;clear hX nR hk hkp ht mU;obtain⟨x,a,e⟩:=X;by_cases he:e=0
 case neg=>
  rw[Xis he];clear hc;obtain⟨kd,ts,l,⟨k,n,name,key,src,dst⟩,off⟩:=x;simp only[Uv];refine QX ?_;exact QHb
 subst he;by_cases ha:a<b.length
 ·rw[XlL ha];have gX:a<(b.map X5).length:=by omega
  clear hc;obtain⟨kd,ts,l,⟨k,n,name,key,src,dst⟩,off⟩:=x;simp only[Uv];refine X7 ?_;refine Yg ?_;exact QHb
 have gX:¬a<(b.map X5).length:=by omega
 by_cases h3:UH x=0
 ·rw[XdA ha h3];simp only at hc;rw[h3] at hc;obtain⟨kd,ts,l,⟨k,n,name,key,src,dst⟩,off⟩:=x;simp only[Uv] at hc |-;refine UD ?_;refine Z3 (af:=hc) ?_;refine Ye ?_;exact X2 ⟨_,St.le_refl _,⟨⟨100,0,_,rfl,rfl,.inr ⟨10,_,rfl,rfl,rfl,rfl⟩⟩,rfl,TV⟩,X4 _⟩
 ·rw[Xj6 ha h3];simp only at hc;generalize UH x=ce at*;obtain⟨kd,ts,l,⟨k,n,name,key,src,dst⟩,off⟩:=x;simp only[Uv] at hc |-;refine UD ?_;refine Z3 (af:=hc) ?_;refine Yq ?_;exact QHb
structure At (b:List UInt8) (q:Nat) (w:List UInt8):Prop where
 le:q<=b.length
 eq:b.drop q=w
theorem At.step (h:At b q (u++w)):At b (q+u.length) w:=by
 have h1:=CG length h.eq;simp only[LD,LA] at h1;refine⟨by have:=h.le;omega,?_⟩;rw[<-drop_drop,h.eq,drop_left]
theorem At.split (h:At b q (u++w)):b=b.take q++u++w/\(b.take q).length=q:=by
 refine⟨?_,by have:=h.le;simp;omega⟩;rw[AS,<-h.eq,take_append_drop]
theorem At.cons {c:UInt8} (h:At b q (c::w)):b[q]? =some c/\At b (q+1) w:=by
 refine⟨?_,At.step (u:=[c]) h⟩;have:=CG (·[0]?) h.eq;simpa using this
theorem XcI {k:Int} (h:At b q (UInt8.ofNat k.toNat::w)) (hk:1<=k/\k<=limit/\k<=255):rkI b q 0 limit=(k,((q+1:Nat):Int),0):=by
 obtain⟨h1,h2⟩:=h.cons;have hlt:=(GS.1 h1).1;unfold rkI rkS;rw[NI (by simp),NI (by simp),Int.toNat_natCast,NI (by omega),h1,Option.getD_some,X1k (by omega),NI (by omega)];simp only[Prod.mk.injEq,and_true];constructor
 ·omega
 ·omega
theorem X7n {n:Int} (h:At b q (Xl n++w)) (hn:0<=n/\n<=9223372036854775807):rnS b q 0=(n,((q+(Xl n).length:Nat):Int),0):=by
 obtain⟨h1,h2⟩:=h.split;have:=X7b hn (b.take q) w;rw[X8j];rw[<-h1,h2] at this;rw[this];simp
theorem XwL {n:Int} (h:At b q (U5 n++w)) (hn: -9223372036854775808<=n/\n<=9223372036854775807):riS b q 0=(n,((q+(U5 n).length:Nat):Int),0):=by
 obtain⟨h1,h2⟩:=h.split;have:=XaQ hn (b.take q) w;rw[Xe2];rw[<-h1,h2] at this;rw[this];simp
theorem X8f (h:At b q (Ym s++w)) (hn:s.length<=20):rsS b q 0=(s,((q+(Ym s).length:Nat):Int),0):=by
 obtain⟨h1,h2⟩:=h.split;have:=Xi0 (s:=s) (most:=20) (by omega) (by omega) (b.take q) w;rw[Xdi];rw[<-h1,h2] at this;rw[this];simp
theorem XoS (h:At b q (UB v++w)) (hv:Xk 8 v=true):rvS b q 0=(v,((q+(UB v).length:Nat):Int),0):=by
 obtain⟨h1,h2⟩:=h.split;have:=Xvo hv (b.take q) w;rw[Xdr];rw[<-h1,h2] at this;rw[this];simp
theorem XqV (h:V4 v=true):v=zV:=by
 obtain⟨k,n,d,s,l⟩:=v;unfold V4 at h;rw[Bool.and_eq_true] at h;obtain⟨h1,h0⟩:=h;obtain rfl:k=0:=of_decide_eq_true h0;rw[Xk] at h1;simp at h1;obtain⟨⟨⟨h2,h3⟩,h4⟩,h5⟩:=h1;subst h2;subst h3;subst h4;subst h5;rfl
theorem XsZ (h:YD c=0):(c.op≠6->c.src=0/\c.dst=0)/\(YS c.op=false->c.name=[])/\(YL c.op=false->c.v=zV):=by
 unfold YD at h;split at h
 ·omega
 rename_i h1;split at h
 ·omega
 rename_i h2;split at h
 ·omega
 rename_i h3;refine⟨fun hk=>⟨?_,?_⟩,fun hn=> ?_,fun hv=> ?_⟩
 ·by_cases he:c.src=0
  ·exact he
  ·exact absurd (.inr ⟨hk,.inl he⟩) h2
 ·by_cases he:c.dst=0
  ·exact he
  ·exact absurd (.inr ⟨hk,.inr he⟩) h2
 ·by_cases he:c.name=[]
  ·exact he
  ·exact absurd (.inl ⟨hn,he⟩) h3
 ·refine XqV ?_;cases hz:V4 c.v with
  |true=>rfl
  |false=>exact absurd (.inr ⟨hv,hz⟩) h3
theorem Xlo (hc:YD c=0) (h:At b q (U2 c++w)):Vu b q 0=(c,((q+(U2 c).length:Nat):Int),0)/\At b (q+(U2 c).length) w:=by
 refine⟨?_,h.step⟩;obtain⟨o1,o2,o3,o4,o5⟩:=Xbo hc;obtain⟨z1,z2,z3⟩:=XsZ hc;obtain⟨op,id,src,dst,name,v⟩:=c;simp only at o1 o2 o3 o4 o5 z1 z2 z3;have hput:U2 ⟨op,id,src,dst,name,v⟩=UInt8.ofNat op.toNat::(Xl id++((if op=6 then Xl src++Xl dst else [])++((if YS op=true then Ym name else [])++(if YL op=true then UB v else [])))):=by
  unfold U2;simp only[AS]
 rw[hput] at h |-;rw[cons_append] at h;have k1:=XcI h (limit:=8) (by omega);have h1:=h.cons.2;rw[AS] at h1;have k2:=X7n h1 (by omega);have h2:=h1.step;unfold Vu;rw[k1];simp only;rw[k2];simp only;by_cases h6:op=6
 ·subst h6;have s3:=o3 rfl;have hn:=o4 rfl;have hv:=z3 rfl;subst hv;simp only[if_true,show YS 6=true by decide,show YL 6=false by decide,Bool.false_eq_true,if_false,append_nil] at h2 |-;rw[AS,AS] at h2;have k3:=X7n h2 (by omega);have h3:=h2.step;have k4:=X7n h3 (by omega);have h4:=h3.step;have k5:=X8f h4 hn;rw[k3];simp only;rw[k4];simp only;rw[k5];simp only[Prod.mk.injEq,true_and,and_true,LC,LA];omega
 ·have z1:=z1 h6;obtain⟨rfl,rfl⟩:=z1;simp only[NI h6,nil_append] at h2 |-;by_cases hn:YS op=true
  ·simp only[PI hn] at h2 |-;rw[AS] at h2;have k5:=X8f h2 (o4 hn);have h3:=h2.step;rw[k5];simp only;by_cases hv:YL op=true
   ·simp only[PI hv] at h3 |-;have k6:=XoS h3 (o5 hv).1;rw[k6];simp only[Prod.mk.injEq,true_and,and_true,LC,LA];omega
   ·simp only[NI hv,append_nil] at h3 |-;have:=z3 (by simpa using hv);subst this;simp only[Prod.mk.injEq,true_and,and_true,LC,LA];omega
  ·have hv:¬YL op=true:=by revert hn;unfold YS YL;simp;omega
   simp only[NI hn,NI hv,append_nil,nil_append] at h2 |-;have e1:=z2 (by simpa using hn);have e2:=z3 (by simpa using hv);subst e1;subst e2;simp only[Prod.mk.injEq,true_and,and_true,LC,LA];omega
theorem XmV (hr:Uk r=0) (h:At b q (VE r++w)):X0x b q 0=(r,((q+(VE r).length:Nat):Int),0)/\At b (q+(VE r).length) w:=by
 refine⟨?_,h.step⟩;obtain⟨o1,⟨l1,l2,l3,l4⟩,o3⟩:=X7v hr;obtain⟨k,n,name,key,src,dst⟩:=r;simp only at o1 l1 l2 l3 l4 o3;have hput:VE ⟨k,n,name,key,src,dst⟩=UInt8.ofNat k.toNat::(Ym name++(Ym key++(Ym src++(Ym dst++U5 n)))):=by
  unfold VE;simp only[AS]
 rw[hput] at h |-;rw[cons_append] at h;have k1:=XcI h (limit:=7) (by omega);have h1:=h.cons.2;simp only[AS] at h1;have k2:=X8f h1 l1;have h2:=h1.step;have k3:=X8f h2 l2;have h3:=h2.step;have k4:=X8f h3 l3;have h4:=h3.step;have k5:=X8f h4 l4;have h5:=h4.step;have k6:=XwL h5 o1;unfold X0x;rw[k1];simp only;rw[k2];simp only;rw[k3];simp only;rw[k4];simp only;rw[k5];simp only;rw[k6];simp only[Prod.mk.injEq,true_and,and_true,LC,LA];omega
theorem XkV:∀(l:List Chg) (q:Nat) (w:List UInt8),(∀c∈l,YD c=0)->At b q (X0j l++w)->X1L b l.length q 0=(l,((q+(X0j l).length:Nat):Int),0)/\At b (q+(X0j l).length) w
 |[],q,w,_,h=>⟨rfl,h⟩
 |c::l,q,w,hc,h=>by
  have hput:X0j (c::l)=U2 c++X0j l:=rfl;rw[hput,AS] at h;obtain⟨h1,h2⟩:=Xlo (hc c (by simp)) h;obtain⟨h3,h4⟩:=XkV l _ w (fun x hx=>hc x (by simp[hx])) h2;rw[hput,LA];refine⟨?_,by rw[<-Nat.add_assoc];exact h4⟩;rw[LC,X1L,NI (by simp),h1];simp only;rw[h3];simp only[Prod.mk.injEq,true_and,and_true];omega
theorem XkB (h:X4i r=true):r=zR:=by
 obtain⟨k,n,name,key,src,dst⟩:=r;unfold X4i at h;have:=of_decide_eq_true h;simp only at this;obtain⟨rfl,rfl,rfl,rfl,rfl,rfl⟩:=this;rfl
theorem Xpb {r:Rcd} (h:UH r=0):rdS (X11 r)=(r,0):=by
 obtain⟨fu,hts,h1,h2,h3,h4⟩:=XcX h;have hX:rdX (X11 r)=(r,((X11 r).length:Int),0):=by
  obtain⟨kd,ts,l,rl,off⟩:=r;simp only at fu hts h1 h2 h3 h4;generalize hb:X11 ⟨kd,ts,l,rl,off⟩=b;have hA:At b 0 (X11 ⟨kd,ts,l,rl,off⟩):=⟨by omega,by rw[hb];rfl⟩
  unfold X11 at hA hb;simp only at hA hb;have k1:=XcI hA (limit:=3) (by omega);have a1:=hA.cons.2;have k2:=X7n a1 (by omega);have a2:=a1.step;unfold rdX;rw[show ((0:Nat):Int)=0 from rfl] at k1;rw[k1];simp only;rw[k2];simp only;rcases fu with rfl|rfl|rfl
  ·obtain⟨h1,hl⟩:=h1 (by decide);simp only[if_true] at a2 hb |-;have k3:=X7n a2 (n:=(l.length:Nat)) (by omega);have a3:=a2.step;rw[k3];simp only[Int.toNat_natCast];obtain⟨k4,a4⟩:=XkV l _ [] h1 (by rw[append_nil];exact a3);rw[k4];obtain⟨e1,e2⟩:=h4 (by decide);subst e1;have e2:=XkB e2;subst e2;simp only[Prod.mk.injEq,true_and,and_true];rw[<-hb];simp only[LC,LA];omega
  ·have h2:=h2 rfl;obtain rfl:=h3 (by decide);simp only[show ¬((2:Int)=1) by omega,if_false,if_true] at a2 hb |-;obtain⟨k4,a4⟩:=XmV h2 a2;rw[k4];simp only;have hro:roS b ((0+1+(Xl ts).length+(VE rl).length:Nat):Int) 0=(off,((0+1+(Xl ts).length+(VE rl).length+1:Nat):Int),0):=by
    obtain⟨c1,c2⟩:=a4.cons;have hlt:=(GS.1 c1).1;unfold roS;rw[NI (by simp),NI (by omega),Int.toNat_natCast,c1,Option.getD_some];cases off<;>simp<;>omega
   rw[hro];simp only[Prod.mk.injEq,true_and,and_true];rw[<-hb];simp only[LC,LA,length_nil];omega
  ·obtain rfl:=h3 (by decide);obtain⟨e1,e2⟩:=h4 (by decide);subst e1;have e2:=XkB e2;subst e2;simp only[show ¬((3:Int)=1) by omega,show ¬((3:Int)=2) by omega,if_false] at a2 hb |-;simp only[Prod.mk.injEq,true_and,and_true];rw[<-hb];simp only[LC,LA,length_nil];omega
 unfold rdS;rw[hX];exact XdA (by omega) h
structure PartR {α:Type} (f:Rd->α×Rd):Prop where
 err:∀s,s.e≠0->(f s).2=s
 keep:∀s,(f s).2.k=s.k/\(f s).2.c=s.c
theorem PartR.back {α:Type}{f:Rd->α×Rd} (h:PartR f) {s:Rd} (he:(f s).2.e=0):s.e=0:=by
 by_cases q:s.e=0
 ·exact q
 ·rw[h.err s q] at he;exact he
def X3z {α:Type} (ok:α->Prop) (w:α->List UInt8) (f:Rd->α×Rd):Prop:=
 ∀(s:Rd) (q:Nat) (x:α) (t:List UInt8),ok x->s.e=0->s.a=q->At s.c q (w x++t)->f s=(x,⟨s.k,s.c,((q+(w x).length:Nat):Int),0⟩)
theorem Xan {α:Type} (z:α) (f:List UInt8->Int->α×Int×Int):PartR (X1J z f):=by
 refine⟨fun s h=>by rw[XsP h],fun s=> ?_⟩;unfold X1J;split<;>exact⟨rfl,rfl⟩
theorem Xg9 {α:Type}{z:α}{f:List UInt8->Int->α×Int×Int}{ok:α->Prop}{w:α->List UInt8}
  (h:∀(c:List UInt8) (q:Nat) (x:α) (t:List UInt8),ok x->At c q (w x++t)->f c q=(x,((q+(w x).length:Nat):Int),0)):X3z ok w (X1J z f):=by
 intro s q x t hx he ha aY;unfold X1J;rw[NI (by simp[he]),ha,h s.c q x t hx aY];rfl
theorem XlY {α:Type}{f:Rd->α×Rd} (hf:PartR f):∀n,PartR (VY f n)
 |0=>⟨fun s _=>rfl,fun s=>⟨rfl,rfl⟩⟩
 |n+1=>by
  refine⟨fun s h=>by rw[XdU h],fun s=> ?_⟩;rw[VY];split
  ·exact⟨rfl,rfl⟩
  ·have h1:=hf.keep s;have h2:=(XlY hf n).keep (f s).2;exact⟨h2.1.trans h1.1,h2.2.trans h1.2⟩
theorem XhN {α:Type}{f:Rd->α×Rd}{ok:α->Prop}{w:α->List UInt8} (hf:X3z ok w f):∀(l:List α) (s:Rd) (q:Nat) (t:List UInt8),(∀x∈l,ok x)->s.e=0->s.a=q->
  At s.c q ((l.map w).flatten++t)->VY f l.length s=(l,⟨s.k,s.c,((q+(l.map w).flatten.length:Nat):Int),0⟩)
 |[],s,q,t,_,he,ha,aY=>by
  obtain⟨k,c,a,e⟩:=s;simp only at he ha;subst he ha;rfl
 |x::r,s,q,t,hx,he,ha,aY=>by
  have nS:At s.c q (w x++((r.map w).flatten++t)):=by simpa using aY
  have h1:=hf s q x _ (hx x (by simp)) he ha nS;have h2:=XhN hf r ⟨s.k,s.c,((q+(w x).length:Nat):Int),0⟩ (q+(w x).length) t (fun y hy=>hx y (by simp[hy])) rfl rfl nS.step;rw[LC,VY,NI (by simp[he]),h1];simp only;rw[h2];simp only[map_cons,flatten_cons,LA,Nat.add_assoc]
def X3F {α β:Type} (f:Rd->α×Rd) (g:α->Rd->β×Rd) (s:Rd):(α×β)×Rd:=(((f s).1,(g (f s).1 (f s).2).1),(g (f s).1 (f s).2).2)
theorem XtL {α β:Type}{f:Rd->α×Rd}{g:α->Rd->β×Rd} (hf:PartR f) (hg:∀x,PartR (g x)):PartR (X3F f g):=by
 refine⟨fun s h=> ?_,fun s=> ?_⟩
 ·unfold X3F;have:=hf.err s h;simp only;rw[(hg _).err _ (by rw[this];exact h),this]
 ·unfold X3F;have h1:=hf.keep s;have h2:=(hg (f s).1).keep (f s).2;exact⟨h2.1.trans h1.1,h2.2.trans h1.2⟩
theorem X7L {α β:Type}{f:Rd->α×Rd}{g:α->Rd->β×Rd}{ok:α->Prop}{ok':α->β->Prop}{w:α->List UInt8}{w':β->List UInt8} (hf:X3z ok w f) (hg:∀x,X3z (ok' x) w' (g x)):
  X3z (fun p:α×β=>ok p.1/\ok' p.1 p.2) (fun p=>w p.1++w' p.2) (X3F f g):=by
 rintro s q ⟨x,y⟩ t ⟨hx,hy⟩ he ha aY;rw[AS] at aY;have h1:=hf s q x _ hx he ha aY;unfold X3F;rw[h1];simp only;rw[hg x ⟨s.k,s.c,((q+(w x).length:Nat):Int),0⟩ (q+(w x).length) y t hy rfl rfl aY.step];simp only[LA,Nat.add_assoc]
theorem X4L:PartR YF:=Xan 0 XB
theorem XfE:PartR X1X:=Xan zR X1W
def okN (n:Int):Prop:=0<=n/\n<=9223372036854775807
theorem X6H:X3z okN Xl YF:=Xg9 fun c q x t hx h=>by have:=X7n h hx;rwa [X8j] at this
theorem XxG:X3z (fun r=>Uk r=0) VS X1X:=Xg9 fun c q x t hx h=>by
 have hp:VS x=VE x:=PI hx;rw[hp] at h |-;have h1:=(XmV hx h).1;have hq:=h.le;unfold X1W;rw[NI (by omega)];simp only[h1,hx,if_true,ne_eq,not_true_eq_false,if_false]
theorem Xhk {α:Type}{f:Rd->α×Rd} (hf:PartR f):PartR (X16 f):=by
 have h:=XtL X4L (fun n:Int=>XlY hf n.toNat);exact⟨fun s hs=>h.err s hs,fun s=>h.keep s⟩
theorem XiA {α:Type}{f:Rd->α×Rd}{ok:α->Prop}{w:α->List UInt8} (hf:X3z ok w f):X3z (fun l=>(∀x∈l,ok x)/\l.length<=9223372036854775807) (X5n w) (X16 f):=by
 rintro s q l t ⟨hx,hl⟩ he ha aY;unfold X5n at aY |-;rw[AS] at aY;have h1:=X6H s q (l.length:Nat) _ ⟨by omega,by omega⟩ he ha aY;unfold X16;rw[h1];simp only[Int.toNat_natCast];rw[XhN hf l ⟨s.k,s.c,((q+(Xl l.length).length:Nat):Int),0⟩ (q+(Xl l.length).length) t hx rfl rfl aY.step];simp only[LA,Nat.add_assoc]
theorem Xjs {α:Type}{w:α->List UInt8}{k:Nat}:∀{l:List α},(∀x∈l,(w x).length<=k)->(l.map w).flatten.length<=k*l.length
 |[],_=>by simp
 |x::r,h=>by
  have h1:=h x (by simp);have h2:=Xjs (l:=r) fun y hy=>h y (by simp[hy]);simp only[map_cons,flatten_cons,LA,LC,Nat.mul_add,Nat.mul_one];omega
theorem Xfq (h:Y8 s=true):s.length<=20:=by
 unfold Y8 at h;simp only[Bool.and_eq_true,decide_eq_true_eq] at h;exact h.1.1.2
theorem XeH (h:Ui v=true):Xk 8 v=true/\(v.kind=1\/v.kind=2\/v.kind=4):=by
 unfold Ui X8c at h;simp only[Bool.and_eq_true,decide_eq_true_eq] at h;exact⟨h.2,h.1⟩
end Go.Fw

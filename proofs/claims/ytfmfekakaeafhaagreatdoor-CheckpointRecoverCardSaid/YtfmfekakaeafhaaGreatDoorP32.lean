/- The reference's number. -/
import Derived.Test.YtfmfekakaeafhaaGreatDoorP14
import Derived.Test.YtfmfekakaeafhaaGreatDoorP19
import Derived.Test.YtfmfekakaeafhaaGreatDoorP25
set_option linter.all false
set_option maxHeartbeats 16000000
namespace Go.Fw
open Go Go.Proofs Tryz List
open List renaming length->J
set_option maxRecDepth 100000
variable{b:List UInt8}{a k:Int}{gl gp:Nat->Int->Val×Int×Int}
def XcX {k i:Nat}{c:UInt8} (h:(b.drop k)[i]? =some c):b[k+i]? =some c:=by rwa [getElem?_drop] at h
def Xk1:∀{l:List UInt8}{q:Nat}{x:UInt8},l[q]? =some x->Yv (l.drop q)=x.toNat%128+128*Yv (l.drop (q+1)):=by
 intro l q x h;rw[drop_eq_getElem_cons (GS.1 h).1,(GS.1 h).2];rfl
def Xeo:∀(l:List UInt8) (q:Nat),Yv (l.drop q)<=Yv l
 |[],q=>Oc
 |y::l,0=>Nat.le_refl _
 |y::l,q+1=>by
  have:=Xeo l q;simp only[drop_succ_cons,Yv];omega
def XnT (b:List UInt8) (a:Int) (hb:J b<=281474976710656):Con prog 140 [] [.d (Xc b),ai a] [] (X7E (X52 (YM b a).1) (YM b a).2.1 (YM b a).2.2):=by
 refine ZCt func140 ntmps140 fun E=> ?_;by_cases h1:a<0
 ·rw[show YM b a=(0,0,1) by unfold YM;rw[PI (.inl h1)]];exact QN
 by_cases h2:(J b:Int)<a
 ·rw[show YM b a=(0,0,1) by unfold YM;rw[PI (.inr h2)]];exact QN
 obtain⟨k,rfl⟩:∃k:Nat,a=k:=⟨a.toNat,Oa⟩
 have dD:YM b k=(let l:=b.drop k;let n:=UG l;if n=10 then (0,0,4) else if J l<=n then (0,0,3) else if n=9/\1<((l[n]?).getD 0).toNat then (0,0,4) else (Yv (l.take (n+1)),(k:Int)+n+1,0)):=by
  unfold YM;rw[NI Oa,Int.toNat_natCast]
 have bz:J (b.drop k)=J b-k:=LD;refine XM ?_
 refine Xl (fun i:Nat=>big (b.drop k) i/\i<=10/\i<=J (b.drop k)) (fun i=>⟨79,[(0,.d (Xc b)),(1,ai k),(7,ai i)],[]⟩) (fun i=>10-i) 0 ⟨fun j hj=>Oa,Oa,Oa⟩
  (X9 rfl ⟨JL,JL,JL,TV⟩ trivial) ?_
 rintro i ⟨cR,hi10,hil⟩;generalize hl:b.drop k=l at*;by_cases jC:i=10
 ·subst jC;have hm:UG l=10:=XcQ cR Oa;rw[show YM b k=(0,0,4) by rw[dD];simp only[hm,if_true]];refine X1B ?_;exact QM
 by_cases el:i=J l
 ·have hm:UG l=i:=XcQ cR Oa;rw[show YM b k=(0,0,3) by rw[dD];simp only[hm];rw[NI jC,PI Oa]];refine W8_ ?_;refine ZBA k i ?_;refine YG ?_;refine ZBA k i ?_;refine XB ?_;exact QM
 obtain⟨c,hc⟩:=Xn (l:=l) (k:=i) Oa;have hbc:b[k+i]? =some c:=XcX (by rw[hl];exact hc);have tw:=c.toNat_lt;by_cases hge:128<=c.toNat
 ·refine W8_ ?_;refine ZBA k i ?_;refine W8_ ?_;refine ZBA k i ?_;refine XK ?_;exact⟨i+1,⟨Xhe cR hc hge,Oa,Oa⟩,Oa,X9 rfl ⟨JL,JL,JL,TV⟩ TV⟩
 have hm:UG l=i:=Xbv cR hc Oa Oa;by_cases h9:i=9/\1<c.toNat
 ·rw[show YM b k=(0,0,4) by rw[dD];simp only[hm,hc,Option.getD_some];rw[NI jC,NI Oa,PI h9]];obtain⟨rfl,vE⟩:=h9;refine W8_ ?_;refine ZBA k 9 ?_;refine W8_ ?_;refine ZBA k 9 ?_;refine YV ?_;refine ZBA k 9 ?_;refine Ya ?_;refine ZBA k 9 ?_;refine XG ?_;exact QM
 rw[show YM b k=(Yv (l.take (i+1)),(k:Int)+i+1,0) by rw[dD];simp only[hm,hc,Option.getD_some];rw[NI jC,NI Oa,NI h9]];have hu:Yv (l.take (i+1))<18446744073709551616:=by
  have h1:=X9s l i;rw[X74 l i c hc];by_cases nF:i=9
  ·subst nF;have e9:(2:Nat)^(7*9)=9223372036854775808:=rfl;rw[e9] at h1 |-;omega
  ·have h2:(2:Nat)^(7*i)<=2^56:=Nat.pow_le_pow_right Oa Oa;have pI:(2:Nat)^56=72057594037927936:=rfl;rw[pI] at h2;have h4:2^(7*i)*(c.toNat%128)<=72057594037927936*127:=Nat.mul_le_mul h2 Oa;omega
 by_cases tU:i=9
 ·have aO:¬(1<c.toNat):=fun h=>h9 ⟨tU,h⟩;refine W8_ ?_;refine ZBA k i ?_;refine W8_ ?_;refine ZBA k i ?_;refine YV ?_;refine ZBA k i ?_;refine Ya ?_;refine ZBA k i ?_;refine Yh ?_
  refine Xl (fun j:Int=> -1<=j/\j<=i) (fun j=>⟨79,[(0,.d (Xc b)),(1,ai k),(7,ai i),(8,X52 (Yv ((l.take (i+1)).drop (j+1).toNat))),(9,ai j)],[]⟩) (fun j=>(j+1).toNat) i ⟨Oa,Oa⟩
   (X9 rfl ⟨JL,JL,JL,O3,JL,TV⟩ trivial) ?_
  exact Yt2
 ·refine W8_ ?_;refine ZBA k i ?_;refine W8_ ?_;refine ZBA k i ?_;refine YV ?_;refine ZBA k i ?_;refine VM ?_
  refine Xl (fun j:Int=> -1<=j/\j<=i) (fun j=>⟨79,[(0,.d (Xc b)),(1,ai k),(7,ai i),(8,X52 (Yv ((l.take (i+1)).drop (j+1).toNat))),(9,ai j)],[]⟩) (fun j=>(j+1).toNat) i ⟨Oa,Oa⟩
   (X9 rfl ⟨JL,JL,JL,O3,JL,TV⟩ trivial) ?_
  exact Yt2
def Xj2 (b:List UInt8) (a:Int) (h:(YM b a).2.2=0) (hb:J b<=281474976710656):Con prog 141 [] [.d (Xc b),ai a,ai (YM b a).2.1] [] (ab (!X0B b a)):=by
 refine ZC1 func141 ntmps141 fun E=> ?_;obtain⟨k,rfl,hk,h1,h2,he⟩:=Xg0 h;have bz:J (b.drop k)=J b-k:=LD;obtain⟨c,hc⟩:=Xn (l:=b.drop k) h1;have hbc:b[k+UG (b.drop k)]? =some c:=XcX hc;have hp:X0B b (k:Int)=(decide (0<UG (b.drop k))&&decide (c=0)):=by
  show(decide (0<UG (b.drop ((k:Int)).toNat))&&decide (((b.drop ((k:Int)).toNat)[UG (b.drop ((k:Int)).toNat)]?).getD 0=0))=_;rw[Int.toNat_natCast,hc];rfl
 rw[he,hp];generalize UG (b.drop k)=m at*;have ee:Value.int .i64 (((k+m+1:Nat):Int)-1)=ni (k+m):=by show Value.int .i64 _=Value.int .i64 _;congr 1;omega
 by_cases h0:m=0
 ·subst h0;exact QD
 ·have bY:¬(((k+m+1:Nat):Int)=k+1):=by omega
  have hm:0<m:=Oa
  by_cases hz:c=0
  ·have aW:c.toNat=0:=by rw[hz];rfl
   rw[show (!(decide (0<m)&&decide (c=0)))=false by simp[hm,hz]];refine XK ?_;(refine Z3 (op:= .sub) (r':=ni (k+m)) (u:= .int .i64 ((k+m+1:Nat):Int)) (v:= .int .i64 1) ?_ (hr':=by exact ee) (hr:=OO));refine W6_ ?_;exact X3 ⟨_,Xe 6 (y:=ab false) (ZzQ Ic),⟨rfl,TV⟩,X5 _⟩
  ·have aW:¬(c.toNat=0):=fun h=>hz (UInt8.toNat_inj.1 h);rw[show (!(decide (0<m)&&decide (c=0)))=true by simp[hm,hz]];refine XK ?_;(refine Z3 (op:= .sub) (r':=ni (k+m)) (u:= .int .i64 ((k+m+1:Nat):Int)) (v:= .int .i64 1) ?_ (hr':=by exact ee) (hr:=OO));refine W6_ ?_;exact X3 ⟨_,Xe 6 (y:=ab true) (ZzQ Ic),⟨rfl,TV⟩,X5 _⟩
theorem XpG:Xd b a=if (YM b a).2.2≠0 then (0,0,(YM b a).2.2) else if 9223372036854775807<(YM b a).1 then (0,0,4) else if X0B b a=true then (0,0,2) else (((YM b a).1:Int),(YM b a).2.1,0):=rfl
theorem Xpr:Y9 b a=if (YM b a).2.2≠0 then (0,0,(YM b a).2.2) else if X0B b a=true then (0,0,2) else (zag (YM b a).1,(YM b a).2.1,0):=rfl
def X3e (b:List UInt8) (a:Int) (hb:J b<=281474976710656):Con prog 82 [] [.d (Xc b),ai a] [] (aN3 (Xd b a)):=by
 refine ZCt func82 ntmps82 fun E=> ?_;have hr:=XnT b a hb;have hlt:=XfK (b:=b) (a:=a);have hmin:=Xj2 b a (hb:=hb);rw[XpG];generalize X0B b a=p at*;generalize YM b a=r at*;obtain⟨u,e,err⟩:=r;simp only at hlt hmin |-;by_cases h2:err=0
 ·have hm:=hmin h2;rw[NI OK];by_cases h1:9223372036854775807<u
  ·rw[PI h1];refine X4 ?_;exact QM
  rw[NI h1];cases p with
  |true=>
   rw[PI rfl];refine Qxa ?_;exact QM
  |false=>
   rw[NI Oc];refine QHa ?_;(refine Z1 (u:=n64 u) (r:=ni u) ?_ (hr:=Ok));exact QV
 ·rw[PI h2];exact QX
def X6P (b:List UInt8) (a:Int) (hb:J b<=281474976710656):Con prog 263 [] [.d (Xc b),ai a] [] (aN3 (Y9 b a)):=by
 refine ZCt func263 ntmps263 fun E=> ?_;have hr:=XnT b a hb;have hlt:=XfK (b:=b) (a:=a);have hmin:=Xj2 b a (hb:=hb);rw[Xpr];generalize X0B b a=p at*;generalize YM b a=r at*;obtain⟨u,e,err⟩:=r;simp only at hlt hmin |-;by_cases h2:err=0
 ·have hm:=hmin h2;rw[NI OK];cases p with
  |true=>
   rw[PI rfl];refine Qua ?_;exact QM
  |false=>
   rw[NI Oc];have hx:∀w,(Op.unary .neg (ni (u/2))).run prog w= .ok (.int .i64 (-((u/2:Nat):Int))) w:=fun w=>Xeh (P:=prog) Oa w;by_cases eK:u%2=1
   ·rw[show zag u= -((u/2:Nat):Int)-1 by unfold zag;rw[PI eK]];refine QW ?_;refine Z4 (op:= .rem) (r':=n64 (u%2)) (u:=n64 u) (v:=n64 2) ?_ (hr:=OE);refine W6_ ?_
    (refine Z4 (op:= .quo) (r':=n64 (u/2)) (u:=n64 u) (v:=n64 2) ?_ (hr:=Iv))
    (refine Z1 (u:=n64 (u/2)) (r:=ni (u/2)) ?_ (hr:=Ok));refine Z6 (u:=ni (u/2)) (r:= .int .i64 (-((u/2:Nat):Int))) ?_ (hr:=by exact hx);refine W6_ ?_;exact QM
   ·rw[show zag u=((u/2:Nat):Int) by unfold zag;rw[NI eK]];refine QW ?_;refine Z4 (op:= .rem) (r':=n64 (u%2)) (u:=n64 u) (v:=n64 2) ?_ (hr:=OE);refine W7_ ?_
    (refine Z4 (op:= .quo) (r':=n64 (u/2)) (u:=n64 u) (v:=n64 2) ?_ (hr:=Iv))
    (refine Z1 (u:=n64 (u/2)) (r:=ni (u/2)) ?_ (hr:=Ok));exact QV
 ·rw[PI h2];exact QX
def Xoq (b:List UInt8) (a most:Int) (hb:J b<=281474976710656):Con prog 307 [] [.d (Xc b),ai a,ai most] [] (X7E (Xa (VZ b a most).1) (VZ b a most).2.1 (VZ b a most).2.2):=by
 refine ZCt func307 ntmps307 fun E=> ?_;have hr:=X3e b a hb;have hf:=XbE (b:=b) (a:=a);rw[XlZ];generalize Xd b a=r at*;obtain⟨n,f,err⟩:=r;simp only at hf |-;by_cases h2:err=0
 ·obtain⟨n,f,rfl,rfl,pM,pN⟩:=hf h2;rw[NI OK];by_cases h3:most<(n:Int)
  ·rw[PI h3];exact QR
  exact Yt27
 ·rw[PI h2];exact QX
def XkC (b:List UInt8) (a:Int) (hb:J b<=140737488355328):Con prog 81 [] [.d (Xc b),ai a] [] (X7E (.d (Xc (Y8 b a).1)) (Y8 b a).2.1 (Y8 b a).2.2):=by
 refine ZCt func81 ntmps81 fun E=> ?_;have hr:=X3e b a Oa;have hf:=XbE (b:=b) (a:=a);rw[XlB];generalize Xd b a=r at*;obtain⟨n,f,err⟩:=r;simp only at hf |-;by_cases h2:err=0
 ·obtain⟨n,f,rfl,rfl,pM,pN⟩:=hf h2;rw[NI OK];by_cases h3:(J b:Int)-f<4
  ·rw[PI (.inl h3)];exact Qca
  by_cases h4:(J b:Int)-f-4<n
  ·rw[PI (.inr h4)];exact Qca
  rw[NI Oa];have aL:((b.map X6).take (f+n)).drop f=((b.drop f).take n).map X6:=Iw
  have bx:J ((b.drop f).take n)=n:=Ou
  refine Qaa ?_;refine W7_ ?_;refine ZBA f n ?_;refine W3_ ?_;refine X8 (XI 100 rfl) ?_;refine X8 (XX 10 100 rfl rfl Oc) ?_;have et:((f:Int)+(n:Int)).toNat=f+n:=Oa
  rw[et,Int.toNat_natCast,Int.toNat_natCast];obtain⟨y0,g0⟩:=Xn (l:=b) (k:=f+n) Oa;obtain⟨y1,g1⟩:=Xn (l:=b) (k:=f+n+1) Oa;obtain⟨y2,g2⟩:=Xn (l:=b) (k:=f+n+2) Oa;obtain⟨y3,g3⟩:=Xn (l:=b) (k:=f+n+3) Oa;have z0:=y0.toNat_lt;have z1:=y1.toNat_lt;have z2:=y2.toNat_lt;have z3:=y3.toNat_lt;have ha:X3n b (f+n)=y0.toNat+256*y1.toNat+65536*y2.toNat+16777216*y3.toNat:=by unfold X3n;rw[g0,g1,g2,g3];rfl
  rw[ha];generalize (b.drop f).take n=body at*;by_cases hs:y0.toNat+256*y1.toNat+65536*y2.toNat+16777216*y3.toNat=XP body
  ·rw[NI IC];refine W8_ ?_;refine ZBA (f+n) 1 ?_;refine W3_ ?_;refine ZBM 256 (y1.toNat) ?_;refine ZBA (y0.toNat) (256*y1.toNat) ?_;refine W2_ ?_;refine ZBA (f+n) 2 ?_;refine W3_ ?_;refine ZBM 65536 (y2.toNat) ?_;refine ZBA (y0.toNat+256*y1.toNat) (65536*y2.toNat) ?_;refine W2_ ?_;refine ZBA (f+n) 3 ?_;refine W3_ ?_;refine ZBM 16777216 (y3.toNat) ?_;refine ZBA (y0.toNat+256*y1.toNat+65536*y2.toNat) (16777216*y3.toNat) ?_;refine W7_ ?_;refine Z5 (ag:=Xd5 body) ?_;refine XK ?_;exact X3 ⟨_,St.le_trans (Xe 4 (y:= .d (Xc body)) (ZzV)) (Xe 5 (y:=ai ((f:Int)+n+4)) (ZzQ (by refine Eq.trans (b:=ai _) rfl ?_;simp))),⟨rfl,rfl,rfl,TV⟩,X5 _⟩
  ·rw[PI hs];refine W8_ ?_;refine ZBA (f+n) 1 ?_;refine W3_ ?_;refine ZBM 256 (y1.toNat) ?_;refine ZBA (y0.toNat) (256*y1.toNat) ?_;refine W2_ ?_;refine ZBA (f+n) 2 ?_;refine W3_ ?_;refine ZBM 65536 (y2.toNat) ?_;refine ZBA (y0.toNat+256*y1.toNat) (65536*y2.toNat) ?_;refine W2_ ?_;refine ZBA (f+n) 3 ?_;refine W3_ ?_;refine ZBM 16777216 (y3.toNat) ?_;refine ZBA (y0.toNat+256*y1.toNat+65536*y2.toNat) (16777216*y3.toNat) ?_;refine W7_ ?_;refine Z5 (ag:=Xd5 body) ?_;refine W9_ ?_;exact Qba
 ·rw[PI h2];refine UA ?_;exact Qba
open Go
open List renaming length->J
def Xlz {g:Nat->Int->Val×Int×Int} (hg:∀i q,(g i q).2.2=0->Xj 8 (g i q).1=true):∀k,(Yn g a k).2.2=0->∀x∈(Yn g a k).1,Xj 8 x=true
 |0,_,x,hx=>by simp[Yn] at hx
 |k+1,h,x,hx=>by
  by_cases e:(Yn g a k).2.2=0
  ·rw[X4p e] at h hx;rcases mem_append.1 hx with hx|hx
   ·exact Xlz hg k e x hx
   ·obtain rfl:=mem_singleton.1 hx;exact hg _ _ h
  ·rw[X5m e (k+1) Oa] at h;exact absurd h e
def Xup {n:Int} (h:X0P k n=false):n<=64:=by
 unfold X0P at h;split at h<;>simp at h<;>omega
def Xwi (eN:∀i q,(gl i q).2.2=0->Xj 8 (gl i q).1=true) (dN:∀i q,(gp i q).2.2=0->Xj 8 (gp i q).1=true)
  (h:(Ut gl gp b a k).2.2=0):U1 (Ut gl gp b a k).1:=by
 unfold Ut at h |-;split
 ·simp[U1,X1Z]
 rename_i h1;rw[NI h1] at h;split
 ·simp only;split<;>simp[U1,X1Z]
 rename_i h2;rw[NI h2] at h;split
 ·have:=Xov b a 100 Oa;simp only[U1,X1Z];exact⟨Oa,Oc,TV⟩
 rename_i h3;rw[NI h3] at h;split
 ·rename_i h4;rw[PI h4] at h;simp only at h |-;split
  ·simp[U1,X1Z]
  rename_i h5;rw[NI h5] at h;split
  ·simp[U1,X1Z]
  rename_i h6;rw[NI h6] at h;have h6:=Xup (by simpa using h6);have hall:∀g,(g=gl\/g=gp)->(Yn g (Xd b a).2.1 (Xd b a).1.toNat).2.2=0->U1 (.mk k 0 0 [] (Yn g (Xd b a).2.1 (Xd b a).1.toNat).1):=by
   intro g hg he;have hl:=Xky he;simp only[U1];refine⟨Oc,by rw[hl];omega,XcU fun x hx=>XcY x 8 (Xlz (fun i q hh=> ?_) _ he x hx)⟩;rcases hg with rfl|rfl
   ·exact eN i q hh
   ·exact dN i q hh
  simp only at h;split
  ·rename_i h7;rw[PI h7] at h;exact hall gl (.inl rfl) h
  ·rename_i h7;rw[NI h7] at h;exact hall gp (.inr rfl) h
 ·simp[U1,X1Z]
def X36 (r:Val×Int×Int):Val×Int×Int:=if r.2.2≠0 then (zV,0,r.2.2) else r
def X6w (g:Nat->Int->Val×Int×Int) (b:List UInt8) (a k:Int):Val×Int×Int:=
 let c:=Xd b a
 if c.2.2≠0 then (.mk k 0 0 [] [],0,c.2.2) else if X0P k c.1 then (.mk k 0 0 [] [],0,2) else
  let p:=Yn g c.2.1 c.1.toNat;if p.2.2≠0 then (.mk k 0 0 [] p.1.dropLast,0,p.2.2) else (.mk k 0 0 [] p.1,p.2.1,0)
def X06 (gl gp:Nat->Int->Val×Int×Int) (b:List UInt8) (a k:Int):Val×Int×Int:=
 if k=7\/k=8 then X6w (if k=8 then gl else gp) b a k else Ut gl gp b a k
def Xli (gl gp:Nat->Int->Val×Int×Int) (b:List UInt8) (a k:Int):
  (X06 gl gp b a k).2.2=(Ut gl gp b a k).2.2/\((Ut gl gp b a k).2.2=0->X06 gl gp b a k=Ut gl gp b a k):=by
 unfold X06;by_cases h:k=7\/k=8
 ·rw[PI h];have h1:¬(k=1\/k=2\/k=5\/k=6):=by omega
  have h3:¬k=3:=Oa
  have h4:¬k=4:=Oa
  unfold X6w Ut;rw[NI h1,NI h3,NI h4,PI h];simp only;by_cases e1:(Xd b a).2.2=0
  ·have pY:¬(Xd b a).2.2≠0:=fun h=>h e1;simp only[NI pY];by_cases e2:X0P k (Xd b a).1=true
   ·simp only[PI e2];exact⟨TV,fun h=>absurd h Oi⟩
   ·simp only[NI e2];generalize Yn (if k=8 then gl else gp) (Xd b a).2.1 (Xd b a).1.toNat=p;by_cases e3:p.2.2=0
    ·have jK:¬p.2.2≠0:=fun h=>h e3;simp only[NI jK];exact⟨e3.symm,fun _=>by rw[<-e3]⟩
    ·have jK:p.2.2≠0:=e3;simp only[PI jK];exact⟨TV,fun h=>absurd h e3⟩
  ·have pY:(Xd b a).2.2≠0:=e1;simp only[PI pY];exact⟨TV,fun h=>absurd h e1⟩
 ·rw[NI h];exact⟨rfl,fun _=>rfl⟩
theorem XpU (gl gp:Nat->Int->Val×Int×Int) (m:Nat) (b:List UInt8) (a want:Int):X36 (X0K gl gp m b a want)=
  if a=J b then (zV,0,3) else
  if 8<((((b[a.toNat]?).getD 0).toNat:Nat):Int)\/(((((b[a.toNat]?).getD 0).toNat:Nat):Int)=8/\m=0)\/(want≠0/\((((b[a.toNat]?).getD 0).toNat:Nat):Int)≠want) then (zV,0,2) else
   if (X06 gl gp b (a+1) (((b[a.toNat]?).getD 0).toNat:Nat)).2.2≠0 then (zV,0,(X06 gl gp b (a+1) (((b[a.toNat]?).getD 0).toNat:Nat)).2.2) else
   if Xj 8 (X06 gl gp b (a+1) (((b[a.toNat]?).getD 0).toNat:Nat)).1=false then (zV,0,2) else X06 gl gp b (a+1) (((b[a.toNat]?).getD 0).toNat:Nat):=by
 unfold X0K;by_cases h1:a=J b
 ·rw[PI h1,PI h1];rfl
 rw[NI h1,NI h1];simp only;generalize ((((b[a.toNat]?).getD 0).toNat:Nat):Int)=k;by_cases h2:8<k\/(k=8/\m=0)\/(want≠0/\k≠want)
 ·rw[PI h2,PI h2];rfl
 rw[NI h2,NI h2];obtain⟨e1,e2⟩:=Xli gl gp b (a+1) k;generalize Ut gl gp b (a+1) k=c at*;by_cases e3:c.2.2=0
 ·have jK:¬c.2.2≠0:=fun h=>h e3;rw[e2 e3,NI jK];by_cases e4:Xj 8 c.1=false
  ·rw[PI ⟨e3,e4⟩,PI e4];rfl
  ·rw[NI (fun h=>e4 h.2),NI e4];unfold X36;rw[NI jK]
 ·rw[NI (fun h=>e3 h.1),e1,PI e3];unfold X36;rw[PI e3]
theorem XtI (b:List UInt8) (a:Int):X03 b a=if a<0\/(J b:Int)<a then (zV,0,1) else X36 (X25 b 8 a):=rfl
def Xy6 (h:(Y9 b a).2.2≠0):(Y9 b a).2.1=0:=by
 unfold Y9 at h |-;simp only at h |-;split
 ·rfl
 ·rename_i h1;rw[NI h1] at h;split
  ·rfl
  ·rename_i h2;rw[NI h2] at h;exact absurd rfl h
def X7e (b:List UInt8) (a:Nat) (lists path:Int) (r:Val×Int×Int):Prop:=
 Con prog 351 [] [.d (Xc b),ai a,ai lists,ai path] [] (.tup [Xt r.1,ai r.2.1,ai r.2.2])
def X8T (b:List UInt8) (a:Int) (k lists:Int) (r:Val×Int×Int):Prop:=
 Con prog 378 [] [.d (Xc b),ai a,ai k,ai lists] [] (.tup [Xt r.1,ai r.2.1,ai r.2.2])
def Xso (b:List UInt8) (m:Nat) (a:Int) (gl:Nat->Int->Val×Int×Int) (R:Val×Int×Int) (hm:m<=8) (hb:J b<=281474976710656)
  (hge:∀i q:Nat,q<=J b->X18 b (gl i q).2) (hg:∀i q:Nat,q<=J b->X7e b q (8-m+1) (-1) (X36 (gl i q))) (hG:R=X6w gl b a 8):X8T b a 8 (8-m) R:=by
 refine ZCt func378 ntmps378 fun E=> ?_;have hc:=X3e b a hb;have fO:=X4Y b a;unfold X6w at hG;simp only at hG;obtain⟨N,hN⟩:=X91 b a;generalize Xd b a=u at*;obtain⟨n,a2,e2⟩:=u;simp only at hN;subst hN;simp only[Int.toNat_natCast] at hc hG fO;by_cases dH:e2=0
 case neg=>
  rw[PI dH] at hG;subst hG;refine QO ?_;exact Qod
 subst dH;rw[NI Oc] at hG;have gx:=fO rfl;simp only at gx;clear fO;by_cases hN:64<N
 ·rw[PI Iy] at hG;subst hG;have mu:(N:Int)>64:=by omega
  refine Qla ?_;refine Qu ?_;refine QF ?_;refine XB ?_;exact Qod
 rw[NI Iy] at hG;have mu:¬(N:Int)>64:=Oa
 refine Qbb ?_;refine QF ?_;refine XG ?_;refine X8 (X1Y 101 4 121 5 (cs:=[ai 8,ai 0,ai 0,.d (.v (.string (X7 []))),aq]) rfl rfl rfl rfl rfl) ?_
 refine Xl (fun i:Nat=>i<=N/\(Yn gl a2 i).2.2=0/\J (Yn gl a2 i).1=i) (fun i=>⟨87,[(0,.d (Xc b)),(2,ai 8),(3,ai (8-m)),(8,.ptr 100 0),(11,.ptr 101 0),(12,ai N),(13,ai (Yn gl a2 i).2.1),(15,ai i)],[(100,.box [ai 0,ai 0,ai 0,.d (.v (.string (X7 []))),aq]),(101,.box [ai 8,ai 0,ai 0,.d (.v (.string (X7 []))),.own 121 (J (Yn gl a2 i).1)]),(121,.row 5 (XR (Yn gl a2 i).1))]⟩) (fun i=>N-i) 0 ⟨Oa,rfl,rfl⟩
  (X9 rfl ⟨JL,JL,JL,JL,JL,JL,JL,JL,TV⟩ ⟨rfl,rfl,rfl,TV⟩) ?_
 intro i hi;obtain⟨hi,aR,hil⟩:=hi;have hlen:=X1M (Yn gl a2 i).1;by_cases jH:i<N
 case neg=>
  obtain rfl:i=N:=Oa
  rw[NI (by simpa using aR)] at hG;generalize Yn gl a2 i=p at*;obtain⟨l,pa,pe⟩:=p;simp only at aR hil hG hlen;subst aR hG;refine QJb ?_;refine Yb ?_;exact Qbc
 obtain⟨q,aN,bJ⟩:=X71 hge gx i aR;have aA:=hg i q bJ;unfold X7e at aA;have aF:=X4p aR;have aL:=Xbz aR;rw[aN] at aF;generalize gl i q=r at aA aF;by_cases bR:r.2.2=0
 case neg=>
  have hst:=X5m (g:=gl) (a:=a2) (k:=i+1) IS N Oa;rw[hst,PI IS,aF] at hG;unfold X36 at aA;rw[PI bR] at aA;generalize Yn gl a2 i=p at*;obtain⟨l,pa,pe⟩:=p;obtain⟨x,xa,xe⟩:=r;simp only[dropLast_concat] at aN aR hil hG hlen aA bR;clear aF hst aL;subst hG aN aR;simp only[Xt,XR] at aA;refine QJb ?_;refine UR ?_;refine Z5 (ag:=aA) ?_;refine YA ?_;exact Qbc
 have mw:(Yn gl a2 (i+1)).2.2=0:=IS
 unfold X36 at aA;rw[NI (by simpa using bR)] at aA;generalize Yn gl a2 i=p at*;obtain⟨l,pa,pe⟩:=p;obtain⟨x,xa,xe⟩:=r;simp only at aN aR hil aF hlen aA bR;subst aN aR bR;obtain⟨xk,xn,xd,xs,xl⟩:=x;simp only[Xt] at aA
 skip
 refine UR ?_;refine Z5 (ag:=aA) ?_;refine X04 ?_;refine⟨i+1,⟨Oa,mw,aL⟩,Oa,?_⟩;dsimp only;rw[aF];refine X9 rfl ⟨JL,JL,JL,JL,JL,JL,JL,JL,TV⟩ ⟨rfl,?_,?_,TV⟩
 ·refine Eq.trans (b:=AObj.box ([ai 8,ai 0,ai 0,.d (.v (.string (X7 []))),.own 121 _])) rfl ?_;congr 6;simp[hlen]
 ·exact QMb
def Xmo (b:List UInt8) (m:Nat) (a:Int) (gp:Nat->Int->Val×Int×Int) (R:Val×Int×Int) (hm:m<=8) (hb:J b<=281474976710656)
  (hge:∀i q:Nat,q<=J b->X18 b (gp i q).2) (hg:∀i q:Nat,q<=J b->X7e b q (8-m) i (X36 (gp i q))) (hG:R=X6w gp b a 7):X8T b a 7 (8-m) R:=by
 refine ZCt func378 ntmps378 fun E=> ?_;have hc:=X3e b a hb;have fO:=X4Y b a;unfold X6w at hG;simp only at hG;obtain⟨N,hN⟩:=X91 b a;generalize Xd b a=u at*;obtain⟨n,a2,e2⟩:=u;simp only at hN;subst hN;simp only[Int.toNat_natCast] at hc hG fO;by_cases dH:e2=0
 case neg=>
  rw[PI dH] at hG;subst hG;refine QO ?_;exact Qpd
 subst dH;rw[NI Oc] at hG;have gx:=fO rfl;simp only at gx;clear fO;by_cases hN:25<N
 ·rw[PI Iy] at hG;subst hG;have mu:(N:Int)>25:=by omega
  refine Qna ?_;exact Qpd
 have mu:¬(N:Int)>25:=Oa
 by_cases iV:N%2=0
 ·rw[PI Iy] at hG;subst hG;have tV:((N%2:Nat):Int)=0:=by omega
  refine Qxa ?_;refine Qqd ?_;refine XK ?_;exact Qpd
 rw[NI Iy] at hG;have tV:¬((N%2:Nat):Int)=0:=Oa
 refine Qxa ?_;refine Qqd ?_;refine XK ?_;refine X8 (X1Y 101 4 121 5 (cs:=[ai 7,ai 0,ai 0,.d (.v (.string (X7 []))),aq]) rfl rfl rfl rfl rfl) ?_
 refine Xl (fun i:Nat=>i<=N/\(Yn gp a2 i).2.2=0/\J (Yn gp a2 i).1=i) (fun i=>⟨87,[(0,.d (Xc b)),(2,ai 7),(3,ai (8-m)),(8,.ptr 100 0),(11,.ptr 101 0),(12,ai N),(13,ai (Yn gp a2 i).2.1),(15,ai i)],[(100,.box [ai 0,ai 0,ai 0,.d (.v (.string (X7 []))),aq]),(101,.box [ai 7,ai 0,ai 0,.d (.v (.string (X7 []))),.own 121 (J (Yn gp a2 i).1)]),(121,.row 5 (XR (Yn gp a2 i).1))]⟩) (fun i=>N-i) 0 ⟨Oa,rfl,rfl⟩
  (X9 rfl ⟨JL,JL,JL,JL,JL,JL,JL,JL,TV⟩ ⟨rfl,rfl,rfl,TV⟩) ?_
 intro i hi;obtain⟨hi,aR,hil⟩:=hi;have hlen:=X1M (Yn gp a2 i).1;by_cases jH:i<N
 case neg=>
  obtain rfl:i=N:=Oa
  rw[NI (by simpa using aR)] at hG;generalize Yn gp a2 i=p at*;obtain⟨l,pa,pe⟩:=p;simp only at aR hil hG hlen;subst aR hG;refine QOb ?_;refine Yb ?_;exact Qbc
 obtain⟨q,aN,bJ⟩:=X71 hge gx i aR;have aA:=hg i q bJ;unfold X7e at aA;have aF:=X4p aR;have aL:=Xbz aR;rw[aN] at aF;generalize gp i q=r at aA aF;by_cases bR:r.2.2=0
 case neg=>
  have hst:=X5m (g:=gp) (a:=a2) (k:=i+1) IS N Oa;rw[hst,PI IS,aF] at hG;unfold X36 at aA;rw[PI bR] at aA;generalize Yn gp a2 i=p at*;obtain⟨l,pa,pe⟩:=p;obtain⟨x,xa,xe⟩:=r;simp only[dropLast_concat] at aN aR hil hG hlen aA bR;clear aF hst aL;subst hG aN aR;simp only[Xt,XR] at aA;refine QOb ?_;refine Qua ?_;refine Z5 (ag:=aA) ?_;refine YA ?_;exact Qbc
 have mw:(Yn gp a2 (i+1)).2.2=0:=IS
 unfold X36 at aA;rw[NI (by simpa using bR)] at aA;generalize Yn gp a2 i=p at*;obtain⟨l,pa,pe⟩:=p;obtain⟨x,xa,xe⟩:=r;simp only at aN aR hil aF hlen aA bR;subst aN aR bR;obtain⟨xk,xn,xd,xs,xl⟩:=x;simp only[Xt] at aA
 skip
 refine Qua ?_;refine Z5 (ag:=aA) ?_;refine X04 ?_;refine⟨i+1,⟨Oa,mw,aL⟩,Oa,?_⟩;dsimp only;rw[aF];refine X9 rfl ⟨JL,JL,JL,JL,JL,JL,JL,JL,TV⟩ ⟨rfl,?_,?_,TV⟩
 ·refine Eq.trans (b:=AObj.box ([ai 7,ai 0,ai 0,.d (.v (.string (X7 []))),.own 121 _])) rfl ?_;congr 6;simp[hlen]
 ·exact QMb
def Xg3 (b:List UInt8) (a:Int) (k lists:Int) (r:Val×Int×Int):Prop:=
 Con prog 368 [] [.d (Xc b),ai a,ai k,ai lists] [] (.tup [Xt r.1,ai r.2.1,ai r.2.2])
def XeO (b:List UInt8) (m k:Nat) (a:Int) (gl gp:Nat->Int->Val×Int×Int) (R:Val×Int×Int) (hm:m<=8) (hb:J b<=281474976710656) (hk:k<=8)
  (h8:k=8->∀R,R=X6w gl b a 8->X8T b a 8 (8-m) R) (h7:k=7->∀R,R=X6w gp b a 7->X8T b a 7 (8-m) R) (hG:R=X06 gl gp b a k):Xg3 b a k (8-m) R:=by
 refine ZCt func368 ntmps368 fun E=> ?_;by_cases gw:k=8
 ·subst gw;have aA:=h8 rfl R (by rw[hG];simp[X06]);unfold X8T at aA;obtain⟨⟨xk,xn,xd,xs,xl⟩,xa,xe⟩:=R;simp only[Xt] at aA;rw[show (((8:Nat):Int))=8 from rfl];refine X4 ?_;refine UI ?_;refine Z5 (ag:=aA) ?_;refine W7_ ?_;exact Qbc
 by_cases ja:k=7
 ·subst ja;have aA:=h7 rfl R (by rw[hG];simp[X06]);unfold X8T at aA;obtain⟨⟨xk,xn,xd,xs,xl⟩,xa,xe⟩:=R;simp only[Xt] at aA;rw[show (((7:Nat):Int))=7 from rfl];refine X4 ?_;refine UA ?_;refine Z5 (ag:=aA) ?_;refine W7_ ?_;exact Qbc
 by_cases bT:k=0
 ·subst bT;obtain rfl:R=(.mk 0 0 0 [] [],(a:Int),0):=by rw[hG];simp[X06,Ut]
  rw[show (((0:Nat):Int))=0 from rfl];refine X4 ?_;refine X04 ?_;exact QZb
 by_cases cq:k=1
 ·subst cq;have hn:=X6P b a hb;rw[show X06 gl gp b a ((1:Nat):Int)=(.mk 1 (Y9 b a).1 0 [] [],(Y9 b a).2.1,(Y9 b a).2.2) by simp[X06,Ut]] at hG;generalize Y9 b a=u at*;obtain⟨n,a2,e2⟩:=u;subst hG;rw[show (((1:Nat):Int))=1 from rfl]
  try simp only at hn
  refine Uf ?_;refine Qrd ?_;exact X3 ⟨_,Xg 100 (cs:=[ai 1,ai n,ai 0,.d (.v (.string (X7 []))),aq]) (cs':=[ai 1,ai n,ai 0,.d (.v (.string (X7 []))),.d (.sl 5 [])]) rfl ⟨ZzV,ZzV,ZzV,ZzV,AVal.le_nil 5,TV⟩ rfl,⟨⟨100,0,_,rfl,rfl,.inr ⟨5,_,rfl,rfl,rfl,rfl⟩⟩,rfl,rfl,TV⟩,X5 _⟩
 by_cases hk2:k=2
 ·subst hk2;have hn:=X6P b a hb;rw[show X06 gl gp b a ((2:Nat):Int)=(.mk 2 (Y9 b a).1 0 [] [],(Y9 b a).2.1,(Y9 b a).2.2) by simp[X06,Ut]] at hG;generalize Y9 b a=u at*;obtain⟨n,a2,e2⟩:=u;subst hG;rw[show (((2:Nat):Int))=2 from rfl]
  try simp only at hn
  refine X1B ?_;refine Qrd ?_;exact X3 ⟨_,Xg 100 (cs:=[ai 2,ai n,ai 0,.d (.v (.string (X7 []))),aq]) (cs':=[ai 2,ai n,ai 0,.d (.v (.string (X7 []))),.d (.sl 5 [])]) rfl ⟨ZzV,ZzV,ZzV,ZzV,AVal.le_nil 5,TV⟩ rfl,⟨⟨100,0,_,rfl,rfl,.inr ⟨5,_,rfl,rfl,rfl,rfl⟩⟩,rfl,rfl,TV⟩,X5 _⟩
 by_cases kz:k=5
 ·subst kz;have hn:=X6P b a hb;rw[show X06 gl gp b a ((5:Nat):Int)=(.mk 5 (Y9 b a).1 0 [] [],(Y9 b a).2.1,(Y9 b a).2.2) by simp[X06,Ut]] at hG;generalize Y9 b a=u at*;obtain⟨n,a2,e2⟩:=u;subst hG;rw[show (((5:Nat):Int))=5 from rfl]
  try simp only at hn
  refine Qka ?_;refine Qrd ?_;exact X3 ⟨_,Xg 100 (cs:=[ai 5,ai n,ai 0,.d (.v (.string (X7 []))),aq]) (cs':=[ai 5,ai n,ai 0,.d (.v (.string (X7 []))),.d (.sl 5 [])]) rfl ⟨ZzV,ZzV,ZzV,ZzV,AVal.le_nil 5,TV⟩ rfl,⟨⟨100,0,_,rfl,rfl,.inr ⟨5,_,rfl,rfl,rfl,rfl⟩⟩,rfl,rfl,TV⟩,X5 _⟩
 by_cases kC:k=6
 ·subst kC;have hn:=X6P b a hb;rw[show X06 gl gp b a ((6:Nat):Int)=(.mk 6 (Y9 b a).1 0 [] [],(Y9 b a).2.1,(Y9 b a).2.2) by simp[X06,Ut]] at hG;generalize Y9 b a=u at*;obtain⟨n,a2,e2⟩:=u;subst hG;rw[show (((6:Nat):Int))=6 from rfl]
  try simp only at hn
  refine Qla ?_;refine Qrd ?_;exact X3 ⟨_,Xg 100 (cs:=[ai 6,ai n,ai 0,.d (.v (.string (X7 []))),aq]) (cs':=[ai 6,ai n,ai 0,.d (.v (.string (X7 []))),.d (.sl 5 [])]) rfl ⟨ZzV,ZzV,ZzV,ZzV,AVal.le_nil 5,TV⟩ rfl,⟨⟨100,0,_,rfl,rfl,.inr ⟨5,_,rfl,rfl,rfl,rfl⟩⟩,rfl,rfl,TV⟩,X5 _⟩
 by_cases iH:k=4
 ·subst iH;have hn:=Xoq b a 100 hb;rw[show X06 gl gp b a ((4:Nat):Int)=(.mk 4 0 0 (VZ b a 100).1 [],(VZ b a 100).2.1,(VZ b a 100).2.2) by simp[X06,Ut]] at hG;generalize VZ b a 100=u at*;obtain⟨s,a2,e2⟩:=u;subst hG;rw[show (((4:Nat):Int))=4 from rfl]
  try simp only at hn
  refine Qma ?_;refine Qrd ?_;exact X3 ⟨_,Xg 100 (cs:=[ai 4,ai 0,ai 0,.d (.v (.string (X7 s))),aq]) (cs':=[ai 4,ai 0,ai 0,.d (.v (.string (X7 s))),.d (.sl 5 [])]) rfl ⟨ZzV,ZzV,ZzV,ZzV,AVal.le_nil 5,TV⟩ rfl,⟨⟨100,0,_,rfl,rfl,.inr ⟨5,_,rfl,rfl,rfl,rfl⟩⟩,rfl,rfl,TV⟩,X5 _⟩
 obtain rfl:k=3:=Oa
 have hn:=X6P b a hb;have hne:=XbF b a;rw[show X06 gl gp b a ((3:Nat):Int)=if (Y9 b a).2.2≠0 then (.mk 3 0 0 [] [],(Y9 b a).2.1,(Y9 b a).2.2) else (.mk 3 (Y9 b a).1 (Y9 b (Y9 b a).2.1).1 [] [],(Y9 b (Y9 b a).2.1).2.1,(Y9 b (Y9 b a).2.1).2.2) by simp[X06,Ut]] at hG;have hz:=Xy6 (b:=b) (a:=a);generalize Y9 b a=u at*;obtain⟨n,a2,e2⟩:=u;simp only at hn hG hne hz;rw[show (((3:Nat):Int))=3 from rfl];by_cases he:e2=0
 ·subst he;rw[NI Oc] at hG;obtain⟨q,aN,bJ⟩:=hne rfl;simp only at aN;subst aN;have hd:=X6P b q hb;generalize Y9 b q=u2 at*;obtain⟨d,a3,e3⟩:=u2;simp only at hd hG;subst hG;refine QY ?_;refine QQb ?_;refine YV ?_;refine Z5 (ag:=hd) ?_;refine YG ?_;exact X3 ⟨_,Xg 100 (cs:=[ai 3,ai n,ai d,.d (.v (.string (X7 []))),aq]) (cs':=[ai 3,ai n,ai d,.d (.v (.string (X7 []))),.d (.sl 5 [])]) rfl ⟨ZzV,ZzV,ZzV,ZzV,AVal.le_nil 5,TV⟩ rfl,⟨⟨100,0,_,rfl,rfl,.inr ⟨5,_,rfl,rfl,rfl,rfl⟩⟩,rfl,rfl,TV⟩,X5 _⟩
 ·rw[PI he] at hG;obtain rfl:=hz he;subst hG;refine QY ?_;refine Qrd ?_;exact X3 ⟨_,Xg 100 (cs:=[ai 3,ai 0,ai 0,.d (.v (.string (X7 []))),aq]) (cs':=[ai 3,ai 0,ai 0,.d (.v (.string (X7 []))),.d (.sl 5 [])]) rfl ⟨ZzV,ZzV,ZzV,ZzV,AVal.le_nil 5,TV⟩ rfl,⟨⟨100,0,_,rfl,rfl,.inr ⟨5,_,rfl,rfl,rfl,rfl⟩⟩,rfl,rfl,TV⟩,X5 _⟩
def XfF (b:List UInt8) (m a:Nat) (want path:Int) (gl gp:Nat->Int->Val×Int×Int) (R:Val×Int×Int) (hm:m<=8) (ha:a<=J b) (hb:J b<=281474976710656)
  (pZ:a<J b->∀k:Nat,k<=8->(k=8->m≠0)->(want≠0->(k:Int)=want)->Xg3 b ((a:Int)+1) k (8-m) (X06 gl gp b ((a:Int)+1) k))
  (hok:∀k:Int,(X06 gl gp b ((a:Int)+1) k).2.2=0->U1 (X06 gl gp b ((a:Int)+1) k).1)
  (hp:(path= -1/\want=0)\/∃i:Nat,path=i/\want=5+(i%2:Nat)) (hR:R=X36 (X0K gl gp m b a want)):X7e b a (8-m) path R:=by
 refine ZCt func351 ntmps351 fun E=> ?_;rw[XpU,Int.toNat_natCast] at hR;by_cases h1:a=J b
 ·rw[PI Oa] at hR;subst hR;have jG:(a:Int)=J b:=by omega
  refine X04 ?_;exact QZb
 rw[NI Oa] at hR;have jG:¬(a:Int)=J b:=Oa
 obtain⟨c,hc⟩:=Xn (l:=b) (k:=a) Oa;rw[hc,Option.getD_some] at hR;by_cases hg:((c.toNat:Nat):Int)<=8/\(c.toNat=8->m≠0)/\(want≠0->((c.toNat:Nat):Int)=want)
 case neg=>
  rw[PI Oa] at hR;subst hR;by_cases h8:8<((c.toNat:Nat):Int)
  ·refine X4 ?_;refine W8_ ?_;refine Qt ?_;refine W6_ ?_;refine QF ?_;refine W2_ ?_;refine Qt ?_;refine W6_ ?_;exact Qsd
  by_cases gw:((c.toNat:Nat):Int)=8/\(8:Int)-m≥8
  ·obtain⟨cq,hk2⟩:=gw;refine X4 ?_;refine Yr ?_;refine QF ?_;refine W2_ ?_;refine Qt ?_;refine W6_ ?_;exact Qsd
  rcases hp with ⟨rfl,rfl⟩|⟨i,rfl,rfl⟩
  ·exfalso;omega
  have iC:(i:Int)≥0:=Oa
  by_cases hk:((c.toNat:Nat):Int)=8
  ·have hk2:¬(8:Int)-m≥8:=fun h=>gw ⟨hk,h⟩;by_cases hi:i%2=0
   ·have hi1:((i%2:Nat):Int)=0:=by omega
    have hi2:((c.toNat:Nat):Int)≠5:=Oa
    refine Qud ?_;refine XB ?_;exact Qsd
   ·have hi1:((i%2:Nat):Int)≠0:=by omega
    exact Yt67
  ·by_cases hi:i%2=0
   ·have hi1:((i%2:Nat):Int)=0:=by omega
    have hi2:((c.toNat:Nat):Int)≠5:=Oa
    refine Qud ?_;refine XB ?_;exact Qsd
   ·have hi1:((i%2:Nat):Int)≠0:=by omega
    exact Yt67
 obtain⟨kH,iq,nJ⟩:=hg;rw[NI Oa] at hR;have aA:=pZ Oa c.toNat Oa iq nJ;have rH:=hok c.toNat;unfold Xg3 at aA;generalize X06 gl gp b ((a:Int)+1) c.toNat=r at*;obtain⟨⟨vk,vn,vd,vs,vl⟩,x,e⟩:=r;have hvalid:=fun he=>X5I (.mk vk vn vd vs vl) (rH he);simp only[Xt] at aA hvalid hR;rcases hp with ⟨rfl,rfl⟩|⟨i,rfl,rfl⟩
 ·by_cases hk:((c.toNat:Nat):Int)=8
  ·have hk2:¬(8:Int)-m≥8:=by have:=iq Oa;omega
   exact Yt19
  ·skip
   exact Yt19
 have iC:(i:Int)≥0:=Oa
 have hk:¬((c.toNat:Nat):Int)=8:=Jj
 by_cases hi:i%2=0
 ·have hi1:((i%2:Nat):Int)=0:=by omega
  have hi2:((c.toNat:Nat):Int)=5:=Jj
  have ri:¬((i%2:Nat):Int)=1:=Oa
  exact Yt20
 have hi1:¬((i%2:Nat):Int)=0:=Oa
 have ri:((i%2:Nat):Int)=1:=Oa
 have hi2:((c.toNat:Nat):Int)=6:=Jj
 exact Yt20
def XeC (i:Nat) (q:Int) (h:(noG i q).2.2=0):Xj 8 (noG i q).1=true:=by simp[noG] at h
def XnR (b:List UInt8) (i:Nat) (q:Int) (h:(X1d b i q).2.2=0):Xj 8 (X1d b i q).1=true:=XgB h
def XxJ (b:List UInt8) (m:Nat) (q:Int) (h:(X25 b m q).2.2=0):Xj 8 (X25 b m q).1=true:=by
 rw[X5a] at h |-;exact XgB h
def Xk6 (b:List UInt8):∀(m i:Nat) (q:Int),(X3L b m i q).2.2=0->Xj 8 (X3L b m i q).1=true
 |0,i,q,h=>XeC i q h
 |m+1,i,q,h=>XxJ b m q h
def XgM (eN:∀i q,(gl i q).2.2=0->Xj 8 (gl i q).1=true) (dN:∀i q,(gp i q).2.2=0->Xj 8 (gp i q).1=true)
  (h:(X06 gl gp b a k).2.2=0):U1 (X06 gl gp b a k).1:=by
 obtain⟨e1,e2⟩:=Xli gl gp b a k;rw[e1] at h;rw[e2 h];exact Xwi eN dN h
def XjN (b:List UInt8) (hb:J b<=281474976710656) (m a i:Nat) (hm:m<=8) (ha:a<=J b):X7e b a (8-m) i (X36 (X1d b i a)):=by
 have hw:(5+((i%2:Nat):Int))=5\/(5+((i%2:Nat):Int))=6:=Oa
 unfold X1d;rw[<-XhJ b a m _ hw noG noG];refine XfF b m a (5+((i%2:Nat):Int)) i noG noG _ hm ha hb (fun _ k hk _ nH=> ?_) (fun k h=>XgM XeC XeC h) (.inr ⟨i,rfl,rfl⟩) rfl;have hk2:=nH Oa;exact XeO b m k (a+1) noG noG _ hm hb hk (fun h=>Oa) (fun h=>Oa) rfl
def XjR (b:List UInt8) (hb:J b<=281474976710656):∀(m a:Nat),m<=8->a<=J b->X7e b a (8-m) (-1) (X36 (X25 b m a))
 |0,a,hm,ha=>by
  rw[X5a]
  exact XfF b 0 a 0 (-1) (X3L b 0) (X1d b) _ hm ha hb
   (fun _ k hk h8 _=>XeO b 0 k (a+1) (X3L b 0) (X1d b) _ hm hb hk (fun h=>absurd rfl (h8 h))
    (fun _ R hR=>Xmo b 0 (a+1) (X1d b) R hm hb (fun i q h=>X92 i q h) (fun i q h=>XjN b hb 0 q i hm h) hR) rfl)
   (fun k h=>XgM (Xk6 b 0) (XnR b) h) (.inl ⟨rfl,rfl⟩) rfl
 |m+1,a,hm,ha=>by
  rw[X5a]
  exact XfF b (m+1) a 0 (-1) (X3L b (m+1)) (X1d b) _ hm ha hb
   (fun _ k hk h8 _=>XeO b (m+1) k (a+1) (X3L b (m+1)) (X1d b) _ hm hb hk
    (fun _ R hR=>Xso b (m+1) (a+1) (X3L b (m+1)) R hm hb (fun i q h=>XdT m q h) (fun i q h=>by
     have:=XjR b hb m q Oa h;rw[show (8:Int)-((m+1:Nat):Int)+1=8-(m:Int) by omega];exact this) hR)
    (fun _ R hR=>Xmo b (m+1) (a+1) (X1d b) R hm hb (fun i q h=>X92 i q h) (fun i q h=>XjN b hb (m+1) q i hm h) hR) rfl)
   (fun k h=>XgM (Xk6 b (m+1)) (XnR b) h) (.inl ⟨rfl,rfl⟩) rfl
def Xvd (b:List UInt8) (a:Int) (h:a<0\/(J b:Int)<a):Con prog 351 [] [.d (Xc b),ai a,ai 0,ai (-1)] [] (.tup [Xt zV,ai 0,ai 1]):=by
 refine ZCt func351 ntmps351 fun E=> ?_;by_cases h1:a<0
 ·exact Qac
 ·have h2:(J b:Int)<a:=by omega
  exact Qac
def Xtz (b:List UInt8) (hb:J b<=281474976710656) (a:Int):Con prog 351 [] [.d (Xc b),ai a,ai 0,ai (-1)] [] (.tup [Xt (X03 b a).1,ai (X03 b a).2.1,ai (X03 b a).2.2]):=by
 rw[XtI];by_cases h:a<0\/(J b:Int)<a
 ·rw[PI h];exact Xvd b a h
 ·rw[NI h];obtain⟨q,rfl⟩:∃q:Nat,a=q:=⟨a.toNat,Oa⟩
  exact XjR b hb 8 q Oa Oa
def XuM (b:List UInt8) (hb:J b<=281474976710656) (a:Int):Con prog 309 [] [.d (Xc b),ai a] [] (.tup [Xt (X03 b a).1,ai (X03 b a).2.1,ai (X03 b a).2.2]):=by
 refine ZCt func309 ntmps309 fun E=> ?_;have h:=Xtz b hb a;generalize X03 b a=u at*;obtain⟨⟨k,n,d,s,l⟩,i,e⟩:=u;simp only[Xt] at h;refine Yh ?_;exact Qbc
end Go.Fw

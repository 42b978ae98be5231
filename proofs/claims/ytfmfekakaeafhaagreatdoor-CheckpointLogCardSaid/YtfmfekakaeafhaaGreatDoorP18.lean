/- The null value: the program's test. -/
import Derived.Test.YtfmfekakaeafhaaGreatDoorP12
import Derived.Test.YtfmfekakaeafhaaGreatDoorP13
import Derived.Test.YtfmfekakaeafhaaGreatDoorP15
set_option linter.all false
set_option maxHeartbeats 8000000
namespace Go.Fw
open Go Go.Proofs Tryz List
open List renaming length->J
set_option maxRecDepth 100000
def YD (x y:Int):Int:=if x<y then-1 else if y<x then 1 else 0
def Xm0 (x:Int):Con prog 227 [] [ai x] [] (ab false):=by
 refine ZC1 func227 ntmps227 fun E=> ?_;refine XB ?_;exact X3 ⟨_,Xe 2 (y:=ab false) (ZzQ (by refine Eq.trans (b:=ab (decide (x≠x))) rfl ?_;exact CG ab Oc)),⟨rfl,TV⟩,X5 _⟩
def Xb2 (s:List UInt8):Con prog 228 [] [.d (.v (.string (X7 s)))] [] (ab false):=by
 refine ZC1 func228 ntmps228 fun E=> ?_;refine XB ?_;exact X3 ⟨_,Xe 2 (y:=ab false) (ZzQ (by refine Eq.trans (b:=ab (decide (s≠s))) rfl ?_;exact CG ab Oc)),⟨rfl,TV⟩,X5 _⟩
def X6K (x y:Int):Con prog 171 [] [ai x,ai y] [] (ai (YD x y)):=by
 refine ZC1 func171 ntmps171 fun E=> ?_;have n1:=Xm0 x;have n2:=Xm0 y;by_cases h1:x<y
 ·rw[show YD x y= -1 by simp[YD,h1]];refine QW ?_;exact Zr0
 by_cases h2:y<x
 ·rw[show YD x y=1 by simp[YD,h1,h2]];refine Qxa ?_;exact Zr0
 rw[show YD x y=0 by simp[YD,h1,h2]];refine QU ?_;exact Zr0
theorem Xhn:∀s:List UInt8,Op.bytesLess s s=false
 |[]=>rfl
 |b::s=>by simp[Op.bytesLess,Xhn s]
variable{s:List UInt8}{x y:Operand}
def Xx8 {t:TypeId} (w:World):(do eqGuard .lss t x y (.string (X7 s)) (.string (X7 s));binOp .lss t (.string (X7 s)) (.string (X7 s)):Sem Value).run prog w= .ok (.bool false) w:=by
 simp[go_sem,binOp,Op.stringOp,X57,Xhn]
def XvC {t:TypeId} (w:World):(do eqGuard .gtr t x y (.string (X7 s)) (.string (X7 s));binOp .gtr t (.string (X7 s)) (.string (X7 s)):Sem Value).run prog w= .ok (.bool false) w:=by
 simp[go_sem,binOp,Op.stringOp,X57,Xhn]
def XrL (s:List UInt8):Con prog 176 [] [.d (.v (.string (X7 s))),.d (.v (.string (X7 s)))] [] (ai 0):=by
 refine ZC1 func176 ntmps176 fun E=> ?_;have n1:=Xb2 s;refine UR ?_;refine Z4 (op:= .lss) (r':= .bool false) (u:= .string (X7 s)) (v:= .string (X7 s)) ?_ (hr:=by exact Xx8);refine W8_ ?_;refine Z4 (op:= .gtr) (r':= .bool false) (u:= .string (X7 s)) (v:= .string (X7 s)) ?_ (hr:=by exact XvC);exact QNa
abbrev cI (n:Int):List D:=[.v (.int .i64 n)]
def orI:List Int->Int
 |[]=>0
 |x::r=>if x≠0 then x else orI r
def Xpt {l:List Int}{i:Nat}{x:Int} (h:l[i]? =some x):orI (l.drop i)=if x≠0 then x else orI (l.drop (i+1)):=by
 rw[drop_eq_getElem_cons (GS.1 h).1,(GS.1 h).2,orI]
def Xm3 (l:List Int) (hl:J l<=1000):Con prog 175 [] [.d (.sl 1 (l.map cI))] [] (ai (orI l)):=by
 refine ZC1 func175 ntmps175 fun E=> ?_;have hlm:J (l.map cI)=J l:=Oc
 refine Yr ?_;generalize hG:orI l=G
 refine Xl (fun i:Nat=>i<=J l/\orI (l.drop i)=G) (fun i=>⟨18,[(3,ai 0),(6,.d (.sl 1 (l.map cI))),(7,ai (J (l.map cI))),(8,ai i)],[]⟩) (fun i=>J l-i) 0 ⟨Oa,hG⟩
  (X9 rfl ⟨JL,JL,JL,JL,TV⟩ trivial) ?_
 rintro i ⟨hi,hg⟩;by_cases hil:i<J l
 case neg=>
  obtain rfl:i=J l:=Oa
  rw[drop_length,orI] at hg;subst hg;have hn:¬((J l:Nat):Int)<J (l.map cI):=Oa
  exact Qi
 have hn:(i:Int)<J (l.map cI):=Oa
 obtain⟨x,hx⟩:=Xn (l:=l) hil;have bu:(l.map cI)[i]? =some (cI x):=XC hx;rw[Xpt hx] at hg;by_cases h0:x=0
 ·rw[NI Jm] at hg;refine YT ?_;exact⟨i+1,⟨Oa,hg⟩,Oa,X9 rfl ⟨JL,JL,JL,JL,TV⟩ TV⟩
 ·rw[PI h0] at hg;subst hg;exact QB
def X0c (k:Int):Int:=if k=3 then 2 else if k=7 then 9 else k
def X9i (k n d:Int) (s:List UInt8) (l:List Val):Con prog 357 [] [Xt (.mk k n d s l)] [] (ai (X0c k)):=by
 refine ZC1 func357 ntmps357 fun E=> ?_;simp only[Xt];by_cases h3:k=3
 ·subst h3;exact Qj
 by_cases h7:k=7
 ·subst h7;refine U7 ?_;exact Zr0
 rw[show X0c k=k by simp[X0c,h3,h7]];exact QIa
def Xdh {l:List Nat}{k y:Nat} (h:k<J l):take k (l.map UC)++[UC y]++drop (k+1) (l.map UC)=(l.set k y).map UC:=by
 rw[set_eq_take_append_cons_drop,PI h];simp
def XjA (n:Nat):replicate n (UC 0)=(replicate n 0).map UC:=Oc
def XcC (x y:List Nat) (hx:X1V x) (hy:X1V y) (hl:J y=J x) (hn:J x<=1000):Con prog 345 [] [.d (Vt x),.d (Vt y)] [] (.d (Vt (X2u x y))):=by
 have bQ:J (x.map UC)=J x:=Oc
 have own:Con prog 345 [] [.d (Vt x),.d (Vt y)] [(130,.row 1 ((X2u x y).map UC))] (.own 130 (J ((X2u x y).map UC))):=by
  refine ZC1 func345 ntmps345 fun E=> ?_;refine QPa ?_;refine XG ?_
  refine Xl (fun k:Nat=>k<=J x) (fun k=>⟨36,[(0,.d (Vt x)),(1,.d (Vt y)),(5,.own 130 (J (x.map UC))),(6,ai (X20 x y k).2),(7,ai k)],[(130,.row 1 ((X20 x y k).1.map UC))]⟩) (fun k=>J x-k) 0 Oa
   (X9 rfl ⟨JL,JL,JL,JL,JL,TV⟩ ⟨?_,TV⟩) ?_
  ·refine CG (AObj.row 1) ?_;refine Eq.trans (b:=replicate (J (x.map UC)) (UC 0)) rfl ?_;rw[bQ];exact XjA (J x)
  intro k hk;have aT:=XiH x y k;have gH:J ((X20 x y k).1.map UC)=J x:=by rw[LM,aT]
  by_cases pS:k<J x
  case neg=>
   obtain rfl:k=J x:=Oa
   refine Ya ?_;exact X3 ⟨_,Xe 4 (y:= .own 130 (J ((X2u x y).map UC))) (ZzQ O1),⟨rfl,TV⟩,Xm ⟨rfl,TV⟩⟩
  obtain⟨a,ha⟩:=Xn (l:=x) pS;obtain⟨b,hb⟩:=Xn (l:=y) (k:=k) Oa;have hc:=Xoa hx hy k;have tK:=X7y hx ha;have gj:=X7y hy hb;have aF:X20 x y (k+1)=((X20 x y k).1.set k (((X20 x y k).2+a+b)%1000),((X20 x y k).2+a+b)/1000):=by
   simp only[X20,ha,hb,Option.getD_some]
  generalize X20 x y k=p at*;obtain⟨l,c⟩:=p;simp only at aT gH hc aF;refine YS ?_;(refine Z4 (op:= .add) (r':=nj (c+a)) (u:=nj c) (v:=nj a) ?_ (hr:=OT));refine W4_ ?_;(refine Z4 (op:= .add) (r':=nj (c+a+b)) (u:=nj (c+a)) (v:=nj b) ?_ (hr:=OT));refine W7_ ?_;refine Z4 (op:= .rem) (r':=nj ((c+a+b)%1000)) (u:=nj (c+a+b)) (v:=nj 1000) ?_ (hr:=OE);refine W5_ ?_;(refine Z4 (op:= .quo) (r':=nj ((c+a+b)/1000)) (u:=nj (c+a+b)) (v:=nj 1000) ?_ (hr:=by exact X23 Oa Oq));refine W7_ ?_;refine⟨k+1,Oa,Oa,?_⟩;dsimp only;rw[aF];refine X9 rfl ⟨JL,JL,JL,JL,JL,TV⟩ ⟨?_,TV⟩;exact CG (AObj.row 1) (Xdh Oa)
 exact own.data Oc
def Xcf (a0 b:Nat) (ha0:a0<=1000000000000000) (hb:b<=1000000000000000):Con prog 303 [] [ai a0,ai b] [] (.d (Vt (X0q 14 (a0*b)))):=by
 have own:Con prog 303 [] [ai a0,ai b] [(130,.row 1 ((X0q 14 (a0*b)).map UC))] (.own 130 (J ((X0q 14 (a0*b)).map UC))):=by
  refine ZC1 func303 ntmps303 fun E=> ?_;refine W6_ ?_;refine QOa ?_;refine W8_ ?_
  refine Xl (ι:=List Nat×Nat×Nat) (fun s=>J s.1=14/\X1V s.1/\X1s s.1+s.2.1*b*1000^s.2.2=a0*b/\s.2.1*1000^s.2.2<=a0)
   (fun s=>⟨51,[(0,ai s.2.1),(1,ai b),(5,.own 130 14),(6,ai s.2.2)],[(130,.row 1 (s.1.map UC))]⟩) (fun s=>s.2.1) (replicate 14 0,a0,0)
   ⟨rfl,Xa5 14,by rw[Xlj];simp,Oc⟩
   (X9 rfl ⟨JL,JL,JL,JL,TV⟩ ⟨rfl,TV⟩) ?_
  rintro⟨l,a,i⟩ ⟨hl,aS,hV,jG⟩;simp only at hl aS hV jG;by_cases ha:0<a
  case neg=>
   obtain rfl:a=0:=Oa
   have bI:X0q 14 (a0*b)=l:=by
    rw[<-hV,Nat.zero_mul,Nat.zero_mul,Nat.add_zero,<-hl];exact XmV l aS
   rw[bI];refine XK ?_;exact X3 ⟨_,Xe 4 (y:= .own 130 (J (l.map UC))) (ZzQ (by refine Eq.trans (b:= .own 130 14) rfl ?_;rw[LM,hl])),⟨rfl,TV⟩,Xm ⟨rfl,TV⟩⟩
  have tL:=Xtt jG ha ha0;have vv:a<=1000000000000000:=Nat.le_trans (Nat.le_mul_of_pos_right _ (Nat.pow_pos Oi)) (Nat.le_trans jG ha0);have rm:=XrA hV;have hW:=XwD (a0:=a0) ha0 hb;refine XK ?_;refine Z4 (op:= .rem) (r':=nj (a%1000)) (u:=nj a) (v:=nj 1000) ?_ (hr:=OE);refine W5_ ?_;(refine Z4 (op:= .quo) (r':=nj (a/1000)) (u:=nj a) (v:=nj 1000) ?_ (hr:=by exact X23 Oa Oq));refine Yb ?_;generalize hd:a%1000=dg at*;have td:dg<1000:=Oa
  generalize rq:X1s l+dg*b*1000^i=V at*
  refine Xl (ι:=List Nat×Nat×Nat×Nat) (fun s=>J s.1=14/\X1V s.1/\X1s s.1+(dg*s.2.1+s.2.2.1)*1000^s.2.2.2=V/\s.2.1*1000^s.2.2.2<=b*1000^i/\s.2.2.1<=999/\s.2.1<=b)
   (fun s=>⟨51,[(0,ai (a/1000:Nat)),(1,ai b),(5,.own 130 14),(6,ai i),(7,ai dg),(8,ai s.2.1),(9,ai s.2.2.1),(10,ai s.2.2.2)],[(130,.row 1 (s.1.map UC))]⟩) (fun s=>20-s.2.2.2) (l,b,0,i)
   ⟨hl,aS,by simpa using rq,Nat.le_refl _,Oc,Nat.le_refl _⟩
   (X9 rfl ⟨JL,JL,JL,JL,JL,JL,JL,JL,TV⟩ ⟨rfl,TV⟩) ?_
  rintro⟨l2,c,carry,k⟩ ⟨bM,iU,jc,nw,ru,hcb⟩;simp only at bM iU jc nw ru hcb;by_cases bD:0<c\/0<carry
  case neg=>
   obtain rfl:c=0:=Oa
   obtain rfl:carry=0:=Oa
   have kD:X1s l2=X1s l+a%1000*b*1000^i:=by
    rw[hd,rq,<-jc];simp
   have hnew:=Xv1 hV kD;have ry:=Xmr jG;refine Yb ?_;exact⟨(l2,a/1000,i+1),⟨bM,iU,hnew,ry⟩,by show a/1000<a;omega,X9 rfl ⟨JL,JL,JL,JL,TV⟩ ⟨rfl,TV⟩⟩
  have hk:k<=10:=by
   rcases bD with h|h
   ·exact Xte nw h hb tL
   ·exact XrZ jc rm hW h
  obtain⟨x,hx⟩:=Xn (l:=l2) (k:=k) Oa;have hx1:=X7y iU hx;have hstep:=XvU jc hx;have r8:=Xmr nw;have hm:dg*(c%1000)<=998001:=Nat.mul_le_mul (show dg<=999 by omega) (show c%1000<=999 by omega);have bu:(l2.map UC)[k]? =some (UC x):=XC hx;have hs:=Xdh (l:=l2) (k:=k) (y:=(carry+x+dg*(c%1000))%1000) Oa;have hlen:J (l2.map UC)=14:=by rw[LM,bM]
  by_cases hc0:0<c
  ·refine Y5 ?_;(refine Z4 (op:= .add) (r':=nj (carry+x)) (u:=nj carry) (v:=nj x) ?_ (hr:=OT));refine W2_ ?_;refine Z4 (op:= .rem) (r':=nj (c%1000)) (u:=nj c) (v:=nj 1000) ?_ (hr:=OE)
   (refine Z4 (op:= .mul) (r':=nj (dg*(c%1000))) (u:=nj dg) (v:=nj (c%1000)) ?_ (hr:=OU))
   exact Yt12
  ·have tM:0<carry:=by omega
   refine Y5 ?_;(refine Z4 (op:= .add) (r':=nj (carry+x)) (u:=nj carry) (v:=nj x) ?_ (hr:=OT));refine W2_ ?_;refine Z4 (op:= .rem) (r':=nj (c%1000)) (u:=nj c) (v:=nj 1000) ?_ (hr:=OE)
   (refine Z4 (op:= .mul) (r':=nj (dg*(c%1000))) (u:=nj dg) (v:=nj (c%1000)) ?_ (hr:=OU))
   exact Yt12
 exact own.data Oc
def VJ (n:Int):Int:=if n<0 then-1 else if 0<n then 1 else 0
def Xdf (n:Int):Con prog 302 [] [ai n] [] (ai (VJ n)):=by
 refine ZC1 func302 ntmps302 fun E=> ?_;by_cases h1:n<0
 ·rw[show VJ n= -1 by simp[VJ,h1]];exact QFa
 by_cases h2:0<n
 ·rw[show VJ n=1 by simp[VJ,h1,h2]];refine Us ?_;exact Zr0
 ·rw[show VJ n=0 by simp[VJ,h1,h2]];exact QCa
def Xx4 (x:List Nat) (hx:J x<=1000):Con prog 346 [] [.d (Vt x),.d (Vt x)] [] (ai 0):=by
 refine ZC1 func346 ntmps346 fun E=> ?_;have bQ:J (x.map UC)=J x:=Oc
 refine XK ?_
 refine Xl (fun i:Nat=>i<=J x) (fun i=>⟨31,[(0,.d (Vt x)),(1,.d (Vt x)),(5,ai ((i:Int)-1))],[]⟩) (fun i=>i) (J x) (Nat.le_refl _)
  (X9 rfl ⟨JL,JL,JL,TV⟩ trivial) ?_
 intro i hi;cases i with
 |zero=>
  exact Qi
 |succ j=>
  have e:(((j+1:Nat):Int)-1)=(j:Int):=Oa
  rw[e];obtain⟨a,ha⟩:=Xn (l:=x) (k:=j) Oa;have bu:(x.map UC)[j]? =some (UC a):=XC ha;refine Qka ?_;exact⟨j,Oa,Oa,X9 rfl ⟨JL,JL,JL,TV⟩ TV⟩
abbrev X2l:List Nat:=replicate 14 0
def X7M (s:Int) (x:List Nat):List Nat:=if s=0 then X2u x x else X2u X2l X2l
def Xoo (s:Int) (hs:s=0\/s=1\/s= -1) (x:List Nat) (hx:X1V x) (hl:J x=14):Con prog 301 [] [ai s,.d (Vt x),ai (-s),.d (Vt x)] [] (.tup [ai 0,.d (Vt (X7M s x))]):=by
 refine ZCt func301 ntmps301 fun E=> ?_;have hp:=XcC x x hx hx rfl Oa;have hz:=XcC X2l X2l (Xa5 14) (Xa5 14) rfl Oi;have ho:=Xx4 x Oa;by_cases h0:s=0
 ·subst h0;rw[show X7M 0 x=X2u x x from PI rfl];generalize X2u x x=y at*;refine XM ?_;exact QSa
 have cV:X7M s x=X2u X2l X2l:=NI h0;rw[cV];clear cV;generalize X2u X2l X2l=y at*;by_cases h1:s=1
 ·subst h1;refine X4 ?_;refine W8_ ?_;exact QSa
 ·obtain rfl:s= -1:=by omega
  refine X4 ?_;refine W8_ ?_;exact QSa
abbrev oRd (b:List UInt8) (a e:Int):AObj:= .box [.d (Xc b),ai a,ai e]
def Xnt (b:List UInt8) (a e x:Int):Con prog 367 [(0,oRd b a e)] [.ptr 0 0,ai x] [(0,oRd b a (if e=0 then x else e))] (.tup []):=by
 refine VQ (xs:=[]) func367 rfl ntmps367 rfl rfl rfl (fun E=> ?_);by_cases h:e=0
 ·rw[PI h];refine Yr ?_;exact QTa
 ·rw[NI h];refine XA ?_;exact QTa
def X7T (b:List UInt8) (a e:Int) (hb:J b<=281474976710656):Con prog 349 [(0,oRd b a e)] [.ptr 0 0] [(0,if e=0 then oRd b (Y9 b a).2.1 (Y9 b a).2.2 else oRd b a e)] (ai (if e=0 then (Y9 b a).1 else 0)):=by
 refine ZC1 func349 ntmps349 fun E=> ?_;by_cases h:e=0
 ·rw[PI h,PI h];refine V4 ?_;refine Z5 (ag:=XiX b a hb) ?_;refine XM ?_;exact Qo
 ·rw[NI h,NI h];refine Yh ?_;exact Qo
def X0M (k:Int) (u:Int×Int×Int):Int:=if u.2.2≠0 then u.2.2 else if X0P k u.1 then 2 else 0
def XvK (b:List UInt8) (a e:Int) (hb:J b<=281474976710656):Con prog 350 [(0,oRd b a e)] [.ptr 0 0,ai 64,ab false] [(0,oRd b (Xd b a).2.1 (X0M 8 (Xd b a)))] (ai (Xd b a).1):=by
 have hu:=X7h b a hb;have hz:(Xd b a).2.2≠0->(Xd b a).1=0:=by
  intro h;rw[XbA] at h |-;split
  ·rfl
  ·split
   ·rfl
   ·rename_i h1 h2;simp[h1,h2] at h
 generalize Xd b a=u at*;obtain⟨n,at_,e'⟩:=u;simp only at hz;refine ZC1 func350 ntmps350 fun E=> ?_;by_cases h:64<n
 ·have he:e'=0:=by
   by_cases h0:e'=0
   ·exact h0
   ·have:=hz h0;omega
  subst he;rw[show X0M 8 (n,at_,0)=2 by simp[X0M,X0P,h]];refine Qia ?_;refine QF ?_;refine W6_ ?_;refine Z5 (ag:=Xnt b at_ 0 2) ?_;refine W6_ ?_;exact Qo
 ·rw[show X0M 8 (n,at_,e')=e' by by_cases h0:e'=0<;>simp[X0M,X0P,h,h0]];refine X4 ?_;refine Yh ?_;exact Qo
def Xxh (b:List UInt8) (a e:Int) (hb:J b<=281474976710656):Con prog 350 [(0,oRd b a e)] [.ptr 0 0,ai 25,ab true] [(0,oRd b (Xd b a).2.1 (X0M 7 (Xd b a)))] (ai (Xd b a).1):=by
 have hu:=X7h b a hb;have hz:(Xd b a).2.2≠0->(Xd b a).1=0:=by
  intro h;rw[XbA] at h |-;split
  ·rfl
  ·split
   ·rfl
   ·rename_i h1 h2;simp[h1,h2] at h
 have hp:0<=(Xd b a).1:=by
  rw[XbA];split
  ·simp
  ·split<;>simp
 generalize Xd b a=u at*;obtain⟨n,at_,e'⟩:=u;simp only at hz hp;refine ZC1 func350 ntmps350 fun E=> ?_;have hf:=Xnt b at_ e' 2;by_cases h:25<n
 ·have he:e'=0:=by
   by_cases h0:e'=0
   ·exact h0
   ·have:=hz h0;omega
  subst he;rw[show X0M 7 (n,at_,0)=2 by simp[X0M,X0P,h]];rw[PI rfl] at hf;refine Qia ?_;refine QF ?_;refine XK ?_;exact Qo
 ·by_cases h2:n%2=0
  ·rw[show X0M 7 (n,at_,e')=if e'=0 then 2 else e' by simp only[X0M,X0P];by_cases h0:e'=0<;>simp[h0,h2]];refine QUa ?_;exact Qo
  ·rw[show X0M 7 (n,at_,e')=e' by by_cases h0:e'=0<;>simp[X0M,X0P,h,h2,h0]];refine X4 ?_;refine Yh ?_;exact Qo
def X2o (b:List UInt8) (a:Nat) (m:Nat) (want:Int):Int×Int×Int:=
 if a=J b then (0,(a:Int),3) else let k:Int:=((b[a]?).getD 0).toNat
  if 8<k\/(k=8/\m=0)\/(want≠0/\k≠want) then (0,(a:Int),2) else (k,(a:Int)+1,0)
def Xrb (b:List UInt8) (a m:Nat) (want:Int) (hm:m<=8) (ha:a<=J b) (hb:J b<=281474976710656):Con prog 348 [(0,oRd b a 0)] [.ptr 0 0,ai (8-m),ai want] [(0,oRd b (X2o b a m want).2.1 (X2o b a m want).2.2)] (ai (X2o b a m want).1):=by
 refine ZC1 func348 ntmps348 fun E=> ?_;by_cases gJ:a=J b
 ·rw[show X2o b a m want=(0,(a:Int),3) by unfold X2o;rw[PI gJ]];have jG:(a:Int)=J b:=by omega
  exact QVa
 obtain⟨c,hc⟩:=Xn (l:=b) (k:=a) Oa;have e1:X2o b a m want=if 8<(c.toNat:Int)\/((c.toNat:Int)=8/\m=0)\/(want≠0/\(c.toNat:Int)≠want) then (0,(a:Int),2) else ((c.toNat:Int),(a:Int)+1,0):=by
  unfold X2o;rw[NI gJ,hc];rfl
 have jG:(a:Int)≠J b:=Oa
 by_cases h8:8<(c.toNat:Int)
 ·rw[e1,PI (.inl h8)];refine QWa ?_;refine Qt ?_;refine W6_ ?_;exact QXa
 by_cases hw:want≠0/\(c.toNat:Int)≠want
 ·rw[e1,PI (.inr (.inr hw))];obtain⟨hw1,cC⟩:=hw;by_cases hk:(c.toNat:Int)=8
  ·by_cases hm0:m=0
   ·have:(8:Int)-m≥8:=by omega
    refine X4 ?_;refine Us ?_;exact QXa
   ·have:¬(8:Int)-m≥8:=by omega
    refine QYa ?_;refine W1_ ?_;exact Qo
  ·refine QYa ?_;refine W1_ ?_;exact Qo
 by_cases hk:(c.toNat:Int)=8
 ·by_cases hm0:m=0
  ·rw[e1,PI (.inr (.inl ⟨hk,hm0⟩))];have:(8:Int)-m≥8:=by omega
   refine X4 ?_;refine Us ?_;exact QXa
  ·rw[e1,NI Oa];have:¬(8:Int)-m≥8:=by omega
   by_cases hw0:want=0
   ·exact QZa
   ·have hw1:(c.toNat:Int)=want:=by omega
    exact QZa
 ·rw[e1,NI Oa];by_cases hw0:want=0
  ·exact QZa
  ·have hw1:(c.toNat:Int)=want:=by omega
   exact QZa
end Go.Fw

/- Reading values: the reader's parts. -/
import Derived.Test.YtpbgjcbkhgfmkaaGreatDoorM13
set_option maxHeartbeats 16000000
namespace Go.Fw
open Go Go.Proofs Tryz List
set_option maxRecDepth 100000
set_option linter.unusedVariables false
set_option linter.unusedSimpArgs false
abbrev oRd (b:List UInt8) (a e:Int):AObj:= .box [.d (Xg b),ai a,ai e]
theorem Xkf (b:List UInt8) (a e x:Int):Con prog 385 [(0,oRd b a e)] [.ptr 0 0,ai x] [(0,oRd b a (if e=0 then x else e))] (.tup []):=by
 refine X0I (xs:=[]) func385 rfl ntmps385 rfl rfl rfl (fun E=> ?_);by_cases h:e=0
 ·rw[PI h];refine Yg ?_;exact QQa
 ·rw[NI h];refine XA ?_;exact QQa
theorem X7H (b:List UInt8) (a e:Int) (hb:b.length<=281474976710656):Con prog 370 [(0,oRd b a e)] [.ptr 0 0] [(0,if e=0 then oRd b (YX b a).2.1 (YX b a).2.2 else oRd b a e)] (ai (if e=0 then (YX b a).1 else 0)):=by
 refine ZC1 func370 ntmps370 fun E=> ?_;by_cases h:e=0
 ·rw[PI h,PI h];refine Vl ?_;refine Z3 (af:=XlC b a hb) ?_;refine XY ?_;exact Qb
 ·rw[NI h,NI h];refine Yf ?_;exact Qb
def rkS (b:List UInt8) (a:Nat) (e limit:Int):Int×Int×Int:=
 if e≠0 then (0,(a:Int),e) else if b.length<=a then (0,(a:Int),3) else
  if ((((b[a]?).getD 0).toNat:Nat):Int)<1\/limit<((((b[a]?).getD 0).toNat:Nat):Int) then (0,(a:Int),2) else ((((b[a]?).getD 0).toNat:Nat),(a:Int)+1,0)
theorem Xtt (b:List UInt8) (a:Nat) (e limit:Int) (hb:b.length<=281474976710656) (ha:a<=281474976710656):Con prog 232 [(0,oRd b a e)] [.ptr 0 0,ai limit] [(0,oRd b (rkS b a e limit).2.1 (rkS b a e limit).2.2)] (ai (rkS b a e limit).1):=by
 refine ZC1 func232 ntmps232 fun E=> ?_;have hlm:(b.map X5).length=b.length:=by simp
 by_cases he:e=0
 case neg=>
  rw[show rkS b a e limit=(0,(a:Int),e) by unfold rkS;rw[PI he]];exact QRa
 subst he;by_cases h1:b.length<=a
 ·rw[show rkS b a 0 limit=(0,(a:Int),3) by unfold rkS;rw[NI (by simp),PI h1]];have dD:((b.map X5).length:Int)<=a:=by omega
  exact QSa
 have dD:¬((b.map X5).length:Int)<=a:=by omega
 obtain⟨c,hc⟩:=Xu (l:=b) (k:=a) (by omega);have oM:rkS b a 0 limit=if ((c.toNat:Nat):Int)<1\/limit<((c.toNat:Nat):Int) then (0,(a:Int),2) else (((c.toNat:Nat):Int),(a:Int)+1,0):=by
  unfold rkS;rw[NI (by simp),NI h1,hc,Option.getD_some]
 have bw:(b.map X5)[a]? =some (X5 c):=XM hc;by_cases h2:((c.toNat:Nat):Int)<1
 ·rw[oM,PI (.inl h2)];refine QTa ?_;exact Qb
 by_cases h3:limit<((c.toNat:Nat):Int)
 ·rw[oM,PI (.inr h3)];refine QTa ?_;exact Qb
 rw[oM,NI (by omega)];refine QCa ?_;refine W3_ ?_
 (refine Z1 (op:= .sub) (r':=nj a) (u:= .int .i64 ((a:Int)+1)) (v:= .int .i64 1) ?_ (hr':=by exact CG (Value.int .i64) (show((a:Int)+1-1)=(a:Int) by omega)) (hr:=by exact X71 (by unfold X2i;omega)))
 refine W5_ ?_;exact Qb
theorem Xqw (b:List UInt8) (a e:Int) (hb:b.length<=281474976710656):Con prog 233 [(0,oRd b a e)] [.ptr 0 0] [(0,if e=0 then oRd b (XB b a).2.1 (XB b a).2.2 else oRd b a e)] (ai (if e=0 then (XB b a).1 else 0)):=by
 refine ZC1 func233 ntmps233 fun E=> ?_;by_cases h:e=0
 ·rw[PI h,PI h];have hu:=X6r b a hb;generalize XB b a=u at*;obtain⟨u1,u2,u3⟩:=u;refine Qla ?_;exact Qb
 ·rw[NI h,NI h];refine Yq ?_;exact Qb
def X0v (k:Int) (u:Int×Int×Int):Int:=if u.2.2≠0 then u.2.2 else if X2A k u.1 then 2 else 0
theorem Xoi (b:List UInt8) (a e:Int) (hb:b.length<=281474976710656):Con prog 371 [(0,oRd b a e)] [.ptr 0 0,ai 64,ab false] [(0,oRd b (XB b a).2.1 (X0v 8 (XB b a)))] (ai (XB b a).1):=by
 have hu:=X6r b a hb;have hz:(XB b a).2.2≠0->(XB b a).1=0:=by
  intro h;rw[Xbc] at h |-;split
  ·rfl
  ·split
   ·rfl
   ·rename_i h1 h2;simp[h1,h2] at h
 generalize XB b a=u at*;obtain⟨n,at_,e'⟩:=u;simp only at hz;refine ZC1 func371 ntmps371 fun E=> ?_;by_cases h:64<n
 ·have he:e'=0:=by
   by_cases h0:e'=0
   ·exact h0
   ·have:=hz h0;omega
  subst he;rw[show X0v 8 (n,at_,0)=2 by simp[X0v,X2A,h]];refine Qp ?_;refine QG ?_;refine W6_ ?_;refine Z3 (af:=Xkf b at_ 0 2) ?_;refine W6_ ?_;exact Qb
 ·rw[show X0v 8 (n,at_,e')=e' by by_cases h0:e'=0<;>simp[X0v,X2A,h,h0]];refine X7 ?_;refine Yf ?_;exact Qb
theorem Xs7 (b:List UInt8) (a e:Int) (hb:b.length<=281474976710656):Con prog 371 [(0,oRd b a e)] [.ptr 0 0,ai 25,ab true] [(0,oRd b (XB b a).2.1 (X0v 7 (XB b a)))] (ai (XB b a).1):=by
 have hu:=X6r b a hb;have hz:(XB b a).2.2≠0->(XB b a).1=0:=by
  intro h;rw[Xbc] at h |-;split
  ·rfl
  ·split
   ·rfl
   ·rename_i h1 h2;simp[h1,h2] at h
 have hp:0<=(XB b a).1:=by
  rw[Xbc];split
  ·simp
  ·split<;>simp
 generalize XB b a=u at*;obtain⟨n,at_,e'⟩:=u;simp only at hz hp;refine ZC1 func371 ntmps371 fun E=> ?_;have hf:=Xkf b at_ e' 2;by_cases h:25<n
 ·have he:e'=0:=by
   by_cases h0:e'=0
   ·exact h0
   ·have:=hz h0;omega
  subst he;rw[show X0v 7 (n,at_,0)=2 by simp[X0v,X2A,h]];rw[PI rfl] at hf;refine Qp ?_;refine QG ?_;refine XQ ?_;exact Qb
 ·by_cases h2:n%2=0
  ·rw[show X0v 7 (n,at_,e')=if e'=0 then 2 else e' by simp only[X0v,X2A];by_cases h0:e'=0<;>simp[h0,h2]];refine QUa ?_;exact Qb
  ·rw[show X0v 7 (n,at_,e')=e' by by_cases h0:e'=0<;>simp[X0v,X2A,h,h2,h0]];refine X7 ?_;refine Yf ?_;exact Qb
def X27 (b:List UInt8) (a:Nat) (m:Nat) (want:Int):Int×Int×Int:=
 if a=b.length then (0,(a:Int),3) else let k:Int:=((b[a]?).getD 0).toNat
  if 8<k\/(k=8/\m=0)\/(want≠0/\k≠want) then (0,(a:Int),2) else (k,(a:Int)+1,0)
theorem XoR (b:List UInt8) (a m:Nat) (want:Int) (hm:m<=8) (ha:a<=b.length) (hb:b.length<=281474976710656):Con prog 369 [(0,oRd b a 0)] [.ptr 0 0,ai (8-m),ai want] [(0,oRd b (X27 b a m want).2.1 (X27 b a m want).2.2)] (ai (X27 b a m want).1):=by
 refine ZC1 func369 ntmps369 fun E=> ?_;by_cases gX:a=b.length
 ·rw[show X27 b a m want=(0,(a:Int),3) by unfold X27;rw[PI gX]];have l6:(a:Int)=b.length:=by omega
  exact QSa
 obtain⟨c,hc⟩:=Xu (l:=b) (k:=a) (by omega);have e1:X27 b a m want=if 8<(c.toNat:Int)\/((c.toNat:Int)=8/\m=0)\/(want≠0/\(c.toNat:Int)≠want) then (0,(a:Int),2) else ((c.toNat:Int),(a:Int)+1,0):=by
  unfold X27;rw[NI gX,hc];rfl
 have l6:(a:Int)≠b.length:=by omega
 by_cases h8:8<(c.toNat:Int)
 ·rw[e1,PI (.inl h8)];refine X7 ?_;refine Yx ?_;refine Qg ?_;refine W6_ ?_;exact QVa
 by_cases hw:want≠0/\(c.toNat:Int)≠want
 ·rw[e1,PI (.inr (.inr hw))];obtain⟨hw1,bK⟩:=hw;by_cases hk:(c.toNat:Int)=8
  ·by_cases hm0:m=0
   ·have:(8:Int)-m≥8:=by omega
    refine X7 ?_;refine UU ?_;exact QVa
   ·have:¬(8:Int)-m≥8:=by omega
    refine QCa ?_;refine W1_ ?_;exact Qb
  ·refine QCa ?_;refine W1_ ?_;exact Qb
 by_cases hk:(c.toNat:Int)=8
 ·by_cases hm0:m=0
  ·rw[e1,PI (.inr (.inl ⟨hk,hm0⟩))];have:(8:Int)-m≥8:=by omega
   refine X7 ?_;refine UU ?_;exact QVa
  ·rw[e1,NI (by omega)];have:¬(8:Int)-m≥8:=by omega
   by_cases hw0:want=0
   ·exact QWa
   ·have hw1:(c.toNat:Int)=want:=by omega
    exact QWa
 ·rw[e1,NI (by omega)];by_cases hw0:want=0
  ·exact QWa
  ·have hw1:(c.toNat:Int)=want:=by omega
   exact QWa
def X3C (b:List UInt8) (a:Nat) (nest want:Int) (r:Val×Int×Int):Prop:=
 Con prog 337 [(0,oRd b a 0)] [.ptr 0 0,ai nest,ai want] [(0,oRd b r.2.1 r.2.2)] (XC r.1)
def VI (c:Val×Int×Int):Val×Int×Int:=if c.2.2=0/\Xk 8 c.1=false then (c.1,c.2.1,2) else c
theorem XlS (l:List Val) (k n d:Int) (s:List UInt8) (q:List Val):XX l++[[.v (.int .i64 k),.v (.int .i64 n),.v (.int .i64 d),.v (.string (X6 s)),.sl 5 (XX q)]]=XX (l++[.mk k n d s q]):=by
 rw[X7h l,X7h (l++_),map_append,map_cons,map_nil,UT]
variable{a m:Nat}{b:List UInt8}{want:Int}
theorem XsD (h:(X27 b a m want).2.2≠0) (gl gp:Nat->Int->Val×Int×Int):X0P gl gp m b a want=(zV,(X27 b a m want).2.1,(X27 b a m want).2.2):=by
 unfold X27 at*;unfold X0P;by_cases ha:a=b.length
 ·rw[PI ha] at*;rw[PI (by omega)]
 ·rw[NI ha] at*;rw[NI (by omega),Int.toNat_natCast];simp only at*;split
  ·rfl
  ·rename_i h2;rw[NI h2] at h;simp at h
theorem XwZ (ha:a<=b.length) (h:(X27 b a m want).2.2=0):
  ∃k:Nat,X27 b a m want=((k:Int),(a:Int)+1,0)/\a<b.length/\k<=8/\(k=8->m≠0)/\(want≠0->(k:Int)=want)/\∀gl gp,X0P gl gp m b a want=VI (Vz gl gp b (a+1) k):=by
 unfold X27 at*;by_cases gX:a=b.length
 ·rw[PI gX] at h;simp at h
 rw[NI gX] at*;simp only at*;split at h
 ·simp at h
 rename_i h2;refine⟨_,by rw[NI h2],by omega,by omega,fun h3 h4=>h2 (.inr (.inl ⟨by omega,h4⟩)),fun h3=>Classical.byContradiction fun h4=>h2 (.inr (.inr ⟨h3,h4⟩)),fun gl gp=> ?_⟩;unfold X0P;rw[NI (by omega),Int.toNat_natCast];simp only;rw[NI h2];rfl
theorem Xth (b:List UInt8) (m a:Nat) (want:Int) (gl gp:Nat->Int->Val×Int×Int) (R:Val×Int×Int) (hm:m<=8) (ha:a<b.length) (hb:b.length<=281474976710656)
  (hge:∀i q:Nat,q<=b.length->X1m b (gl i q).2) (hg:∀i q:Nat,q<=b.length->X3C b q (8-m+1) 0 (gl i q))
  (hk:Con prog 369 [(0,oRd b a 0)] [.ptr 0 0,ai (8-m),ai want] [(0,oRd b ((a:Int)+1) 0)] (ai 8)) (hG:R=VI (Vz gl gp b (a+1) 8)):X3C b a (8-m) want R:=by
 refine ZC1 func337 ntmps337 fun E=> ?_
 ·have hc:=Xoi b (a+1) 0 hb
  have dQ:Vz gl gp b (a+1) 8=if X0v 8 (XB b (a+1))≠0 then (.mk 8 0 0 [] [],(XB b (a+1)).2.1,X0v 8 (XB b (a+1))) else
    (.mk 8 0 0 [] (Ua gl (XB b (a+1)).2.1 (XB b (a+1)).1.toNat).1,(Ua gl (XB b (a+1)).2.1 (XB b (a+1)).1.toNat).2.1,(Ua gl (XB b (a+1)).2.1 (XB b (a+1)).1.toNat).2.2):=by
   simp only[Vz,X0v];by_cases e1:(XB b (a+1)).2.2=0
   ·by_cases e2:X2A 8 (XB b (a+1)).1=true<;>simp[e1,e2]
   ·simp[e1]
  have ke:=X6N b (a+1);obtain⟨N,hN⟩:=Xar b (a+1);have l7:X0v 8 (XB b (a+1))=0->(XB b (a+1)).2.2=0/\N<=64:=by
   unfold X0v;rw[hN];split
   ·intro h;contradiction
   ·rename_i h1;split
    ·intro h;simp at h
    ·rename_i h2;refine fun _=>⟨Classical.not_not.1 h1,?_⟩
     simp[X2A] at h2;omega
  generalize X0v 8 (XB b (a+1))=ce at*;generalize XB b (a+1)=u at*;obtain⟨n,a2,e2⟩:=u;simp only at hN;subst hN;simp only[Int.toNat_natCast] at hc dQ ke l7;by_cases hce:ce=0
  case neg=>
   rw[PI hce] at dQ;rw[dQ] at hG;obtain rfl:R=(.mk 8 0 0 [] [],a2,ce):=by rw[hG];simp[VI,hce]
   refine QCa ?_;refine W5_ ?_
   refine Xn (fun _:Unit=>True) (fun _=>⟨135,[(0,.ptr 0 0),(1,ai (8-m)),(2,ai want),(6,.ptr 100 0),(7,.ptr 101 0),(11,ai N),(12,ai 0)],[(0,oRd b a2 ce),(100,.box [ai 0,ai 0,ai 0,.d (.v (.string (X6 []))),aq]),(101,.box [ai 8,ai 0,ai 0,.d (.v (.string (X6 []))),aq])]⟩) (fun _=>0) () trivial
    (Xb rfl ⟨JL,JL,JL,JL,JL,JL,JL,TV⟩ ⟨rfl,rfl,rfl,TV⟩) ?_
   intro _ _;by_cases sW:0<N
   ·refine X0Z ?_;exact QXa
   ·refine X0Z ?_;exact QXa
  subst hce;obtain⟨hJ,hN⟩:=l7 rfl;subst hJ;rw[NI (by simp)] at dQ;rw[dQ] at hG;clear dQ;have jO:=ke rfl;simp only at jO;clear ke;refine QCa ?_;refine W5_ ?_;refine X8 (X2y 101 4 121 5 (cs:=[ai 8,ai 0,ai 0,.d (.v (.string (X6 []))),aq]) rfl rfl rfl rfl rfl) ?_
  refine Xn (fun i:Nat=>i<=N/\(Ua gl a2 i).1.length=i) (fun i=>⟨135,[(0,.ptr 0 0),(1,ai (8-m)),(2,ai want),(6,.ptr 100 0),(7,.ptr 101 0),(11,ai N),(12,ai i)],[(0,oRd b (Ua gl a2 i).2.1 (Ua gl a2 i).2.2),(100,.box [ai 0,ai 0,ai 0,.d (.v (.string (X6 []))),aq]),(101,.box [ai 8,ai 0,ai 0,.d (.v (.string (X6 []))),.own 121 (Ua gl a2 i).1.length]),(121,.row 5 (XX (Ua gl a2 i).1))]⟩) (fun i=>N-i) 0 ⟨by omega,rfl⟩
   (Xb rfl ⟨JL,JL,JL,JL,JL,JL,JL,TV⟩ ⟨rfl,rfl,rfl,rfl,TV⟩) ?_
  intro i hi;obtain⟨hi,hil⟩:=hi;have hlen:=X2e (Ua gl a2 i).1;by_cases bx:(Ua gl a2 i).2.2=0
  case neg=>
   have hst:=X7X bx N hi;rw[hst] at hG;generalize Ua gl a2 i=p at*;obtain⟨l,pa,pe⟩:=p;simp only at bx hil hG hlen hst;clear hst;obtain rfl:R=(.mk 8 0 0 [] l,pa,pe):=by rw[hG];simp[VI,bx]
   refine X8 (XP 121 rfl) ?_;refine X8 (X03 101 4 121 (cs:=[ai 8,ai 0,ai 0,.d (.v (.string (X6 []))),.own 121 l.length]) (sz:=5) (xs:=XX l) rfl rfl rfl hlen.symm) ?_;by_cases l8:i<N
   ·exact QZa
   ·exact QZa
  by_cases l8:i<N
  case neg=>
   obtain rfl:i=N:=by omega
   generalize Ua gl a2 i=p at*;obtain⟨l,pa,pe⟩:=p;simp only at bx hil hG hlen;subst bx;have hval:=X2w (.mk 8 0 0 [] l);simp only[XC] at hval;refine X8 (XP 121 rfl) ?_;refine X8 (X03 101 4 121 (cs:=[ai 8,ai 0,ai 0,.d (.v (.string (X6 []))),.own 121 l.length]) (sz:=5) (xs:=XX l) rfl rfl rfl hlen.symm) ?_;cases hv:Xk 8 (.mk 8 0 0 [] l) with
   |false=>
    rw[hv] at hval;obtain rfl:R=(.mk 8 0 0 [] l,pa,2):=by rw[hG];simp[VI,hv]
    refine Qma ?_;exact QYa
   |true=>
    rw[hv] at hval;obtain rfl:R=(.mk 8 0 0 [] l,pa,0):=by rw[hG];simp[VI,hv]
    exact QZa
  obtain⟨q,b5,bS⟩:=X9v hge jO i bx;have aP:=hg i q bS;unfold X3C at aP;have cD:=X6E bx;have aK:=XnQ bx;rw[b5] at cD;generalize gl i q=r at aP cD;generalize Ua gl a2 i=p at*;obtain⟨l,pa,pe⟩:=p;obtain⟨x,xa,xe⟩:=r;simp only at b5 bx hil cD hlen aP;subst b5 bx;obtain⟨xk,xn,xd,xs,xl⟩:=x;simp only[XC] at aP
  skip
  refine Yq ?_;refine Z3 (af:=aP) ?_;refine XA ?_;refine⟨i+1,⟨by omega,aK⟩,by omega,?_⟩;dsimp only;rw[cD];refine Xb rfl ⟨JL,JL,JL,JL,JL,JL,JL,TV⟩ ⟨rfl,rfl,?_,?_,TV⟩
  ·refine Eq.trans (b:=AObj.box ([ai 8,ai 0,ai 0,.d (.v (.string (X6 []))),.own 121 _])) rfl ?_;congr 6;simp[hlen]
  ·exact CG (AObj.row 5) (XlS l xk xn xd xs xl)
theorem Xvn (b:List UInt8) (m a:Nat) (want:Int) (gl gp:Nat->Int->Val×Int×Int) (R:Val×Int×Int) (hm:m<=8) (ha:a<b.length) (hb:b.length<=281474976710656)
  (hge:∀i q:Nat,q<=b.length->X1m b (gp i q).2) (hg:∀i q:Nat,q<=b.length->X3C b q (8-m) (5+(i%2:Nat)) (gp i q))
  (hk:Con prog 369 [(0,oRd b a 0)] [.ptr 0 0,ai (8-m),ai want] [(0,oRd b ((a:Int)+1) 0)] (ai 7)) (hG:R=VI (Vz gl gp b (a+1) 7)):X3C b a (8-m) want R:=by
 refine ZC1 func337 ntmps337 fun E=> ?_
 ·have hc:=Xs7 b (a+1) 0 hb
  have dQ:Vz gl gp b (a+1) 7=if X0v 7 (XB b (a+1))≠0 then (.mk 7 0 0 [] [],(XB b (a+1)).2.1,X0v 7 (XB b (a+1))) else
    (.mk 7 0 0 [] (Ua gp (XB b (a+1)).2.1 (XB b (a+1)).1.toNat).1,(Ua gp (XB b (a+1)).2.1 (XB b (a+1)).1.toNat).2.1,(Ua gp (XB b (a+1)).2.1 (XB b (a+1)).1.toNat).2.2):=by
   simp only[Vz,X0v];by_cases e1:(XB b (a+1)).2.2=0
   ·by_cases e2:X2A 7 (XB b (a+1)).1=true<;>simp[e1,e2]
   ·simp[e1]
  have ke:=X6N b (a+1);obtain⟨N,hN⟩:=Xar b (a+1);have l7:X0v 7 (XB b (a+1))=0->(XB b (a+1)).2.2=0/\N<=64:=by
   unfold X0v;rw[hN];split
   ·intro h;contradiction
   ·rename_i h1;split
    ·intro h;simp at h
    ·rename_i h2;refine fun _=>⟨Classical.not_not.1 h1,?_⟩
     simp[X2A] at h2;omega
  generalize X0v 7 (XB b (a+1))=ce at*;generalize XB b (a+1)=u at*;obtain⟨n,a2,e2⟩:=u;simp only at hN;subst hN;simp only[Int.toNat_natCast] at hc dQ ke l7;by_cases hce:ce=0
  case neg=>
   rw[PI hce] at dQ;rw[dQ] at hG;obtain rfl:R=(.mk 7 0 0 [] [],a2,ce):=by rw[hG];simp[VI,hce]
   refine QCa ?_;refine XK ?_
   refine Xn (fun _:Unit=>True) (fun _=>⟨135,[(0,.ptr 0 0),(1,ai (8-m)),(2,ai want),(6,.ptr 100 0),(7,.ptr 101 0),(13,ai N),(14,ai 0)],[(0,oRd b a2 ce),(100,.box [ai 0,ai 0,ai 0,.d (.v (.string (X6 []))),aq]),(101,.box [ai 7,ai 0,ai 0,.d (.v (.string (X6 []))),aq])]⟩) (fun _=>0) () trivial
    (Xb rfl ⟨JL,JL,JL,JL,JL,JL,JL,TV⟩ ⟨rfl,rfl,rfl,TV⟩) ?_
   intro _ _;by_cases sW:0<N
   ·refine X0Z ?_;exact Qab
   ·refine X0Z ?_;exact Qab
  subst hce;obtain⟨hJ,hN⟩:=l7 rfl;subst hJ;rw[NI (by simp)] at dQ;rw[dQ] at hG;clear dQ;have jO:=ke rfl;simp only at jO;clear ke;refine QCa ?_;refine XK ?_;refine X8 (X2y 101 4 121 5 (cs:=[ai 7,ai 0,ai 0,.d (.v (.string (X6 []))),aq]) rfl rfl rfl rfl rfl) ?_
  refine Xn (fun i:Nat=>i<=N/\(Ua gp a2 i).1.length=i) (fun i=>⟨135,[(0,.ptr 0 0),(1,ai (8-m)),(2,ai want),(6,.ptr 100 0),(7,.ptr 101 0),(13,ai N),(14,ai i)],[(0,oRd b (Ua gp a2 i).2.1 (Ua gp a2 i).2.2),(100,.box [ai 0,ai 0,ai 0,.d (.v (.string (X6 []))),aq]),(101,.box [ai 7,ai 0,ai 0,.d (.v (.string (X6 []))),.own 121 (Ua gp a2 i).1.length]),(121,.row 5 (XX (Ua gp a2 i).1))]⟩) (fun i=>N-i) 0 ⟨by omega,rfl⟩
   (Xb rfl ⟨JL,JL,JL,JL,JL,JL,JL,TV⟩ ⟨rfl,rfl,rfl,rfl,TV⟩) ?_
  intro i hi;obtain⟨hi,hil⟩:=hi;have hlen:=X2e (Ua gp a2 i).1;by_cases bx:(Ua gp a2 i).2.2=0
  case neg=>
   have hst:=X7X bx N hi;rw[hst] at hG;generalize Ua gp a2 i=p at*;obtain⟨l,pa,pe⟩:=p;simp only at bx hil hG hlen hst;clear hst;obtain rfl:R=(.mk 7 0 0 [] l,pa,pe):=by rw[hG];simp[VI,bx]
   refine X8 (XP 121 rfl) ?_;refine X8 (X03 101 4 121 (cs:=[ai 7,ai 0,ai 0,.d (.v (.string (X6 []))),.own 121 l.length]) (sz:=5) (xs:=XX l) rfl rfl rfl hlen.symm) ?_;by_cases l8:i<N
   ·exact QZa
   ·exact QZa
  by_cases l8:i<N
  case neg=>
   obtain rfl:i=N:=by omega
   generalize Ua gp a2 i=p at*;obtain⟨l,pa,pe⟩:=p;simp only at bx hil hG hlen;subst bx;have hval:=X2w (.mk 7 0 0 [] l);simp only[XC] at hval;refine X8 (XP 121 rfl) ?_;refine X8 (X03 101 4 121 (cs:=[ai 7,ai 0,ai 0,.d (.v (.string (X6 []))),.own 121 l.length]) (sz:=5) (xs:=XX l) rfl rfl rfl hlen.symm) ?_;cases hv:Xk 8 (.mk 7 0 0 [] l) with
   |false=>
    rw[hv] at hval;obtain rfl:R=(.mk 7 0 0 [] l,pa,2):=by rw[hG];simp[VI,hv]
    refine Qma ?_;exact QYa
   |true=>
    rw[hv] at hval;obtain rfl:R=(.mk 7 0 0 [] l,pa,0):=by rw[hG];simp[VI,hv]
    exact QZa
  obtain⟨q,b5,bS⟩:=X9v hge jO i bx;have aP:=hg i q bS;unfold X3C at aP;have cD:=X6E bx;have aK:=XnQ bx;rw[b5] at cD;generalize gp i q=r at aP cD;generalize Ua gp a2 i=p at*;obtain⟨l,pa,pe⟩:=p;obtain⟨x,xa,xe⟩:=r;simp only at b5 bx hil cD hlen aP;subst b5 bx;obtain⟨xk,xn,xd,xs,xl⟩:=x;simp only[XC] at aP;have hi2:((i:Int)%2)=((i%2:Nat):Int):=by omega
  refine Yq ?_;refine Z9 (op:= .rem) (r':= .int .i64 ((i%2:Nat):Int)) (u:= .int .i64 i) (v:= .int .i64 2) ?_ (hr':=by exact CG (Value.int .i64) hi2);refine W1_ ?_;refine Z3 (af:=aP) ?_;refine XA ?_;refine⟨i+1,⟨by omega,aK⟩,by omega,?_⟩;dsimp only;rw[cD];refine Xb rfl ⟨JL,JL,JL,JL,JL,JL,JL,TV⟩ ⟨rfl,rfl,?_,?_,TV⟩
  ·refine Eq.trans (b:=AObj.box ([ai 7,ai 0,ai 0,.d (.v (.string (X6 []))),.own 121 _])) rfl ?_;congr 6;simp[hlen]
  ·exact CG (AObj.row 5) (XlS l xk xn xd xs xl)
end Go.Fw

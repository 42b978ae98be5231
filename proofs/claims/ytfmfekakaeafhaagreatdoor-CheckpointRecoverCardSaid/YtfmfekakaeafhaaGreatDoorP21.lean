/- Reading values: value. -/
import Derived.Test.YtfmfekakaeafhaaGreatDoorP18
import Derived.Test.YtfmfekakaeafhaaGreatDoorP20
set_option linter.all false
set_option maxHeartbeats 16000000
namespace Go.Fw
open Go Go.Proofs Tryz List
open List renaming length->J
set_option maxRecDepth 100000
def X42 (b:List UInt8) (a:Nat) (nest want:Int) (r:Val×Int×Int):Prop:=
 Con prog 306 [(0,oRd b a 0)] [.ptr 0 0,ai nest,ai want] [(0,oRd b r.2.1 r.2.2)] (Xt r.1)
def VO (c:Val×Int×Int):Val×Int×Int:=if c.2.2=0/\Xj 8 c.1=false then (c.1,c.2.1,2) else c
def XcK (l:List Val) (k n d:Int) (s:List UInt8) (q:List Val):XR l++[[.v (.int .i64 k),.v (.int .i64 n),.v (.int .i64 d),.v (.string (X7 s)),.sl 5 (XR q)]]=XR (l++[.mk k n d s q]):=by
 rw[X8h l,X8h (l++_),map_append,map_cons,map_nil,UB]
variable{a m:Nat}{b:List UInt8}{want:Int}
def Xtf (h:(X2o b a m want).2.2≠0) (gl gp:Nat->Int->Val×Int×Int):X0K gl gp m b a want=(zV,(X2o b a m want).2.1,(X2o b a m want).2.2):=by
 unfold X2o at*;unfold X0K;by_cases ha:a=J b
 ·rw[PI ha] at*;rw[PI Oa]
 ·rw[NI ha] at*;rw[NI Oa,Int.toNat_natCast];simp only at*;split
  ·rfl
  ·rename_i h2;rw[NI h2] at h;simp at h
def Xqk (ha:a<=J b) (h:(X2o b a m want).2.2=0):
  ∃k:Nat,X2o b a m want=((k:Int),(a:Int)+1,0)/\a<J b/\k<=8/\(k=8->m≠0)/\(want≠0->(k:Int)=want)/\∀gl gp,X0K gl gp m b a want=VO (Ut gl gp b (a+1) k):=by
 unfold X2o at*;by_cases gJ:a=J b
 ·rw[PI gJ] at h;simp at h
 rw[NI gJ] at*;simp only at*;split at h
 ·simp at h
 rename_i h2;refine⟨_,by rw[NI h2],Oa,Oa,fun h3 h4=>h2 (.inr (.inl ⟨Oa,h4⟩)),fun h3=>Classical.byContradiction fun h4=>h2 (.inr (.inr ⟨h3,h4⟩)),fun gl gp=> ?_⟩;unfold X0K;rw[NI Oa,Int.toNat_natCast];simp only;rw[NI h2];rfl
def XrQ (b:List UInt8) (m a:Nat) (want:Int) (gl gp:Nat->Int->Val×Int×Int) (R:Val×Int×Int) (hm:m<=8) (ha:a<J b) (hb:J b<=281474976710656)
  (hge:∀i q:Nat,q<=J b->X18 b (gl i q).2) (hg:∀i q:Nat,q<=J b->X42 b q (8-m+1) 0 (gl i q))
  (hk:Con prog 348 [(0,oRd b a 0)] [.ptr 0 0,ai (8-m),ai want] [(0,oRd b ((a:Int)+1) 0)] (ai 8)) (hG:R=VO (Ut gl gp b (a+1) 8)):X42 b a (8-m) want R:=by
 refine ZC1 func306 ntmps306 fun E=> ?_
 ·have hc:=XvK b (a+1) 0 hb
  have fI:Ut gl gp b (a+1) 8=if X0M 8 (Xd b (a+1))≠0 then (.mk 8 0 0 [] [],(Xd b (a+1)).2.1,X0M 8 (Xd b (a+1))) else
    (.mk 8 0 0 [] (Yn gl (Xd b (a+1)).2.1 (Xd b (a+1)).1.toNat).1,(Yn gl (Xd b (a+1)).2.1 (Xd b (a+1)).1.toNat).2.1,(Yn gl (Xd b (a+1)).2.1 (Xd b (a+1)).1.toNat).2.2):=by
   simp only[Ut,X0M];by_cases e1:(Xd b (a+1)).2.2=0
   ·by_cases e2:X0P 8 (Xd b (a+1)).1=true<;>simp[e1,e2]
   ·simp[e1]
  have fO:=X4Y b (a+1);obtain⟨N,hN⟩:=X91 b (a+1);have lJ:X0M 8 (Xd b (a+1))=0->(Xd b (a+1)).2.2=0/\N<=64:=by
   exact Yt41
  generalize X0M 8 (Xd b (a+1))=ce at*;generalize Xd b (a+1)=u at*;obtain⟨n,a2,e2⟩:=u;simp only at hN;subst hN;simp only[Int.toNat_natCast] at hc fI fO lJ;by_cases hce:ce=0
  case neg=>
   rw[PI hce] at fI;rw[fI] at hG;obtain rfl:R=(.mk 8 0 0 [] [],a2,ce):=by rw[hG];simp[VO,hce]
   refine QYa ?_;refine W5_ ?_
   refine Xl (fun _:Unit=>True) (fun _=>⟨135,[(0,.ptr 0 0),(1,ai (8-m)),(2,ai want),(6,.ptr 100 0),(7,.ptr 101 0),(11,ai N),(12,ai 0)],[(0,oRd b a2 ce),(100,.box [ai 0,ai 0,ai 0,.d (.v (.string (X7 []))),aq]),(101,.box [ai 8,ai 0,ai 0,.d (.v (.string (X7 []))),aq])]⟩) (fun _=>0) () trivial
    (X9 rfl ⟨JL,JL,JL,JL,JL,JL,JL,TV⟩ ⟨rfl,rfl,rfl,TV⟩) ?_
   intro _ _;by_cases tO:0<N
   ·refine X17 ?_;exact QIb
   ·refine X17 ?_;exact QIb
  subst hce;obtain⟨dH,hN⟩:=lJ rfl;subst dH;rw[NI Oc] at fI;rw[fI] at hG;clear fI;have gx:=fO rfl;simp only at gx;clear fO;refine QYa ?_;refine W5_ ?_;refine X8 (X1Y 101 4 121 5 (cs:=[ai 8,ai 0,ai 0,.d (.v (.string (X7 []))),aq]) rfl rfl rfl rfl rfl) ?_
  refine Xl (fun i:Nat=>i<=N/\J (Yn gl a2 i).1=i) (fun i=>⟨135,[(0,.ptr 0 0),(1,ai (8-m)),(2,ai want),(6,.ptr 100 0),(7,.ptr 101 0),(11,ai N),(12,ai i)],[(0,oRd b (Yn gl a2 i).2.1 (Yn gl a2 i).2.2),(100,.box [ai 0,ai 0,ai 0,.d (.v (.string (X7 []))),aq]),(101,.box [ai 8,ai 0,ai 0,.d (.v (.string (X7 []))),.own 121 (J (Yn gl a2 i).1)]),(121,.row 5 (XR (Yn gl a2 i).1))]⟩) (fun i=>N-i) 0 ⟨Oa,rfl⟩
   (X9 rfl ⟨JL,JL,JL,JL,JL,JL,JL,TV⟩ ⟨rfl,rfl,rfl,rfl,TV⟩) ?_
  intro i hi;obtain⟨hi,hil⟩:=hi;have hlen:=X1M (Yn gl a2 i).1;by_cases aR:(Yn gl a2 i).2.2=0
  case neg=>
   have hst:=X5m aR N hi;rw[hst] at hG;generalize Yn gl a2 i=p at*;obtain⟨l,pa,pe⟩:=p;simp only at aR hil hG hlen hst;clear hst;obtain rfl:R=(.mk 8 0 0 [] l,pa,pe):=by rw[hG];simp[VO,aR]
   refine QJb ?_;by_cases jH:i<N
   ·exact QLb
   ·exact QLb
  by_cases jH:i<N
  case neg=>
   obtain rfl:i=N:=Oa
   generalize Yn gl a2 i=p at*;obtain⟨l,pa,pe⟩:=p;simp only at aR hil hG hlen;subst aR;have hval:=X2B (.mk 8 0 0 [] l);simp only[Xt] at hval;refine QJb ?_;cases hv:Xj 8 (.mk 8 0 0 [] l) with
   |false=>
    rw[hv] at hval;obtain rfl:R=(.mk 8 0 0 [] l,pa,2):=OA
    refine QW ?_;exact QKb
   |true=>
    rw[hv] at hval;obtain rfl:R=(.mk 8 0 0 [] l,pa,0):=OA
    exact QLb
  obtain⟨q,aN,bJ⟩:=X71 hge gx i aR;have aA:=hg i q bJ;unfold X42 at aA;have aF:=X4p aR;have aL:=Xbz aR;rw[aN] at aF;generalize gl i q=r at aA aF;generalize Yn gl a2 i=p at*;obtain⟨l,pa,pe⟩:=p;obtain⟨x,xa,xe⟩:=r;simp only at aN aR hil aF hlen aA;subst aN aR;obtain⟨xk,xn,xd,xs,xl⟩:=x;simp only[Xt] at aA
  skip
  refine UR ?_;refine⟨i+1,⟨Oa,aL⟩,Oa,?_⟩;dsimp only;rw[aF];refine X9 rfl ⟨JL,JL,JL,JL,JL,JL,JL,TV⟩ ⟨rfl,rfl,?_,?_,TV⟩
  ·refine Eq.trans (b:=AObj.box ([ai 8,ai 0,ai 0,.d (.v (.string (X7 []))),.own 121 _])) rfl ?_;congr 6;simp[hlen]
  ·exact QMb
def XyC (b:List UInt8) (m a:Nat) (want:Int) (gl gp:Nat->Int->Val×Int×Int) (R:Val×Int×Int) (hm:m<=8) (ha:a<J b) (hb:J b<=281474976710656)
  (hge:∀i q:Nat,q<=J b->X18 b (gp i q).2) (hg:∀i q:Nat,q<=J b->X42 b q (8-m) (5+(i%2:Nat)) (gp i q))
  (hk:Con prog 348 [(0,oRd b a 0)] [.ptr 0 0,ai (8-m),ai want] [(0,oRd b ((a:Int)+1) 0)] (ai 7)) (hG:R=VO (Ut gl gp b (a+1) 7)):X42 b a (8-m) want R:=by
 refine ZC1 func306 ntmps306 fun E=> ?_
 ·have hc:=Xxh b (a+1) 0 hb
  have fI:Ut gl gp b (a+1) 7=if X0M 7 (Xd b (a+1))≠0 then (.mk 7 0 0 [] [],(Xd b (a+1)).2.1,X0M 7 (Xd b (a+1))) else
    (.mk 7 0 0 [] (Yn gp (Xd b (a+1)).2.1 (Xd b (a+1)).1.toNat).1,(Yn gp (Xd b (a+1)).2.1 (Xd b (a+1)).1.toNat).2.1,(Yn gp (Xd b (a+1)).2.1 (Xd b (a+1)).1.toNat).2.2):=by
   simp only[Ut,X0M];by_cases e1:(Xd b (a+1)).2.2=0
   ·by_cases e2:X0P 7 (Xd b (a+1)).1=true<;>simp[e1,e2]
   ·simp[e1]
  have fO:=X4Y b (a+1);obtain⟨N,hN⟩:=X91 b (a+1);have lJ:X0M 7 (Xd b (a+1))=0->(Xd b (a+1)).2.2=0/\N<=64:=by
   exact Yt41
  generalize X0M 7 (Xd b (a+1))=ce at*;generalize Xd b (a+1)=u at*;obtain⟨n,a2,e2⟩:=u;simp only at hN;subst hN;simp only[Int.toNat_natCast] at hc fI fO lJ;by_cases hce:ce=0
  case neg=>
   rw[PI hce] at fI;rw[fI] at hG;obtain rfl:R=(.mk 7 0 0 [] [],a2,ce):=by rw[hG];simp[VO,hce]
   refine QYa ?_;refine XB ?_
   refine Xl (fun _:Unit=>True) (fun _=>⟨135,[(0,.ptr 0 0),(1,ai (8-m)),(2,ai want),(6,.ptr 100 0),(7,.ptr 101 0),(13,ai N),(14,ai 0)],[(0,oRd b a2 ce),(100,.box [ai 0,ai 0,ai 0,.d (.v (.string (X7 []))),aq]),(101,.box [ai 7,ai 0,ai 0,.d (.v (.string (X7 []))),aq])]⟩) (fun _=>0) () trivial
    (X9 rfl ⟨JL,JL,JL,JL,JL,JL,JL,TV⟩ ⟨rfl,rfl,rfl,TV⟩) ?_
   intro _ _;by_cases tO:0<N
   ·refine X17 ?_;exact QNb
   ·refine X17 ?_;exact QNb
  subst hce;obtain⟨dH,hN⟩:=lJ rfl;subst dH;rw[NI Oc] at fI;rw[fI] at hG;clear fI;have gx:=fO rfl;simp only at gx;clear fO;refine QYa ?_;refine XB ?_;refine X8 (X1Y 101 4 121 5 (cs:=[ai 7,ai 0,ai 0,.d (.v (.string (X7 []))),aq]) rfl rfl rfl rfl rfl) ?_
  refine Xl (fun i:Nat=>i<=N/\J (Yn gp a2 i).1=i) (fun i=>⟨135,[(0,.ptr 0 0),(1,ai (8-m)),(2,ai want),(6,.ptr 100 0),(7,.ptr 101 0),(13,ai N),(14,ai i)],[(0,oRd b (Yn gp a2 i).2.1 (Yn gp a2 i).2.2),(100,.box [ai 0,ai 0,ai 0,.d (.v (.string (X7 []))),aq]),(101,.box [ai 7,ai 0,ai 0,.d (.v (.string (X7 []))),.own 121 (J (Yn gp a2 i).1)]),(121,.row 5 (XR (Yn gp a2 i).1))]⟩) (fun i=>N-i) 0 ⟨Oa,rfl⟩
   (X9 rfl ⟨JL,JL,JL,JL,JL,JL,JL,TV⟩ ⟨rfl,rfl,rfl,rfl,TV⟩) ?_
  intro i hi;obtain⟨hi,hil⟩:=hi;have hlen:=X1M (Yn gp a2 i).1;by_cases aR:(Yn gp a2 i).2.2=0
  case neg=>
   have hst:=X5m aR N hi;rw[hst] at hG;generalize Yn gp a2 i=p at*;obtain⟨l,pa,pe⟩:=p;simp only at aR hil hG hlen hst;clear hst;obtain rfl:R=(.mk 7 0 0 [] l,pa,pe):=by rw[hG];simp[VO,aR]
   refine QOb ?_;by_cases jH:i<N
   ·exact QLb
   ·exact QLb
  by_cases jH:i<N
  case neg=>
   obtain rfl:i=N:=Oa
   generalize Yn gp a2 i=p at*;obtain⟨l,pa,pe⟩:=p;simp only at aR hil hG hlen;subst aR;have hval:=X2B (.mk 7 0 0 [] l);simp only[Xt] at hval;refine QOb ?_;cases hv:Xj 8 (.mk 7 0 0 [] l) with
   |false=>
    rw[hv] at hval;obtain rfl:R=(.mk 7 0 0 [] l,pa,2):=OA
    refine QW ?_;exact QKb
   |true=>
    rw[hv] at hval;obtain rfl:R=(.mk 7 0 0 [] l,pa,0):=OA
    exact QLb
  obtain⟨q,aN,bJ⟩:=X71 hge gx i aR;have aA:=hg i q bJ;unfold X42 at aA;have aF:=X4p aR;have aL:=Xbz aR;rw[aN] at aF;generalize gp i q=r at aA aF;generalize Yn gp a2 i=p at*;obtain⟨l,pa,pe⟩:=p;obtain⟨x,xa,xe⟩:=r;simp only at aN aR hil aF hlen aA;subst aN aR;obtain⟨xk,xn,xd,xs,xl⟩:=x;simp only[Xt] at aA;have hi2:((i:Int)%2)=((i%2:Nat):Int):=Oa
  refine YA ?_;refine Zb (op:= .rem) (r':= .int .i64 ((i%2:Nat):Int)) (u:= .int .i64 i) (v:= .int .i64 2) ?_ (hr':=by exact CG (Value.int .i64) hi2);refine XG ?_;refine⟨i+1,⟨Oa,aL⟩,Oa,?_⟩;dsimp only;rw[aF];refine X9 rfl ⟨JL,JL,JL,JL,JL,JL,JL,TV⟩ ⟨rfl,rfl,?_,?_,TV⟩
  ·refine Eq.trans (b:=AObj.box ([ai 7,ai 0,ai 0,.d (.v (.string (X7 []))),.own 121 _])) rfl ?_;congr 6;simp[hlen]
  ·exact QMb
def XeP (b:List UInt8) (m a:Nat) (want:Int) (gl gp:Nat->Int->Val×Int×Int) (hm:m<=8) (ha:a<=J b) (hb:J b<=281474976710656)
  (eN:∀i q:Nat,q<=J b->X18 b (gl i q).2) (dN:∀i q:Nat,q<=J b->X18 b (gp i q).2)
  (hl:want=0->m≠0->∀i q:Nat,q<=J b->X42 b q (8-m+1) 0 (gl i q)) (hp:want=0->∀i q:Nat,q<=J b->X42 b q (8-m) (5+(i%2:Nat)) (gp i q)) (hw:want≠0->want=5\/want=6):
  X42 b a (8-m) want (X0K gl gp m b a want):=by
 have hk:=Xrb b a m want hm ha hb;by_cases fX:(X2o b a m want).2.2=0
 case neg=>
  rw[Xtf fX];refine ZC1 func306 ntmps306 fun E=> ?_;generalize X2o b a m want=u at*;refine YG ?_;exact QPb
 obtain⟨k,hkk,hlt,gw,hkm,nH,hG⟩:=Xqk ha fX;rw[hkk] at hk;clear fX hkk;replace hG:=hG gl gp;generalize hR:X0K gl gp m b a want=R at*;simp only at hk;by_cases h8:k=8
 ·subst h8;have hw0:want=0:=Classical.byContradiction fun h=>by
   have h1:=nH h;rcases hw h with h2|h2<;>omega
  exact XrQ b m a want gl gp R hm hlt hb eN (hl hw0 (hkm rfl)) hk hG
 by_cases h7:k=7
 ·subst h7;have hw0:want=0:=Classical.byContradiction fun h=>by
   have h1:=nH h;rcases hw h with h2|h2<;>omega
  exact XyC b m a want gl gp R hm hlt hb dN (hp hw0) hk hG
 refine ZC1 func306 ntmps306 fun E=> ?_;by_cases h0:k=0
 ·subst h0;rw[show ((0:Nat):Int)=0 from rfl] at hk hG;rw[show Ut gl gp b (a+1) 0=(.mk 0 0 0 [] [],(a:Int)+1,0) by simp[Ut]] at hG;have hval:=X2B (.mk 0 0 0 [] []);simp only[Xt] at hval;have hv:Xj 8 (.mk 0 0 0 [] [])=true:=by rw[Xj];simp
  rw[hv] at hval;obtain rfl:R=(.mk 0 0 0 [] [],(a:Int)+1,0):=OA
  refine QYa ?_;refine YJ ?_;exact QPb
 by_cases h1:k=1
 ·subst h1;rw[show ((1:Nat):Int)=1 from rfl] at hk hG;have hn:=X7T b (a+1) 0 hb;rw[PI rfl,PI rfl] at hn;rw[show Ut gl gp b (a+1) 1=(.mk 1 (Y9 b (a+1)).1 0 [] [],(Y9 b (a+1)).2.1,(Y9 b (a+1)).2.2) by simp[Ut]] at hG;generalize Y9 b (a+1)=u at*;obtain⟨n,a2,e2⟩:=u;simp only at hn hG;by_cases he:e2=0
  ·subst he;have hval:=X2B (.mk 1 n 0 [] []);simp only[Xt] at hval;cases hv:Xj 8 (.mk 1 n 0 [] []) with
   |false=>
    rw[hv] at hval;obtain rfl:R=((.mk 1 n 0 [] []),a2,2):=OA
    refine Qua ?_;refine QQb ?_;refine YG ?_;exact QRb
   |true=>
    rw[hv] at hval;obtain rfl:R=((.mk 1 n 0 [] []),a2,0):=OA
    refine Qua ?_;refine QSb ?_;exact QRb
  ·obtain rfl:R=((.mk 1 n 0 [] []),a2,e2):=by rw[hG];simp[VO,he]
   refine Qua ?_;refine QSb ?_;exact QRb
 by_cases h2:k=2
 ·subst h2;rw[show ((2:Nat):Int)=2 from rfl] at hk hG;have hn:=X7T b (a+1) 0 hb;rw[PI rfl,PI rfl] at hn;rw[show Ut gl gp b (a+1) 2=(.mk 2 (Y9 b (a+1)).1 0 [] [],(Y9 b (a+1)).2.1,(Y9 b (a+1)).2.2) by simp[Ut]] at hG;generalize Y9 b (a+1)=u at*;obtain⟨n,a2,e2⟩:=u;simp only at hn hG;by_cases he:e2=0
  ·subst he;have hval:=X2B (.mk 2 n 0 [] []);simp only[Xt] at hval;cases hv:Xj 8 (.mk 2 n 0 [] []) with
   |false=>
    rw[hv] at hval;obtain rfl:R=((.mk 2 n 0 [] []),a2,2):=OA
    refine QHa ?_;refine QQb ?_;refine YG ?_;exact QTb
   |true=>
    rw[hv] at hval;obtain rfl:R=((.mk 2 n 0 [] []),a2,0):=OA
    refine QHa ?_;refine QSb ?_;exact QTb
  ·obtain rfl:R=((.mk 2 n 0 [] []),a2,e2):=by rw[hG];simp[VO,he]
   refine QHa ?_;refine QSb ?_;exact QTb
 by_cases h5:k=5
 ·subst h5;rw[show ((5:Nat):Int)=5 from rfl] at hk hG;have hn:=X7T b (a+1) 0 hb;rw[PI rfl,PI rfl] at hn;rw[show Ut gl gp b (a+1) 5=(.mk 5 (Y9 b (a+1)).1 0 [] [],(Y9 b (a+1)).2.1,(Y9 b (a+1)).2.2) by simp[Ut]] at hG;generalize Y9 b (a+1)=u at*;obtain⟨n,a2,e2⟩:=u;simp only at hn hG;by_cases he:e2=0
  ·subst he;have hval:=X2B (.mk 5 n 0 [] []);simp only[Xt] at hval;cases hv:Xj 8 (.mk 5 n 0 [] []) with
   |false=>
    rw[hv] at hval;obtain rfl:R=((.mk 5 n 0 [] []),a2,2):=OA
    refine QWa ?_;refine QQb ?_;refine YG ?_;exact QUb
   |true=>
    rw[hv] at hval;obtain rfl:R=((.mk 5 n 0 [] []),a2,0):=OA
    refine QWa ?_;refine QSb ?_;exact QUb
  ·obtain rfl:R=((.mk 5 n 0 [] []),a2,e2):=by rw[hG];simp[VO,he]
   refine QWa ?_;refine QSb ?_;exact QUb
 by_cases h6:k=6
 ·subst h6;rw[show ((6:Nat):Int)=6 from rfl] at hk hG;have hn:=X7T b (a+1) 0 hb;rw[PI rfl,PI rfl] at hn;rw[show Ut gl gp b (a+1) 6=(.mk 6 (Y9 b (a+1)).1 0 [] [],(Y9 b (a+1)).2.1,(Y9 b (a+1)).2.2) by simp[Ut]] at hG;generalize Y9 b (a+1)=u at*;obtain⟨n,a2,e2⟩:=u;simp only at hn hG;by_cases he:e2=0
  ·subst he;have hval:=X2B (.mk 6 n 0 [] []);simp only[Xt] at hval;cases hv:Xj 8 (.mk 6 n 0 [] []) with
   |false=>
    rw[hv] at hval;obtain rfl:R=((.mk 6 n 0 [] []),a2,2):=OA
    refine X4 ?_;refine Yh ?_;refine QQb ?_;refine YG ?_;exact QVb
   |true=>
    rw[hv] at hval;obtain rfl:R=((.mk 6 n 0 [] []),a2,0):=OA
    refine X4 ?_;refine Yh ?_;refine QSb ?_;exact QVb
  ·obtain rfl:R=((.mk 6 n 0 [] []),a2,e2):=by rw[hG];simp[VO,he]
   refine X4 ?_;refine Yh ?_;refine QSb ?_;exact QVb
 by_cases h3:k=3
 ·subst h3;rw[show ((3:Nat):Int)=3 from rfl] at hk hG;have hn:=X7T b (a+1) 0 hb;rw[PI rfl,PI rfl] at hn;have hz:= @XwX b (a+1);have hc:Ut gl gp b (a+1) 3=if (Y9 b (a+1)).2.2≠0 then (.mk 3 0 0 [] [],(Y9 b (a+1)).2.1,(Y9 b (a+1)).2.2) else (.mk 3 (Y9 b (a+1)).1 (Y9 b (Y9 b (a+1)).2.1).1 [] [],(Y9 b (Y9 b (a+1)).2.1).2.1,(Y9 b (Y9 b (a+1)).2.1).2.2):=by simp[Ut]
  generalize Y9 b (a+1)=u at*;obtain⟨n,a2,e2⟩:=u;simp only at hn hz hc;have hn2:=X7T b a2 e2 hb;by_cases dH:e2=0
  ·subst dH;rw[PI rfl,PI rfl] at hn2;rw[NI Oc] at hc;rw[hc] at hG;generalize Y9 b a2=u at*;obtain⟨d,a3,e3⟩:=u;simp only at hn2 hG;by_cases he:e3=0
   ·subst he;have hval:=X2B (.mk 3 n d [] []);simp only[Xt] at hval;cases hv:Xj 8 (.mk 3 n d [] []) with
    |false=>
     rw[hv] at hval;obtain rfl:R=((.mk 3 n d [] []),a3,2):=OA
     refine Qna ?_;refine QQb ?_;refine W5_ ?_;refine Z5 (ag:=hn2) ?_;refine YG ?_;exact QWb
    |true=>
     rw[hv] at hval;obtain rfl:R=((.mk 3 n d [] []),a3,0):=OA
     refine QXb ?_;exact QWb
   ·obtain rfl:R=((.mk 3 n d [] []),a3,e3):=by rw[hG];simp[VO,he]
    refine QXb ?_;exact QWb
  ·rw[NI dH,NI dH] at hn2;rw[PI dH] at hc;rw[hc] at hG;obtain rfl:=hz dH;obtain rfl:R=(.mk 3 0 0 [] [],a2,e2):=by rw[hG];simp[VO,dH]
   refine QXb ?_;exact X3 ⟨_,Xg 100 (cs:=[ai 3,ai 0,ai 0,.d (.v (.string (X7 []))),aq]) (cs':=[ai 3,ai 0,ai 0,.d (.v (.string (X7 []))),.d (.sl 5 [])]) rfl ⟨ZzV,ZzV,ZzV,ZzV,AVal.le_nil 5,TV⟩ rfl,⟨⟨100,0,_,rfl,rfl,.inr ⟨5,_,rfl,rfl,rfl,rfl⟩⟩,TV⟩,Xm ⟨rfl,TV⟩⟩
 by_cases h4:k=4
 ·subst h4;rw[show ((4:Nat):Int)=4 from rfl] at hk hG;have hn:=XiB b (a+1) 100 hb;rw[show Ut gl gp b (a+1) 4=(.mk 4 0 0 (VZ b (a+1) 100).1 [],(VZ b (a+1) 100).2.1,(VZ b (a+1) 100).2.2) by simp[Ut]] at hG;generalize VZ b (a+1) 100=u at*;obtain⟨s,a2,e2⟩:=u;simp only at hn hG;by_cases he:e2=0
  ·subst he;have hval:=X2B (.mk 4 0 0 s []);simp only[Xt] at hval;cases hv:Xj 8 (.mk 4 0 0 s []) with
   |false=>
    rw[hv] at hval;obtain rfl:R=((.mk 4 0 0 s []),a2,2):=OA
    refine X4 ?_;refine X1B ?_;refine QQb ?_;refine QHa ?_;exact QYb
   |true=>
    rw[hv] at hval;obtain rfl:R=((.mk 4 0 0 s []),a2,0):=OA
    refine X4 ?_;refine X1B ?_;refine QQb ?_;refine Qka ?_;exact QYb
  ·obtain rfl:R=((.mk 4 0 0 s []),a2,e2):=by rw[hG];simp[VO,he]
   refine X4 ?_;refine X1B ?_;refine QQb ?_;refine Qka ?_;exact QYb
 omega
def XhJ (b:List UInt8) (a m:Nat) (want:Int) (hw:want=5\/want=6) (gl gp:Nat->Int->Val×Int×Int):X0K gl gp m b a want=X8l b a want:=by
 unfold X8l X0K;split
 ·rfl
 simp only;have hc:∀gl gp gl' gp' (k:Int),(k=5\/k=6)->Ut gl gp b (a+1) k=Ut gl' gp' b (a+1) k:=by
  intro _ _ _ _ k hk;unfold Ut;rw[PI Oa,PI Oa]
 by_cases h:((((b[(a:Int).toNat]?).getD 0).toNat:Nat):Int)=want
 ·rw[if_neg (c:=8<_\/_) Oa,if_neg (c:=8<_\/_) Oa,hc gl gp noG noG _ Oa]
 ·rw[PI Oa,PI Oa]
def Xjr (b:List UInt8) (a m:Nat) (want:Int) (hm:m<=8) (ha:a<=J b) (hb:J b<=281474976710656) (hw:want=5\/want=6):X42 b a (8-m) want (X8l b a want):=by
 rw[<-XhJ b a m want hw noG noG];exact XeP b m a want noG noG hm ha hb (fun i q _=>X8v i q) (fun i q _=>X8v i q) Oa Oa Oa
def Xmt (b:List UInt8) (hb:J b<=281474976710656):∀(m a:Nat),m<=8->a<=J b->X42 b a (8-m) 0 (X25 b m a)
 |0,a,hm,ha=>by
  rw[X5a];exact XeP b 0 a 0 (X3L b 0) (X1d b) hm ha hb (fun i q _=>X8v i q) (fun i q h=>X92 i q h) (fun _ h=>absurd rfl h) (fun _ i q h=>Xjr b q 0 _ hm h hb Oa) (fun h=>absurd rfl h)
 |m+1,a,hm,ha=>by
  rw[X5a];refine XeP b (m+1) a 0 (X3L b (m+1)) (X1d b) hm ha hb (fun i q h=>XdT m q h) (fun i q h=>X92 i q h) (fun _ _ i q h=> ?_) (fun _ i q h=>Xjr b q (m+1) _ hm h hb Oa) (fun h=>absurd rfl h);have:=Xmt b hb m q Oa h;rw[show (8:Int)-((m+1:Nat):Int)+1=8-(m:Int) by omega];exact this
def XqX (b:List UInt8) (hb:J b<=281474976710656) (a:Nat) (ha:a<=J b) (r:Val×Int×Int) (hr:X25 b 8 a=r):
  Con prog 306 [(101,oRd b a 0)] [.ptr 101 0,ai 0,ai 0] [(101,oRd b r.2.1 r.2.2)] (Xt r.1):=by
 have h:=YU 0 101 (Xmt b hb 8 a Oa ha);rw[hr] at h;obtain⟨⟨k,n,d,s,l⟩,x,y⟩:=r;exact h
def Xz2 (b:List UInt8) (hb:J b<=281474976710656) (a:Int):Con prog 260 [] [.d (Xc b),ai a] [] (.tup [Xt (X03 b a).1,ai (X03 b a).2.1,ai (X03 b a).2.2]):=by
 refine ZCt func260 ntmps260 fun E=> ?_;by_cases h1:a<0
 ·rw[show X03 b a=(zV,0,1) by unfold X03;rw[PI (.inl h1)]];exact Qac
 by_cases h2:(J b:Int)<a
 ·rw[show X03 b a=(zV,0,1) by unfold X03;rw[PI (.inr h2)]];exact Qac
 obtain⟨q,rfl⟩:∃q:Nat,a=q:=⟨a.toNat,Oa⟩
 have hq:q<=J b:=Oa
 have hv:X03 b q=if (X25 b 8 q).2.2≠0 then (zV,0,(X25 b 8 q).2.2) else X25 b 8 q:=by unfold X03;rw[NI Oa]
 have ag:=XqX b hb q hq _ rfl;rw[hv];clear hv;generalize X25 b 8 q=r at*;obtain⟨⟨k,n,d,s,l⟩,x,y⟩:=r;simp only[Xt] at ag;by_cases h3:y=0
 ·subst h3;rw[NI Oc];refine Qab ?_;exact Qbc
 ·rw[PI h3];refine X4 ?_;refine Yr ?_;exact QZb
def X5J (d:ak):Con prog 46 [] [XY d] [] (ab (UF d)):=by
 obtain⟨secs,af,on⟩:=d;refine ZC1 func46 ntmps46 fun E=> ?_;by_cases hok:1<=J secs/\J secs<=4096/\(on=true\/J af=0)
 case neg=>
  have hv:UF ⟨secs,af,on⟩=false:=O4
  rw[hv];by_cases h1:J secs<1
  ·refine Us ?_;refine Qu ?_;exact QE
  by_cases h2:4096<J secs
  ·refine Us ?_;refine Qu ?_;exact QE
  have h3:0<J af:=by
   exact Yt72
  cases on with
  |true=>exact(hok ⟨Oa,Oa,.inl rfl⟩).elim
  |false=>
   refine UR ?_;exact Zr0
 obtain⟨k1,k2,k3⟩:=hok;refine Xor 0 1 rfl rfl (fun cU=> ?_);simp only[LM] at cU;refine X7Y ?_;refine W3_ ?_;refine JD ?_;refine Xk4 ⟨70,[(1,.ptr 100 0)],[(100,.box [.d (XS secs),.d (XW af),ab on])]⟩ ?_ ?_
 ·cases on with
  |true=>
   exact Qy
  |false=>
   have k4:J af=0:=by simpa using k3
   exact Qy
 refine W6_ ?_
 refine Xl (fun k:Nat=>k<=J secs/\∀(i:Nat) s,i<k->secs[i]? =some s->J s=64) (fun k=>⟨70,[(1,.ptr 100 0),(3,ai k)],[(100,.box [.d (XS secs),.d (XW af),ab on])]⟩) (fun k=>J secs-k) 0 ⟨Oa,Oa⟩
  (X9 rfl ⟨JL,JL,TV⟩ ⟨rfl,TV⟩) ?_
 rintro k ⟨hk,hp⟩;by_cases hlt:k<J secs
 ·obtain⟨s,hs⟩:=Xn (l:=secs) (k:=k) Oa;by_cases h3:J s≠64
  ·have hv:=Xol (af:=af) (on:=on) hs h3;rw[hv];refine U7 ?_;exact Zr0
  ·have h3:J s=64:=by simpa using h3
   refine UI ?_;refine⟨k+1,⟨Oa,fun i t hi ht=> ?_⟩,Oa,X9 rfl ⟨JL,JL,TV⟩ ⟨rfl,TV⟩⟩;by_cases hik:i=k
   ·subst hik;rw[hs] at ht;cases ht;omega
   ·exact hp i t Oa ht
 obtain rfl:k=J secs:=Oa
 have ig:∀s∈secs,J s=64:=XbX fun i x hx=>hp i x (GS.1 hx).1 hx;refine Yb ?_
 refine Xl (fun k:Nat=>k<=J af/\∀(i:Nat) w,i<k->af[i]? =some w->0<=w.at_/\w.at_<J secs/\J w.b=64) (fun k=>⟨70,[(1,.ptr 100 0),(4,ai k)],[(100,.box [.d (XS secs),.d (XW af),ab on])]⟩) (fun k=>J af-k) 0 ⟨Oa,Oa⟩
  (X9 rfl ⟨JL,JL,TV⟩ ⟨rfl,TV⟩) ?_
 rintro k ⟨hk,hq⟩;by_cases hlt:k<J af
 ·obtain⟨w,hw⟩:=Xn (l:=af) (k:=k) Oa;by_cases hb:0<=w.at_/\w.at_<J secs/\J w.b=64
  ·obtain⟨b1,b2,b3⟩:=hb;refine Qbb ?_;refine⟨k+1,⟨Oa,fun i t hi ht=> ?_⟩,Oa,X9 rfl ⟨JL,JL,TV⟩ ⟨rfl,TV⟩⟩;by_cases hik:i=k
   ·subst hik;rw[hw] at ht;cases ht;exact⟨b1,b2,b3⟩
   ·exact hq i t Oa ht
  ·have hv:=Xnd (secs:=secs) (on:=on) hw hb;rw[hv];by_cases c3:J w.b≠64
   ·exact Qcc
   have c3:J w.b=64:=Jn
   by_cases c1:w.at_<0
   ·exact Qcc
   have c2:(J secs:Int)<=w.at_:=Oa
   exact Qcc
 obtain rfl:k=J af:=Oa
 have pJ:∀w∈af,0<=w.at_/\w.at_<J secs/\J w.b=64:=XbX fun i x hx=>hq i x (GS.1 hx).1 hx;have hv:UF ⟨secs,af,on⟩=true:=by
  simp only[UF,decide_eq_true_eq];exact⟨k1,k2,k3,ig,pJ⟩
 rw[hv];exact QFa
end Go.Fw

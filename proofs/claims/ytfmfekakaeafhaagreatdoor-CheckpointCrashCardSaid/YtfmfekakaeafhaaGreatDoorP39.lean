/- Opening what came in: from the reading of an argument to data over the world's own cells. -/
import Derived.OpenShut
import Derived.Deep.Slices
import Derived.Deep.Strs
import Derived.Test.YtfmfekakaeafhaaGreatDoorP08
import Derived.Test.YtfmfekakaeafhaaGreatDoorP31
import Derived.Test.YtfmfekakaeafhaaGreatDoorP37
set_option linter.all false
set_option maxHeartbeats 8000000
namespace Go.Fw
open Go Go.ChangeShapes Go.WideShapes Go.Deep List
open List renaming length->J
variable{b0:Nat}{ps:List MemPlace}{r:Reach}{v:Value}
section
variable {H:Type}{enc:TypeId×Value->H}{P:Program}{W:World}
def Xww {t:TypeId}{k:IntKind}{d:DataW H} (ht:P.underlying t=some (.int k))
  (hval:Value.okWide P W r b0 t v) (hd:DataW.Trod enc P W 0 (fun _=>true) true t v d ps):∃n:Int,(Lit.int k n).wf=true/\(AVal.d (.v (.int k n))).sat (g0 W.cell?) v:=by
 grind [open_int,AVal.sat,D.rep,Value.oneCell']
def XqW {t:TypeId}{d:DataW H} (ht:P.underlying t=some (.int .u8))
  (hval:Value.okWide P W r b0 t v) (hd:DataW.Trod enc P W 0 (fun _=>true) true t v d ps):∃b:UInt8,(AVal.d (.v (.int .u8 b.toNat))).sat (g0 W.cell?) v:=by
 obtain⟨n,rfl,_,_,hw⟩:=open_int ht hval hd;have:=bounds_u8 hw;refine⟨UInt8.ofNat n.toNat,?_⟩
 grind [AVal.sat,D.rep,Value.oneCell',UInt8.toNat_ofNat']
end
open Go
open List renaming length->J
def Xxz {a b c d a' b' c' d':UInt8} (h:a.toNat+256*b.toNat+65536*c.toNat+16777216*d.toNat=a'.toNat+256*b'.toNat+65536*c'.toNat+16777216*d'.toNat):a=a'/\b=b'/\c=c'/\d=d':=by
 have h1:=a.toNat_lt;have h2:=b.toNat_lt;have h3:=c.toNat_lt;have h4:=d.toNat_lt;have h5:=a'.toNat_lt;have h6:=b'.toNat_lt;have h7:=c'.toNat_lt;have h8:=d'.toNat_lt;refine⟨UInt8.toNat_inj.1 ?_,UInt8.toNat_inj.1 ?_,UInt8.toNat_inj.1 ?_,UInt8.toNat_inj.1 ?_⟩<;>omega
def XvQ {b:List UInt8}{a e:Int}{x:List UInt8} (h:Y8 b a=(x,e,0)):only b a e (Yx x):=by
 unfold Y8 at h;simp only at h;split at h
 ·rename_i h0;exact absurd (CG (fun r=>r.2.2) h) h0
 rename_i h0;split at h
 ·exact Qa
 rename_i h1;split at h
 ·exact Qa
 rename_i h2;have h0:(Xd b a).2.2=0:=Jm
 obtain⟨⟨k1,k2,k3,k4⟩,k5,k6,k7⟩:=X43 (b:=b) (a:=a) (n:=(Xd b a).1) (e:=(Xd b a).2.1) (by rw[<-h0]);generalize (Xd b a).1=n at*;generalize (Xd b a).2.1=f at*;simp only[Prod.mk.injEq] at h;obtain⟨rfl,rfl,_⟩:=h;have hl:J ((b.drop f.toNat).take n.toNat)=n.toNat:=Ou
 have h2:X3n b (f+n).toNat=XP ((b.drop f.toNat).take n.toNat):=OK
 have h4:(b.drop (f+n).toNat).take 4=X0J ((b.drop f.toNat).take n.toNat):=by
  generalize hx:(b.drop f.toNat).take n.toNat=x at*;generalize hk:(f+n).toNat=k at*;obtain⟨q0,g0⟩:=Xn (l:=b) (k:=k) Oa;obtain⟨q1,g1⟩:=Xn (l:=b) (k:=k+1) Oa;obtain⟨q2,g2⟩:=Xn (l:=b) (k:=k+2) Oa;obtain⟨q3,g3⟩:=Xn (l:=b) (k:=k+3) Oa;have hs:=X5C x;have hb:=Xlp (p:=[]) (q:=[]) x;simp only[nil_append,append_nil,length_nil] at hb;rw[<-hb] at h2;unfold X3n at h2;simp only[g0,g1,g2,g3,Option.getD_some,X0J,Nat.zero_add,getElem?_cons_zero,getElem?_cons_succ] at h2;obtain⟨e0,e1,e2,e3⟩:=Xxz h2;apply ext_getElem?;intro i;rw[getElem?_take];split
  ·rename_i hi;rw[getElem?_drop];rcases i with _|_|_|_|i
   ·rw[Nat.add_zero,g0,e0];rfl
   ·rw[g1,e1];rfl
   ·rw[g2,e2];rfl
   ·rw[g3,e3];rfl
   ·omega
  ·rename_i hi;rw[getElem?_eq_none (by rw[X4m];omega)]
 refine⟨k1,Oa,Oa,?_⟩;rw[show (f+n+4-a).toNat=(f-a).toNat+(n.toNat+4) by omega,take_add,k4,drop_drop,show a.toNat+(f-a).toNat=f.toNat by omega,take_add,drop_drop,show f.toNat+n.toNat=(f+n).toNat by omega,h4];unfold Yx;rw[hl,show((n.toNat:Nat):Int)=n by omega,AS]
open Go Go.Proofs Tryz
open List renaming length->J
set_option maxRecDepth 100000
def V5 (d:ak) (keep:List Int):ak:=if UF d then ⟨Vl d (Vo keep),[],false⟩ else d
def Vk (d:ak):ak:=if UF d then ⟨d.aa,d.pending,true⟩ else d
def X35 (x y:List Nat):Nat->Int
 |0=>0
 |k+1=>if (x[k]?).getD 0<(y[k]?).getD 0 then-1 else if (y[k]?).getD 0<(x[k]?).getD 0 then 1 else X35 x y k
def X1C (x y:List Nat):Nat->List Nat×Nat
 |0=>(replicate (J x) 0,0)
 |k+1=>let p:=X1C x y k;let a:=(x[k]?).getD 0;let b:=(y[k]?).getD 0+p.2;(p.1.set k (if a<b then a+1000-b else a-b),if a<b then 1 else 0)
def Xja (x y:List Nat):∀k,J (X1C x y k).1=J x
 |0=>by simp[X1C]
 |k+1=>by simp only[X1C,length_set];exact Xja x y k
def XtD (x y:List Nat):∀k,(X1C x y k).2<=1
 |0=>by simp[X1C]
 |k+1=>by simp only[X1C];split<;>omega
def X4U (x y:List Nat):List Nat:=(X1C x y (J x)).1
def Xaa (n m:Int):Int:=
 let a:=VJ n;let b:= -VJ m
 if a=b\/b=0 then a else if a=0 then b else
  let c:=X35 (X0q 14 (n.natAbs*1)) (X0q 14 (m.natAbs*1)) 14
  if c=0 then 0 else if 0<c then a else b
def XrW (x y:List Nat) (hl:J y=J x) (hx:J x<=1000):Con prog 346 [] [.d (Vt x),.d (Vt y)] [] (ai (X35 x y (J x))):=by
 refine ZC1 func346 ntmps346 fun E=> ?_;have bQ:J (x.map UC)=J x:=Oc
 generalize hG:X35 x y (J x)=G;refine XK ?_
 refine Xl (fun i:Nat=>i<=J x/\X35 x y i=G) (fun i=>⟨31,[(0,.d (Vt x)),(1,.d (Vt y)),(5,ai ((i:Int)-1))],[]⟩) (fun i=>i) (J x) ⟨Nat.le_refl _,hG⟩
  (X9 rfl ⟨JL,JL,JL,TV⟩ trivial) ?_
 rintro i ⟨hi,hg⟩;cases i with
 |zero=>
  rw[X35] at hg;subst hg;exact Qi
 |succ j=>
  have e:(((j+1:Nat):Int)-1)=(j:Int):=Oa
  rw[e];obtain⟨a,ha⟩:=Xn (l:=x) (k:=j) Oa;obtain⟨b,hb⟩:=Xn (l:=y) (k:=j) Oa;have bu:(x.map UC)[j]? =some (UC a):=XC ha;have lu:(y.map UC)[j]? =some (UC b):=XC hb;rw[X35,ha,hb] at hg;simp only[Option.getD_some] at hg;clear ha hb;by_cases h1:a<b
  ·have bY:(a:Int)<(b:Nat):=by omega
   rw[PI h1] at hg;subst hg;refine U7 ?_;exact Zr0
  have bY:¬(a:Int)<(b:Nat):=Oa
  rw[NI h1] at hg;by_cases h2:b<a
  ·have dr:(b:Int)<(a:Nat):=by omega
   rw[PI h2] at hg;subst hg;refine QW ?_;exact Zr0
  have dr:¬(b:Int)<(a:Nat):=Oa
  rw[NI h2] at hg;refine Qka ?_;exact⟨j,⟨Oa,hg⟩,Oa,X9 rfl ⟨JL,JL,JL,TV⟩ TV⟩
def Xna (x y:List Nat) (hx:X1V x) (hy:X1V y) (hl:J y=J x) (hn:J x<=1000):Con prog 347 [] [.d (Vt x),.d (Vt y)] [] (.d (Vt (X4U x y))):=by
 have bQ:J (x.map UC)=J x:=Oc
 have own:Con prog 347 [] [.d (Vt x),.d (Vt y)] [(130,.row 1 ((X4U x y).map UC))] (.own 130 (J ((X4U x y).map UC))):=by
  refine ZC1 func347 ntmps347 fun E=> ?_;refine QPa ?_;refine XG ?_
  refine Xl (fun k:Nat=>k<=J x) (fun k=>⟨40,[(0,.d (Vt x)),(1,.d (Vt y)),(5,.own 130 (J (x.map UC))),(6,ai (-((X1C x y k).2:Nat):Int)),(7,ai k)],[(130,.row 1 ((X1C x y k).1.map UC))]⟩) (fun k=>J x-k) 0 Oa
   (X9 rfl ⟨JL,JL,JL,JL,JL,TV⟩ ⟨?_,TV⟩) ?_
  ·refine CG (AObj.row 1) ?_;refine Eq.trans (b:=replicate (J (x.map UC)) (UC 0)) rfl ?_;rw[bQ];exact XjA (J x)
  intro k hk;have aT:=Xja x y k;have gH:J ((X1C x y k).1.map UC)=J x:=by rw[LM,aT]
  by_cases pS:k<J x
  case neg=>
   obtain rfl:k=J x:=Oa
   refine Ya ?_;exact X3 ⟨_,Xe 4 (y:= .own 130 (J ((X4U x y).map UC))) (ZzQ O1),⟨rfl,TV⟩,Xm ⟨rfl,TV⟩⟩
  obtain⟨a,ha⟩:=Xn (l:=x) pS;obtain⟨b,hb⟩:=Xn (l:=y) (k:=k) Oa;have bu:(x.map UC)[k]? =some (UC a):=XC ha;have lu:(y.map UC)[k]? =some (UC b):=XC hb;have hc:=XtD x y k;have tK:=X7y hx ha;have gj:=X7y hy hb;have aF:X1C x y (k+1)=((X1C x y k).1.set k (if a<b+(X1C x y k).2 then a+1000-(b+(X1C x y k).2) else a-(b+(X1C x y k).2)),if a<b+(X1C x y k).2 then 1 else 0):=by
   simp only[X1C,ha,hb,Option.getD_some]
  clear ha hb;generalize X1C x y k=p at*;obtain⟨l,c⟩:=p;simp only at aT gH hc aF;have n1:X0S (-(c:Nat)+(a:Nat)):=O0
  have n2:X0S (-(c:Nat)+(a:Nat)-(b:Nat)):=O0
  by_cases hlt:a<b+c
  ·have bY:(-(c:Nat)+(a:Nat)-(b:Nat):Int)<0:=by omega
   have e1:(-(c:Nat)+(a:Nat)-(b:Nat):Int)+1000=((a+1000-(b+c):Nat):Int):=Oa
   rw[PI hlt,PI hlt] at aF;generalize a+1000-(b+c)=z at*;have n3:X0S ((-(c:Nat)+(a:Nat)-(b:Nat):Int)+1000):=O0
   refine YS ?_;refine ZBa ((-(c:Nat):Int)) ((a:Nat)) ((-(c:Nat)+(a:Nat):Int)) ?_ (e:=rfl) (hc:=n1);refine W4_ ?_;refine ZBs ((-(c:Nat)+(a:Nat):Int)) ((b:Nat)) ((-(c:Nat)+(a:Nat)-(b:Nat):Int)) ?_ (e:=rfl) (hc:=n2);refine XK ?_;refine ZBa ((-(c:Nat)+(a:Nat)-(b:Nat):Int)) (1000) ((z:Nat)) ?_ (e:=e1) (hc:=n3);refine XB ?_;refine⟨k+1,Oa,Oa,?_⟩;dsimp only;rw[aF];refine X9 rfl ⟨JL,JL,JL,JL,JL,TV⟩ ⟨?_,TV⟩;exact CG (AObj.row 1) (Xdh Oa)
  ·have bY:¬(-(c:Nat)+(a:Nat)-(b:Nat):Int)<0:=by omega
   have e1:(-(c:Nat)+(a:Nat)-(b:Nat):Int)=((a-(b+c):Nat):Int):=Oa
   rw[NI hlt,NI hlt] at aF;generalize a-(b+c)=z at*;rw[e1] at bY;refine YS ?_;refine ZBa ((-(c:Nat):Int)) ((a:Nat)) ((-(c:Nat)+(a:Nat):Int)) ?_ (e:=rfl) (hc:=n1);refine W4_ ?_;refine ZBs ((-(c:Nat)+(a:Nat):Int)) ((b:Nat)) ((z:Nat)) ?_ (e:=e1) (hc:=n2);refine YA ?_;refine⟨k+1,Oa,Oa,?_⟩;dsimp only;rw[aF];refine X9 rfl ⟨JL,JL,JL,JL,JL,TV⟩ ⟨?_,TV⟩;exact CG (AObj.row 1) (Xdh Oa)
 exact own.data Oc
def Xzz (s b:Int) (x y:List Nat) (hx:X1V x) (hy:X1V y) (hl:J x=14) (hm:J y=14):Con prog 301 [] [ai s,.d (Vt x),ai b,.d (Vt y)] [] (.tup [ai (if s=b\/b=0 then s else if s=0 then b else if X35 x y (J x)=0 then 0 else if 0<X35 x y (J x) then s else b),.d (Vt (if s=b\/b=0 then X2u x y else if s=0 then y else if X35 x y (J x)=0 then X2u X2l X2l else if 0<X35 x y (J x) then X4U x y else X4U y x))]):=by
 refine ZCt func301 ntmps301 fun E=> ?_;have hp:=XcC x y hx hy Oa Oa;have hz:=XcC X2l X2l (Xa5 14) (Xa5 14) rfl Oi;have ho:=XrW x y Oa Oa;have h1:=Xna x y hx hy Oa Oa;have h2:=Xna y x hy hx Oa Oa;generalize X35 x y (J x)=c at*;generalize X2u x y=p at*;generalize X2u X2l X2l=z at*;generalize X4U x y=m1 at*;generalize X4U y x=m2 at*;by_cases c1:s=b
 ·rw[PI (.inl c1),PI (.inl c1)];refine YJ ?_;refine Z5 (ag:=hp) ?_;exact Qfe
 by_cases c2:b=0
 ·rw[PI (.inr c2),PI (.inr c2)];refine YJ ?_;refine Z5 (ag:=hp) ?_;exact Qfe
 have hc:¬(s=b\/b=0):=fun h=>h.elim c1 c2;rw[NI hc,NI hc];by_cases c3:s=0
 ·rw[PI c3,PI c3];refine Uf ?_;exact QSa
 rw[NI c3,NI c3];by_cases c4:c=0
 ·rw[PI c4,PI c4];refine Qka ?_;refine Z5 (ag:=hz) ?_;exact Qfe
 rw[NI c4,NI c4];by_cases c5:0<c
 ·rw[PI c5,PI c5];refine QY ?_;refine Z5 (ag:=h1) ?_;exact Qfe
 rw[NI c5,NI c5];refine QZ ?_;refine Z5 (ag:=h2) ?_;exact Qfe
def Xz1 (n m:Int) (hn:n.natAbs<=1000000000000000) (hm:m.natAbs<=1000000000000000):Con prog 256 [] [X3V n 1,X3V m 1] [] (ai (Xaa n m)):=by
 refine ZC1 func256 ntmps256 fun E=> ?_;have hv:=Xdb n 1;have hw:=Xdb m 1;rw[show X1E n 1=true by unfold X1E;simp;omega] at hv;rw[show X1E m 1=true by unfold X1E;simp;omega] at hw;have s1:=Xdf n;have s2:=Xdf m;have z1:=X9G n Oa;have z2:=X9G m Oa;have t1:=Xcf n.natAbs 1 Oa Oa;have t2:=Xcf m.natAbs 1 Oa Oa;have hs:=Xzz (VJ n) (-VJ m) (X0q 14 (n.natAbs*1)) (X0q 14 (m.natAbs*1)) (X9V _ _) (X9V _ _) (X8w _ _) (X8w _ _);rw[X8w] at hs;have fE:=Xhv n;have gh:=Xhv m;unfold Xaa;simp only;generalize uh:X0q 14 (n.natAbs*1)=x at*;generalize uj:X0q 14 (m.natAbs*1)=y at*;generalize X35 x y 14=c at*;generalize (if VJ n= -VJ m\/ -VJ m=0 then VJ n else if VJ n=0 then-VJ m else if c=0 then 0 else if 0<c then VJ n else-VJ m)=res at*;generalize (if VJ n= -VJ m\/ -VJ m=0 then X2u x y else if VJ n=0 then y else if c=0 then X2u X2l X2l else if 0<c then X4U x y else X4U y x)=mag at*;generalize VJ n=sa at*;generalize VJ m=sb at*;generalize n.natAbs=N at*;generalize m.natAbs=M at*;have q1: -1<=sb/\sb<=1:=Oa
 clear fE gh uh uj;refine XA ?_;refine Z5 (ag:=hv) ?_;refine W8_ ?_;refine Z5 (ag:=hw) ?_;refine W8_ ?_;refine Z5 (ag:=s1) ?_;refine W2_ ?_;refine Z5 (ag:=z1) ?_;refine W2_ ?_;refine Z5 (ag:=t1) ?_;refine W2_ ?_;refine Z5 (ag:=s2) ?_;refine W3_ ?_;refine Z5 (ag:=z2) ?_;refine W2_ ?_;refine Z5 (ag:=t2) ?_;exact Qi
def Xwg (d:ak) (hl:X05 d):Con prog 20 [] [XY d] [] (XY (Vk d)):=by
 refine ZC1 func20 ntmps20 fun E=> ?_;cases hv:UF d with
 |true=>
  rw[show Vk d=⟨d.aa,d.pending,true⟩ by simp[Vk,hv]];refine W8_ ?_;refine Z5 (ag:=X7P d hl) ?_;refine W7_ ?_;refine Z5 (ag:=X5J d) ?_;refine Qge ?_;refine X8 (XI 131 rfl) ?_;refine X8 (VR 101 0 130 (cs:=[.own 130 (J d.aa),.own 131 (J d.pending),ab true]) (sz:=1) (xs:=d.aa.map Yd) rfl rfl rfl Oc) ?_;refine X8 (VR 101 1 131 (cs:=[.d (XS d.aa),.own 131 (J d.pending),ab true]) (sz:=2) (xs:=d.pending.map cWr) rfl rfl rfl Oc) ?_;exact Qnb
 |false=>
  rw[show Vk d=d by simp[Vk,hv]];refine W8_ ?_;refine Z5 (ag:=X7P d hl) ?_;refine W7_ ?_;refine Z5 (ag:=X5J d) ?_;refine W8_ ?_;refine Qdc ?_;refine X8 (XI 131 rfl) ?_;refine X8 (VR 101 0 130 (cs:=[.own 130 (J d.aa),.own 131 (J d.pending),ab d.on]) (sz:=1) (xs:=d.aa.map Yd) rfl rfl rfl Oc) ?_;refine X8 (VR 101 1 131 (cs:=[.d (XS d.aa),.own 131 (J d.pending),ab d.on]) (sz:=2) (xs:=d.pending.map cWr) rfl rfl rfl Oc) ?_;exact Qnb
def XtN (d:ak) (keep:List Int) (hl:X05 d):Con prog 21 [] [XY d,.d (X8H keep)] [] (XY (V5 d keep)):=by
 refine ZC1 func21 ntmps21 fun E=> ?_;cases hv:UF d with
 |true=>
  have hok:=X4X hv;rw[show V5 d keep=⟨Vl d (Vo keep),[],false⟩ by simp[V5,hv]];refine W9_ ?_;refine Z5 (ag:=X5J d) ?_;refine W8_ ?_;refine Z5 (ag:=XhB d keep hl hok) ?_;refine XK ?_;exact Qnb
 |false=>
  rw[show V5 d keep=d by simp[V5,hv]];refine W9_ ?_;refine Z5 (ag:=X5J d) ?_;refine W6_ ?_;refine Z5 (ag:=X7P d hl) ?_;refine W2_ ?_;refine Qdc ?_;refine X8 (XI 131 rfl) ?_;refine X8 (VR 101 0 130 (cs:=[.own 130 (J d.aa),.own 131 (J d.pending),ab d.on]) (sz:=1) (xs:=d.aa.map Yd) rfl rfl rfl Oc) ?_;refine X8 (VR 101 1 131 (cs:=[.d (XS d.aa),.own 131 (J d.pending),ab d.on]) (sz:=2) (xs:=d.pending.map cWr) rfl rfl rfl Oc) ?_;exact Qnb
end Go.Fw

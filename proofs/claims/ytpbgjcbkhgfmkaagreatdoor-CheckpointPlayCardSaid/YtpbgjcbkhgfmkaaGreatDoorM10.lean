/- Wide numbers of the reference: products. -/
import Derived.Test.YtpbgjcbkhgfmkaaGreatDoorM09
set_option maxHeartbeats 8000000
namespace Go.Fw
open Go Go.Proofs Tryz List
set_option maxRecDepth 100000
set_option linter.unusedVariables false
set_option linter.unusedSimpArgs false
theorem Xho (a0 b:Nat) (ha0:a0<=1000000000000000) (hb:b<=1000000000000000):Con prog 334 [] [ai a0,ai b] [] (.d (X1j (X1f 14 (a0*b)))):=by
 have own:Con prog 334 [] [ai a0,ai b] [(130,.row 1 ((X1f 14 (a0*b)).map VZ))] (.own 130 ((X1f 14 (a0*b)).map VZ).length):=by
  refine ZC1 func334 ntmps334 fun E=> ?_;refine W6_ ?_;refine Qca ?_;refine W8_ ?_
  refine Xn (ι:=List Nat×Nat×Nat) (fun s=>s.1.length=14/\X2S s.1/\X1e s.1+s.2.1*b*1000^s.2.2=a0*b/\s.2.1*1000^s.2.2<=a0)
   (fun s=>⟨51,[(0,ai s.2.1),(1,ai b),(5,.own 130 14),(6,ai s.2.2)],[(130,.row 1 (s.1.map VZ))]⟩) (fun s=>s.2.1) (replicate 14 0,a0,0)
   ⟨rfl,XeB 14,by rw[Xkb];simp,by simp⟩
   (Xb rfl ⟨JL,JL,JL,JL,TV⟩ ⟨rfl,TV⟩) ?_
  rintro⟨l,a,i⟩ ⟨hl,aN,hV,l6⟩;simp only at hl aN hV l6;by_cases ha:0<a
  case neg=>
   obtain rfl:a=0:=by omega
   have bG:X1f 14 (a0*b)=l:=by
    rw[<-hV,Nat.zero_mul,Nat.zero_mul,Nat.add_zero,<-hl];exact Xmd l aN
   rw[bG];refine XQ ?_;exact X2 ⟨_,Xe 4 (y:= .own 130 (l.map VZ).length) (AVal.le_of_eq (by refine Eq.trans (b:= .own 130 14) rfl ?_;rw[LM,hl])),⟨rfl,TV⟩,Xj ⟨rfl,TV⟩⟩
  have sO:=XoT l6 ha ha0;have uM:a<=1000000000000000:=Nat.le_trans (Nat.le_mul_of_pos_right _ (Nat.pow_pos (by decide))) (Nat.le_trans l6 ha0);have qF:=Xuo hV;have hW:=XxL (a0:=a0) ha0 hb;refine XQ ?_;refine Z2 (op:= .rem) (r':=nj (a%1000)) (u:=nj a) (v:=nj 1000) ?_ (hr:=by exact Vh (by omega));refine W5_ ?_;(refine Z2 (op:= .quo) (r':=nj (a/1000)) (u:=nj a) (v:=nj 1000) ?_ (hr:=by exact X2m (by omega) (by rw[YO];omega)));refine Yv ?_;generalize hd:a%1000=dg at*;have sC:dg<1000:=by omega
  generalize qG:X1e l+dg*b*1000^i=V at*
  refine Xn (ι:=List Nat×Nat×Nat×Nat) (fun s=>s.1.length=14/\X2S s.1/\X1e s.1+(dg*s.2.1+s.2.2.1)*1000^s.2.2.2=V/\s.2.1*1000^s.2.2.2<=b*1000^i/\s.2.2.1<=999/\s.2.1<=b)
   (fun s=>⟨51,[(0,ai (a/1000:Nat)),(1,ai b),(5,.own 130 14),(6,ai i),(7,ai dg),(8,ai s.2.1),(9,ai s.2.2.1),(10,ai s.2.2.2)],[(130,.row 1 (s.1.map VZ))]⟩) (fun s=>20-s.2.2.2) (l,b,0,i)
   ⟨hl,aN,by simpa using qG,Nat.le_refl _,by simp,Nat.le_refl _⟩
   (Xb rfl ⟨JL,JL,JL,JL,JL,JL,JL,JL,TV⟩ ⟨rfl,TV⟩) ?_
  rintro⟨l2,c,carry,k⟩ ⟨bM,iJ,iM,mN,qH,hcb⟩;simp only at bM iJ iM mN qH hcb;by_cases cu:0<c\/0<carry
  case neg=>
   obtain rfl:c=0:=by omega
   obtain rfl:carry=0:=by omega
   have jX:X1e l2=X1e l+a%1000*b*1000^i:=by
    rw[hd,qG,<-iM];simp
   have hnew:=Xus hV jX;have qI:=XhR l6;refine Yv ?_;exact⟨(l2,a/1000,i+1),⟨bM,iJ,hnew,qI⟩,by show a/1000<a;omega,Xb rfl ⟨JL,JL,JL,JL,TV⟩ ⟨rfl,TV⟩⟩
  have hk:k<=10:=by
   rcases cu with h|h
   ·exact XqY mN h hb sO
   ·exact Xxr iM qF hW h
  obtain⟨x,hx⟩:=Xu (l:=l2) (k:=k) (by omega);have hx1:=X9y iJ hx;have hstep:=Xvs iM hx;have qD:=XhR mN;have hm:dg*(c%1000)<=998001:=Nat.mul_le_mul (show dg<=999 by omega) (show c%1000<=999 by omega);have bw:(l2.map VZ)[k]? =some (VZ x):=XM hx;have hs:=Xl7 (l:=l2) (k:=k) (y:=(carry+x+dg*(c%1000))%1000) (by omega);have hlen:(l2.map VZ).length=14:=by rw[LM,bM]
  by_cases hc0:0<c
  ·refine Ye ?_;(refine Z2 (op:= .add) (r':=nj (carry+x)) (u:=nj carry) (v:=nj x) ?_ (hr:=by exact X1s (by rw[YO];omega)));refine W2_ ?_;refine Z2 (op:= .rem) (r':=nj (c%1000)) (u:=nj c) (v:=nj 1000) ?_ (hr:=by exact Vh (by omega))
   (refine Z2 (op:= .mul) (r':=nj (dg*(c%1000))) (u:=nj dg) (v:=nj (c%1000)) ?_ (hr:=by exact X4j (by rw[YO];omega)))
   (refine Z2 (op:= .add) (r':=nj (carry+x+dg*(c%1000))) (u:=nj (carry+x)) (v:=nj (dg*(c%1000))) ?_ (hr:=by exact X1s (by rw[YO];omega)));refine W5_ ?_;(refine Z2 (op:= .quo) (r':=nj (c/1000)) (u:=nj c) (v:=nj 1000) ?_ (hr:=by exact X2m (by omega) (by rw[YO];omega)));refine W7_ ?_;refine Qda ?_;refine W5_ ?_;(refine Z2 (op:= .quo) (r':=nj ((carry+x+dg*(c%1000))/1000)) (u:=nj (carry+x+dg*(c%1000))) (v:=nj 1000) ?_ (hr:=by exact X2m (by omega) (by rw[YO];omega)));refine W7_ ?_;exact Qea
  ·have sP:0<carry:=by omega
   refine Ye ?_;(refine Z2 (op:= .add) (r':=nj (carry+x)) (u:=nj carry) (v:=nj x) ?_ (hr:=by exact X1s (by rw[YO];omega)));refine W2_ ?_;refine Z2 (op:= .rem) (r':=nj (c%1000)) (u:=nj c) (v:=nj 1000) ?_ (hr:=by exact Vh (by omega))
   (refine Z2 (op:= .mul) (r':=nj (dg*(c%1000))) (u:=nj dg) (v:=nj (c%1000)) ?_ (hr:=by exact X4j (by rw[YO];omega)))
   (refine Z2 (op:= .add) (r':=nj (carry+x+dg*(c%1000))) (u:=nj (carry+x)) (v:=nj (dg*(c%1000))) ?_ (hr:=by exact X1s (by rw[YO];omega)));refine W5_ ?_;(refine Z2 (op:= .quo) (r':=nj (c/1000)) (u:=nj c) (v:=nj 1000) ?_ (hr:=by exact X2m (by omega) (by rw[YO];omega)));refine W7_ ?_;refine Qda ?_;refine W5_ ?_;(refine Z2 (op:= .quo) (r':=nj ((carry+x+dg*(c%1000))/1000)) (u:=nj (carry+x+dg*(c%1000))) (v:=nj 1000) ?_ (hr:=by exact X2m (by omega) (by rw[YO];omega)));refine W7_ ?_;exact Qea
 exact own.data (by simp)
def X3b (n:Int):Int:=if n<0 then-1 else if 0<n then 1 else 0
theorem Xix (n:Int):Con prog 333 [] [ai n] [] (ai (X3b n)):=by
 refine ZC1 func333 ntmps333 fun E=> ?_;by_cases h1:n<0
 ·rw[show X3b n= -1 by simp[X3b,h1]];exact QW
 by_cases h2:0<n
 ·rw[show X3b n=1 by simp[X3b,h1,h2]];refine UU ?_;exact Zr0
 ·rw[show X3b n=0 by simp[X3b,h1,h2]];exact QT
theorem Xp0 (x:List Nat) (hx:x.length<=1000):Con prog 367 [] [.d (X1j x),.d (X1j x)] [] (ai 0):=by
 refine ZC1 func367 ntmps367 fun E=> ?_;have cw:(x.map VZ).length=x.length:=by simp
 refine XQ ?_
 refine Xn (fun i:Nat=>i<=x.length) (fun i=>⟨31,[(0,.d (X1j x)),(1,.d (X1j x)),(5,ai ((i:Int)-1))],[]⟩) (fun i=>i) x.length (Nat.le_refl _)
  (Xb rfl ⟨JL,JL,JL,TV⟩ trivial) ?_
 intro i hi;cases i with
 |zero=>
  exact Qz
 |succ j=>
  have e:(((j+1:Nat):Int)-1)=(j:Int):=by omega
  rw[e];obtain⟨a,ha⟩:=Xu (l:=x) (k:=j) (by omega);have bw:(x.map VZ)[j]? =some (VZ a):=XM ha;refine Qr ?_;exact⟨j,by omega,by omega,Xb rfl ⟨JL,JL,JL,TV⟩ TV⟩
abbrev X5Z:List Nat:=replicate 14 0
def X81 (s:Int) (x:List Nat):List Nat:=if s=0 then X4I x x else X4I X5Z X5Z
theorem XiT (s:Int) (hs:s=0\/s=1\/s= -1) (x:List Nat) (hx:X2S x) (hl:x.length=14):Con prog 332 [] [ai s,.d (X1j x),ai (-s),.d (X1j x)] [] (.tup [ai 0,.d (X1j (X81 s x))]):=by
 refine ZCt func332 ntmps332 fun E=> ?_;have hp:=XjF x x hx hx rfl (by omega);have hz:=XjF X5Z X5Z (XeB 14) (XeB 14) rfl (by decide);have ho:=Xp0 x (by omega);by_cases h0:s=0
 ·subst h0;rw[show X81 0 x=X4I x x from PI rfl];generalize X4I x x=y at*;refine Yw ?_;refine Z3 (af:=hp) ?_;exact Qfa
 have bV:X81 s x=X4I X5Z X5Z:=NI h0;rw[bV];clear bV;generalize X4I X5Z X5Z=y at*;by_cases h1:s=1
 ·subst h1;refine Qr ?_;refine Z3 (af:=hz) ?_;exact Qfa
 ·obtain rfl:s= -1:=by omega
  refine Qr ?_;refine Z3 (af:=hz) ?_;exact Qfa
abbrev XbE (x:AVal) (n e:Int):AVal:= .tup [x,ai n,ai e]
theorem X2I (c:Nat):c&&&127=c%128:=Nat.and_two_pow_sub_one_eq_mod c 7
theorem Xmy (b:List UInt8) (a:Int) (hb:b.length<=281474976710656):Con prog 231 [] [.d (Xg b),ai a] [] (XbE (X6C (Uq b a).1) (Uq b a).2.1 (Uq b a).2.2):=by
 refine ZCt func231 ntmps231 fun E=> ?_;by_cases h1:a<0
 ·rw[show Uq b a=(0,0,1) by simp[Uq,UE,h1]];refine Vl ?_;exact Qga
 by_cases h2:(b.length:Int)<a
 ·rw[show Uq b a=(0,0,1) by simp[Uq,UE,h2]];refine Vl ?_;exact Qga
 obtain⟨k,rfl⟩:∃k:Nat,a=k:=⟨a.toNat,by omega⟩
 have cY:UE b k=(let l:=b.drop k;let n:=V2 l;if n=10 then (0,0,4) else if l.length<=n then (0,0,3) else if n=9/\1<((l[n]?).getD 0).toNat then (0,0,4) else (U9 (l.take (n+1)),(k:Int)+n+1,0)):=by
  unfold UE;rw[NI (by omega),Int.toNat_natCast]
 have bJ:X1u b k=(decide (0<V2 (b.drop k))&&decide (((b.drop k)[V2 (b.drop k)]?).getD 0=0)):=by unfold X1u;rw[Int.toNat_natCast]
 have bF:(b.drop k).length=b.length-k:=LD;have hmap:(((b.map X5).take (b.map X5).length).drop k).length=b.length-k:=by simp
 have hlb:10<b.length-k->10<=(((b.map X5).take (b.map X5).length).drop k).length:=fun h=>by rw[hmap];omega
 have oI:(((((b.map X5).take (b.map X5).length).drop k).take 10).drop 0)=((b.drop k).take 10).map X5:=by
  rw[take_length,drop_zero,<-map_drop,<-map_take]
 have oJ:¬(10<b.length-k)->(((b.map X5).take (b.map X5).length).drop k)=((b.drop k).take 10).map X5:=fun h=>by
  rw[take_length,<-map_drop,take_of_length_le (by simp;omega)]
 generalize hl:b.drop k=l at*;by_cases eG:10<b.length-k
 ·refine QV ?_;refine Xs3 (hb:=10) (mb:=10) (hg:=JSa) (hx:=JSb) (hhi:=JSb) (cN:=JSb) (hT:=JSb) (hd:=JSb) ?_ (hh:=by exact Nat.le_refl 10) (hm:=by exact hlb eG);refine XG ?_
  refine Xn (fun i:Nat=>big l i/\i<=10/\i<=l.length) (fun i=>⟨72,[(1,ai k),(7,.d (Xg (l.take 10))),(8,X6C (Ul l i)),(31,.d (Xg (l.take 10))),(32,ai (l.take 10).length),(33,ai i)],[]⟩) (fun i=>10-i) 0 ⟨fun j hj=>by omega,by omega,by omega⟩
   (Xb rfl ⟨JL,(by refine AVal.le_of_eq ?_;refine Eq.trans (b:=AVal.d (.sl 1 (((((b.map X5).take (b.map X5).length).drop k).take 10).drop 0))) rfl ?_;rw[oI]),JL,(by refine AVal.le_of_eq ?_;refine Eq.trans (b:=AVal.d (.sl 1 (((((b.map X5).take (b.map X5).length).drop k).take 10).drop 0))) rfl ?_;rw[oI]),(by refine AVal.le_of_eq ?_;refine Eq.trans (b:=ai (((((((b.map X5).take (b.map X5).length).drop k).take 10).drop 0)).length:Nat)) rfl ?_;rw[oI,LM]),JL,TV⟩ trivial) ?_
  rintro i ⟨hbg,hi10,hil⟩;by_cases jY:i=(l.take 10).length
  ·have hmm:i=min 10 l.length:=by rw[jY];simp
   have hm:V2 l=i:=XnH hbg hmm;by_cases oK:(l.take 10).length=10
   ·have hv:UE b k=(0,0,4):=by rw[cY];simp only[hm];rw[PI (by omega)]
    rw[show Uq b k=(0,0,4) by unfold Uq;rw[hv];rfl];refine Ye ?_;exact Qga
   ·exact absurd (by rw[LT];omega) oK
  have hlt:i<10/\i<l.length:=by rw[LT] at jY;omega
  have hlm:i<(l.take 10).length:=by rw[LT];omega
  obtain⟨c,hc⟩:=Xu (l:=l) (k:=i) (by omega);have eg:(l.take 10)[i]? =some c:=by rw[getElem?_take_of_lt hlt.1];exact hc
  have sQ:=c.toNat_lt;have hacc:=X8T l i;have oL:=X8T l (i+1);have hsh:c.toNat%128*2^(7*i)%2^IntKind.u64.bits=c.toNat%128*2^(7*i)%18446744073709551616:=rfl;have hst:Ul l i|||c.toNat%128*2^(7*i)%18446744073709551616=Ul l (i+1):=by simp only[Ul,hc,Option.getD_some]
  have hq:c.toNat%128*2^(7*i)%18446744073709551616<18446744073709551616:=Nat.mod_lt _ (by omega);by_cases hge:128<=c.toNat
  ·refine Ye ?_;(refine Z1 (op:= .and) (r':=n8 (c.toNat%128)) (u:=n8 c.toNat) (v:=n8 127) ?_ (hr':=by exact CG n8 (X2I _)) (hr:=by exact X1B (by rw[Vv];omega) (by rw[Vv];omega)));(refine Z0 (u:=n8 (c.toNat%128)) (r:=n64 (c.toNat%128)) ?_ (hr:=by exact Uj rfl rfl (by rw[YG];omega)));refine Qha ?_
   (refine Z1 (op:= .shl) (r':=n64 (c.toNat%128*2^(7*i)%18446744073709551616)) (u:=n64 (c.toNat%128)) (v:=ni (7*i)) ?_ (hr':=by exact CG n64 hsh) (hr:=by exact X26 rfl (by show 7*i<=64;omega)))
   (refine Z1 (op:= .or) (r':=n64 (Ul l (i+1))) (u:=n64 (Ul l i)) (v:=n64 (c.toNat%128*2^(7*i)%18446744073709551616)) ?_ (hr':=by exact CG n64 hst) (hr:=by exact X29 (by rw[YG];omega) (by rw[YG];omega)))
   refine XG ?_;exact Qia
  have hm:V2 l=i:=XeA hbg hc (by omega) hlt.1;by_cases h9:i=9
  ·by_cases aI:1<c.toNat
   ·have hv:UE b k=(0,0,4):=by rw[cY];simp only[hm,hc,Option.getD_some];rw[NI (by omega),NI (by omega),PI ⟨h9,aI⟩]
    rw[show Uq b k=(0,0,4) by unfold Uq;rw[hv];rfl];refine Ye ?_;(refine Z1 (op:= .and) (r':=n8 (c.toNat%128)) (u:=n8 c.toNat) (v:=n8 127) ?_ (hr':=by exact CG n8 (X2I _)) (hr:=by exact X1B (by rw[Vv];omega) (by rw[Vv];omega)));(refine Z0 (u:=n8 (c.toNat%128)) (r:=n64 (c.toNat%128)) ?_ (hr:=by exact Uj rfl rfl (by rw[YG];omega)));refine Qha ?_
    (refine Z1 (op:= .shl) (r':=n64 (c.toNat%128*2^(7*i)%18446744073709551616)) (u:=n64 (c.toNat%128)) (v:=ni (7*i)) ?_ (hr':=by exact CG n64 hsh) (hr:=by exact X26 rfl (by show 7*i<=64;omega)))
    (refine Z1 (op:= .or) (r':=n64 (Ul l (i+1))) (u:=n64 (Ul l i)) (v:=n64 (c.toNat%128*2^(7*i)%18446744073709551616)) ?_ (hr':=by exact CG n64 hst) (hr:=by exact X29 (by rw[YG];omega) (by rw[YG];omega)))
    refine YT ?_;exact Qga
   ·have hval:Ul l (i+1)=U9 (l.take (i+1)):=by subst h9;exact Xgl l hc (by omega)
    by_cases hz:0<i/\c=0
    ·have hv:UE b k=(U9 (l.take (i+1)),(k:Int)+i+1,0):=by rw[cY];simp only[hm,hc,Option.getD_some];rw[NI (by omega),NI (by omega),NI (by omega)]
     rw[show Uq b k=(U9 (l.take (i+1)),0,2) by
      unfold Uq;rw[hv,bJ];simp only[hm,hc,Option.getD_some];simp[hz.1,hz.2]]
     obtain⟨bR,iD⟩:=hz;have aT:c.toNat=0:=by rw[iD];rfl
     rw[<-hval];refine Ye ?_;(refine Z1 (op:= .and) (r':=n8 (c.toNat%128)) (u:=n8 c.toNat) (v:=n8 127) ?_ (hr':=by exact CG n8 (X2I _)) (hr:=by exact X1B (by rw[Vv];omega) (by rw[Vv];omega)));(refine Z0 (u:=n8 (c.toNat%128)) (r:=n64 (c.toNat%128)) ?_ (hr:=by exact Uj rfl rfl (by rw[YG];omega)));refine Qha ?_
     (refine Z1 (op:= .shl) (r':=n64 (c.toNat%128*2^(7*i)%18446744073709551616)) (u:=n64 (c.toNat%128)) (v:=ni (7*i)) ?_ (hr':=by exact CG n64 hsh) (hr:=by exact X26 rfl (by show 7*i<=64;omega)))
     (refine Z1 (op:= .or) (r':=n64 (Ul l (i+1))) (u:=n64 (Ul l i)) (v:=n64 (c.toNat%128*2^(7*i)%18446744073709551616)) ?_ (hr':=by exact CG n64 hst) (hr:=by exact X29 (by rw[YG];omega) (by rw[YG];omega)))
     exact Qja
    ·have gC:¬(0<i/\c.toNat=0):=fun h=>hz ⟨h.1,UInt8.toNat_inj.1 h.2⟩;have hv:UE b k=(U9 (l.take (i+1)),(k:Int)+i+1,0):=by rw[cY];simp only[hm,hc,Option.getD_some];rw[NI (by omega),NI (by omega),NI (by omega)]
     have hpf:X1u b k=false:=by
      rw[bJ];simp only[hm,hc,Option.getD_some];rw[Bool.and_eq_false_iff,decide_eq_false_iff_not,decide_eq_false_iff_not];by_cases h0:0<i
      ·exact .inr fun h2=>hz ⟨h0,h2⟩
      ·exact .inl h0
     rw[show Uq b k=(U9 (l.take (i+1)),(k:Int)+i+1,0) by unfold Uq;rw[hv,hpf];rfl];rw[<-hval];by_cases fK:0<i
     ·have dQ:¬(c.toNat=0):=fun h=>gC ⟨fK,h⟩;refine Ye ?_;(refine Z1 (op:= .and) (r':=n8 (c.toNat%128)) (u:=n8 c.toNat) (v:=n8 127) ?_ (hr':=by exact CG n8 (X2I _)) (hr:=by exact X1B (by rw[Vv];omega) (by rw[Vv];omega)));(refine Z0 (u:=n8 (c.toNat%128)) (r:=n64 (c.toNat%128)) ?_ (hr:=by exact Uj rfl rfl (by rw[YG];omega)));refine Qha ?_
      (refine Z1 (op:= .shl) (r':=n64 (c.toNat%128*2^(7*i)%18446744073709551616)) (u:=n64 (c.toNat%128)) (v:=ni (7*i)) ?_ (hr':=by exact CG n64 hsh) (hr:=by exact X26 rfl (by show 7*i<=64;omega)))
      (refine Z1 (op:= .or) (r':=n64 (Ul l (i+1))) (u:=n64 (Ul l i)) (v:=n64 (c.toNat%128*2^(7*i)%18446744073709551616)) ?_ (hr':=by exact CG n64 hst) (hr:=by exact X29 (by rw[YG];omega) (by rw[YG];omega)))
      exact Qka
     ·exact absurd (by omega) fK
  ·have hval:Ul l (i+1)=U9 (l.take (i+1)):=X9F l (i+1) (by omega) (by omega);by_cases hz:0<i/\c=0
   ·have hv:UE b k=(U9 (l.take (i+1)),(k:Int)+i+1,0):=by rw[cY];simp only[hm,hc,Option.getD_some];rw[NI (by omega),NI (by omega),NI (by omega)]
    rw[show Uq b k=(U9 (l.take (i+1)),0,2) by
     unfold Uq;rw[hv,bJ];simp only[hm,hc,Option.getD_some];simp[hz.1,hz.2]]
    obtain⟨bR,iD⟩:=hz;have aT:c.toNat=0:=by rw[iD];rfl
    rw[<-hval];refine Ye ?_;(refine Z1 (op:= .and) (r':=n8 (c.toNat%128)) (u:=n8 c.toNat) (v:=n8 127) ?_ (hr':=by exact CG n8 (X2I _)) (hr:=by exact X1B (by rw[Vv];omega) (by rw[Vv];omega)));(refine Z0 (u:=n8 (c.toNat%128)) (r:=n64 (c.toNat%128)) ?_ (hr:=by exact Uj rfl rfl (by rw[YG];omega)));refine Qha ?_
    (refine Z1 (op:= .shl) (r':=n64 (c.toNat%128*2^(7*i)%18446744073709551616)) (u:=n64 (c.toNat%128)) (v:=ni (7*i)) ?_ (hr':=by exact CG n64 hsh) (hr:=by exact X26 rfl (by show 7*i<=64;omega)))
    (refine Z1 (op:= .or) (r':=n64 (Ul l (i+1))) (u:=n64 (Ul l i)) (v:=n64 (c.toNat%128*2^(7*i)%18446744073709551616)) ?_ (hr':=by exact CG n64 hst) (hr:=by exact X29 (by rw[YG];omega) (by rw[YG];omega)))
    exact Qja
   ·have gC:¬(0<i/\c.toNat=0):=fun h=>hz ⟨h.1,UInt8.toNat_inj.1 h.2⟩;have hv:UE b k=(U9 (l.take (i+1)),(k:Int)+i+1,0):=by rw[cY];simp only[hm,hc,Option.getD_some];rw[NI (by omega),NI (by omega),NI (by omega)]
    have hpf:X1u b k=false:=by
     rw[bJ];simp only[hm,hc,Option.getD_some];rw[Bool.and_eq_false_iff,decide_eq_false_iff_not,decide_eq_false_iff_not];by_cases h0:0<i
     ·exact .inr fun h2=>hz ⟨h0,h2⟩
     ·exact .inl h0
    rw[show Uq b k=(U9 (l.take (i+1)),(k:Int)+i+1,0) by unfold Uq;rw[hv,hpf];rfl];rw[<-hval];by_cases fK:0<i
    ·have dQ:¬(c.toNat=0):=fun h=>gC ⟨fK,h⟩;refine Ye ?_;(refine Z1 (op:= .and) (r':=n8 (c.toNat%128)) (u:=n8 c.toNat) (v:=n8 127) ?_ (hr':=by exact CG n8 (X2I _)) (hr:=by exact X1B (by rw[Vv];omega) (by rw[Vv];omega)));(refine Z0 (u:=n8 (c.toNat%128)) (r:=n64 (c.toNat%128)) ?_ (hr:=by exact Uj rfl rfl (by rw[YG];omega)));refine Qha ?_
     (refine Z1 (op:= .shl) (r':=n64 (c.toNat%128*2^(7*i)%18446744073709551616)) (u:=n64 (c.toNat%128)) (v:=ni (7*i)) ?_ (hr':=by exact CG n64 hsh) (hr:=by exact X26 rfl (by show 7*i<=64;omega)))
     (refine Z1 (op:= .or) (r':=n64 (Ul l (i+1))) (u:=n64 (Ul l i)) (v:=n64 (c.toNat%128*2^(7*i)%18446744073709551616)) ?_ (hr':=by exact CG n64 hst) (hr:=by exact X29 (by rw[YG];omega) (by rw[YG];omega)))
     exact Qka
    ·refine Ye ?_;(refine Z1 (op:= .and) (r':=n8 (c.toNat%128)) (u:=n8 c.toNat) (v:=n8 127) ?_ (hr':=by exact CG n8 (X2I _)) (hr:=by exact X1B (by rw[Vv];omega) (by rw[Vv];omega)));(refine Z0 (u:=n8 (c.toNat%128)) (r:=n64 (c.toNat%128)) ?_ (hr:=by exact Uj rfl rfl (by rw[YG];omega)));refine Qha ?_
     (refine Z1 (op:= .shl) (r':=n64 (c.toNat%128*2^(7*i)%18446744073709551616)) (u:=n64 (c.toNat%128)) (v:=ni (7*i)) ?_ (hr':=by exact CG n64 hsh) (hr:=by exact X26 rfl (by show 7*i<=64;omega)))
     (refine Z1 (op:= .or) (r':=n64 (Ul l (i+1))) (u:=n64 (Ul l i)) (v:=n64 (c.toNat%128*2^(7*i)%18446744073709551616)) ?_ (hr':=by exact CG n64 hst) (hr:=by exact X29 (by rw[YG];omega) (by rw[YG];omega)))
     exact Qka
 ·refine Qla ?_
  refine Xn (fun i:Nat=>big l i/\i<=10/\i<=l.length) (fun i=>⟨72,[(1,ai k),(7,.d (Xg (l.take 10))),(8,X6C (Ul l i)),(31,.d (Xg (l.take 10))),(32,ai (l.take 10).length),(33,ai i)],[]⟩) (fun i=>10-i) 0 ⟨fun j hj=>by omega,by omega,by omega⟩
   (Xb rfl ⟨JL,(by refine AVal.le_of_eq ?_;refine Eq.trans (b:=AVal.d (.sl 1 (((b.map X5).take (b.map X5).length).drop k))) rfl ?_;rw[oJ eG]),JL,(by refine AVal.le_of_eq ?_;refine Eq.trans (b:=AVal.d (.sl 1 (((b.map X5).take (b.map X5).length).drop k))) rfl ?_;rw[oJ eG]),(by refine AVal.le_of_eq ?_;refine Eq.trans (b:=ai (((((b.map X5).take (b.map X5).length).drop k)).length:Nat)) rfl ?_;rw[oJ eG,LM]),JL,TV⟩ trivial) ?_
  rintro i ⟨hbg,hi10,hil⟩;by_cases jY:i=(l.take 10).length
  ·have hmm:i=min 10 l.length:=by rw[jY];simp
   have hm:V2 l=i:=XnH hbg hmm;by_cases oK:(l.take 10).length=10
   ·have hv:UE b k=(0,0,4):=by rw[cY];simp only[hm];rw[PI (by omega)]
    rw[show Uq b k=(0,0,4) by unfold Uq;rw[hv];rfl];refine Ye ?_;exact Qga
   ·have hne:¬(i=10):=by rw[jY];exact oK
    have hv:UE b k=(0,0,3):=by rw[cY];simp only[hm];rw[NI hne,PI (by omega)]
    rw[show Uq b k=(0,0,3) by unfold Uq;rw[hv];rfl];refine Yw ?_;exact Qga
  have hlt:i<10/\i<l.length:=by rw[LT] at jY;omega
  have hlm:i<(l.take 10).length:=by rw[LT];omega
  obtain⟨c,hc⟩:=Xu (l:=l) (k:=i) (by omega);have eg:(l.take 10)[i]? =some c:=by rw[getElem?_take_of_lt hlt.1];exact hc
  have sQ:=c.toNat_lt;have hacc:=X8T l i;have oL:=X8T l (i+1);have hsh:c.toNat%128*2^(7*i)%2^IntKind.u64.bits=c.toNat%128*2^(7*i)%18446744073709551616:=rfl;have hst:Ul l i|||c.toNat%128*2^(7*i)%18446744073709551616=Ul l (i+1):=by simp only[Ul,hc,Option.getD_some]
  have hq:c.toNat%128*2^(7*i)%18446744073709551616<18446744073709551616:=Nat.mod_lt _ (by omega);by_cases hge:128<=c.toNat
  ·refine Ye ?_;(refine Z1 (op:= .and) (r':=n8 (c.toNat%128)) (u:=n8 c.toNat) (v:=n8 127) ?_ (hr':=by exact CG n8 (X2I _)) (hr:=by exact X1B (by rw[Vv];omega) (by rw[Vv];omega)));(refine Z0 (u:=n8 (c.toNat%128)) (r:=n64 (c.toNat%128)) ?_ (hr:=by exact Uj rfl rfl (by rw[YG];omega)));refine Qha ?_
   (refine Z1 (op:= .shl) (r':=n64 (c.toNat%128*2^(7*i)%18446744073709551616)) (u:=n64 (c.toNat%128)) (v:=ni (7*i)) ?_ (hr':=by exact CG n64 hsh) (hr:=by exact X26 rfl (by show 7*i<=64;omega)))
   (refine Z1 (op:= .or) (r':=n64 (Ul l (i+1))) (u:=n64 (Ul l i)) (v:=n64 (c.toNat%128*2^(7*i)%18446744073709551616)) ?_ (hr':=by exact CG n64 hst) (hr:=by exact X29 (by rw[YG];omega) (by rw[YG];omega)))
   refine XG ?_;exact Qia
  have hm:V2 l=i:=XeA hbg hc (by omega) hlt.1;by_cases h9:i=9
  ·by_cases aI:1<c.toNat
   ·have hv:UE b k=(0,0,4):=by rw[cY];simp only[hm,hc,Option.getD_some];rw[NI (by omega),NI (by omega),PI ⟨h9,aI⟩]
    rw[show Uq b k=(0,0,4) by unfold Uq;rw[hv];rfl];refine Ye ?_;(refine Z1 (op:= .and) (r':=n8 (c.toNat%128)) (u:=n8 c.toNat) (v:=n8 127) ?_ (hr':=by exact CG n8 (X2I _)) (hr:=by exact X1B (by rw[Vv];omega) (by rw[Vv];omega)));(refine Z0 (u:=n8 (c.toNat%128)) (r:=n64 (c.toNat%128)) ?_ (hr:=by exact Uj rfl rfl (by rw[YG];omega)));refine Qha ?_
    (refine Z1 (op:= .shl) (r':=n64 (c.toNat%128*2^(7*i)%18446744073709551616)) (u:=n64 (c.toNat%128)) (v:=ni (7*i)) ?_ (hr':=by exact CG n64 hsh) (hr:=by exact X26 rfl (by show 7*i<=64;omega)))
    (refine Z1 (op:= .or) (r':=n64 (Ul l (i+1))) (u:=n64 (Ul l i)) (v:=n64 (c.toNat%128*2^(7*i)%18446744073709551616)) ?_ (hr':=by exact CG n64 hst) (hr:=by exact X29 (by rw[YG];omega) (by rw[YG];omega)))
    refine YT ?_;exact Qga
   ·have hval:Ul l (i+1)=U9 (l.take (i+1)):=by subst h9;exact Xgl l hc (by omega)
    by_cases hz:0<i/\c=0
    ·have hv:UE b k=(U9 (l.take (i+1)),(k:Int)+i+1,0):=by rw[cY];simp only[hm,hc,Option.getD_some];rw[NI (by omega),NI (by omega),NI (by omega)]
     rw[show Uq b k=(U9 (l.take (i+1)),0,2) by
      unfold Uq;rw[hv,bJ];simp only[hm,hc,Option.getD_some];simp[hz.1,hz.2]]
     obtain⟨bR,iD⟩:=hz;have aT:c.toNat=0:=by rw[iD];rfl
     rw[<-hval];refine Ye ?_;(refine Z1 (op:= .and) (r':=n8 (c.toNat%128)) (u:=n8 c.toNat) (v:=n8 127) ?_ (hr':=by exact CG n8 (X2I _)) (hr:=by exact X1B (by rw[Vv];omega) (by rw[Vv];omega)));(refine Z0 (u:=n8 (c.toNat%128)) (r:=n64 (c.toNat%128)) ?_ (hr:=by exact Uj rfl rfl (by rw[YG];omega)));refine Qha ?_
     (refine Z1 (op:= .shl) (r':=n64 (c.toNat%128*2^(7*i)%18446744073709551616)) (u:=n64 (c.toNat%128)) (v:=ni (7*i)) ?_ (hr':=by exact CG n64 hsh) (hr:=by exact X26 rfl (by show 7*i<=64;omega)))
     (refine Z1 (op:= .or) (r':=n64 (Ul l (i+1))) (u:=n64 (Ul l i)) (v:=n64 (c.toNat%128*2^(7*i)%18446744073709551616)) ?_ (hr':=by exact CG n64 hst) (hr:=by exact X29 (by rw[YG];omega) (by rw[YG];omega)))
     exact Qja
    ·have gC:¬(0<i/\c.toNat=0):=fun h=>hz ⟨h.1,UInt8.toNat_inj.1 h.2⟩;have hv:UE b k=(U9 (l.take (i+1)),(k:Int)+i+1,0):=by rw[cY];simp only[hm,hc,Option.getD_some];rw[NI (by omega),NI (by omega),NI (by omega)]
     have hpf:X1u b k=false:=by
      rw[bJ];simp only[hm,hc,Option.getD_some];rw[Bool.and_eq_false_iff,decide_eq_false_iff_not,decide_eq_false_iff_not];by_cases h0:0<i
      ·exact .inr fun h2=>hz ⟨h0,h2⟩
      ·exact .inl h0
     rw[show Uq b k=(U9 (l.take (i+1)),(k:Int)+i+1,0) by unfold Uq;rw[hv,hpf];rfl];rw[<-hval];by_cases fK:0<i
     ·have dQ:¬(c.toNat=0):=fun h=>gC ⟨fK,h⟩;refine Ye ?_;(refine Z1 (op:= .and) (r':=n8 (c.toNat%128)) (u:=n8 c.toNat) (v:=n8 127) ?_ (hr':=by exact CG n8 (X2I _)) (hr:=by exact X1B (by rw[Vv];omega) (by rw[Vv];omega)));(refine Z0 (u:=n8 (c.toNat%128)) (r:=n64 (c.toNat%128)) ?_ (hr:=by exact Uj rfl rfl (by rw[YG];omega)));refine Qha ?_
      (refine Z1 (op:= .shl) (r':=n64 (c.toNat%128*2^(7*i)%18446744073709551616)) (u:=n64 (c.toNat%128)) (v:=ni (7*i)) ?_ (hr':=by exact CG n64 hsh) (hr:=by exact X26 rfl (by show 7*i<=64;omega)))
      (refine Z1 (op:= .or) (r':=n64 (Ul l (i+1))) (u:=n64 (Ul l i)) (v:=n64 (c.toNat%128*2^(7*i)%18446744073709551616)) ?_ (hr':=by exact CG n64 hst) (hr:=by exact X29 (by rw[YG];omega) (by rw[YG];omega)))
      exact Qka
     ·exact absurd (by omega) fK
  ·have hval:Ul l (i+1)=U9 (l.take (i+1)):=X9F l (i+1) (by omega) (by omega);by_cases hz:0<i/\c=0
   ·have hv:UE b k=(U9 (l.take (i+1)),(k:Int)+i+1,0):=by rw[cY];simp only[hm,hc,Option.getD_some];rw[NI (by omega),NI (by omega),NI (by omega)]
    rw[show Uq b k=(U9 (l.take (i+1)),0,2) by
     unfold Uq;rw[hv,bJ];simp only[hm,hc,Option.getD_some];simp[hz.1,hz.2]]
    obtain⟨bR,iD⟩:=hz;have aT:c.toNat=0:=by rw[iD];rfl
    rw[<-hval];refine Ye ?_;(refine Z1 (op:= .and) (r':=n8 (c.toNat%128)) (u:=n8 c.toNat) (v:=n8 127) ?_ (hr':=by exact CG n8 (X2I _)) (hr:=by exact X1B (by rw[Vv];omega) (by rw[Vv];omega)));(refine Z0 (u:=n8 (c.toNat%128)) (r:=n64 (c.toNat%128)) ?_ (hr:=by exact Uj rfl rfl (by rw[YG];omega)));refine Qha ?_
    (refine Z1 (op:= .shl) (r':=n64 (c.toNat%128*2^(7*i)%18446744073709551616)) (u:=n64 (c.toNat%128)) (v:=ni (7*i)) ?_ (hr':=by exact CG n64 hsh) (hr:=by exact X26 rfl (by show 7*i<=64;omega)))
    (refine Z1 (op:= .or) (r':=n64 (Ul l (i+1))) (u:=n64 (Ul l i)) (v:=n64 (c.toNat%128*2^(7*i)%18446744073709551616)) ?_ (hr':=by exact CG n64 hst) (hr:=by exact X29 (by rw[YG];omega) (by rw[YG];omega)))
    exact Qja
   ·have gC:¬(0<i/\c.toNat=0):=fun h=>hz ⟨h.1,UInt8.toNat_inj.1 h.2⟩;have hv:UE b k=(U9 (l.take (i+1)),(k:Int)+i+1,0):=by rw[cY];simp only[hm,hc,Option.getD_some];rw[NI (by omega),NI (by omega),NI (by omega)]
    have hpf:X1u b k=false:=by
     rw[bJ];simp only[hm,hc,Option.getD_some];rw[Bool.and_eq_false_iff,decide_eq_false_iff_not,decide_eq_false_iff_not];by_cases h0:0<i
     ·exact .inr fun h2=>hz ⟨h0,h2⟩
     ·exact .inl h0
    rw[show Uq b k=(U9 (l.take (i+1)),(k:Int)+i+1,0) by unfold Uq;rw[hv,hpf];rfl];rw[<-hval];by_cases fK:0<i
    ·have dQ:¬(c.toNat=0):=fun h=>gC ⟨fK,h⟩;refine Ye ?_;(refine Z1 (op:= .and) (r':=n8 (c.toNat%128)) (u:=n8 c.toNat) (v:=n8 127) ?_ (hr':=by exact CG n8 (X2I _)) (hr:=by exact X1B (by rw[Vv];omega) (by rw[Vv];omega)));(refine Z0 (u:=n8 (c.toNat%128)) (r:=n64 (c.toNat%128)) ?_ (hr:=by exact Uj rfl rfl (by rw[YG];omega)));refine Qha ?_
     (refine Z1 (op:= .shl) (r':=n64 (c.toNat%128*2^(7*i)%18446744073709551616)) (u:=n64 (c.toNat%128)) (v:=ni (7*i)) ?_ (hr':=by exact CG n64 hsh) (hr:=by exact X26 rfl (by show 7*i<=64;omega)))
     (refine Z1 (op:= .or) (r':=n64 (Ul l (i+1))) (u:=n64 (Ul l i)) (v:=n64 (c.toNat%128*2^(7*i)%18446744073709551616)) ?_ (hr':=by exact CG n64 hst) (hr:=by exact X29 (by rw[YG];omega) (by rw[YG];omega)))
     exact Qka
    ·refine Ye ?_;(refine Z1 (op:= .and) (r':=n8 (c.toNat%128)) (u:=n8 c.toNat) (v:=n8 127) ?_ (hr':=by exact CG n8 (X2I _)) (hr:=by exact X1B (by rw[Vv];omega) (by rw[Vv];omega)));(refine Z0 (u:=n8 (c.toNat%128)) (r:=n64 (c.toNat%128)) ?_ (hr:=by exact Uj rfl rfl (by rw[YG];omega)));refine Qha ?_
     (refine Z1 (op:= .shl) (r':=n64 (c.toNat%128*2^(7*i)%18446744073709551616)) (u:=n64 (c.toNat%128)) (v:=ni (7*i)) ?_ (hr':=by exact CG n64 hsh) (hr:=by exact X26 rfl (by show 7*i<=64;omega)))
     (refine Z1 (op:= .or) (r':=n64 (Ul l (i+1))) (u:=n64 (Ul l i)) (v:=n64 (c.toNat%128*2^(7*i)%18446744073709551616)) ?_ (hr':=by exact CG n64 hst) (hr:=by exact X29 (by rw[YG];omega) (by rw[YG];omega)))
     exact Qka
end Go.Fw

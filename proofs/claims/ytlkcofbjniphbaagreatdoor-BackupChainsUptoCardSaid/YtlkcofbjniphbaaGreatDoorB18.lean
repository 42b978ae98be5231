/- The program's read. -/
import Derived.Test.YtlkcofbjniphbaaGreatDoorB17
set_option maxHeartbeats 8000000
namespace Go.Fw
open Go Go.Proofs
set_option maxRecDepth 100000
set_option linter.unusedVariables false
set_option linter.unusedSimpArgs false
theorem X1n (c:Nat):c&&&127=c%128:=Nat.and_two_pow_sub_one_eq_mod c 7
theorem XgG (b:List UInt8) (a:Int) (hb:b.length≤281474976710656):Con Tryz.prog 106 [] [.d (Xk b),ai a] [] (X5D (X21 (YR b a).1) (YR b a).2.1 (YR b a).2.2):=by
 refine Xg (xs:=[X21 (YR b a).1,ai (YR b a).2.1,ai (YR b a).2.2]) Tryz.func106 rfl Tryz.ntmps106 rfl rfl rfl (fun E=> ?_)
 by_cases h1:a<0
 ·rw[show YR b a=(0,0,1) by simp[YR,Ye,h1]]
  refine Xt ?_;refine QL ?_;refine Qs ?_;exact QRc
 by_cases h2:(b.length:Int)<a
 ·rw[show YR b a=(0,0,1) by simp[YR,Ye,h2]]
  refine Yc ?_;refine QP ?_;exact QRc
 obtain⟨k,rfl⟩:∃k:Nat,a=k:=⟨a.toNat,by omega⟩
 have hnum:Ye b k=(let l:=b.drop k;let n:=YY l;if n=10 then (0,0,4) else if l.length≤n then (0,0,3) else if n=9∧1<((l[n]?).getD 0).toNat then (0,0,4) else (Yb (l.take (n+1)),(k:Int)+n+1,0)):=by
  unfold Ye;rw[if_neg (by omega),Int.toNat_natCast]
 have hpad:V1 b k=(decide (0<YY (b.drop k))&&decide (((b.drop k)[YY (b.drop k)]?).getD 0=0)):=by unfold V1;rw[Int.toNat_natCast]
 have hll:(b.drop k).length=b.length-k:=List.length_drop
 have hmap:(((b.map Xc).take (b.map Xc).length).drop k).length=b.length-k:=by simp
 have hlb:10<b.length-k→10≤(((b.map Xc).take (b.map Xc).length).drop k).length:=fun h=>by rw[hmap];omega
 have hE1:(((((b.map Xc).take (b.map Xc).length).drop k).take 10).drop 0)=((b.drop k).take 10).map Xc:=by
  rw[List.take_length,List.drop_zero,←List.map_drop,←List.map_take]
 have hE2:¬(10<b.length-k)→(((b.map Xc).take (b.map Xc).length).drop k)=((b.drop k).take 10).map Xc:=fun h=>by
  rw[List.take_length,←List.map_drop,List.take_of_length_le (by simp;omega)]
 generalize hl:b.drop k=l at*
 by_cases hbig:10<b.length-k
 ·refine QSc ?_;refine Yw ?_;refine Qm ?_;refine Xkv (hb:=10) (mb:=10) (hg:=JSa) (hx:=JSb) (hhi:=JSb) (hmx:=JSb) (hT:=JSb) (hd:=JSb) ?_ (hh:=by exact Nat.le_refl 10) (hm:=by exact hlb hbig);refine XC ?_
  refine XK (fun i:Nat=>big l i∧i≤10∧i≤l.length) (fun i=>⟨72,[(1,ai k),(7,.d (Xk (l.take 10))),(8,X21 (YT l i)),(31,.d (Xk (l.take 10))),(32,ai (l.take 10).length),(33,ai i)],[]⟩) (fun i=>10-i) 0 ⟨fun j hj=>by omega,by omega,by omega⟩
   (Xd rfl ⟨JL,(by refine AVal.le_of_eq ?_;refine Eq.trans (b:=AVal.d (.sl 1 (((((b.map Xc).take (b.map Xc).length).drop k).take 10).drop 0))) rfl ?_;rw[hE1]),JL,(by refine AVal.le_of_eq ?_;refine Eq.trans (b:=AVal.d (.sl 1 (((((b.map Xc).take (b.map Xc).length).drop k).take 10).drop 0))) rfl ?_;rw[hE1]),(by refine AVal.le_of_eq ?_;refine Eq.trans (b:=ai (((((((b.map Xc).take (b.map Xc).length).drop k).take 10).drop 0)).length:Nat)) rfl ?_;rw[hE1,List.length_map]),JL,trivial⟩ trivial) ?_
  rintro i ⟨hbg,hi10,hil⟩
  by_cases him:i=(l.take 10).length
  ·have hmm:i=min 10 l.length:=by rw[him];simp
   have hm:YY l=i:=X7r hbg hmm
   by_cases e10:(l.take 10).length=10
   ·have hv:Ye b k=(0,0,4):=by rw[hnum];simp only[hm];rw[if_pos (by omega)]
    rw[show YR b k=(0,0,4) by unfold YR;rw[hv];rfl]
    refine W5_ ?_;refine QWb ?_;exact QRc
   ·exact absurd (by rw[List.length_take];omega) e10
  have hlt:i<10∧i<l.length:=by rw[List.length_take] at him;omega
  have hlm:i<(l.take 10).length:=by rw[List.length_take];omega
  obtain⟨c,hc⟩:=XI (l:=l) (k:=i) (by omega)
  have hcm:(l.take 10)[i]? =some c:=by rw[List.getElem?_take_of_lt hlt.1];exact hc
  have hc8:=c.toNat_lt
  have hacc:=X6n l i
  have hacc1:=X6n l (i+1)
  have hsh:c.toNat%128*2^(7*i)%2^IntKind.u64.bits=c.toNat%128*2^(7*i)%18446744073709551616:=rfl
  have hst:YT l i|||c.toNat%128*2^(7*i)%18446744073709551616=YT l (i+1):=by simp only[YT,hc,Option.getD_some]
  have hq:c.toNat%128*2^(7*i)%18446744073709551616<18446744073709551616:=Nat.mod_lt _ (by omega)
  by_cases hge:128≤c.toNat
  ·refine QHc ?_
   (refine Z1 (op:= .and) (r':=n8 (c.toNat%128)) (u:=n8 c.toNat) (v:=n8 127) ?_ (hr':=by exact congrArg n8 (X1n _)) (hr:=by exact X0i (by rw[UR];omega) (by rw[UR];omega)))
   (refine Z0 (u:=n8 (c.toNat%128)) (r:=n64 (c.toNat%128)) ?_ (hr:=by exact YQ rfl rfl (by rw[Yf];omega)));refine W1_ ?_
   (refine Z2 (op:= .mul) (r':=ni (7*i)) (u:=ni 7) (v:=ni i) ?_ (hr:=by exact V0 (by rw[XJ];omega)))
   (refine Z1 (op:= .shl) (r':=n64 (c.toNat%128*2^(7*i)%18446744073709551616)) (u:=n64 (c.toNat%128)) (v:=ni (7*i)) ?_ (hr':=by exact congrArg n64 hsh) (hr:=by exact X0F rfl (by show 7*i≤64;omega)))
   (refine Z1 (op:= .or) (r':=n64 (YT l (i+1))) (u:=n64 (YT l i)) (v:=n64 (c.toNat%128*2^(7*i)%18446744073709551616)) ?_ (hr':=by exact congrArg n64 hst) (hr:=by exact X0G (by rw[Yf];omega) (by rw[Yf];omega)))
   refine W8_ ?_;refine QCa ?_;exact QTc
  have hm:YY l=i:=X8r hbg hc (by omega) hlt.1
  by_cases h9:i=9
  ·by_cases hc1:1<c.toNat
   ·have hv:Ye b k=(0,0,4):=by rw[hnum];simp only[hm,hc,Option.getD_some];rw[if_neg (by omega),if_neg (by omega),if_pos ⟨h9,hc1⟩]
    rw[show YR b k=(0,0,4) by unfold YR;rw[hv];rfl]
    refine QHc ?_
    (refine Z1 (op:= .and) (r':=n8 (c.toNat%128)) (u:=n8 c.toNat) (v:=n8 127) ?_ (hr':=by exact congrArg n8 (X1n _)) (hr:=by exact X0i (by rw[UR];omega) (by rw[UR];omega)))
    (refine Z0 (u:=n8 (c.toNat%128)) (r:=n64 (c.toNat%128)) ?_ (hr:=by exact YQ rfl rfl (by rw[Yf];omega)));refine W1_ ?_
    (refine Z2 (op:= .mul) (r':=ni (7*i)) (u:=ni 7) (v:=ni i) ?_ (hr:=by exact V0 (by rw[XJ];omega)))
    (refine Z1 (op:= .shl) (r':=n64 (c.toNat%128*2^(7*i)%18446744073709551616)) (u:=n64 (c.toNat%128)) (v:=ni (7*i)) ?_ (hr':=by exact congrArg n64 hsh) (hr:=by exact X0F rfl (by show 7*i≤64;omega)))
    (refine Z1 (op:= .or) (r':=n64 (YT l (i+1))) (u:=n64 (YT l i)) (v:=n64 (c.toNat%128*2^(7*i)%18446744073709551616)) ?_ (hr':=by exact congrArg n64 hst) (hr:=by exact X0G (by rw[Yf];omega) (by rw[Yf];omega)))
    refine W8_ ?_;refine QUc ?_;refine Qz ?_;exact QRc
   ·have hval:YT l (i+1)=Yb (l.take (i+1)):=by subst h9;exact XeL l hc (by omega)
    by_cases hz:0<i∧c=0
    ·have hv:Ye b k=(Yb (l.take (i+1)),(k:Int)+i+1,0):=by rw[hnum];simp only[hm,hc,Option.getD_some];rw[if_neg (by omega),if_neg (by omega),if_neg (by omega)]
     rw[show YR b k=(Yb (l.take (i+1)),0,2) by
      unfold YR;rw[hv,hpad];simp only[hm,hc,Option.getD_some]
      simp[hz.1,hz.2]]
     obtain⟨hz1,hz2⟩:=hz
     have hz3:c.toNat=0:=by rw[hz2];rfl
     rw[←hval]
     refine QHc ?_
     (refine Z1 (op:= .and) (r':=n8 (c.toNat%128)) (u:=n8 c.toNat) (v:=n8 127) ?_ (hr':=by exact congrArg n8 (X1n _)) (hr:=by exact X0i (by rw[UR];omega) (by rw[UR];omega)))
     (refine Z0 (u:=n8 (c.toNat%128)) (r:=n64 (c.toNat%128)) ?_ (hr:=by exact YQ rfl rfl (by rw[Yf];omega)));refine W1_ ?_
     (refine Z2 (op:= .mul) (r':=ni (7*i)) (u:=ni 7) (v:=ni i) ?_ (hr:=by exact V0 (by rw[XJ];omega)))
     (refine Z1 (op:= .shl) (r':=n64 (c.toNat%128*2^(7*i)%18446744073709551616)) (u:=n64 (c.toNat%128)) (v:=ni (7*i)) ?_ (hr':=by exact congrArg n64 hsh) (hr:=by exact X0F rfl (by show 7*i≤64;omega)))
     (refine Z1 (op:= .or) (r':=n64 (YT l (i+1))) (u:=n64 (YT l i)) (v:=n64 (c.toNat%128*2^(7*i)%18446744073709551616)) ?_ (hr':=by exact congrArg n64 hst) (hr:=by exact X0G (by rw[Yf];omega) (by rw[Yf];omega)))
     refine QVc ?_;exact QXc
    ·have hz':¬(0<i∧c.toNat=0):=fun h=>hz ⟨h.1,UInt8.toNat_inj.1 h.2⟩
     have hv:Ye b k=(Yb (l.take (i+1)),(k:Int)+i+1,0):=by rw[hnum];simp only[hm,hc,Option.getD_some];rw[if_neg (by omega),if_neg (by omega),if_neg (by omega)]
     have hpf:V1 b k=false:=by
      rw[hpad];simp only[hm,hc,Option.getD_some]
      rw[Bool.and_eq_false_iff,decide_eq_false_iff_not,decide_eq_false_iff_not]
      by_cases h0:0<i
      ·exact .inr fun h2=>hz ⟨h0,h2⟩
      ·exact .inl h0
     rw[show YR b k=(Yb (l.take (i+1)),(k:Int)+i+1,0) by unfold YR;rw[hv,hpf];rfl]
     rw[←hval]
     by_cases hi0:0<i
     ·have hcz:¬(c.toNat=0):=fun h=>hz' ⟨hi0,h⟩
      refine QHc ?_
      (refine Z1 (op:= .and) (r':=n8 (c.toNat%128)) (u:=n8 c.toNat) (v:=n8 127) ?_ (hr':=by exact congrArg n8 (X1n _)) (hr:=by exact X0i (by rw[UR];omega) (by rw[UR];omega)))
      (refine Z0 (u:=n8 (c.toNat%128)) (r:=n64 (c.toNat%128)) ?_ (hr:=by exact YQ rfl rfl (by rw[Yf];omega)));refine W1_ ?_
      (refine Z2 (op:= .mul) (r':=ni (7*i)) (u:=ni 7) (v:=ni i) ?_ (hr:=by exact V0 (by rw[XJ];omega)))
      (refine Z1 (op:= .shl) (r':=n64 (c.toNat%128*2^(7*i)%18446744073709551616)) (u:=n64 (c.toNat%128)) (v:=ni (7*i)) ?_ (hr':=by exact congrArg n64 hsh) (hr:=by exact X0F rfl (by show 7*i≤64;omega)))
      (refine Z1 (op:= .or) (r':=n64 (YT l (i+1))) (u:=n64 (YT l i)) (v:=n64 (c.toNat%128*2^(7*i)%18446744073709551616)) ?_ (hr':=by exact congrArg n64 hst) (hr:=by exact X0G (by rw[Yf];omega) (by rw[Yf];omega)))
      refine QVc ?_;exact QYc
     ·exact absurd (by omega) hi0
  ·have hval:YT l (i+1)=Yb (l.take (i+1)):=X6G l (i+1) (by omega) (by omega)
   by_cases hz:0<i∧c=0
   ·have hv:Ye b k=(Yb (l.take (i+1)),(k:Int)+i+1,0):=by rw[hnum];simp only[hm,hc,Option.getD_some];rw[if_neg (by omega),if_neg (by omega),if_neg (by omega)]
    rw[show YR b k=(Yb (l.take (i+1)),0,2) by
     unfold YR;rw[hv,hpad];simp only[hm,hc,Option.getD_some]
     simp[hz.1,hz.2]]
    obtain⟨hz1,hz2⟩:=hz
    have hz3:c.toNat=0:=by rw[hz2];rfl
    rw[←hval]
    refine QHc ?_
    (refine Z1 (op:= .and) (r':=n8 (c.toNat%128)) (u:=n8 c.toNat) (v:=n8 127) ?_ (hr':=by exact congrArg n8 (X1n _)) (hr:=by exact X0i (by rw[UR];omega) (by rw[UR];omega)))
    (refine Z0 (u:=n8 (c.toNat%128)) (r:=n64 (c.toNat%128)) ?_ (hr:=by exact YQ rfl rfl (by rw[Yf];omega)));refine W1_ ?_
    (refine Z2 (op:= .mul) (r':=ni (7*i)) (u:=ni 7) (v:=ni i) ?_ (hr:=by exact V0 (by rw[XJ];omega)))
    (refine Z1 (op:= .shl) (r':=n64 (c.toNat%128*2^(7*i)%18446744073709551616)) (u:=n64 (c.toNat%128)) (v:=ni (7*i)) ?_ (hr':=by exact congrArg n64 hsh) (hr:=by exact X0F rfl (by show 7*i≤64;omega)))
    (refine Z1 (op:= .or) (r':=n64 (YT l (i+1))) (u:=n64 (YT l i)) (v:=n64 (c.toNat%128*2^(7*i)%18446744073709551616)) ?_ (hr':=by exact congrArg n64 hst) (hr:=by exact X0G (by rw[Yf];omega) (by rw[Yf];omega)))
    refine QZc ?_;exact QXc
   ·have hz':¬(0<i∧c.toNat=0):=fun h=>hz ⟨h.1,UInt8.toNat_inj.1 h.2⟩
    have hv:Ye b k=(Yb (l.take (i+1)),(k:Int)+i+1,0):=by rw[hnum];simp only[hm,hc,Option.getD_some];rw[if_neg (by omega),if_neg (by omega),if_neg (by omega)]
    have hpf:V1 b k=false:=by
     rw[hpad];simp only[hm,hc,Option.getD_some]
     rw[Bool.and_eq_false_iff,decide_eq_false_iff_not,decide_eq_false_iff_not]
     by_cases h0:0<i
     ·exact .inr fun h2=>hz ⟨h0,h2⟩
     ·exact .inl h0
    rw[show YR b k=(Yb (l.take (i+1)),(k:Int)+i+1,0) by unfold YR;rw[hv,hpf];rfl]
    rw[←hval]
    by_cases hi0:0<i
    ·have hcz:¬(c.toNat=0):=fun h=>hz' ⟨hi0,h⟩
     refine QHc ?_
     (refine Z1 (op:= .and) (r':=n8 (c.toNat%128)) (u:=n8 c.toNat) (v:=n8 127) ?_ (hr':=by exact congrArg n8 (X1n _)) (hr:=by exact X0i (by rw[UR];omega) (by rw[UR];omega)))
     (refine Z0 (u:=n8 (c.toNat%128)) (r:=n64 (c.toNat%128)) ?_ (hr:=by exact YQ rfl rfl (by rw[Yf];omega)));refine W1_ ?_
     (refine Z2 (op:= .mul) (r':=ni (7*i)) (u:=ni 7) (v:=ni i) ?_ (hr:=by exact V0 (by rw[XJ];omega)))
     (refine Z1 (op:= .shl) (r':=n64 (c.toNat%128*2^(7*i)%18446744073709551616)) (u:=n64 (c.toNat%128)) (v:=ni (7*i)) ?_ (hr':=by exact congrArg n64 hsh) (hr:=by exact X0F rfl (by show 7*i≤64;omega)))
     (refine Z1 (op:= .or) (r':=n64 (YT l (i+1))) (u:=n64 (YT l i)) (v:=n64 (c.toNat%128*2^(7*i)%18446744073709551616)) ?_ (hr':=by exact congrArg n64 hst) (hr:=by exact X0G (by rw[Yf];omega) (by rw[Yf];omega)))
     refine QZc ?_;exact QYc
    ·refine QHc ?_
     (refine Z1 (op:= .and) (r':=n8 (c.toNat%128)) (u:=n8 c.toNat) (v:=n8 127) ?_ (hr':=by exact congrArg n8 (X1n _)) (hr:=by exact X0i (by rw[UR];omega) (by rw[UR];omega)))
     (refine Z0 (u:=n8 (c.toNat%128)) (r:=n64 (c.toNat%128)) ?_ (hr:=by exact YQ rfl rfl (by rw[Yf];omega)));refine W1_ ?_
     (refine Z2 (op:= .mul) (r':=ni (7*i)) (u:=ni 7) (v:=ni i) ?_ (hr:=by exact V0 (by rw[XJ];omega)))
     (refine Z1 (op:= .shl) (r':=n64 (c.toNat%128*2^(7*i)%18446744073709551616)) (u:=n64 (c.toNat%128)) (v:=ni (7*i)) ?_ (hr':=by exact congrArg n64 hsh) (hr:=by exact X0F rfl (by show 7*i≤64;omega)))
     (refine Z1 (op:= .or) (r':=n64 (YT l (i+1))) (u:=n64 (YT l i)) (v:=n64 (c.toNat%128*2^(7*i)%18446744073709551616)) ?_ (hr':=by exact congrArg n64 hst) (hr:=by exact X0G (by rw[Yf];omega) (by rw[Yf];omega)))
     refine W8_ ?_;refine QWb ?_;refine Qv ?_;refine Qad ?_;refine Qv ?_;refine QF ?_;exact QYc
 ·refine QSc ?_;refine Yw ?_;refine JF ?_;refine Xr ?_
  refine XK (fun i:Nat=>big l i∧i≤10∧i≤l.length) (fun i=>⟨72,[(1,ai k),(7,.d (Xk (l.take 10))),(8,X21 (YT l i)),(31,.d (Xk (l.take 10))),(32,ai (l.take 10).length),(33,ai i)],[]⟩) (fun i=>10-i) 0 ⟨fun j hj=>by omega,by omega,by omega⟩
   (Xd rfl ⟨JL,(by refine AVal.le_of_eq ?_;refine Eq.trans (b:=AVal.d (.sl 1 (((b.map Xc).take (b.map Xc).length).drop k))) rfl ?_;rw[hE2 hbig]),JL,(by refine AVal.le_of_eq ?_;refine Eq.trans (b:=AVal.d (.sl 1 (((b.map Xc).take (b.map Xc).length).drop k))) rfl ?_;rw[hE2 hbig]),(by refine AVal.le_of_eq ?_;refine Eq.trans (b:=ai (((((b.map Xc).take (b.map Xc).length).drop k)).length:Nat)) rfl ?_;rw[hE2 hbig,List.length_map]),JL,trivial⟩ trivial) ?_
  rintro i ⟨hbg,hi10,hil⟩
  by_cases him:i=(l.take 10).length
  ·have hmm:i=min 10 l.length:=by rw[him];simp
   have hm:YY l=i:=X7r hbg hmm
   by_cases e10:(l.take 10).length=10
   ·have hv:Ye b k=(0,0,4):=by rw[hnum];simp only[hm];rw[if_pos (by omega)]
    rw[show YR b k=(0,0,4) by unfold YR;rw[hv];rfl]
    refine W5_ ?_;refine QWb ?_;exact QRc
   ·have hne:¬(i=10):=by rw[him];exact e10
    have hv:Ye b k=(0,0,3):=by rw[hnum];simp only[hm];rw[if_neg hne,if_pos (by omega)]
    rw[show YR b k=(0,0,3) by unfold YR;rw[hv];rfl]
    refine W5_ ?_;refine QWb ?_;refine Qma ?_;exact QQc
  have hlt:i<10∧i<l.length:=by rw[List.length_take] at him;omega
  have hlm:i<(l.take 10).length:=by rw[List.length_take];omega
  obtain⟨c,hc⟩:=XI (l:=l) (k:=i) (by omega)
  have hcm:(l.take 10)[i]? =some c:=by rw[List.getElem?_take_of_lt hlt.1];exact hc
  have hc8:=c.toNat_lt
  have hacc:=X6n l i
  have hacc1:=X6n l (i+1)
  have hsh:c.toNat%128*2^(7*i)%2^IntKind.u64.bits=c.toNat%128*2^(7*i)%18446744073709551616:=rfl
  have hst:YT l i|||c.toNat%128*2^(7*i)%18446744073709551616=YT l (i+1):=by simp only[YT,hc,Option.getD_some]
  have hq:c.toNat%128*2^(7*i)%18446744073709551616<18446744073709551616:=Nat.mod_lt _ (by omega)
  by_cases hge:128≤c.toNat
  ·refine QHc ?_
   (refine Z1 (op:= .and) (r':=n8 (c.toNat%128)) (u:=n8 c.toNat) (v:=n8 127) ?_ (hr':=by exact congrArg n8 (X1n _)) (hr:=by exact X0i (by rw[UR];omega) (by rw[UR];omega)))
   (refine Z0 (u:=n8 (c.toNat%128)) (r:=n64 (c.toNat%128)) ?_ (hr:=by exact YQ rfl rfl (by rw[Yf];omega)));refine W1_ ?_
   (refine Z2 (op:= .mul) (r':=ni (7*i)) (u:=ni 7) (v:=ni i) ?_ (hr:=by exact V0 (by rw[XJ];omega)))
   (refine Z1 (op:= .shl) (r':=n64 (c.toNat%128*2^(7*i)%18446744073709551616)) (u:=n64 (c.toNat%128)) (v:=ni (7*i)) ?_ (hr':=by exact congrArg n64 hsh) (hr:=by exact X0F rfl (by show 7*i≤64;omega)))
   (refine Z1 (op:= .or) (r':=n64 (YT l (i+1))) (u:=n64 (YT l i)) (v:=n64 (c.toNat%128*2^(7*i)%18446744073709551616)) ?_ (hr':=by exact congrArg n64 hst) (hr:=by exact X0G (by rw[Yf];omega) (by rw[Yf];omega)))
   refine W8_ ?_;refine QCa ?_;exact QTc
  have hm:YY l=i:=X8r hbg hc (by omega) hlt.1
  by_cases h9:i=9
  ·by_cases hc1:1<c.toNat
   ·have hv:Ye b k=(0,0,4):=by rw[hnum];simp only[hm,hc,Option.getD_some];rw[if_neg (by omega),if_neg (by omega),if_pos ⟨h9,hc1⟩]
    rw[show YR b k=(0,0,4) by unfold YR;rw[hv];rfl]
    refine QHc ?_
    (refine Z1 (op:= .and) (r':=n8 (c.toNat%128)) (u:=n8 c.toNat) (v:=n8 127) ?_ (hr':=by exact congrArg n8 (X1n _)) (hr:=by exact X0i (by rw[UR];omega) (by rw[UR];omega)))
    (refine Z0 (u:=n8 (c.toNat%128)) (r:=n64 (c.toNat%128)) ?_ (hr:=by exact YQ rfl rfl (by rw[Yf];omega)));refine W1_ ?_
    (refine Z2 (op:= .mul) (r':=ni (7*i)) (u:=ni 7) (v:=ni i) ?_ (hr:=by exact V0 (by rw[XJ];omega)))
    (refine Z1 (op:= .shl) (r':=n64 (c.toNat%128*2^(7*i)%18446744073709551616)) (u:=n64 (c.toNat%128)) (v:=ni (7*i)) ?_ (hr':=by exact congrArg n64 hsh) (hr:=by exact X0F rfl (by show 7*i≤64;omega)))
    (refine Z1 (op:= .or) (r':=n64 (YT l (i+1))) (u:=n64 (YT l i)) (v:=n64 (c.toNat%128*2^(7*i)%18446744073709551616)) ?_ (hr':=by exact congrArg n64 hst) (hr:=by exact X0G (by rw[Yf];omega) (by rw[Yf];omega)))
    refine W8_ ?_;refine QUc ?_;refine Qz ?_;exact QRc
   ·have hval:YT l (i+1)=Yb (l.take (i+1)):=by subst h9;exact XeL l hc (by omega)
    by_cases hz:0<i∧c=0
    ·have hv:Ye b k=(Yb (l.take (i+1)),(k:Int)+i+1,0):=by rw[hnum];simp only[hm,hc,Option.getD_some];rw[if_neg (by omega),if_neg (by omega),if_neg (by omega)]
     rw[show YR b k=(Yb (l.take (i+1)),0,2) by
      unfold YR;rw[hv,hpad];simp only[hm,hc,Option.getD_some]
      simp[hz.1,hz.2]]
     obtain⟨hz1,hz2⟩:=hz
     have hz3:c.toNat=0:=by rw[hz2];rfl
     rw[←hval]
     refine QHc ?_
     (refine Z1 (op:= .and) (r':=n8 (c.toNat%128)) (u:=n8 c.toNat) (v:=n8 127) ?_ (hr':=by exact congrArg n8 (X1n _)) (hr:=by exact X0i (by rw[UR];omega) (by rw[UR];omega)))
     (refine Z0 (u:=n8 (c.toNat%128)) (r:=n64 (c.toNat%128)) ?_ (hr:=by exact YQ rfl rfl (by rw[Yf];omega)));refine W1_ ?_
     (refine Z2 (op:= .mul) (r':=ni (7*i)) (u:=ni 7) (v:=ni i) ?_ (hr:=by exact V0 (by rw[XJ];omega)))
     (refine Z1 (op:= .shl) (r':=n64 (c.toNat%128*2^(7*i)%18446744073709551616)) (u:=n64 (c.toNat%128)) (v:=ni (7*i)) ?_ (hr':=by exact congrArg n64 hsh) (hr:=by exact X0F rfl (by show 7*i≤64;omega)))
     (refine Z1 (op:= .or) (r':=n64 (YT l (i+1))) (u:=n64 (YT l i)) (v:=n64 (c.toNat%128*2^(7*i)%18446744073709551616)) ?_ (hr':=by exact congrArg n64 hst) (hr:=by exact X0G (by rw[Yf];omega) (by rw[Yf];omega)))
     refine QVc ?_;exact QXc
    ·have hz':¬(0<i∧c.toNat=0):=fun h=>hz ⟨h.1,UInt8.toNat_inj.1 h.2⟩
     have hv:Ye b k=(Yb (l.take (i+1)),(k:Int)+i+1,0):=by rw[hnum];simp only[hm,hc,Option.getD_some];rw[if_neg (by omega),if_neg (by omega),if_neg (by omega)]
     have hpf:V1 b k=false:=by
      rw[hpad];simp only[hm,hc,Option.getD_some]
      rw[Bool.and_eq_false_iff,decide_eq_false_iff_not,decide_eq_false_iff_not]
      by_cases h0:0<i
      ·exact .inr fun h2=>hz ⟨h0,h2⟩
      ·exact .inl h0
     rw[show YR b k=(Yb (l.take (i+1)),(k:Int)+i+1,0) by unfold YR;rw[hv,hpf];rfl]
     rw[←hval]
     by_cases hi0:0<i
     ·have hcz:¬(c.toNat=0):=fun h=>hz' ⟨hi0,h⟩
      refine QHc ?_
      (refine Z1 (op:= .and) (r':=n8 (c.toNat%128)) (u:=n8 c.toNat) (v:=n8 127) ?_ (hr':=by exact congrArg n8 (X1n _)) (hr:=by exact X0i (by rw[UR];omega) (by rw[UR];omega)))
      (refine Z0 (u:=n8 (c.toNat%128)) (r:=n64 (c.toNat%128)) ?_ (hr:=by exact YQ rfl rfl (by rw[Yf];omega)));refine W1_ ?_
      (refine Z2 (op:= .mul) (r':=ni (7*i)) (u:=ni 7) (v:=ni i) ?_ (hr:=by exact V0 (by rw[XJ];omega)))
      (refine Z1 (op:= .shl) (r':=n64 (c.toNat%128*2^(7*i)%18446744073709551616)) (u:=n64 (c.toNat%128)) (v:=ni (7*i)) ?_ (hr':=by exact congrArg n64 hsh) (hr:=by exact X0F rfl (by show 7*i≤64;omega)))
      (refine Z1 (op:= .or) (r':=n64 (YT l (i+1))) (u:=n64 (YT l i)) (v:=n64 (c.toNat%128*2^(7*i)%18446744073709551616)) ?_ (hr':=by exact congrArg n64 hst) (hr:=by exact X0G (by rw[Yf];omega) (by rw[Yf];omega)))
      refine QVc ?_;exact QYc
     ·exact absurd (by omega) hi0
  ·have hval:YT l (i+1)=Yb (l.take (i+1)):=X6G l (i+1) (by omega) (by omega)
   by_cases hz:0<i∧c=0
   ·have hv:Ye b k=(Yb (l.take (i+1)),(k:Int)+i+1,0):=by rw[hnum];simp only[hm,hc,Option.getD_some];rw[if_neg (by omega),if_neg (by omega),if_neg (by omega)]
    rw[show YR b k=(Yb (l.take (i+1)),0,2) by
     unfold YR;rw[hv,hpad];simp only[hm,hc,Option.getD_some]
     simp[hz.1,hz.2]]
    obtain⟨hz1,hz2⟩:=hz
    have hz3:c.toNat=0:=by rw[hz2];rfl
    rw[←hval]
    refine QHc ?_
    (refine Z1 (op:= .and) (r':=n8 (c.toNat%128)) (u:=n8 c.toNat) (v:=n8 127) ?_ (hr':=by exact congrArg n8 (X1n _)) (hr:=by exact X0i (by rw[UR];omega) (by rw[UR];omega)))
    (refine Z0 (u:=n8 (c.toNat%128)) (r:=n64 (c.toNat%128)) ?_ (hr:=by exact YQ rfl rfl (by rw[Yf];omega)));refine W1_ ?_
    (refine Z2 (op:= .mul) (r':=ni (7*i)) (u:=ni 7) (v:=ni i) ?_ (hr:=by exact V0 (by rw[XJ];omega)))
    (refine Z1 (op:= .shl) (r':=n64 (c.toNat%128*2^(7*i)%18446744073709551616)) (u:=n64 (c.toNat%128)) (v:=ni (7*i)) ?_ (hr':=by exact congrArg n64 hsh) (hr:=by exact X0F rfl (by show 7*i≤64;omega)))
    (refine Z1 (op:= .or) (r':=n64 (YT l (i+1))) (u:=n64 (YT l i)) (v:=n64 (c.toNat%128*2^(7*i)%18446744073709551616)) ?_ (hr':=by exact congrArg n64 hst) (hr:=by exact X0G (by rw[Yf];omega) (by rw[Yf];omega)))
    refine QZc ?_;exact QXc
   ·have hz':¬(0<i∧c.toNat=0):=fun h=>hz ⟨h.1,UInt8.toNat_inj.1 h.2⟩
    have hv:Ye b k=(Yb (l.take (i+1)),(k:Int)+i+1,0):=by rw[hnum];simp only[hm,hc,Option.getD_some];rw[if_neg (by omega),if_neg (by omega),if_neg (by omega)]
    have hpf:V1 b k=false:=by
     rw[hpad];simp only[hm,hc,Option.getD_some]
     rw[Bool.and_eq_false_iff,decide_eq_false_iff_not,decide_eq_false_iff_not]
     by_cases h0:0<i
     ·exact .inr fun h2=>hz ⟨h0,h2⟩
     ·exact .inl h0
    rw[show YR b k=(Yb (l.take (i+1)),(k:Int)+i+1,0) by unfold YR;rw[hv,hpf];rfl]
    rw[←hval]
    by_cases hi0:0<i
    ·have hcz:¬(c.toNat=0):=fun h=>hz' ⟨hi0,h⟩
     refine QHc ?_
     (refine Z1 (op:= .and) (r':=n8 (c.toNat%128)) (u:=n8 c.toNat) (v:=n8 127) ?_ (hr':=by exact congrArg n8 (X1n _)) (hr:=by exact X0i (by rw[UR];omega) (by rw[UR];omega)))
     (refine Z0 (u:=n8 (c.toNat%128)) (r:=n64 (c.toNat%128)) ?_ (hr:=by exact YQ rfl rfl (by rw[Yf];omega)));refine W1_ ?_
     (refine Z2 (op:= .mul) (r':=ni (7*i)) (u:=ni 7) (v:=ni i) ?_ (hr:=by exact V0 (by rw[XJ];omega)))
     (refine Z1 (op:= .shl) (r':=n64 (c.toNat%128*2^(7*i)%18446744073709551616)) (u:=n64 (c.toNat%128)) (v:=ni (7*i)) ?_ (hr':=by exact congrArg n64 hsh) (hr:=by exact X0F rfl (by show 7*i≤64;omega)))
     (refine Z1 (op:= .or) (r':=n64 (YT l (i+1))) (u:=n64 (YT l i)) (v:=n64 (c.toNat%128*2^(7*i)%18446744073709551616)) ?_ (hr':=by exact congrArg n64 hst) (hr:=by exact X0G (by rw[Yf];omega) (by rw[Yf];omega)))
     refine QZc ?_;exact QYc
    ·refine QHc ?_
     (refine Z1 (op:= .and) (r':=n8 (c.toNat%128)) (u:=n8 c.toNat) (v:=n8 127) ?_ (hr':=by exact congrArg n8 (X1n _)) (hr:=by exact X0i (by rw[UR];omega) (by rw[UR];omega)))
     (refine Z0 (u:=n8 (c.toNat%128)) (r:=n64 (c.toNat%128)) ?_ (hr:=by exact YQ rfl rfl (by rw[Yf];omega)));refine W1_ ?_
     (refine Z2 (op:= .mul) (r':=ni (7*i)) (u:=ni 7) (v:=ni i) ?_ (hr:=by exact V0 (by rw[XJ];omega)))
     (refine Z1 (op:= .shl) (r':=n64 (c.toNat%128*2^(7*i)%18446744073709551616)) (u:=n64 (c.toNat%128)) (v:=ni (7*i)) ?_ (hr':=by exact congrArg n64 hsh) (hr:=by exact X0F rfl (by show 7*i≤64;omega)))
     (refine Z1 (op:= .or) (r':=n64 (YT l (i+1))) (u:=n64 (YT l i)) (v:=n64 (c.toNat%128*2^(7*i)%18446744073709551616)) ?_ (hr':=by exact congrArg n64 hst) (hr:=by exact X0G (by rw[Yf];omega) (by rw[Yf];omega)))
     refine W8_ ?_;refine QWb ?_;refine Qv ?_;refine Qad ?_;refine Qv ?_;refine QF ?_;exact QYc
theorem Xcj {b:List UInt8}{a:Int} (h:(Ye b a).2.2=0):∃k:Nat,a=k∧k≤b.length∧YY (b.drop k)<(b.drop k).length∧YY (b.drop k)<10∧(Ye b a).2.1=((k+YY (b.drop k)+1:Nat):Int):=by
 unfold Ye at h ⊢
 split at h
 ·simp at h
 rename_i ha
 have hm:YY (b.drop a.toNat)≤10:=by
  unfold YY
  have:=(List.takeWhile_sublist (l:=(b.drop a.toNat).take 10) (fun b=>decide (128≤b.toNat))).length_le
  simp at this ⊢;omega
 simp only at h ⊢
 split at h
 ·simp at h
 rename_i h10
 split at h
 ·simp at h
 rename_i hle
 split at h
 ·simp at h
 rename_i h9
 have ha':¬(a<0)∧¬((b.length:Int)<a):=by simpa using ha
 refine⟨a.toNat,by omega,by omega,by omega,by omega,?_⟩
 rw[if_neg ha,if_neg h10,if_neg hle,if_neg h9]
 simp only;omega
theorem Xah {b:List UInt8}{a:Int}:(Ye b a).1<18446744073709551616:=by
 by_cases h:(Ye b a).2.2=0
 ·by_cases hp:V1 b a=false
  ·exact(XbN (b:=b) (a:=a) (e:=(Ye b a).2.1) (u:=(Ye b a).1) (by rw[←h]) hp).2.2.2.2
  ·obtain⟨k,rfl,hk,h1,h2,_⟩:=Xcj h
   have hp:V1 b (k:Int)=true:=by simpa using hp
   unfold V1 at hp
   simp only[Int.toNat_natCast,Bool.and_eq_true,decide_eq_true_eq] at hp
   obtain⟨c,hc⟩:=XI (l:=b.drop k) h1
   rw[hc] at hp
   simp only[Option.getD_some] at hp
   have hc0:c.toNat=0:=by rw[hp.2];rfl
   unfold Ye
   rw[if_neg (by omega)]
   simp only[Int.toNat_natCast]
   rw[if_neg (by omega),if_neg (by omega)]
   split
   ·simp
   ·simp only
    rw[X4z _ _ c hc,hc0]
    have h3:=X6V (b.drop k) (YY (b.drop k))
    have h4:(2:Nat)^(7*YY (b.drop k))≤2^63:=Nat.pow_le_pow_right (by omega) (by omega)
    omega
 ·unfold Ye at h ⊢
  split at h
  ·rename_i h1;rw[if_pos h1];simp
  rename_i h1;rw[if_neg h1]
  simp only at h ⊢
  split at h
  ·rename_i h2;rw[if_pos h2];simp
  rename_i h2;rw[if_neg h2]
  split at h
  ·rename_i h3;rw[if_pos h3];simp
  rename_i h3;rw[if_neg h3]
  split at h
  ·rename_i h4;rw[if_pos h4];simp
  ·simp at h
theorem XhV {b:List UInt8}{a:Int}:(YR b a).1<18446744073709551616:=by
 unfold YR
 simp only
 split
 ·simp
 ·split<;>exact Xah
theorem X7m {b:List UInt8}{a:Int}:Xz b a=if 9223372036854775807<(YR b a).1 then (0,0,4) else if (YR b a).2.2≠0 then (0,0,(YR b a).2.2) else (((YR b a).1:Int),(YR b a).2.1,0):=by
 unfold Xz YR
 simp only
 by_cases h:(Ye b a).2.2=0
 ·simp only[h,ne_eq,not_true_eq_false,if_false]
  cases hp:V1 b a with
  |true=>simp only[if_true];simp
  |false=>simp only[Bool.false_eq_true,if_false,h];simp
 ·simp[h]
theorem Xl1 {b:List UInt8}{a:Int}:XW b a=if (YR b a).2.2≠0 then (0,0,(YR b a).2.2) else (zag (YR b a).1,(YR b a).2.1,0):=by
 unfold XW YR
 simp only
 by_cases h:(Ye b a).2.2=0
 ·simp only[h,ne_eq,not_true_eq_false,if_false]
  cases hp:V1 b a with
  |true=>simp
  |false=>simp[h]
 ·simp[h]
abbrev aN3 (r:Int×Int×Int):AVal:= .tup [ai r.1,ai r.2.1,ai r.2.2]
theorem X4R (b:List UInt8) (a:Int) (hb:b.length≤281474976710656):Con Tryz.prog 69 [] [.d (Xk b),ai a] [] (aN3 (Xz b a)):=by
 refine Xg (xs:=[ai (Xz b a).1,ai (Xz b a).2.1,ai (Xz b a).2.2]) Tryz.func69 rfl Tryz.ntmps69 rfl rfl rfl (fun E=> ?_)
 have hr:=XgG b a hb
 have hlt:=XhV (b:=b) (a:=a)
 rw[X7m]
 generalize YR b a=r at*
 obtain⟨u,e,err⟩:=r
 simp only at hlt ⊢
 by_cases h1:9223372036854775807<u
 ·rw[if_pos h1]
  refine Qbd ?_;exact QRc
 rw[if_neg h1]
 by_cases h2:err=0
 ·rw[if_neg (by simpa using h2)]
  refine Qbd ?_;refine Qka ?_;(refine Z0 (u:=n64 u) (r:=ni u) ?_ (hr:=by exact YQ rfl rfl (by rw[XJ];omega)));exact Qcd
 ·rw[if_pos h2]
  refine Qbd ?_;refine Qia ?_;exact QXc
theorem XhI (b:List UInt8) (a:Int) (hb:b.length≤281474976710656):Con Tryz.prog 158 [] [.d (Xk b),ai a] [] (aN3 (XW b a)):=by
 refine Xg (xs:=[ai (XW b a).1,ai (XW b a).2.1,ai (XW b a).2.2]) Tryz.func158 rfl Tryz.ntmps158 rfl rfl rfl (fun E=> ?_)
 have hr:=XgG b a hb
 have hlt:=XhV (b:=b) (a:=a)
 rw[Xl1]
 generalize YR b a=r at*
 obtain⟨u,e,err⟩:=r
 simp only at hlt ⊢
 by_cases h2:err=0
 ·rw[if_neg (by simpa using h2)]
  have hx:∀w,(Op.unary .xor (ni (u/2))).run Tryz.prog w= .ok (.int .i64 (-((u/2:Nat):Int)-1)) w:=fun w=>Xp7 (P:=Tryz.prog) (by omega) w
  by_cases hodd:u%2=1
  ·rw[show zag u= -((u/2:Nat):Int)-1 by unfold zag;rw[if_pos hodd]]
   refine Qdd ?_;refine Qg ?_;refine Z2 (op:= .shr) (r':=n64 (u/2)) (u:=n64 u) (v:=n64 1) ?_ (hr:=by exact X0D (by decide));(refine Z0 (u:=n64 (u/2)) (r:=ni (u/2)) ?_ (hr:=by exact YQ rfl rfl (by rw[XJ];omega)));refine W6_ ?_;(refine Z1 (op:= .and) (r':=n64 (u%2)) (u:=n64 u) (v:=n64 1) ?_ (hr':=by exact congrArg n64 (Nat.and_one_is_mod u)) (hr:=by exact X0i (by rw[Yf];omega) (by rw[Yf];omega)));refine W2_ ?_;refine Qm ?_;refine Z4 (u:=ni (u/2)) (r:= .int .i64 (-((u/2:Nat):Int)-1)) ?_ (hr:=by exact hx);refine Xj ?_;exact QQc
  ·rw[show zag u=((u/2:Nat):Int) by unfold zag;rw[if_neg hodd]]
   refine Qdd ?_;refine Qg ?_;refine Z2 (op:= .shr) (r':=n64 (u/2)) (u:=n64 u) (v:=n64 1) ?_ (hr:=by exact X0D (by decide));(refine Z0 (u:=n64 (u/2)) (r:=ni (u/2)) ?_ (hr:=by exact YQ rfl rfl (by rw[XJ];omega)));refine W6_ ?_;(refine Z1 (op:= .and) (r':=n64 (u%2)) (u:=n64 u) (v:=n64 1) ?_ (hr':=by exact congrArg n64 (Nat.and_one_is_mod u)) (hr:=by exact X0i (by rw[Yf];omega) (by rw[Yf];omega)));refine W2_ ?_;refine Qed ?_;exact QQc
 ·rw[if_pos h2]
  refine Qdd ?_;exact QXc
theorem XiM {b:List UInt8}{a most:Int}:U2 b a most=if (Xz b a).2.2≠0 then ([],0,(Xz b a).2.2) else if most<(Xz b a).1 then ([],0,4) else if (b.length:Int)-(Xz b a).2.1<(Xz b a).1 then ([],0,3) else
  ((b.drop (Xz b a).2.1.toNat).take (Xz b a).1.toNat,(Xz b a).2.1+(Xz b a).1,0):=rfl
theorem X61 {b:List UInt8}{a:Int}:(Xz b a).2.2=0→∃n f:Nat,(Xz b a).1=n∧(Xz b a).2.1=f∧f≤b.length∧(n:Int)≤9223372036854775807:=by
 intro h
 obtain⟨⟨k1,k2,k3,k4⟩,k5,k6,k7⟩:=X3r (b:=b) (a:=a) (n:=(Xz b a).1) (e:=(Xz b a).2.1) (by rw[←h])
 exact⟨(Xz b a).1.toNat,(Xz b a).2.1.toNat,by omega,by omega,by omega,by omega⟩
theorem X9C (b:List UInt8) (a most:Int) (hb:b.length≤281474976710656):Con Tryz.prog 161 [] [.d (Xk b),ai a,ai most] [] (X5D (XH (U2 b a most).1) (U2 b a most).2.1 (U2 b a most).2.2):=by
 refine Xg (xs:=[XH (U2 b a most).1,ai (U2 b a most).2.1,ai (U2 b a most).2.2]) Tryz.func161 rfl Tryz.ntmps161 rfl rfl rfl (fun E=> ?_)
 have hr:=X4R b a hb
 have hf:=X61 (b:=b) (a:=a)
 rw[XiM]
 generalize Xz b a=r at*
 obtain⟨n,f,err⟩:=r
 simp only at hf ⊢
 by_cases h2:err=0
 ·obtain⟨n,f,rfl,rfl,hf1,hf2⟩:=hf h2
  rw[if_neg (by simpa using h2)]
  by_cases h3:most<(n:Int)
  ·rw[if_pos h3]
   refine Qbd ?_;refine Qma ?_;exact QRc
  rw[if_neg h3]
  by_cases h4:(b.length:Int)-f<n
  ·rw[if_pos h4]
   refine Qbd ?_;refine Qma ?_;refine QUc ?_;exact QRc
  rw[if_neg h4]
  have hsl:((b.map Xc).take (f+n)).drop f=((b.drop f).take n).map Xc:=by rw[List.map_take,List.map_drop,List.drop_take,Nat.add_sub_cancel_left]
  refine Qbd ?_;refine Qma ?_;refine QUc ?_;refine Qma ?_;(refine Z2 (op:= .add) (r':=ni (f+n)) (u:=ni f) (v:=ni n) ?_ (hr:=by exact Ym (by rw[XJ];omega)));refine Qfd ?_;refine W3_ ?_;(refine Z2 (op:= .add) (r':=ni (f+n)) (u:=ni f) (v:=ni n) ?_ (hr:=by exact Ym (by rw[XJ];omega)));refine W4_ ?_;exact QQc
 ·rw[if_pos h2]
  refine Qbd ?_;exact QXc
abbrev zB:List D:=[.v (.int .u8 0)]
theorem Xqa {b:List UInt8}{i:Nat} (hi:i<4):∃y,(Vq b)[i]? =some y∧n8 (YE b/2^(8*i)%256)=n8 y.toNat:=by
 have hs:=X49 b
 rcases i with _|_|_|_|i
 ·exact⟨_,rfl,by rw[X0k (by omega)];simp⟩
 ·exact⟨_,rfl,by rw[X0k (by omega)]⟩
 ·exact⟨_,rfl,by rw[X0k (by omega)]⟩
 ·exact⟨_,rfl,by rw[X0k (by omega)];show n8 (YE b/16777216%256)=_;rw[Nat.mod_eq_of_lt (by omega)]⟩
 ·omega
theorem X9W (b:List UInt8) (hb:b.length≤65536):Con Tryz.prog 20 [] [.d (Xk b)] [] (.d (Xk (YM b))):=by
 refine Xg (xs:=[.d (Xk (YM b))]) Tryz.func20 rfl Tryz.ntmps20 rfl rfl rfl (fun E=> ?_)
 have hl:(Xm (b.length:Int)).length≤10:=by rw[X1j (by omega)];exact X0Q (by omega)
 have hpc:=X3H b.length (by omega)
 have hput:YM b=Xm (b.length:Int)++b++Vq b:=rfl
 generalize Xm (b.length:Int)=hd at*
 have hlb:(List.map Xc b).length=b.length:=by simp
 have hlm:(List.map Xc hd).length=hd.length:=by simp
 have hm1:hd.length=min (hd.map Xc).length (List.replicate ((hd.map Xc).length+(b.map Xc).length+4) (zD (Value.int IntKind.u8 0).cells.toList)).length:=by simp;omega
 have hk:hd.length≤((hd.map Xc).take hd.length++(List.replicate ((hd.map Xc).length+(b.map Xc).length+4) (zD (Value.int IntKind.u8 0).cells.toList)).drop hd.length).length:=by simp
 have hm2:b.length=min (b.map Xc).length (((hd.map Xc).take hd.length++(List.replicate ((hd.map Xc).length+(b.map Xc).length+4) (zD (Value.int IntKind.u8 0).cells.toList)).drop hd.length).length-hd.length):=by simp;omega
 refine W8_ ?_;refine Z3 (hcon:=hpc) ?_;refine Xj ?_;refine Qj ?_;refine W6_ ?_;refine X9L (m:=hd.length) (hg:=JSa) (hx:=JSb) (hL:=JSb) (hn:=JSe) (hy:=JSb) (hT:=JSb) (hd:=JSb) ?_ (hm:=by exact hm1);refine W7_ ?_;refine X1f (k:=hd.length) (hg:=JSa) (hx:=JSb) (hL:=JSb) (hlo:=JSb) (hn:=JSe) (hT:=JSb) (hd:=JSb) ?_ (hk:=by exact hk);refine W1_ ?_;refine X2R (m:=b.length) (hg:=JSa) (hx:=JSb) (hL:=JSb) (hn:=JSe) (hy:=JSb) (hsrc:=JSf) (hT:=JSb) (hd:=JSb) ?_ (hk:=by exact hk) (hm:=by exact hm2);(refine Z2 (op:= .add) (r':=ni (hd.length+b.length)) (u:=ni hd.length) (v:=ni b.length) ?_ (hr:=by exact Ym (by rw[XJ];omega)));refine W5_ ?_;refine Z3 (hcon:=X9B b) ?_;refine W8_ ?_
 refine XK (fun i:Nat=>i≤4) (fun i=>⟨45,[(4,.own 131 (hd.length+b.length+4)),(5,ai (hd.length+b.length:Nat)),(6,ai (YE b)),(30,ai i)],[(131,.row 1 ((hd++b++(Vq b).take i).map Xc++List.replicate (4-i) zB))]⟩) (fun i=>4-i) 0 (by omega)
  (Xd rfl ⟨(by refine AVal.le_of_eq ?_;refine Eq.trans (b:=AVal.own 131 ((hd.map Xc).length+(b.map Xc).length+4)) rfl ?_;rw[hlb,hlm]),JL,JL,JL,trivial⟩ ⟨?_,trivial⟩) ?_
 ·refine Eq.trans (b:=AObj.row 1 (List.take _ _++_++List.drop _ _)) rfl ?_
  congr 1
  rw[List.take_of_length_le (l:=hd.map Xc) (by simp),List.take_left' (by simp),List.take_of_length_le (by simp),List.drop_append,List.drop_of_length_le (by simp),List.nil_append,List.drop_drop,List.drop_replicate]
  simp only[List.take_zero,List.append_nil,List.map_append,Nat.sub_zero]
  congr 1
  rw[show (List.map Xc hd).length+(List.map Xc b).length+4-(hd.length+(hd.length+b.length-(List.map Xc hd).length))=4 by rw[hlb,hlm];omega]
  rfl
 intro i hi
 by_cases h4:i<4
 ·obtain⟨y,hy,hey⟩:=Xqa (b:=b) h4
  have hs:=X49 b
  have h8:8*i≤64:=by omega
  have hrl:((hd++b++(Vq b).take i).map Xc++List.replicate (4-i) zB).length=hd.length+b.length+4:=by
   have:=X2W b
   simp only[List.length_append,List.length_map,List.length_take,List.length_replicate];omega
  have hrl2:=hrl.symm
  have hrl3:hd.length+b.length+i<((hd++b++(Vq b).take i).map Xc++List.replicate (4-i) zB).length:=by rw[hrl];omega
  have hsl:(hd++b++(Vq b).take i).length=hd.length+b.length+i:=by
   have:=X2W b
   simp only[List.length_append,List.length_take];omega
  refine Qk ?_;refine Xt ?_;(refine Z2 (op:= .add) (r':=ni (hd.length+b.length+i)) (u:=ni (hd.length+b.length)) (v:=ni i) ?_ (hr:=by exact Ym (by rw[XJ];omega)));refine W2_ ?_
  (refine Z2 (op:= .mul) (r':=ni (8*i)) (u:=ni 8) (v:=ni i) ?_ (hr:=by exact V0 (by rw[XJ];omega)))
  refine Z2 (op:= .shr) (r':=ni (YE b/2^(8*i))) (u:=ni (YE b)) (v:=ni (8*i)) ?_ (hr:=by exact X0D h8);(refine Z0 (u:=ni (YE b/2^(8*i))) (r:=n8 y.toNat) ?_ (hr:=by exact by rw[←hey];exact U8 rfl rfl));refine W7_ ?_
  refine⟨i+1,by omega,by omega,Xd rfl ⟨JL,JL,JL,JL,trivial⟩ ⟨?_,trivial⟩⟩
  refine Eq.trans (b:=AObj.row 1 (List.take _ _++[Xc y]++List.drop _ _)) rfl ?_
  congr 1
  rw[List.take_left' (by rw[List.length_map,hsl]),List.drop_append,List.drop_of_length_le (by rw[List.length_map,hsl];omega),List.nil_append,List.length_map,hsl,List.drop_replicate,List.take_add_one,hy]
  simp only[Option.toList_some,List.map_append,List.map_cons,List.map_nil,List.append_assoc]
  rw[show 4-i-(hd.length+b.length+i+1-(hd.length+b.length+i))=4-(i+1) by omega]
 obtain rfl:i=4:=by omega
 have hfin:(hd++b++(Vq b).take 4).map Xc++List.replicate (4-4) zB=(YM b).map Xc:=by
  rw[hput,List.take_of_length_le (by rw[X2W];omega)];simp
 rw[hfin]
 refine Xq (Yg 131 rfl) ?_;refine Xq (Yx 4 131 rfl rfl (by rw[List.length_map,hput];simp only[List.length_append,X2W])) ?_;refine QGc ?_;exact Qp
def X1P (b:List UInt8) (k:Nat):Nat→Nat
 |0=>0
 |i+1=>X1P b k i+2^(8*i)*((b[k+i]?).getD 0).toNat
theorem Xh1 (b:List UInt8) (k:Nat):∀i,X1P b k i<2^(8*i)
 |0=>by simp[X1P]
 |i+1=>by
  have h1:=Xh1 b k i
  have h2:=((b[k+i]?).getD 0).toNat_lt
  simp only[X1P]
  rw[show 8*(i+1)=8*i+8 by omega,Nat.pow_add]
  have:2^(8*i)*((b[k+i]?).getD 0).toNat≤2^(8*i)*255:=Nat.mul_le_mul_left _ (by omega)
  omega
theorem Xs2 (b:List UInt8) (k:Nat):X1P b k 4=X0s b k:=by
 simp[X1P,X0s]
theorem XiB {b:List UInt8}{a:Int}:UZ b a=if (Xz b a).2.2≠0 then ([],0,(Xz b a).2.2) else if (b.length:Int)-(Xz b a).2.1<4∨(b.length:Int)-(Xz b a).2.1-4<(Xz b a).1 then ([],0,3) else
  if X0s b ((Xz b a).2.1+(Xz b a).1).toNat≠YE ((b.drop (Xz b a).2.1.toNat).take (Xz b a).1.toNat) then ([],0,21) else ((b.drop (Xz b a).2.1.toNat).take (Xz b a).1.toNat,(Xz b a).2.1+(Xz b a).1+4,0):=rfl
theorem Xqv (b:List UInt8) (a:Int) (hb:b.length≤140737488355328):Con Tryz.prog 67 [] [.d (Xk b),ai a] [] (X5D (.d (Xk (UZ b a).1)) (UZ b a).2.1 (UZ b a).2.2):=by
 refine Xg (xs:=[.d (Xk (UZ b a).1),ai (UZ b a).2.1,ai (UZ b a).2.2]) Tryz.func67 rfl Tryz.ntmps67 rfl rfl rfl (fun E=> ?_)
 have hr:=X4R b a (by omega)
 have hf:=X61 (b:=b) (a:=a)
 rw[XiB]
 generalize Xz b a=r at*
 obtain⟨n,f,err⟩:=r
 simp only at hf ⊢
 by_cases h2:err=0
 ·obtain⟨n,f,rfl,rfl,hf1,hf2⟩:=hf h2
  rw[if_neg (by simpa using h2)]
  by_cases h3:(b.length:Int)-f<4
  ·rw[if_pos (.inl h3)]
   refine Qdd ?_;refine QUc ?_;refine QL ?_;refine QK ?_;exact Qhd
  by_cases h4:(b.length:Int)-f-4<n
  ·rw[if_pos (.inr h4)]
   refine Qdd ?_;refine JF ?_;refine XD ?_;refine QP ?_;exact Qhd
  rw[if_neg (by omega)]
  have hsl:((b.map Xc).take (f+n)).drop f=((b.drop f).take n).map Xc:=by rw[List.map_take,List.map_drop,List.drop_take,Nat.add_sub_cancel_left]
  have hbl:((b.drop f).take n).length=n:=by simp;omega
  refine Qdd ?_;refine JF ?_;refine XD ?_;refine QXb ?_;(refine Z2 (op:= .add) (r':=ni (f+n)) (u:=ni f) (v:=ni n) ?_ (hr:=by exact Ym (by rw[XJ];omega)));refine W2_ ?_;(refine Z2 (op:= .add) (r':=ni (f+n)) (u:=ni f) (v:=ni n) ?_ (hr:=by exact Ym (by rw[XJ];omega)));refine Z8 (lb:=f) (hb:=f+n) (ys:=((b.drop f).take n).map Xc) ?_ (hys:=by exact hsl);refine Xt ?_
  refine XK (fun i:Nat=>i≤4) (fun i=>⟨79,[(0,.d (Xk b)),(7,ai n),(8,ai f),(10,.d (Xk ((b.drop f).take n))),(11,ai (X1P b (f+n) i)),(47,ai i)],[]⟩) (fun i=>4-i) 0 (by omega)
   (Xd rfl ⟨JL,JL,JL,JL,JL,JL,trivial⟩ trivial) ?_
  intro i hi
  have hsp:=Xh1 b (f+n) i
  by_cases hi4:i<4
  ·obtain⟨y,hy⟩:=XI (l:=b) (k:=f+n+i) (by omega)
   have hy8:=y.toNat_lt
   have h24:(2:Nat)^(8*i)≤2^24:=Nat.pow_le_pow_right (by omega) (by omega)
   have hyp:y.toNat*2^(8*i)≤255*2^24:=Nat.mul_le_mul (by omega) h24
   have hst:X1P b (f+n) i|||y.toNat*2^(8*i)=X1P b (f+n) (i+1):=by simp only[X1P,hy,Option.getD_some];exact Xc2 hsp
   have h8i:8*i≤64:=by omega
   refine Ql ?_;(refine Z2 (op:= .add) (r':=ni (f+n)) (u:=ni f) (v:=ni n) ?_ (hr:=by exact Ym (by rw[XJ];omega)));refine W1_ ?_;(refine Z2 (op:= .add) (r':=ni (f+n+i)) (u:=ni (f+n)) (v:=ni i) ?_ (hr:=by exact Ym (by rw[XJ];omega)));refine W4_ ?_
   (refine Z2 (op:= .mul) (r':=ni (8*i)) (u:=ni 8) (v:=ni i) ?_ (hr:=by exact V0 (by rw[XJ];omega)))
   (refine Z2 (op:= .shl) (r':=ni (y.toNat*2^(8*i))) (u:=ni y.toNat) (v:=ni (8*i)) ?_ (hr:=by exact XmB h8i (by rw[XJ];omega)))
   (refine Z1 (op:= .or) (r':=ni (X1P b (f+n) (i+1))) (u:=ni (X1P b (f+n) i)) (v:=ni (y.toNat*2^(8*i))) ?_ (hr':=by exact congrArg ni hst) (hr:=by exact X0G (by rw[XJ];omega) (by rw[XJ];omega)))
   refine W6_ ?_;exact⟨i+1,by omega,by omega,Xd rfl ⟨JL,JL,JL,JL,JL,JL,trivial⟩ trivial⟩
  obtain rfl:i=4:=by omega
  have ha:=Xs2 b (f+n)
  rw[ha]
  have et:((f:Int)+(n:Int)).toNat=f+n:=by omega
  rw[et,Int.toNat_natCast,Int.toNat_natCast]
  generalize (b.drop f).take n=body at*
  by_cases hs:X0s b (f+n)=YE body
  ·rw[if_neg (by simpa using hs)]
   have hm1:min (body.map Xc).length (List.replicate n (zD (Value.int IntKind.u8 0).cells.toList)).length=n:=by simp[hbl]
   refine W5_ ?_;refine Qc ?_;refine Z3 (hcon:=X9B body) ?_;refine W3_ ?_;refine Qg ?_;refine Qj ?_;refine W6_ ?_;refine X9L (m:=n) (hg:=JSa) (hx:=JSb) (hL:=JSb) (hn:=JSe) (hy:=JSb) (hT:=JSb) (hd:=JSb) ?_ (hm:=by exact hm1.symm);refine W6_ ?_;(refine Z2 (op:= .add) (r':=ni (f+n)) (u:=ni f) (v:=ni n) ?_ (hr:=by exact Ym (by rw[XJ];omega)));refine W5_ ?_;refine Xq (Yg 131 rfl) ?_;refine Xq (Yx 4 131 rfl rfl (by simp[hbl])) ?_;exact X1 ⟨_,St.le_trans (Xw 4 (y:= .d (Xk body)) (AVal.le_of_eq (by refine Eq.trans (b:=AVal.d (.sl 1 (List.take n _++List.drop n _))) rfl ?_;rw[List.take_of_length_le (by simp[hbl]),List.drop_of_length_le (by simp),List.append_nil]))) (Xw 5 (y:=ai ((f:Int)+n+4)) (AVal.le_of_eq (by refine Eq.trans (b:=ai _) rfl ?_;simp))),⟨rfl,rfl,rfl,trivial⟩,X2 _⟩
  ·rw[if_pos hs]
   have hs':¬(YE body=X0s b (f+n)):=fun h=>hs h.symm
   refine W5_ ?_;refine Qc ?_;refine Z3 (hcon:=X9B body) ?_;refine W3_ ?_;exact Qhd
 ·rw[if_pos h2]
  refine Qdd ?_;refine QWc ?_;exact Qgd
end Go.Fw

/- The reference's histories: new ones, states, commits, changes since a time, pruning, chains. -/
import Derived.Test.YtlkcofbjniphbaaGreatDoorB46
import Derived.Test.YtlkcofbjniphbaaGreatDoorB53
set_option maxHeartbeats 32000000
namespace Go.Fw
open Go Go.Proofs
set_option maxRecDepth 100000
set_option linter.unusedVariables false
set_option linter.unusedSimpArgs false
theorem Xrz (h:Hist) (ts:Int) (hf:HistFit h):Con Tryz.prog 42 [] [YS h,ai ts] [] (.tup [.d (.sl 10 ((X2C h ts).map Y1)),ai (YZ h ts)]):=by
 refine Xg (xs:=[.d (.sl 10 ((X2C h ts).map Y1)),ai (YZ h ts)]) Tryz.func42 rfl Tryz.ntmps42 rfl rfl rfl (fun E=> ?_)
 have hk:=XjQ h ts hf.hold
 unfold X2C
 by_cases c:YZ h ts≠0
 ·rw[if_pos c]
  clear hf
  generalize YZ h ts=e at*
  obtain⟨base,⟨ns,es,nn,ne⟩,cs⟩:=h
  simp only[YS,List.map_nil] at*
  refine Qch ?_;refine Qb ?_
  (show AWP Tryz.prog E _ _ _;refine X1 ?_;exact(show Xy _ _ _ _ _ from⟨_,Xd rfl (τ:=[(4,.d (.sl 10 [])),(5,ai e)]) (L:=[]) JM trivial,⟨rfl,rfl,trivial⟩,X2 _⟩))
 rw[if_neg c]
 have c:YZ h ts=0:=by simpa using c
 rw[c] at hk ⊢
 obtain⟨k,k1,k2,k3⟩:=XbE c
 have hb:=X9Z c
 rw[k2]
 have hcl:=(X1Y c).1.cl
 have hlm:=X1E h.cs
 have hDl:(h.cs.drop k).length≤1000:=by rw[List.length_drop];omega
 have hD:=fun(x:Cmt) (hx:x∈h.cs.drop k)=>hf.len x (List.mem_of_mem_drop hx)
 have hRl:=XbP (h.cs.drop k) hD
 clear hf c k2 hD
 generalize hR:((h.cs.drop k).map Cmt.l).flatten=R at*
 have hRb:R.length≤2000000000:=by omega
 clear hRl hDl
 obtain⟨base,⟨ns,es,nn,ne⟩,cs⟩:=h
 simp only[YS] at*
 refine Qch ?_;refine QZb ?_;(refine Z1 (op:= .sub) (r':= .int .i64 (k:Nat)) (u:= .int .i64 ts) (v:= .int .i64 base) ?_ (hr':=by exact congrArg (Value.int .i64) k1) (hr:=by exact Yl (by unfold XT;omega)));refine W3_ ?_
 clear hk
 refine Xq (V3 7 131 10 rfl rfl rfl) ?_
 refine XK (ι:=Nat×List Chg) (fun q=>k≤q.1∧q.1≤cs.length∧q.2++((cs.drop q.1).map Cmt.l).flatten=R) (fun q=>⟨35,[(2,.ptr 100 0),(7,.own 131 (q.2.map Y1).length),(8,ai q.1)],[(100,.box [ai base,.d (.sl 3 (ns.map Xp)),.d (.sl 5 (es.map Xs)),ai nn,ai ne,.d (.sl 2 (cs.map XV))]),(131,.row 10 (q.2.map Y1))]⟩) (fun q=>cs.length-q.1) (k,[]) ⟨Nat.le_refl _,k3,by simpa using hR⟩
  (Xd rfl JM ⟨rfl,rfl,trivial⟩) ?_
 rintro⟨i,out⟩ ⟨hi0,hi,hg⟩
 simp only at hi0 hi hg
 clear hR
 by_cases hil:i<cs.length
 case neg=>
  have hn:¬(i:Int)<(cs.map XV).length:=by omega
  rw[List.drop_of_length_le (by omega),List.map_nil,List.flatten_nil,List.append_nil] at hg
  subst hg
  refine Qie ?_;refine Xq (Yg 131 rfl) ?_;refine Xq (Yx 4 131 rfl rfl rfl) ?_
  (show AWP Tryz.prog E _ _ _;refine X1 ?_;exact(show Xy _ _ _ _ _ from⟨_,St.le_refl _,⟨rfl,rfl,trivial⟩,X2 _⟩))
 have hn:(i:Int)<(cs.map XV).length:=by omega
 obtain⟨x,hx⟩:=XI (l:=cs) hil
 have hxc:(cs.map XV)[i]? =some (XV x):=Y5 hx
 rw[XhK hx,←List.append_assoc] at hg
 have hrm:=X3M hg
 obtain⟨t',l⟩:=x
 simp only[XV] at hxc hg hrm
 rw[List.length_append] at hrm
 have hroom:(out.map Y1).length+(l.map Y1).length≤2000000000:=by rw[List.length_map,List.length_map];omega
 have hap:(out++l).map Y1=out.map Y1++l.map Y1:=List.map_append
 clear hx
 refine QRf ?_;refine Yw ?_
 refine⟨(i+1,out++l),⟨by simp only;omega,by simp only;omega,hg⟩,by simp only;omega,?_⟩
 dsimp only
 rw[hap]
 exact Xd rfl ⟨JL,AVal.le_of_eq (by refine Eq.trans (b:=AVal.own 131 (_+_)) rfl ?_;simp only[List.length_append]),JL,trivial⟩ ⟨rfl,rfl,trivial⟩
theorem XrY {L:List (List UInt8)}{k n:Nat} (h:∀b∈L,b.length≤k) (hk:k≤65536) (hn:L.length≤n):(Yn++Yz L).length≤4+65600*n:=by
 have h1:=XeE (L:=L) fun b hb=>by have:=h b hb;omega
 have h4:Yn.length=4:=rfl
 have:65600*L.length≤65600*n:=Nat.mul_le_mul_left _ hn
 rw[List.length_append]
 omega
theorem Xk8 {ts:Int}{H:List (List UInt8)}{l:List Cmt}{i:Nat}{x:Cmt} (h:l[i]? =some x) (q:ts<x.ts):Yn++Yz (H++Uf ts (l.take (i+1)))=(Yn++Yz (H++Uf ts (l.take i)))++YM (Vf x.l):=by
 rw[Xhj h q,←List.append_assoc,XpY,List.append_assoc]
theorem XlP (n:Int) (hn:n≤9223372036854775807):Con Tryz.prog 47 [] [ai n] [(131,.row 1 ((Xm n).map Xc))] (.own 131 (Xm n).length):=U0 130 131 (X7u n hn)
theorem Xm0 (h:Hist) (ts:Int) (hf:HistFit h) (ht:Ud h.cs≤60):Con Tryz.prog 13 [] [YS h,ai ts] [] (.tup [.d (Xk (X1y h ts)),ai (YZ h ts)]):=by
 refine Xg (xs:=[.d (Xk (X1y h ts)),ai (YZ h ts)]) Tryz.func13 rfl Tryz.ntmps13 rfl rfl rfl (fun E=> ?_)
 have hv:=Xrz h ts hf
 have hL:=Xqo h hf.hold
 by_cases he:YZ h ts=0
 case neg=>
  rw[show X1y h ts=[] from if_pos he]
  generalize YZ h ts=e at*
  generalize X2C h ts=ss at*
  clear hL ht hf
  obtain⟨base,⟨ns,es,nn,ne⟩,cs⟩:=h
  simp only[YS] at*
  refine Qmi ?_;refine Qb ?_;exact QXf
 obtain⟨v,h1,h2⟩:=X1Y he
 rw[show X1y h ts=Yn++Yz (X2f h ts) from if_neg (by simp[he]),he]
 rw[he] at hv
 rw[Xbn v] at hL
 have hb:=v.b
 have hcl:=v.cl
 have l0:Yy h≤1000000000001000:=by unfold Yy;omega
 have hchg:=X6Z _ _ v.ok
 have hok:=hf.hold.cs
 have hcl6:h.cs.length≤60:=by have:=Xb8 h.cs;omega
 have hxl6:∀c∈h.cs,c.l.length≤60:=fun c hc=>by have:=X6R hc;omega
 obtain⟨H,hH,hHl⟩:∃H,Ul [ts,Yy h]=H∧H.length≤20:=⟨_,rfl,X5X fun x hx=>by
  simp only[List.mem_cons,List.mem_nil_iff,or_false] at hx
  rcases hx with rfl|rfl<;>omega⟩
 have hI:X2f h ts=[H]++Uf ts h.cs:=by rw[←hH];rfl
 rw[hI]
 have hnum:=(XlM [ts,Yy h] (by simp) (fun x hx=>by
  simp only[List.mem_cons,List.mem_nil_iff,or_false] at hx
  rcases hx with rfl|rfl<;>omega)).data rfl
 rw[hH] at hnum
 simp only[List.map_cons,List.map_nil] at hnum
 have hmg:=XjA Yn rfl
 have hf0:=XhM Yn H (by omega) (by decide)
 have e0:Yn++YM H=Yn++Yz [H]:=by simp[Yz]
 rw[e0] at hf0
 clear v h1 h2 hI hH hf he ht
 generalize X2C h ts=ss at*
 generalize Yy h=lh at*
 obtain⟨base,⟨ns,es,nn,ne⟩,cs⟩:=h
 simp only[YS] at*
 have hlm:=X1E cs
 generalize hU:Yn++Yz [H]=U at*
 refine Qmi ?_;refine JF ?_;refine W3_ ?_;refine Z3 (hcon:=hmg) ?_;refine W2_ ?_;refine Z3 (hcon:=hL) ?_;refine W1_ ?_;refine Z3 (hcon:=hnum) ?_;refine Z3 (hcon:=hf0) ?_;refine W8_ ?_
 clear hv hL hmg hnum hf0
 subst hU
 refine XK (fun i:Nat=>i≤cs.length) (fun i=>⟨78,[(1,ai ts),(2,.ptr 100 0),(8,.own 130 ((Yn++Yz ([H]++Uf ts (cs.take i))).map Xc).length),(9,ai i)],[(100,.box [ai base,.d (.sl 3 (ns.map Xp)),.d (.sl 5 (es.map Xs)),ai nn,ai ne,.d (.sl 2 (cs.map XV))]),(130,.wrow 1 ((Yn++Yz ([H]++Uf ts (cs.take i))).map Xc))]⟩) (fun i=>cs.length-i) 0 (Nat.zero_le _)
  (by rw[List.take_zero,show Uf ts []=[] from rfl,List.append_nil];exact Xd rfl ⟨JL,JL,JL,JL,trivial⟩ ⟨rfl,rfl,trivial⟩) ?_
 intro i hi
 by_cases hil:i<cs.length
 case neg=>
  obtain rfl:i=cs.length:=by omega
  have hn:¬((cs.length:Nat):Int)<(cs.map XV).length:=by omega
  rw[List.take_length]
  generalize Yn++Yz ([H]++Uf ts cs)=L at*
  refine Qag ?_;refine W2_ ?_;refine Xq (XdP 130 rfl) ?_;refine Xq (Yx 8 130 rfl rfl rfl) ?_;refine W5_ ?_;exact QOc
 have hn:(i:Int)<(cs.map XV).length:=by omega
 obtain⟨x,hxx⟩:=XI (l:=cs) hil
 have hxc:(cs.map XV)[i]? =some (XV x):=Y5 hxx
 have hxm:=List.mem_of_getElem? hxx
 have hx1:=hchg x hxm
 have hx6:=hxl6 x hxm
 have hxo:=(hok x hxm).1.1
 have hub:(Yn++Yz ([H]++Uf ts (cs.take i))).length≤500000000:=by
  have hlen:=X9M ts (cs.take i)
  refine Nat.le_trans (XrY (k:=13000) (n:=61) (fun b hb=> ?_) (by omega) (by simp only[List.length_append,List.length_take,List.length_cons,List.length_nil] at hlen ⊢;omega)) (by omega)
  rcases List.mem_append.1 hb with hb|hb
  ·simp only[List.mem_cons,List.mem_nil_iff,or_false] at hb
   subst hb;omega
  ·obtain⟨c,hc,rfl⟩:=XiH hb
   have hc:=List.mem_of_mem_take hc
   have:=hxl6 c hc
   have:=X5P (hchg c hc) (by omega)
   omega
 have hbl:(Vf x.l).length≤65536:=by have:=X5P hx1 (by omega);omega
 clear hchg hxl6 hok
 by_cases q:ts<x.ts
 case neg=>
  have hno:(Yn++Yz ([H]++Uf ts (cs.take (i+1)))).map Xc=(Yn++Yz ([H]++Uf ts (cs.take i))).map Xc:=by rw[Xeo hxx q]
  generalize (Yn++Yz ([H]++Uf ts (cs.take i))).map Xc=u at*
  obtain⟨xt,xl⟩:=x
  simp only[XV] at hxc q
  have q':xt≤ts:=by omega
  clear hx1 hx6 hxm hxx hxo hbl
  refine QRf ?_;refine XA ?_;refine Qb ?_
  refine⟨i+1,hil,by omega,?_⟩
  rw[hno]
  exact QKh
 have hst:=Xk8 (H:=[H]) hxx q
 have hfr:=XhM (Yn++Yz ([H]++Uf ts (cs.take i))) (Vf x.l) hbl (by omega)
 rw[←hst] at hfr
 generalize Yn++Yz ([H]++Uf ts (cs.take i))=u at*
 generalize hu':Yn++Yz ([H]++Uf ts (cs.take (i+1)))=u' at*
 obtain⟨xt,xl⟩:=x
 simp only[XV] at hxc q hx1 hx6 hxo hfr
 have q':¬xt≤ts:=by omega
 have hxlm:(xl.map Y1).length=xl.length:=by simp
 clear hxm hxx hst hbl
 have hu:=XlP ((xl.map Y1).length:Nat) (by omega)
 have u2:=X04 (n:=(xl.length:Nat)) (by omega)
 refine QRf ?_;refine XA ?_;refine QUc ?_;refine Qre ?_;refine W8_ ?_
 refine XK (fun k:Nat=>k≤xl.length) (fun k=>⟨78,[(1,ai ts),(2,.ptr 100 0),(8,.own 130 (u.map Xc).length),(9,ai i),(10,.own 131 ((Xm (xl.length:Nat)++((xl.take k).map Up).flatten).map Xc).length),(11,ai k)],[(100,.box [ai base,.d (.sl 3 (ns.map Xp)),.d (.sl 5 (es.map Xs)),ai nn,ai ne,.d (.sl 2 (cs.map XV))]),(130,.wrow 1 (u.map Xc)),(131,.row 1 ((Xm (xl.length:Nat)++((xl.take k).map Up).flatten).map Xc))]⟩) (fun k=>xl.length-k) 0 (Nat.zero_le _)
  (Xd rfl ⟨JL,JL,JL,JL,AVal.le_of_eq (by refine Eq.trans (b:=AVal.own 131 _) rfl ?_;simp),JL,trivial⟩ ⟨rfl,rfl,by refine Eq.trans (b:=AObj.row 1 _) rfl ?_;simp,trivial⟩) ?_
 intro k hk
 have hfl:=Xec hx1 k hx6
 by_cases hkl:k<xl.length
 case neg=>
  obtain rfl:k=xl.length:=by omega
  have hkn:¬((xl.length:Nat):Int)<(xl.map Y1).length:=by omega
  rw[List.take_length] at*
  rw[show Xk (Vf xl)=D.sl 1 ((Xm (xl.length:Nat)++(xl.map Up).flatten).map Xc) from rfl] at hfr
  generalize (Xm (xl.length:Nat)++(xl.map Up).flatten).map Xc=A at*
  refine Qoe ?_;refine W1_ ?_;refine Xq (Yg 131 rfl) ?_;refine Xq (Yx 10 131 rfl rfl rfl) ?_;refine W3_ ?_;refine Z3 (hcon:=hfr) ?_;refine W7_ ?_
  refine⟨i+1,hil,by omega,?_⟩
  rw[hu']
  exact QKh
 have hkn:(k:Int)<(xl.map Y1).length:=by omega
 obtain⟨y,hyy⟩:=XI (l:=xl) hkl
 have hyc:(xl.map Y1)[k]? =some (Y1 y):=Y5 hyy
 have hym:=List.mem_of_getElem? hyy
 have hy1:=hx1 y hym
 have hpc:=Xjs y (hxo y hym).2
 have hpl:(Up y).length≤200:=by rw[show Up y=YP y from if_pos hy1];exact X8q hy1
 have hroom:((Xm (xl.length:Nat)++((xl.take k).map Up).flatten).map Xc).length≤13000:=by rw[List.length_map,List.length_append];omega
 have hroom2:((Up y).map Xc).length≤200:=by rw[List.length_map];omega
 have hsn:=X8x (w:=Up) (u:=Xm (xl.length:Nat)) hyy
 generalize (Xm (xl.length:Nat)++((xl.take k).map Up).flatten)=A at*
 generalize Up y=w at*
 obtain⟨op,id,src,dst,name,⟨vk,vn,vd,vs,vl⟩⟩:=y
 simp only[Xx,Y1] at hpc hyc
 clear hyy hx1 hy1 hfr hu hxo hym
 refine Xr ?_;refine JT ?_;refine XC ?_;refine Z3 (hcon:=hpc) ?_;refine W8_ ?_
 refine⟨k+1,hkl,by omega,?_⟩
 rw[hsn]
 exact Xd rfl ⟨JL,JL,JL,JL,AVal.le_of_eq (by refine Eq.trans (b:=AVal.own 131 (_+_)) rfl ?_;simp only[List.length_append,List.length_map,List.length_cons,List.length_nil]),JL,trivial⟩ ⟨rfl,rfl,rfl,trivial⟩
theorem XqO (h:Hist) (ts:Int) (hf:HistHold h) (ht:Ud h.cs≤4611686018427387904):Con Tryz.prog 4 [] [YS h,ai ts] [] (ab true):=by
 refine Xg (xs:=[ab true]) Tryz.func4 rfl Tryz.ntmps4 rfl rfl rfl (fun E=> ?_)
 have ha:=Xbu
 have hsm:=Xft h hf ht
 have hsf:=Xgg (h:=h) hf
 generalize X4D h=sm at*
 cases sm with
 |false=>
  clear hsf hf ht
  obtain⟨base,⟨ns,es,nn,ne⟩,cs⟩:=h
  simp only[YS] at*
  refine W9_ ?_;refine Z3 (hcon:=hsm) ?_;refine W2_ ?_;refine Qm ?_;refine Z3 (hcon:=ha) ?_;refine W2_ ?_
  (show AWP Tryz.prog E _ _ _;refine X1 ?_;exact(show Xy _ _ _ _ _ from⟨_,St.le_refl _,⟨rfl,trivial⟩,X2 _⟩))
 |true=>
  obtain⟨hfit,h60⟩:=hsf rfl
  have h1:=Xha h ts hfit h60
  have h2:=Xm0 h ts hfit h60
  have h3:=XjP (X1y h ts) (X1y h ts)
  rw[decide_eq_true rfl] at h3
  generalize X1y h ts=D at*
  generalize YZ h ts=e at*
  have he:e=e:=rfl
  clear hsf hf ht hfit h60
  obtain⟨base,⟨ns,es,nn,ne⟩,cs⟩:=h
  simp only[YS] at*
  refine QTi ?_;refine Xj ?_;refine Z3 (hcon:=h2) ?_;refine Xj ?_;refine Z3 (hcon:=h3) ?_;refine W4_ ?_;refine Qs ?_;refine QIi ?_
  (show AWP Tryz.prog E _ _ _;refine X1 ?_;exact(show Xy _ _ _ _ _ from⟨_,St.le_refl _,⟨rfl,trivial⟩,X2 _⟩))
end Go.Fw

/- What fails in nodes. -/
import Derived.Tactics
import Derived.Tactics2
import Derived.Defers
import Derived.Recover
import Derived.Laws.Pointers
import Derived.Test.YtlkcofbjniphbaaGreatDoorB31
set_option maxHeartbeats 32000000
namespace Go.Fw
open Go Go.Proofs
set_option maxRecDepth 100000
set_option linter.unusedVariables false
set_option linter.unusedSimpArgs false
theorem Xjt (g:Gra) (c:Chg) (hg:GV g) (ho:c.op=1) (q1:XO Nod.id g.nodes c.id=true):
  V7 Tryz.prog 121 (edS g) [.ptr 0 0,Xx c] (Vx 7):=by
 obtain⟨ns,es,nn,ne⟩:=g
 have hns:=hg.ns
 have hnl:=hg.nl
 have hes:=hg.es
 have hel:=hg.el
 simp only at q1 hns hes hnl hel
 refine X0x Tryz.func121 rfl Tryz.ntmps121 rfl (fun E=> ?_)
 refine Vu rfl rfl rfl rfl (fun xs ys h1 h2=> ?_)
 subst h1 h2
 have hN:=VR (xs.map rXN) (ys.map rXE) nn ne c.id (by simp at hnl ⊢;omega) ((VP xs).2 hns)
 rw[VO,VN,q1] at hN
 simp only[edL,List.length_map] at hN hnl
 generalize Xu ltI Nod.id (xs.map (·.1)) c.id=i at*
 simp only[edS,List.length_map]
 clear hg hns hes
 obtain⟨op,id,src,dst,name,⟨k0,k1,k2,k3,k4⟩⟩:=c
 simp only at ho
 subst ho
 simp only[Xx,YW] at*
 refine W9_ ?_;refine Z3 (hcon:=hN) ?_;refine Xr ?_;refine Qea ?_;refine X0X 2 rfl (fun _=>rfl) ?_;refine W2_ ?_
 (refine .done (fun h=>Bool.noConfusion h) ?_;apply X0R (hcon:=X0V 7);(case hxs=>exact rfl);(case hys=>conv=>lhs;whnf);(case hle=>((repeat (first|exact trivial|refine⟨(by(first|((exact AVal.le_refl _))|((exact AVal.le_nil _))|((refine AVal.le_agg ?_;((repeat (first|exact trivial|refine⟨(by(first|((exact AVal.le_refl _))|((exact AVal.le_nil _))|((refine AVal.le_of_eq ?_;(conv=>lhs;whnf);(first|((rfl))|((simp<;>fail))|fail)))|fail)),?_⟩|fail))<;>fail)))|((refine AVal.le_of_eq ?_;(conv=>lhs;whnf);(first|((rfl))|((simp<;>fail))|fail)))|fail)),?_⟩|fail))<;>fail));(case hf=>exact rfl);(case hLi=>(repeat (first|exact trivial|refine⟨rfl,?_⟩|fail))<;>fail))
theorem Xja (g:Gra) (c:Chg) (hg:GV g) (ho:c.op=1) (q1:XO Nod.id g.nodes c.id=false) (q2:¬g.nodes.length<2000):
  V7 Tryz.prog 121 (edS g) [.ptr 0 0,Xx c] (Vx 20):=by
 obtain⟨ns,es,nn,ne⟩:=g
 have hns:=hg.ns
 have hnl:=hg.nl
 have hes:=hg.es
 have hel:=hg.el
 simp only at q1 q2 hns hes hnl hel
 refine X0x Tryz.func121 rfl Tryz.ntmps121 rfl (fun E=> ?_)
 refine Vu rfl rfl rfl rfl (fun xs ys h1 h2=> ?_)
 subst h1 h2
 have hN:=VR (xs.map rXN) (ys.map rXE) nn ne c.id (by simp at hnl ⊢;omega) ((VP xs).2 hns)
 rw[VO,VN,q1] at hN
 simp only[edL,List.length_map] at hN hnl q2
 generalize Xu ltI Nod.id (xs.map (·.1)) c.id=i at*
 have hm7:=UW 7
 have hlen2:xs.length=((xs.map rXN).map cRN).length:=by simp
 have q2':¬(((xs.map rXN).map cRN).length:Int)<2000:=by rw[←hlen2];omega
 generalize (xs.map rXN).map cRN=R at*
 simp only[edS,List.length_map]
 clear hg hns hes
 obtain⟨op,id,src,dst,name,⟨k0,k1,k2,k3,k4⟩⟩:=c
 simp only at ho
 subst ho
 simp only[Xx,YW] at*
 refine W9_ ?_;refine Z3 (hcon:=hN) ?_;refine Xr ?_;refine Qe ?_;refine Z3 (hcon:=hm7) ?_;refine W2_ ?_;refine X0X 7 rfl (fun _=>rfl) ?_;refine W6_ ?_;refine Zj (op:= .lss) (r':= .bool false) (u:= .int .i64 (R.length:Nat)) (v:= .int .i64 2000) ?_ (hr':=by exact congrArg Value.bool (decide_eq_false q2'))
 (refine .done (fun h=>Bool.noConfusion h) ?_;apply X0R (hcon:=X0V 20);(case hxs=>exact rfl);(case hys=>conv=>lhs;whnf);(case hle=>((repeat (first|exact trivial|refine⟨(by(first|((exact AVal.le_refl _))|((exact AVal.le_nil _))|((refine AVal.le_agg ?_;((repeat (first|exact trivial|refine⟨(by(first|((exact AVal.le_refl _))|((exact AVal.le_nil _))|((refine AVal.le_of_eq ?_;(conv=>lhs;whnf);(first|((rfl))|((simp<;>fail))|fail)))|fail)),?_⟩|fail))<;>fail)))|((refine AVal.le_of_eq ?_;(conv=>lhs;whnf);(first|((rfl))|((simp<;>fail))|fail)))|fail)),?_⟩|fail))<;>fail));(case hf=>exact rfl);(case hLi=>(repeat (first|exact trivial|refine⟨rfl,?_⟩|fail))<;>fail))
theorem XlU (g:Gra) (c:Chg) (hg:GV g) (ho:¬c.op=1) (q1:XO Nod.id g.nodes c.id=false):
  V7 Tryz.prog 121 (edS g) [.ptr 0 0,Xx c] (Vx 10):=by
 obtain⟨ns,es,nn,ne⟩:=g
 have hns:=hg.ns
 have hnl:=hg.nl
 have hes:=hg.es
 have hel:=hg.el
 simp only at q1 hns hes hnl hel
 refine X0x Tryz.func121 rfl Tryz.ntmps121 rfl (fun E=> ?_)
 refine Vu rfl rfl rfl rfl (fun xs ys h1 h2=> ?_)
 subst h1 h2
 have hN:=VR (xs.map rXN) (ys.map rXE) nn ne c.id (by simp at hnl ⊢;omega) ((VP xs).2 hns)
 rw[VO,VN,q1] at hN
 simp only[edL,List.length_map] at hN hnl
 generalize Xu ltI Nod.id (xs.map (·.1)) c.id=i at*
 simp only[edS,List.length_map]
 clear hg hns hes
 obtain⟨op,id,src,dst,name,⟨k0,k1,k2,k3,k4⟩⟩:=c
 simp only at ho
 simp only[Xx,YW] at*
 refine W9_ ?_;refine Z3 (hcon:=hN) ?_;refine Xi ?_;refine Zl (op:= .eql) (r':= .bool false) (u:= .int .i64 op) (v:= .int .i64 1) ?_ (hr':=by exact congrArg Value.bool (decide_eq_false ho));refine W1_ ?_;refine Qo ?_;refine QXg ?_
 (refine .done (fun h=>Bool.noConfusion h) ?_;apply X0R (hcon:=X0V 10);(case hxs=>exact rfl);(case hys=>conv=>lhs;whnf);(case hle=>((repeat (first|exact trivial|refine⟨(by(first|((exact AVal.le_refl _))|((exact AVal.le_nil _))|((refine AVal.le_agg ?_;((repeat (first|exact trivial|refine⟨(by(first|((exact AVal.le_refl _))|((exact AVal.le_nil _))|((refine AVal.le_of_eq ?_;(conv=>lhs;whnf);(first|((rfl))|((simp<;>fail))|fail)))|fail)),?_⟩|fail))<;>fail)))|((refine AVal.le_of_eq ?_;(conv=>lhs;whnf);(first|((rfl))|((simp<;>fail))|fail)))|fail)),?_⟩|fail))<;>fail));(case hf=>exact rfl);(case hLi=>(repeat (first|exact trivial|refine⟨rfl,?_⟩|fail))<;>fail))
theorem XqT (ys:List XE) (n:Int) (h:X0p (ys.map (·.1)) n=true):∃k,∃hk:k<ys.length,(ys[k].1.src=n∨ys[k].1.dst=n)∧∀j (hj:j<ys.length),j<k→ys[j].1.src≠n∧ys[j].1.dst≠n:=by
 induction ys with
 |nil=>simp[X0p] at h
 |cons y ys ih=>
  by_cases hy:y.1.src=n∨y.1.dst=n
  ·exact⟨0,by simp,hy,fun j _ h=>by omega⟩
  ·have h':X0p (ys.map (·.1)) n=true:=by
    unfold X0p at h ⊢
    rw[List.map_cons,List.any_cons] at h
    simpa [hy] using h
   obtain⟨k,hk,e1,e2⟩:=ih h'
   refine⟨k+1,by simpa using hk,e1,fun j hj hjk=> ?_⟩
   cases j with
   |zero=>exact⟨fun e=>hy (.inl e),fun e=>hy (.inr e)⟩
   |succ j=>exact e2 j (by simpa using hj) (by omega)
theorem Xoa (g:Gra) (c:Chg) (hg:GV g) (ho:c.op=2) (q1:XO Nod.id g.nodes c.id=true) (q2:X0p g.edges c.id=true):
  V7 Tryz.prog 121 (edS g) [.ptr 0 0,Xx c] (Vx 12):=by
 obtain⟨ns,es,nn,ne⟩:=g
 have hns:=hg.ns
 have hnl:=hg.nl
 have hes:=hg.es
 have hel:=hg.el
 simp only at q1 q2 hns hes hnl hel
 refine X0x Tryz.func121 rfl Tryz.ntmps121 rfl (fun E=> ?_)
 refine Vu rfl rfl rfl rfl (fun xs ys h1 h2=> ?_)
 subst h1 h2
 have hle:=(List.getElem?_eq_some_iff.1 (Xad hns q1).choose_spec.1).1
 have hN:=VR (xs.map rXN) (ys.map rXE) nn ne c.id (by simp at hnl ⊢;omega) ((VP xs).2 hns)
 rw[VO,VN,q1] at hN
 simp only[edL,List.length_map] at hN hnl hel hle
 generalize Xu ltI Nod.id (xs.map (·.1)) c.id=i at*
 have hlen2:xs.length=((xs.map rXN).map cRN).length:=by simp
 have hm10:=UW 10
 have hm12:=UW 12
 obtain⟨k0',hk0l,hk0,hkb⟩:=XqT ys c.id q2
 have hEl:ys.length=((ys.map rXE).map cRE).length:=by simp
 have hE5:=X4d (ys.map rXE)
 have hEk:∀k (h:k<ys.length),((ys.map rXE).map cRE)[k]? =some (cRE (rXE ys[k])):=fun k h=>by simp[List.getElem?_map,List.getElem?_eq_getElem h]
 generalize hRE:(ys.map rXE).map cRE=RE' at*
 generalize hR:(xs.map rXN).map cRN=R at*
 clear q1 q2
 simp only[edS,List.length_map]
 clear hg hns hes
 obtain⟨op,id,src,dst,name,⟨k0,k1,k2,k3,k4⟩⟩:=c
 simp only at ho
 subst ho
 simp only[Xx,YW] at*
 refine QIg ?_;refine W9_ ?_;refine QJg ?_;refine Xr ?_;refine JT ?_;refine Xt ?_;refine XK (fun k:Nat=>k≤k0') (fun k=>⟨183,[(0,.ptr 0 0),(3,.ptr 100 0),(4,ai (i:Nat)),(91,.own 4 ys.length),(92,ai RE'.length),(93,ai k)],[(0,.box [.own 3 xs.length,.own 4 ys.length,ai nn,ai ne]),(3,.row 3 R),(210,.bag (Y0 xs)),(4,.row 5 RE'),(211,.bag (YC ys)),(100,.box [ai 2,ai id,ai src,ai dst,.d (.v (.string (Xb name))),ai k0,ai k1,ai k2,.d (.v (.string (Xb k3))),.d (.sl 5 (XU k4))])]⟩) (fun k=>RE'.length-k) 0 (Nat.zero_le _) (Xd rfl JM ⟨rfl,rfl,rfl,rfl,rfl,rfl,trivial⟩) ?_
 intro k hk
 have hkl:k<ys.length:=by omega
 have hkl':(k:Int)<RE'.length:=by omega
 have hy:=hEk k hkl
 generalize hyk:ys[k]=y at hy
 have hpart:(RE'.flatten.drop (k*5)).take 5=[.v (.int .i64 y.1.id),.v (.int .i64 y.1.src),.v (.int .i64 y.1.dst),.v (.string (Xb y.1.typ)),.v y.2]:=by
  have:=XaT hE5 hy (o:=0) (q:=5) (by omega)
  simpa [cRE,rXE] using this
 have hroom:k*5+5≤RE'.length*5:=by omega
 by_cases hkk:k<k0'
 case pos=>
  obtain⟨n1,n2⟩:=hkb k hkl hkk
  rw[hyk] at n1 n2
  clear hk0 hkb hEk hyk hy hR hRE
  refine QKg ?_;refine W8_ ?_;refine QLg ?_;refine Zk (op:= .neq) (r':= .bool true) (u:= .int .i64 y.1.dst) (v:= .int .i64 id) ?_ (hr':=by exact congrArg Value.bool (decide_eq_true n2));refine Qr ?_;refine Z3 (hcon:=hm12) ?_;refine W5_ ?_
  clear hE5 hpart hroom hEl
  exact⟨k+1,by omega,by omega,Xd rfl JM ⟨rfl,rfl,rfl,rfl,rfl,rfl,trivial⟩⟩
 obtain rfl:k=k0':=by omega
 rw[hyk] at hk0
 clear hkb hEk hyk hy hR hRE
 by_cases n1:y.1.src=id
 case pos=>
  have n1':¬(y.1.src≠id):=fun h=>h n1
  refine QKg ?_;refine W3_ ?_;refine X0X 12 rfl (fun _=>rfl) ?_;refine W4_ ?_;refine Zk (op:= .neq) (r':= .bool false) (u:= .int .i64 y.1.src) (v:= .int .i64 id) ?_ (hr':=by exact congrArg Value.bool (decide_eq_false n1'));refine W1_ ?_;refine QW ?_;refine QE ?_
  (refine .done (fun h=>Bool.noConfusion h) ?_;apply X0R (hcon:=X0V 12);(case hxs=>exact rfl);(case hys=>conv=>lhs;whnf);(case hle=>((repeat (first|exact trivial|refine⟨(by(first|((exact AVal.le_refl _))|((exact AVal.le_nil _))|((refine AVal.le_agg ?_;((repeat (first|exact trivial|refine⟨(by(first|((exact AVal.le_refl _))|((exact AVal.le_nil _))|((refine AVal.le_of_eq ?_;(conv=>lhs;whnf);(first|((rfl))|((simp<;>fail))|fail)))|fail)),?_⟩|fail))<;>fail)))|((refine AVal.le_of_eq ?_;(conv=>lhs;whnf);(first|((rfl))|((simp<;>fail))|fail)))|fail)),?_⟩|fail))<;>fail));(case hf=>exact rfl);(case hLi=>(repeat (first|exact trivial|refine⟨rfl,?_⟩|fail))<;>fail))
 have n2:y.1.dst=id:=by rcases hk0 with h|h;exact(n1 h).elim;exact h
 have n2':¬(y.1.dst≠id):=fun h=>h n2
 refine QKg ?_;refine W3_ ?_;refine X0X 12 rfl (fun _=>rfl) ?_;refine W4_ ?_;refine QLg ?_;refine Zk (op:= .neq) (r':= .bool false) (u:= .int .i64 y.1.dst) (v:= .int .i64 id) ?_ (hr':=by exact congrArg Value.bool (decide_eq_false n2'));refine Qr ?_
 (refine .done (fun h=>Bool.noConfusion h) ?_;apply X0R (hcon:=X0V 12);(case hxs=>exact rfl);(case hys=>conv=>lhs;whnf);(case hle=>((repeat (first|exact trivial|refine⟨(by(first|((exact AVal.le_refl _))|((exact AVal.le_nil _))|((refine AVal.le_agg ?_;((repeat (first|exact trivial|refine⟨(by(first|((exact AVal.le_refl _))|((exact AVal.le_nil _))|((refine AVal.le_of_eq ?_;(conv=>lhs;whnf);(first|((rfl))|((simp<;>fail))|fail)))|fail)),?_⟩|fail))<;>fail)))|((refine AVal.le_of_eq ?_;(conv=>lhs;whnf);(first|((rfl))|((simp<;>fail))|fail)))|fail)),?_⟩|fail))<;>fail));(case hf=>exact rfl);(case hLi=>(repeat (first|exact trivial|refine⟨rfl,?_⟩|fail))<;>fail))
theorem Xpr (g:Gra) (c:Chg) (x:Nod) (hg:GV g) (ho:c.op=3) (hx:V8 g.nodes c.id=some x) (q1:XO Y7 x.labels c.name=true):
  V7 Tryz.prog 121 (edS g) [.ptr 0 0,Xx c] (Vx 7):=by
 have hxm:=X3p hx
 rw[X4E hg] at hx
 obtain⟨ns,es,nn,ne⟩:=g
 have hns:=hg.ns
 have hnl:=hg.nl
 have hpv:=(hg.nodes x hxm.1).2.2
 simp only at hx hns hnl
 obtain⟨x',hx',hx2⟩:=Option.bind_eq_some_iff.1 hx
 obtain⟨hk,rfl⟩:x'.id=c.id∧x'=x:=by by_cases e:x'.id=c.id<;>simp[e] at hx2 ⊢;exact hx2
 have q0:XO Nod.id ns c.id=true:=by rw[X0g V4 hns];exact decide_eq_true ⟨x',hx',hk⟩
 have hle:Xu ltI Nod.id ns c.id<ns.length:=(List.getElem?_eq_some_iff.1 hx').1
 refine X0x Tryz.func121 rfl Tryz.ntmps121 rfl (fun E=> ?_)
 refine Vu rfl rfl rfl rfl (fun xs ys h1 h2=> ?_)
 subst h1 h2
 have hN:=VR (xs.map rXN) (ys.map rXE) nn ne c.id (by simp at hnl ⊢;omega) ((VP xs).2 hns)
 rw[VO,VN,q0] at hN
 simp only[edL,List.length_map] at hN hnl hle
 generalize Xu ltI Nod.id (xs.map (·.1)) c.id=i at*
 obtain⟨⟨x1,u,v⟩,hy0,rfl⟩:∃y:XN,xs[i]? =some y∧y.1=x':=by
  rw[List.getElem?_map] at hx'
  obtain⟨y,e1,e2⟩:=Option.map_eq_some_iff.1 hx'
  exact⟨y,e1,e2⟩
 simp only at*
 have hm10:=UW 10
 have hlr:=hpv.lr
 have hl8:=hpv.ll
 have hS:=X3e 121 (X6z x1.labels c.name (by omega) hlr)
 have hll:(x1.labels.map Xl).length=x1.labels.length:=by simp
 rw[q1,hll] at hS
 clear hlr q1 hll
 generalize Xu ltS Y7 x1.labels c.name=p at*
 have eB0:=X3P hy0
 simp only at eB0
 have hlen2:xs.length=((xs.map rXN).map cRN).length:=by simp
 have hRi:((xs.map rXN).map cRN)[i]? =some [.v (.int .i64 x1.id),.v u,.v v]:=by
  rw[List.getElem?_map,List.getElem?_map,hy0];rfl
 have hz3:=X2t (xs.map rXN)
 simp only[edS,List.length_map]
 clear hg hns hx hx' hx2 hxm hpv q0 hnl
 generalize hR:(xs.map rXN).map cRN=R at*
 have hlm:(x1.labels.map Xl).length=x1.labels.length:=by simp
 generalize hnl:x1.labels.length=nl at*
 obtain⟨op,id,src,dst,name,⟨k0,k1,k2,k3,k4⟩⟩:=c
 simp only at ho
 subst ho
 simp only[Xx,YW,Xv,VY] at*
 refine QIg ?_;refine W2_ ?_
 show AWP Tryz.prog E _ _ _
 refine X25 0 0 3 120 rfl (by omega) rfl rfl hlen2 rfl rfl (fun cp k hc1 hc2 hc3 _=> ?_)
 refine QRg ?_
 rw[hlm]
 have hCl:=X0Z (k:=k) hz3
 generalize List.map some R.flatten++List.replicate k none=C at*
 have hj:i*3+1<C.length:=by omega
 have hrd:=X3l (y:= .own 121 nl) hj
 have hiz:0+i*3+1=i*3+1:=by omega
 have hrd0:=Eq.trans (congrArg (fun z=>(Y6 C (some (_,.own 121 nl)))[z]?) hiz) hrd
 have hbd:0+i*3+1+1≤C.length:=by omega
 have hRl:R.length=xs.length:=hlen2.symm
 clear hlen2 hnl
 have hlm':=hlm.symm
 refine QPg ?_;refine W7_ ?_;refine X0X 2 rfl (fun _=>rfl) ?_;refine W2_ ?_
 (refine .done (fun h=>Bool.noConfusion h) ?_;apply X0R (hcon:=X0V 7);(case hxs=>exact rfl);(case hys=>conv=>lhs;whnf);(case hle=>((repeat (first|exact trivial|refine⟨(by(first|((exact AVal.le_refl _))|((exact AVal.le_nil _))|((refine AVal.le_agg ?_;((repeat (first|exact trivial|refine⟨(by(first|((exact AVal.le_refl _))|((exact AVal.le_nil _))|((refine AVal.le_of_eq ?_;(conv=>lhs;whnf);(first|((rfl))|((simp<;>fail))|fail)))|fail)),?_⟩|fail))<;>fail)))|((refine AVal.le_of_eq ?_;(conv=>lhs;whnf);(first|((rfl))|((simp<;>fail))|fail)))|fail)),?_⟩|fail))<;>fail));(case hf=>exact rfl);(case hLi=>(repeat (first|exact trivial|refine⟨rfl,?_⟩|fail))<;>fail))
theorem XnG (g:Gra) (c:Chg) (x:Nod) (hg:GV g) (ho:c.op=3) (hx:V8 g.nodes c.id=some x) (q1:XO Y7 x.labels c.name=false) (q2:¬x.labels.length<8):
  V7 Tryz.prog 121 (edS g) [.ptr 0 0,Xx c] (Vx 20):=by
 have hxm:=X3p hx
 rw[X4E hg] at hx
 obtain⟨ns,es,nn,ne⟩:=g
 have hns:=hg.ns
 have hnl:=hg.nl
 have hpv:=(hg.nodes x hxm.1).2.2
 simp only at hx hns hnl
 obtain⟨x',hx',hx2⟩:=Option.bind_eq_some_iff.1 hx
 obtain⟨hk,rfl⟩:x'.id=c.id∧x'=x:=by by_cases e:x'.id=c.id<;>simp[e] at hx2 ⊢;exact hx2
 have q0:XO Nod.id ns c.id=true:=by rw[X0g V4 hns];exact decide_eq_true ⟨x',hx',hk⟩
 have hle:Xu ltI Nod.id ns c.id<ns.length:=(List.getElem?_eq_some_iff.1 hx').1
 refine X0x Tryz.func121 rfl Tryz.ntmps121 rfl (fun E=> ?_)
 refine Vu rfl rfl rfl rfl (fun xs ys h1 h2=> ?_)
 subst h1 h2
 have hN:=VR (xs.map rXN) (ys.map rXE) nn ne c.id (by simp at hnl ⊢;omega) ((VP xs).2 hns)
 rw[VO,VN,q0] at hN
 simp only[edL,List.length_map] at hN hnl hle
 generalize Xu ltI Nod.id (xs.map (·.1)) c.id=i at*
 obtain⟨⟨x1,u,v⟩,hy0,rfl⟩:∃y:XN,xs[i]? =some y∧y.1=x':=by
  rw[List.getElem?_map] at hx'
  obtain⟨y,e1,e2⟩:=Option.map_eq_some_iff.1 hx'
  exact⟨y,e1,e2⟩
 simp only at*
 have hm10:=UW 10
 have hlr:=hpv.lr
 have hl8:=hpv.ll
 have hS:=X3e 121 (X6z x1.labels c.name (by omega) hlr)
 have hll:(x1.labels.map Xl).length=x1.labels.length:=by simp
 rw[q1,hll] at hS
 clear hlr q1 hll
 generalize Xu ltS Y7 x1.labels c.name=p at*
 have hm7:=UW 7
 have hq8:¬((x1.labels.map Xl).length:Int)<8:=by rw[List.length_map];omega
 clear q2
 have eB0:=X3P hy0
 simp only at eB0
 have hlen2:xs.length=((xs.map rXN).map cRN).length:=by simp
 have hRi:((xs.map rXN).map cRN)[i]? =some [.v (.int .i64 x1.id),.v u,.v v]:=by
  rw[List.getElem?_map,List.getElem?_map,hy0];rfl
 have hz3:=X2t (xs.map rXN)
 simp only[edS,List.length_map]
 clear hg hns hx hx' hx2 hxm hpv q0 hnl
 generalize hR:(xs.map rXN).map cRN=R at*
 have hlm:(x1.labels.map Xl).length=x1.labels.length:=by simp
 generalize hnl:x1.labels.length=nl at*
 obtain⟨op,id,src,dst,name,⟨k0,k1,k2,k3,k4⟩⟩:=c
 simp only at ho
 subst ho
 simp only[Xx,YW,Xv,VY] at*
 refine QIg ?_;refine W2_ ?_
 show AWP Tryz.prog E _ _ _
 refine X25 0 0 3 120 rfl (by omega) rfl rfl hlen2 rfl rfl (fun cp k hc1 hc2 hc3 _=> ?_)
 refine QRg ?_
 rw[hlm]
 have hCl:=X0Z (k:=k) hz3
 generalize List.map some R.flatten++List.replicate k none=C at*
 have hj:i*3+1<C.length:=by omega
 have hrd:=X3l (y:= .own 121 nl) hj
 have hiz:0+i*3+1=i*3+1:=by omega
 have hrd0:=Eq.trans (congrArg (fun z=>(Y6 C (some (_,.own 121 nl)))[z]?) hiz) hrd
 have hbd:0+i*3+1+1≤C.length:=by omega
 have hRl:R.length=xs.length:=hlen2.symm
 clear hlen2 hnl
 have hlm':=hlm.symm
 refine QPg ?_;refine Xj ?_;refine Z3 (hcon:=hm7) ?_;refine W2_ ?_;refine X0X 6 rfl (fun _=>rfl) ?_;refine W3_ ?_;refine QNg ?_;refine W1_ ?_;refine Zj (op:= .lss) (r':= .bool false) (u:= .int .i64 ((x1.labels.map Xl).length:Nat)) (v:= .int .i64 8) ?_ (hr':=by exact congrArg Value.bool (decide_eq_false hq8))
 (refine .done (fun h=>Bool.noConfusion h) ?_;apply X0R (hcon:=X0V 20);(case hxs=>exact rfl);(case hys=>conv=>lhs;whnf);(case hle=>((repeat (first|exact trivial|refine⟨(by(first|((exact AVal.le_refl _))|((exact AVal.le_nil _))|((refine AVal.le_agg ?_;((repeat (first|exact trivial|refine⟨(by(first|((exact AVal.le_refl _))|((exact AVal.le_nil _))|((refine AVal.le_of_eq ?_;(conv=>lhs;whnf);(first|((rfl))|((simp<;>fail))|fail)))|fail)),?_⟩|fail))<;>fail)))|((refine AVal.le_of_eq ?_;(conv=>lhs;whnf);(first|((rfl))|((simp<;>fail))|fail)))|fail)),?_⟩|fail))<;>fail));(case hf=>exact rfl);(case hLi=>(repeat (first|exact trivial|refine⟨rfl,?_⟩|fail))<;>fail))
theorem Xke (g:Gra) (c:Chg) (x:Nod) (hg:GV g) (ho:c.op=4) (hx:V8 g.nodes c.id=some x) (q1:XO Y7 x.labels c.name=false):
  V7 Tryz.prog 121 (edS g) [.ptr 0 0,Xx c] (Vx 23):=by
 have hxm:=X3p hx
 rw[X4E hg] at hx
 obtain⟨ns,es,nn,ne⟩:=g
 have hns:=hg.ns
 have hnl:=hg.nl
 have hpv:=(hg.nodes x hxm.1).2.2
 simp only at hx hns hnl
 obtain⟨x',hx',hx2⟩:=Option.bind_eq_some_iff.1 hx
 obtain⟨hk,rfl⟩:x'.id=c.id∧x'=x:=by by_cases e:x'.id=c.id<;>simp[e] at hx2 ⊢;exact hx2
 have q0:XO Nod.id ns c.id=true:=by rw[X0g V4 hns];exact decide_eq_true ⟨x',hx',hk⟩
 have hle:Xu ltI Nod.id ns c.id<ns.length:=(List.getElem?_eq_some_iff.1 hx').1
 refine X0x Tryz.func121 rfl Tryz.ntmps121 rfl (fun E=> ?_)
 refine Vu rfl rfl rfl rfl (fun xs ys h1 h2=> ?_)
 subst h1 h2
 have hN:=VR (xs.map rXN) (ys.map rXE) nn ne c.id (by simp at hnl ⊢;omega) ((VP xs).2 hns)
 rw[VO,VN,q0] at hN
 simp only[edL,List.length_map] at hN hnl hle
 generalize Xu ltI Nod.id (xs.map (·.1)) c.id=i at*
 obtain⟨⟨x1,u,v⟩,hy0,rfl⟩:∃y:XN,xs[i]? =some y∧y.1=x':=by
  rw[List.getElem?_map] at hx'
  obtain⟨y,e1,e2⟩:=Option.map_eq_some_iff.1 hx'
  exact⟨y,e1,e2⟩
 simp only at*
 have hm10:=UW 10
 have hlr:=hpv.lr
 have hl8:=hpv.ll
 have hS:=X3e 121 (X6z x1.labels c.name (by omega) hlr)
 have hll:(x1.labels.map Xl).length=x1.labels.length:=by simp
 rw[q1,hll] at hS
 clear hlr q1 hll
 generalize Xu ltS Y7 x1.labels c.name=p at*
 have eB0:=X3P hy0
 simp only at eB0
 have hlen2:xs.length=((xs.map rXN).map cRN).length:=by simp
 have hRi:((xs.map rXN).map cRN)[i]? =some [.v (.int .i64 x1.id),.v u,.v v]:=by
  rw[List.getElem?_map,List.getElem?_map,hy0];rfl
 have hz3:=X2t (xs.map rXN)
 simp only[edS,List.length_map]
 clear hg hns hx hx' hx2 hxm hpv q0 hnl
 generalize hR:(xs.map rXN).map cRN=R at*
 have hlm:(x1.labels.map Xl).length=x1.labels.length:=by simp
 generalize hnl:x1.labels.length=nl at*
 obtain⟨op,id,src,dst,name,⟨k0,k1,k2,k3,k4⟩⟩:=c
 simp only at ho
 subst ho
 simp only[Xx,YW,Xv,VY] at*
 refine QIg ?_;refine W2_ ?_
 show AWP Tryz.prog E _ _ _
 refine X25 0 0 3 120 rfl (by omega) rfl rfl hlen2 rfl rfl (fun cp k hc1 hc2 hc3 _=> ?_)
 refine QRg ?_
 rw[hlm]
 have hCl:=X0Z (k:=k) hz3
 generalize List.map some R.flatten++List.replicate k none=C at*
 have hj:i*3+1<C.length:=by omega
 have hrd:=X3l (y:= .own 121 nl) hj
 have hiz:0+i*3+1=i*3+1:=by omega
 have hrd0:=Eq.trans (congrArg (fun z=>(Y6 C (some (_,.own 121 nl)))[z]?) hiz) hrd
 have hbd:0+i*3+1+1≤C.length:=by omega
 have hRl:R.length=xs.length:=hlen2.symm
 clear hlen2 hnl
 have hlm':=hlm.symm
 refine QSg ?_;refine QCa ?_;refine QOg ?_;refine W7_ ?_;refine QXg ?_
 (refine .done (fun h=>Bool.noConfusion h) ?_;apply X0R (hcon:=X0V 23);(case hxs=>exact rfl);(case hys=>conv=>lhs;whnf);(case hle=>((repeat (first|exact trivial|refine⟨(by(first|((exact AVal.le_refl _))|((exact AVal.le_nil _))|((refine AVal.le_agg ?_;((repeat (first|exact trivial|refine⟨(by(first|((exact AVal.le_refl _))|((exact AVal.le_nil _))|((refine AVal.le_of_eq ?_;(conv=>lhs;whnf);(first|((rfl))|((simp<;>fail))|fail)))|fail)),?_⟩|fail))<;>fail)))|((refine AVal.le_of_eq ?_;(conv=>lhs;whnf);(first|((rfl))|((simp<;>fail))|fail)))|fail)),?_⟩|fail))<;>fail));(case hf=>exact rfl);(case hLi=>(repeat (first|exact trivial|refine⟨rfl,?_⟩|fail))<;>fail))
theorem XfA {C:List (Option D)}{j:Nat}{y:AVal}{d:D} (h:j<C.length):Y6 (C.set j (some d)) none=(Y6 C (some (j,y))).take j++[.d d]++(Y6 C (some (j,y))).drop (j+1):=by
 have e:Y6 (C.set j (some d)) none=Y6 C (some (j,.d d)):=by simp only[Y6,List.map_set];rfl
 rw[e];exact X6r h
theorem Xp1 (g:Gra) (c:Chg) (x:Nod) (hg:GV g) (ho:c.op=5) (hx:V8 g.nodes c.id=some x) (q1:¬(YI x.props c.name c.v).length≤16):
  V7 Tryz.prog 121 (edS g) [.ptr 0 0,Xx c] (Vx 20):=by
 have hxm:=X3p hx
 rw[X4E hg] at hx
 obtain⟨ns,es,nn,ne⟩:=g
 have hns:=hg.ns
 have hnl:=hg.nl
 have hpv:=(hg.nodes x hxm.1).2.2
 simp only at hx hns hnl
 obtain⟨x',hx',hx2⟩:=Option.bind_eq_some_iff.1 hx
 obtain⟨hk,rfl⟩:x'.id=c.id∧x'=x:=by by_cases e:x'.id=c.id<;>simp[e] at hx2 ⊢;exact hx2
 have q0:XO Nod.id ns c.id=true:=by rw[X0g V4 hns];exact decide_eq_true ⟨x',hx',hk⟩
 have hle:Xu ltI Nod.id ns c.id<ns.length:=(List.getElem?_eq_some_iff.1 hx').1
 refine X0x Tryz.func121 rfl Tryz.ntmps121 rfl (fun E=> ?_)
 refine Vu rfl rfl rfl rfl (fun xs ys h1 h2=> ?_)
 subst h1 h2
 have hN:=VR (xs.map rXN) (ys.map rXE) nn ne c.id (by simp at hnl ⊢;omega) ((VP xs).2 hns)
 rw[VO,VN,q0] at hN
 simp only[edL,List.length_map] at hN hnl hle
 generalize Xu ltI Nod.id (xs.map (·.1)) c.id=i at*
 obtain⟨⟨x1,u,v⟩,hy0,rfl⟩:∃y:XN,xs[i]? =some y∧y.1=x':=by
  rw[List.getElem?_map] at hx'
  obtain⟨y,e1,e2⟩:=Option.map_eq_some_iff.1 hx'
  exact⟨y,e1,e2⟩
 simp only at*
 have hm10:=UW 10
 have hS:=XdG x1.props c.name c.v hpv.pr hpv.pl q1
 clear q1
 have eB0:=X3P hy0
 simp only at eB0
 have hlen2:xs.length=((xs.map rXN).map cRN).length:=by simp
 have hRi:((xs.map rXN).map cRN)[i]? =some [.v (.int .i64 x1.id),.v u,.v v]:=by
  rw[List.getElem?_map,List.getElem?_map,hy0];rfl
 have hz3:=X2t (xs.map rXN)
 simp only[edS,List.length_map]
 clear hg hns hx hx' hx2 hxm hpv q0 hnl
 generalize hR:(xs.map rXN).map cRN=R at*
 have hlm:(x1.props.map Xh).length=x1.props.length:=by simp
 generalize hnl:x1.props.length=nl at*
 obtain⟨op,id,src,dst,name,⟨k0,k1,k2,k3,k4⟩⟩:=c
 simp only at ho
 subst ho
 simp only[Xx,YW,Xv,VY] at*
 refine QIg ?_;refine W2_ ?_
 show AWP Tryz.prog E _ _ _
 refine X25 0 0 3 120 rfl (by omega) rfl rfl hlen2 rfl rfl (fun cp k hc1 hc2 hc3 _=> ?_)
 refine QTg ?_
 rw[hlm]
 have hCl:=X0Z (k:=k) hz3
 generalize List.map some R.flatten++List.replicate k none=C at*
 have hj:i*3+2<C.length:=by omega
 have hrd:=X3l (y:= .own 121 nl) hj
 have hiz:0+i*3+2=i*3+2:=by omega
 have hrd0:=Eq.trans (congrArg (fun z=>(Y6 C (some (_,.own 121 nl)))[z]?) hiz) hrd
 have hbd:0+i*3+2+1≤C.length:=by omega
 have hRl:R.length=xs.length:=hlen2.symm
 clear hlen2 hnl
 have hlm':=hlm.symm
 refine QSg ?_;refine JF ?_;refine XiA 9 (by kernel_rfl) rfl (fun _=>rfl) ?_;refine W4_ ?_;refine QQg ?_
 refine .done (fun h=>Bool.noConfusion h) ⟨XbU (List.zip [.tmp 77,.tmp 79,.tmp 81] [.own 121 nl,.d (.v (.string (Xb name))),.agg [ai k0,ai k1,ai k2,.d (.v (.string (Xb k3))),.d (.sl 5 (XU k4))]]) (some (82,.d (.v undef))) [(121,.row 6 (x1.props.map Xh))],Xfh hS rfl rfl JM rfl,⟨⟨rfl,rfl,rfl,trivial⟩,⟨rfl,trivial⟩,trivial,rfl⟩,?_⟩
 have hwr:=XfA (y:= .own 121 nl) (d:= .v undef) hj
 refine W2_ ?_;(refine Zi (cs':=C.set (i*3+2) (some (.v undef))) (ho':=none) ?_ (hcs:= ?hcs58);(case hcs58=>exact(by rw[hiz];exact hwr)));refine JD ?_;exact rfl
theorem XnI (g:Gra) (c:Chg) (hg:GV g) (ho:c.op=6) (q1:XO Edg.id g.edges c.id=true):
  V7 Tryz.prog 122 (edS g) [.ptr 0 0,Xx c] (Vx 7):=by
 obtain⟨ns,es,nn,ne⟩:=g
 have hns:=hg.ns
 have hnl:=hg.nl
 have hes:=hg.es
 have hel:=hg.el
 simp only at q1 hns hes hnl hel
 refine X0x Tryz.func122 rfl Tryz.ntmps122 rfl (fun E=> ?_)
 refine Vu rfl rfl rfl rfl (fun xs ys h1 h2=> ?_)
 subst h1 h2
 have hE:=X2Q (xs.map rXN) (ys.map rXE) nn ne c.id (by simp at hel ⊢;omega) ((X2L ys).2 hes)
 rw[X2G,X2J,q1] at hE
 simp only[edL,List.length_map] at hE hel hnl
 generalize Xu ltI Edg.id (ys.map (·.1)) c.id=i at*
 simp only[edS,List.length_map]
 clear hg hns hes
 obtain⟨op,id,src,dst,name,⟨k0,k1,k2,k3,k4⟩⟩:=c
 simp only at ho
 subst ho
 simp only[Xx,YW] at*
 refine W9_ ?_;refine Z3 (hcon:=hE) ?_;refine XD ?_;refine Qea ?_;refine X0X 2 rfl (fun _=>rfl) ?_;refine W2_ ?_
 (refine .done (fun h=>Bool.noConfusion h) ?_;apply X0R (hcon:=X0V 7);(case hxs=>exact rfl);(case hys=>conv=>lhs;whnf);(case hle=>((repeat (first|exact trivial|refine⟨(by(first|((exact AVal.le_refl _))|((exact AVal.le_nil _))|((refine AVal.le_agg ?_;((repeat (first|exact trivial|refine⟨(by(first|((exact AVal.le_refl _))|((exact AVal.le_nil _))|((refine AVal.le_of_eq ?_;(conv=>lhs;whnf);(first|((rfl))|((simp<;>fail))|fail)))|fail)),?_⟩|fail))<;>fail)))|((refine AVal.le_of_eq ?_;(conv=>lhs;whnf);(first|((rfl))|((simp<;>fail))|fail)))|fail)),?_⟩|fail))<;>fail));(case hf=>exact rfl);(case hLi=>(repeat (first|exact trivial|refine⟨rfl,?_⟩|fail))<;>fail))
theorem XoZ (g:Gra) (c:Chg) (hg:GV g) (ho:c.op=6) (q1:XO Edg.id g.edges c.id=false) (qs:XO Nod.id g.nodes c.src=false):
  V7 Tryz.prog 122 (edS g) [.ptr 0 0,Xx c] (Vx 10):=by
 obtain⟨ns,es,nn,ne⟩:=g
 have hns:=hg.ns
 have hnl:=hg.nl
 have hes:=hg.es
 have hel:=hg.el
 simp only at q1 qs hns hes hnl hel
 refine X0x Tryz.func122 rfl Tryz.ntmps122 rfl (fun E=> ?_)
 refine Vu rfl rfl rfl rfl (fun xs ys h1 h2=> ?_)
 subst h1 h2
 have hNs:=VR (xs.map rXN) (ys.map rXE) nn ne c.src (by simp at hnl ⊢;omega) ((VP xs).2 hns)
 have hNd:=VR (xs.map rXN) (ys.map rXE) nn ne c.dst (by simp at hnl ⊢;omega) ((VP xs).2 hns)
 rw[VO,VN,qs] at hNs
 rw[VO,VN] at hNd
 simp only[edL,List.length_map] at hNs hNd
 have hm7:=UW 7
 generalize XO Nod.id (xs.map (·.1)) c.dst=bd at*
 have hE:=X2Q (xs.map rXN) (ys.map rXE) nn ne c.id (by simp at hel ⊢;omega) ((X2L ys).2 hes)
 rw[X2G,X2J,q1] at hE
 simp only[edL,List.length_map] at hE hel hnl
 generalize Xu ltI Edg.id (ys.map (·.1)) c.id=i at*
 simp only[edS,List.length_map]
 clear hg hns hes
 obtain⟨op,id,src,dst,name,⟨k0,k1,k2,k3,k4⟩⟩:=c
 simp only at ho
 subst ho
 simp only[Xx,YW] at*
 refine QUg ?_;refine W7_ ?_;refine X0X 4 rfl (fun _=>rfl) ?_;refine W2_ ?_;refine Qu ?_;refine QE ?_
 (refine .done (fun h=>Bool.noConfusion h) ?_;apply X0R (hcon:=X0V 10);(case hxs=>exact rfl);(case hys=>conv=>lhs;whnf);(case hle=>((repeat (first|exact trivial|refine⟨(by(first|((exact AVal.le_refl _))|((exact AVal.le_nil _))|((refine AVal.le_agg ?_;((repeat (first|exact trivial|refine⟨(by(first|((exact AVal.le_refl _))|((exact AVal.le_nil _))|((refine AVal.le_of_eq ?_;(conv=>lhs;whnf);(first|((rfl))|((simp<;>fail))|fail)))|fail)),?_⟩|fail))<;>fail)))|((refine AVal.le_of_eq ?_;(conv=>lhs;whnf);(first|((rfl))|((simp<;>fail))|fail)))|fail)),?_⟩|fail))<;>fail));(case hf=>exact rfl);(case hLi=>(repeat (first|exact trivial|refine⟨rfl,?_⟩|fail))<;>fail))
theorem XkL (g:Gra) (c:Chg) (hg:GV g) (ho:c.op=6) (q1:XO Edg.id g.edges c.id=false) (qs:XO Nod.id g.nodes c.src=true) (qd:XO Nod.id g.nodes c.dst=false):
  V7 Tryz.prog 122 (edS g) [.ptr 0 0,Xx c] (Vx 10):=by
 obtain⟨ns,es,nn,ne⟩:=g
 have hns:=hg.ns
 have hnl:=hg.nl
 have hes:=hg.es
 have hel:=hg.el
 simp only at q1 qs qd hns hes hnl hel
 refine X0x Tryz.func122 rfl Tryz.ntmps122 rfl (fun E=> ?_)
 refine Vu rfl rfl rfl rfl (fun xs ys h1 h2=> ?_)
 subst h1 h2
 have hNs:=VR (xs.map rXN) (ys.map rXE) nn ne c.src (by simp at hnl ⊢;omega) ((VP xs).2 hns)
 have hNd:=VR (xs.map rXN) (ys.map rXE) nn ne c.dst (by simp at hnl ⊢;omega) ((VP xs).2 hns)
 rw[VO,VN,qs] at hNs
 rw[VO,VN,qd] at hNd
 simp only[edL,List.length_map] at hNs hNd
 have hm7:=UW 7
 have hE:=X2Q (xs.map rXN) (ys.map rXE) nn ne c.id (by simp at hel ⊢;omega) ((X2L ys).2 hes)
 rw[X2G,X2J,q1] at hE
 simp only[edL,List.length_map] at hE hel hnl
 generalize Xu ltI Edg.id (ys.map (·.1)) c.id=i at*
 simp only[edS,List.length_map]
 clear hg hns hes
 obtain⟨op,id,src,dst,name,⟨k0,k1,k2,k3,k4⟩⟩:=c
 simp only at ho
 subst ho
 simp only[Xx,YW] at*
 refine QUg ?_;refine W7_ ?_;refine X0X 4 rfl (fun _=>rfl) ?_;refine W3_ ?_;refine Qr ?_
 (refine .done (fun h=>Bool.noConfusion h) ?_;apply X0R (hcon:=X0V 10);(case hxs=>exact rfl);(case hys=>conv=>lhs;whnf);(case hle=>((repeat (first|exact trivial|refine⟨(by(first|((exact AVal.le_refl _))|((exact AVal.le_nil _))|((refine AVal.le_agg ?_;((repeat (first|exact trivial|refine⟨(by(first|((exact AVal.le_refl _))|((exact AVal.le_nil _))|((refine AVal.le_of_eq ?_;(conv=>lhs;whnf);(first|((rfl))|((simp<;>fail))|fail)))|fail)),?_⟩|fail))<;>fail)))|((refine AVal.le_of_eq ?_;(conv=>lhs;whnf);(first|((rfl))|((simp<;>fail))|fail)))|fail)),?_⟩|fail))<;>fail));(case hf=>exact rfl);(case hLi=>(repeat (first|exact trivial|refine⟨rfl,?_⟩|fail))<;>fail))
theorem XqG (g:Gra) (c:Chg) (hg:GV g) (ho:c.op=6) (q1:XO Edg.id g.edges c.id=false) (qs:XO Nod.id g.nodes c.src=true) (qd:XO Nod.id g.nodes c.dst=true) (q2:¬g.edges.length<4000):
  V7 Tryz.prog 122 (edS g) [.ptr 0 0,Xx c] (Vx 20):=by
 obtain⟨ns,es,nn,ne⟩:=g
 have hns:=hg.ns
 have hnl:=hg.nl
 have hes:=hg.es
 have hel:=hg.el
 simp only at q1 qs qd q2 hns hes hnl hel
 refine X0x Tryz.func122 rfl Tryz.ntmps122 rfl (fun E=> ?_)
 refine Vu rfl rfl rfl rfl (fun xs ys h1 h2=> ?_)
 subst h1 h2
 have hNs:=VR (xs.map rXN) (ys.map rXE) nn ne c.src (by simp at hnl ⊢;omega) ((VP xs).2 hns)
 have hNd:=VR (xs.map rXN) (ys.map rXE) nn ne c.dst (by simp at hnl ⊢;omega) ((VP xs).2 hns)
 rw[VO,VN,qs] at hNs
 rw[VO,VN,qd] at hNd
 simp only[edL,List.length_map] at hNs hNd
 have hm7:=UW 7
 have hE:=X2Q (xs.map rXN) (ys.map rXE) nn ne c.id (by simp at hel ⊢;omega) ((X2L ys).2 hes)
 rw[X2G,X2J,q1] at hE
 simp only[edL,List.length_map] at hE hel hnl q2
 generalize Xu ltI Edg.id (ys.map (·.1)) c.id=i at*
 have hm10:=UW 10
 have hlen2:ys.length=((ys.map rXE).map cRE).length:=by simp
 have q2':¬(((ys.map rXE).map cRE).length:Int)<4000:=by rw[←hlen2];omega
 generalize (ys.map rXE).map cRE=R at*
 simp only[edS,List.length_map]
 clear hg hns hes
 obtain⟨op,id,src,dst,name,⟨k0,k1,k2,k3,k4⟩⟩:=c
 simp only at ho
 subst ho
 simp only[Xx,YW] at*
 refine QUg ?_;refine QC ?_;refine Z3 (hcon:=hm10) ?_;refine W2_ ?_;refine X0X 7 rfl (fun _=>rfl) ?_;refine W6_ ?_;refine Zj (op:= .lss) (r':= .bool false) (u:= .int .i64 (R.length:Nat)) (v:= .int .i64 4000) ?_ (hr':=by exact congrArg Value.bool (decide_eq_false q2'))
 (refine .done (fun h=>Bool.noConfusion h) ?_;apply X0R (hcon:=X0V 20);(case hxs=>exact rfl);(case hys=>conv=>lhs;whnf);(case hle=>((repeat (first|exact trivial|refine⟨(by(first|((exact AVal.le_refl _))|((exact AVal.le_nil _))|((refine AVal.le_agg ?_;((repeat (first|exact trivial|refine⟨(by(first|((exact AVal.le_refl _))|((exact AVal.le_nil _))|((refine AVal.le_of_eq ?_;(conv=>lhs;whnf);(first|((rfl))|((simp<;>fail))|fail)))|fail)),?_⟩|fail))<;>fail)))|((refine AVal.le_of_eq ?_;(conv=>lhs;whnf);(first|((rfl))|((simp<;>fail))|fail)))|fail)),?_⟩|fail))<;>fail));(case hf=>exact rfl);(case hLi=>(repeat (first|exact trivial|refine⟨rfl,?_⟩|fail))<;>fail))
theorem Xmi (g:Gra) (c:Chg) (hg:GV g) (ho:c.op=7) (q1:XO Edg.id g.edges c.id=false):
  V7 Tryz.prog 122 (edS g) [.ptr 0 0,Xx c] (Vx 11):=by
 obtain⟨ns,es,nn,ne⟩:=g
 have hns:=hg.ns
 have hnl:=hg.nl
 have hes:=hg.es
 have hel:=hg.el
 simp only at q1 hns hes hnl hel
 refine X0x Tryz.func122 rfl Tryz.ntmps122 rfl (fun E=> ?_)
 refine Vu rfl rfl rfl rfl (fun xs ys h1 h2=> ?_)
 subst h1 h2
 have hE:=X2Q (xs.map rXN) (ys.map rXE) nn ne c.id (by simp at hel ⊢;omega) ((X2L ys).2 hes)
 rw[X2G,X2J,q1] at hE
 simp only[edL,List.length_map] at hE hel hnl
 generalize Xu ltI Edg.id (ys.map (·.1)) c.id=i at*
 simp only[edS,List.length_map]
 clear hg hns hes
 obtain⟨op,id,src,dst,name,⟨k0,k1,k2,k3,k4⟩⟩:=c
 simp only at ho
 subst ho
 simp only[Xx,YW] at*
 refine QVg ?_;refine Qea ?_;refine QXg ?_
 (refine .done (fun h=>Bool.noConfusion h) ?_;apply X0R (hcon:=X0V 11);(case hxs=>exact rfl);(case hys=>conv=>lhs;whnf);(case hle=>((repeat (first|exact trivial|refine⟨(by(first|((exact AVal.le_refl _))|((exact AVal.le_nil _))|((refine AVal.le_agg ?_;((repeat (first|exact trivial|refine⟨(by(first|((exact AVal.le_refl _))|((exact AVal.le_nil _))|((refine AVal.le_of_eq ?_;(conv=>lhs;whnf);(first|((rfl))|((simp<;>fail))|fail)))|fail)),?_⟩|fail))<;>fail)))|((refine AVal.le_of_eq ?_;(conv=>lhs;whnf);(first|((rfl))|((simp<;>fail))|fail)))|fail)),?_⟩|fail))<;>fail));(case hf=>exact rfl);(case hLi=>(repeat (first|exact trivial|refine⟨rfl,?_⟩|fail))<;>fail))
theorem Xrp (g:Gra) (c:Chg) (hg:GV g) (ho:c.op=8) (q1:XO Edg.id g.edges c.id=false):
  V7 Tryz.prog 122 (edS g) [.ptr 0 0,Xx c] (Vx 11):=by
 obtain⟨ns,es,nn,ne⟩:=g
 have hns:=hg.ns
 have hnl:=hg.nl
 have hes:=hg.es
 have hel:=hg.el
 simp only at q1 hns hes hnl hel
 refine X0x Tryz.func122 rfl Tryz.ntmps122 rfl (fun E=> ?_)
 refine Vu rfl rfl rfl rfl (fun xs ys h1 h2=> ?_)
 subst h1 h2
 have hE:=X2Q (xs.map rXN) (ys.map rXE) nn ne c.id (by simp at hel ⊢;omega) ((X2L ys).2 hes)
 rw[X2G,X2J,q1] at hE
 simp only[edL,List.length_map] at hE hel hnl
 generalize Xu ltI Edg.id (ys.map (·.1)) c.id=i at*
 simp only[edS,List.length_map]
 clear hg hns hes
 obtain⟨op,id,src,dst,name,⟨k0,k1,k2,k3,k4⟩⟩:=c
 simp only at ho
 subst ho
 simp only[Xx,YW] at*
 refine QVg ?_;refine JF ?_;refine W1_ ?_;refine QXg ?_
 (refine .done (fun h=>Bool.noConfusion h) ?_;apply X0R (hcon:=X0V 11);(case hxs=>exact rfl);(case hys=>conv=>lhs;whnf);(case hle=>((repeat (first|exact trivial|refine⟨(by(first|((exact AVal.le_refl _))|((exact AVal.le_nil _))|((refine AVal.le_agg ?_;((repeat (first|exact trivial|refine⟨(by(first|((exact AVal.le_refl _))|((exact AVal.le_nil _))|((refine AVal.le_of_eq ?_;(conv=>lhs;whnf);(first|((rfl))|((simp<;>fail))|fail)))|fail)),?_⟩|fail))<;>fail)))|((refine AVal.le_of_eq ?_;(conv=>lhs;whnf);(first|((rfl))|((simp<;>fail))|fail)))|fail)),?_⟩|fail))<;>fail));(case hf=>exact rfl);(case hLi=>(repeat (first|exact trivial|refine⟨rfl,?_⟩|fail))<;>fail))
theorem Xn0 (g:Gra) (c:Chg) (x:Edg) (hg:GV g) (ho:c.op=8) (hx:VJ g.edges c.id=some x) (q1:¬(YI x.props c.name c.v).length≤16):
  V7 Tryz.prog 122 (edS g) [.ptr 0 0,Xx c] (Vx 20):=by
 have hxm:=X7U hx
 rw[Xgk hg] at hx
 obtain⟨ns,es,nn,ne⟩:=g
 have hes:=hg.es
 have hel:=hg.el
 have hpv:=(hg.edges x hxm.1).2.2.2.2.2
 simp only at hx hes hel
 obtain⟨x',hx',hx2⟩:=Option.bind_eq_some_iff.1 hx
 obtain⟨hk,rfl⟩:x'.id=c.id∧x'=x:=by by_cases e:x'.id=c.id<;>simp[e] at hx2 ⊢;exact hx2
 have q0:XO Edg.id es c.id=true:=by rw[X0g V4 hes];exact decide_eq_true ⟨x',hx',hk⟩
 have hle:Xu ltI Edg.id es c.id<es.length:=(List.getElem?_eq_some_iff.1 hx').1
 refine X0x Tryz.func122 rfl Tryz.ntmps122 rfl (fun E=> ?_)
 refine Vu rfl rfl rfl rfl (fun xs ys h1 h2=> ?_)
 subst h1 h2
 have hE:=X2Q (xs.map rXN) (ys.map rXE) nn ne c.id (by simp at hel ⊢;omega) ((X2L ys).2 hes)
 rw[X2G,X2J,q0] at hE
 simp only[edL,List.length_map] at hE hel hle
 generalize Xu ltI Edg.id (ys.map (·.1)) c.id=i at*
 obtain⟨⟨x1,u⟩,hy0,rfl⟩:∃y:XE,ys[i]? =some y∧y.1=x':=by
  rw[List.getElem?_map] at hx'
  obtain⟨y,e1,e2⟩:=Option.map_eq_some_iff.1 hx'
  exact⟨y,e1,e2⟩
 simp only at*
 have hm11:=UW 11
 have hS:=XdG x1.props c.name c.v hpv.pr hpv.pl q1
 clear q1
 have eB0:=X8J hy0
 simp only at eB0
 have hlen2:ys.length=((ys.map rXE).map cRE).length:=by simp
 have hRi:((ys.map rXE).map cRE)[i]? =some [.v (.int .i64 x1.id),.v (.int .i64 x1.src),.v (.int .i64 x1.dst),.v (.string (Xb x1.typ)),.v u]:=by
  rw[List.getElem?_map,List.getElem?_map,hy0];rfl
 have hz5:=X4d (ys.map rXE)
 simp only[edS,List.length_map]
 clear hg hes hx hx' hx2 hxm hpv q0 hel
 generalize hR:(ys.map rXE).map cRE=R at*
 have hlm:(x1.props.map Xh).length=x1.props.length:=by simp
 generalize hnl:x1.props.length=nl at*
 obtain⟨op,id,src,dst,name,⟨k0,k1,k2,k3,k4⟩⟩:=c
 simp only at ho
 subst ho
 simp only[Xx,YW,Xv,VY] at*
 refine QVg ?_;refine JF ?_;refine W3_ ?_;refine Z3 (hcon:=hm11) ?_;refine W1_ ?_
 show AWP Tryz.prog E _ _ _
 refine X25 0 1 4 120 rfl (by omega) rfl rfl hlen2 rfl rfl (fun cp k hc1 hc2 hc3 _=> ?_)
 refine QWg ?_
 rw[hlm]
 have hCl:=X0Z (k:=k) hz5
 generalize List.map some R.flatten++List.replicate k none=C at*
 have hj:i*5+4<C.length:=by omega
 have hrd:=X3l (y:= .own 121 nl) hj
 have hiz:0+i*5+4=i*5+4:=by omega
 have hrd0:=Eq.trans (congrArg (fun z=>(Y6 C (some (_,.own 121 nl)))[z]?) hiz) hrd
 have hbd:0+i*5+4+1≤C.length:=by omega
 have hRl:R.length=ys.length:=hlen2.symm
 clear hlen2 hnl
 have hlm':=hlm.symm
 skip
 refine XiA 19 (by kernel_rfl) rfl (fun _=>rfl) ?_;refine Xt ?_;refine Zh (sz:=5) ?_;refine W1_ ?_;refine QQg ?_
 refine .done (fun h=>Bool.noConfusion h) ⟨XbU (List.zip [.tmp 35,.tmp 37,.tmp 39] [.own 121 nl,.d (.v (.string (Xb name))),.agg [ai k0,ai k1,ai k2,.d (.v (.string (Xb k3))),.d (.sl 5 (XU k4))]]) (some (40,.d (.v undef))) [(121,.row 6 (x1.props.map Xh))],Xfh hS rfl rfl JM rfl,⟨⟨rfl,rfl,rfl,trivial⟩,⟨rfl,trivial⟩,trivial,rfl⟩,?_⟩
 have hwr:=XfA (y:= .own 121 nl) (d:= .v undef) hj
 refine Zh (sz:=5) ?_;refine W1_ ?_;(refine Zi (cs':=C.set (i*5+4) (some (.v undef))) (ho':=none) ?_ (hcs:= ?hcs59);(case hcs59=>exact(by rw[hiz];exact hwr)));refine JD ?_;exact rfl
theorem Xhy (p:Addr) (w:World):
  CallsD Tryz.prog 120 #[.pointer (some p)] .returning w fun e u' w'=>e= .returned (.tuple #[])∧u'= .returning∧w'=w:=by
 have hnil:∀w:World,(binOp BinOp.neq 20 .nilIface .nilIface).run Tryz.prog w= .ok (.bool false) w:=fun _=>by kernel_rfl
 refine callsD_of_wpS Tryz.func120 rfl fun c₀ cs hu=> ?_
 apply wpS_seq
 apply wpS_region
 simp[wpOpsS,go_sem,recoverD,hu,Tryz.ntmps120,Exit.thenS]
 apply wpS_seq
 apply wpS_region
 simp[wpOpsS,go_sem,hnil,Exit.thenS]
 refine wpS_cond (t:=false) (by simp[Act.eval,Array.replicate]) ?_
 simp only[Bool.false_eq_true,if_false]
 refine wpS_of_wp (wp_skip ?_)
 cases c₀
 simp_all [bodyPostS,results,Tryz.results120]
theorem Xe0 (p:Addr) (e e0:Int) (w:World) (hc:w.cell? p=some (.int .i64 e0)) (hz:w.frozen? p=false):
  CallsD Tryz.prog 120 #[.pointer (some p)] (.panicking [{v:= .iface 164 (.int .i64 e),recovered:=false}]) w fun x u' w'=>
   x= .returned (.tuple #[])∧u'= .panicking [{v:= .iface 164 (.int .i64 e),recovered:=true}]∧w'=w.setCell p (.int .i64 e):=by
 have hne:∀w:World,(binOp BinOp.neq 20 (.iface 164 (.int .i64 e)) .nilIface).run Tryz.prog w= .ok (.bool true) w:=fun _=>by kernel_rfl
 have hta:∀w:World,(Instr.typeAssert (.iface 164 (.int .i64 e)) 20 164 true).run Tryz.prog w= .ok (.tuple #[.int .i64 e,.bool true]) w:=fun _=>by kernel_rfl
 refine callsD_of_wpS Tryz.func120 rfl fun c₀ cs hu=> ?_
 apply wpS_seq
 apply wpS_region
 simp[wpOpsS,go_sem,recoverD,hu,Tryz.ntmps120,Exit.thenS]
 apply wpS_seq
 apply wpS_region
 simp[wpOpsS,go_sem,hne,Exit.thenS]
 refine wpS_cond (t:=true) (by simp[Act.eval,Array.replicate]) ?_
 simp only[if_true]
 apply wpS_seq
 apply wpS_seq
 apply wpS_region
 simp[wpOpsS,go_sem,hta,Exit.thenS]
 apply wpS_seq
 apply wpS_region
 simp[wpOpsS,go_sem,Exit.thenS]
 refine wpS_cond (t:=true) (by simp[Act.eval,Array.replicate]) ?_
 simp only[if_true]
 apply wpS_seq
 apply wpS_region
 simp[wpOpsS,go_sem,hc,hz,Exit.thenS]
 refine wpS_of_wp (wp_ret ?_)
 simp[bodyPostS,results,Tryz.results120,Exit.thenS]
abbrev edD:List (Nat×AObj):=[(0,.dead),(3,.dead),(4,.dead)]
theorem Xc8 (γ:Nat):Xo .dead edD γ= .dead:=by
 by_cases h0:(0:Nat)=γ
 ·subst h0;rfl
 ·rw[Y9 _ _ _ h0]
  by_cases h3:(3:Nat)=γ
  ·subst h3;rfl
  ·rw[Y9 _ _ _ h3]
   by_cases h4:(4:Nat)=γ
   ·subst h4;rfl
   ·rw[Y9 _ _ _ h4];rfl
section
variable (g g':Gra) (c:Chg)
theorem Xk7 (hc:YJ c≠0):Con Tryz.prog 73 (edS g) [.ptr 0 0,Xx c] edD (ai (YJ c)):=by
 refine X68 (xs:=[ai (YJ c)]) Tryz.func73 rfl Tryz.ntmps73 rfl (fun E hds=> ?_)
 have hk:=X4c c
 generalize YJ c=e at*
 obtain⟨op,id,src,dst,name,⟨k0,k1,k2,k3,k4⟩⟩:=c
 simp only[Xx,YW] at*
 refine X2x ?_;refine W4_ ?_
 show AW Tryz.prog E _ _ _
 refine X2x ?_;refine W3_ ?_;refine Z3 (hcon:=hk) ?_;refine W7_ ?_;refine QCa ?_
 show AWP Tryz.prog E _ _ _
 refine X1 ?_
 exact fun a w hs=>show Leaves _ _ _ _ _ _ _ from Xnm (rs:=[.cell 4 29]) (xs:=[ai e]) hds rfl rfl ⟨_,St.le_refl _,⟨⟨_,_,_,rfl,rfl,.inl ⟨rfl,rfl⟩⟩,trivial⟩,fun γ=> .inr (Xc8 γ)⟩ hs
theorem XoF (hc:YJ c=0) (ho:c.op≤5) (hcon:Con Tryz.prog 121 (edS g) [.ptr 0 0,Xx c] (edN g') (.tup [])):Con Tryz.prog 73 (edS g) [.ptr 0 0,Xx c] (edN g') (ai 0):=by
 refine X68 (xs:=[ai 0]) Tryz.func73 rfl Tryz.ntmps73 rfl (fun E hds=> ?_)
 have hk:=X4c c
 rw[hc] at hk
 obtain⟨op,id,src,dst,name,⟨k0,k1,k2,k3,k4⟩⟩:=c
 simp only[Xx,YW] at*
 refine X2x ?_;refine W4_ ?_
 show AW Tryz.prog E _ _ _
 refine QYg ?_
 show AW Tryz.prog E _ _ _
 refine X8d (f:=120) 1 101 50 rfl rfl hds (by decide) (Li:=edS g) (Lo:=(edN g')) (xs:=[ai 0]) (fun γ hγ=>by
  simp only[XS,Bool.or_eq_true,Bool.or_false] at hγ
  rcases hγ with h|h|h<;>(have:=Nat.eq_of_beq_eq_true h;omega)) ?_
 refine W1_ ?_
 refine .done (fun h=>Bool.noConfusion h) ⟨rfl,fun E' b hds' hb hconv=> ?_⟩
 refine QZg ?_;refine W7_ ?_;refine Qqc ?_;refine Z3 (hcon:=hcon) ?_;refine W5_ ?_
 show AWP Tryz.prog E' _ _ _
 refine X1 ?_
 exact fun a w hs=>show Leaves _ _ _ _ _ _ _ from Xeg (rs:=[.cell 4 29]) (xs:=[ai 0]) rfl hds' rfl rfl hconv Xhy ⟨_,St.le_refl _,⟨⟨_,_,_,rfl,rfl,.inl ⟨rfl,rfl⟩⟩,trivial⟩,Xn ⟨rfl,rfl,rfl,rfl,trivial⟩⟩ hs
theorem XrN (hc:YJ c=0) (ho:¬c.op≤5) (hcon:Con Tryz.prog 122 (edS g) [.ptr 0 0,Xx c] (edE g') (.tup [])):Con Tryz.prog 73 (edS g) [.ptr 0 0,Xx c] (edE g') (ai 0):=by
 refine X68 (xs:=[ai 0]) Tryz.func73 rfl Tryz.ntmps73 rfl (fun E hds=> ?_)
 have hk:=X4c c
 rw[hc] at hk
 obtain⟨op,id,src,dst,name,⟨k0,k1,k2,k3,k4⟩⟩:=c
 simp only[Xx,YW] at*
 refine X2x ?_;refine W4_ ?_
 show AW Tryz.prog E _ _ _
 refine QYg ?_
 show AW Tryz.prog E _ _ _
 refine X8d (f:=120) 1 101 50 rfl rfl hds (by decide) (Li:=edS g) (Lo:=(edE g')) (xs:=[ai 0]) (fun γ hγ=>by
  simp only[XS,Bool.or_eq_true,Bool.or_false] at hγ
  rcases hγ with h|h|h<;>(have:=Nat.eq_of_beq_eq_true h;omega)) ?_
 refine W1_ ?_
 refine .done (fun h=>Bool.noConfusion h) ⟨rfl,fun E' b hds' hb hconv=> ?_⟩
 refine QZg ?_;refine W7_ ?_;refine JF ?_;refine W3_ ?_;refine Z3 (hcon:=hcon) ?_;refine W5_ ?_
 show AWP Tryz.prog E' _ _ _
 refine X1 ?_
 exact fun a w hs=>show Leaves _ _ _ _ _ _ _ from Xeg (rs:=[.cell 4 29]) (xs:=[ai 0]) rfl hds' rfl rfl hconv Xhy ⟨_,St.le_refl _,⟨⟨_,_,_,rfl,rfl,.inl ⟨rfl,rfl⟩⟩,trivial⟩,Xn ⟨rfl,rfl,rfl,rfl,trivial⟩⟩ hs
theorem Xmw (hc:YJ c=0) (ho:c.op≤5) (e:Int) (hcon:V7 Tryz.prog 121 (edS g) [.ptr 0 0,Xx c] (Vx e)):Con Tryz.prog 73 (edS g) [.ptr 0 0,Xx c] edD (ai e):=by
 refine X68 (xs:=[ai e]) Tryz.func73 rfl Tryz.ntmps73 rfl (fun E hds=> ?_)
 have hk:=X4c c
 rw[hc] at hk
 obtain⟨op,id,src,dst,name,⟨k0,k1,k2,k3,k4⟩⟩:=c
 simp only[Xx,YW] at*
 refine X2x ?_;refine W4_ ?_
 show AW Tryz.prog E _ _ _
 refine QYg ?_
 show AW Tryz.prog E _ _ _
 refine X8d (f:=120) 1 101 50 rfl rfl hds (by decide) (Li:=edS g) (Lo:=edD) (xs:=[ai e]) (fun γ hγ=>by
  simp only[XS,Bool.or_eq_true,Bool.or_false] at hγ
  rcases hγ with h|h|h<;>(have:=Nat.eq_of_beq_eq_true h;omega)) ?_
 refine W1_ ?_
 refine .done (fun h=>Bool.noConfusion h) ⟨rfl,fun E' b hds' hb hconv=> ?_⟩
 refine QZg ?_;refine W7_ ?_;refine JT ?_;refine Xds (ch:=Vx e) 2 rfl ?_;refine W2_ ?_
 refine .done (fun h=>Bool.noConfusion h) ⟨edS g,[.ptr 0 0,.agg [ai op,ai id,ai src,ai dst,.d (.v (.string (Xb name))),ai k0,ai k1,ai k2,.d (.v (.string (Xb k3))),.d (.sl 5 (XU k4))]],?_,hcon,rfl,⟨rfl,rfl,rfl,trivial⟩,fun a w hs=> ?_⟩
 ·exact JM
 ·exact Qah
theorem XpU (hc:YJ c=0) (ho:¬c.op≤5) (e:Int) (hcon:V7 Tryz.prog 122 (edS g) [.ptr 0 0,Xx c] (Vx e)):Con Tryz.prog 73 (edS g) [.ptr 0 0,Xx c] edD (ai e):=by
 refine X68 (xs:=[ai e]) Tryz.func73 rfl Tryz.ntmps73 rfl (fun E hds=> ?_)
 have hk:=X4c c
 rw[hc] at hk
 obtain⟨op,id,src,dst,name,⟨k0,k1,k2,k3,k4⟩⟩:=c
 simp only[Xx,YW] at*
 refine X2x ?_;refine W4_ ?_
 show AW Tryz.prog E _ _ _
 refine QYg ?_
 show AW Tryz.prog E _ _ _
 refine X8d (f:=120) 1 101 50 rfl rfl hds (by decide) (Li:=edS g) (Lo:=edD) (xs:=[ai e]) (fun γ hγ=>by
  simp only[XS,Bool.or_eq_true,Bool.or_false] at hγ
  rcases hγ with h|h|h<;>(have:=Nat.eq_of_beq_eq_true h;omega)) ?_
 refine W1_ ?_
 refine .done (fun h=>Bool.noConfusion h) ⟨rfl,fun E' b hds' hb hconv=> ?_⟩
 refine QZg ?_;refine W7_ ?_;refine JF ?_;refine Xds (ch:=Vx e) 2 rfl ?_;refine W2_ ?_
 refine .done (fun h=>Bool.noConfusion h) ⟨edS g,[.ptr 0 0,.agg [ai op,ai id,ai src,ai dst,.d (.v (.string (Xb name))),ai k0,ai k1,ai k2,.d (.v (.string (Xb k3))),.d (.sl 5 (XU k4))]],?_,hcon,rfl,⟨rfl,rfl,rfl,trivial⟩,fun a w hs=> ?_⟩
 ·exact JM
 ·exact Qah
end
end Go.Fw
